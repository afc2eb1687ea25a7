/- Parts of the proof of CodeAgain: what the functions that it reaches compute, and plain facts about that. -/
import Derived.Test.YtkclndkbccbhaaaGreatDoorTac
import Derived.Test.YtkclndkbccbhaaaGreatDoorTad
set_option linter.unusedVariables false
set_option linter.unusedSimpArgs false
section
namespace Go.Proofs.YtkclndkbccbhaaaGreatDoor.P
open Go.RowKit Go.Proofs.ae.bg Go.Proofs.ae.dw Go.Proofs.ae.dO
attribute [local go_sem] jv jq jW jV iQ iP jr jo
def dR.f (a0:ByteArray):Option (Bool):=if (a0.size:Int)≤30 then ((gV.f a0 (⟨#[97,98,99,100,101,102,103,104,105,106,107,108,109,110,111,112,113,114,115,116,117,118,119,120,121,122,48,49,50,51,52,53,54,55,56,57]⟩:ByteArray)).bind fun t101=>(some (t101.toList == ([]:List UInt8)))) else (some false)
set_option maxHeartbeats 8000000 in
set_option maxRecDepth 100000 in
theorem dR.calls (a0:ByteArray) (r:Bool) (w:World) (h:dR.f a0=some r) :
    Calls Tryz.prog 37 #[.string a0] w fun e w'=>e=.returned (.bool r)∧Below w.heap.size w w':=by
  have HB:=af.mk (Below.refl w.heap.size w)
  have H:(if (a0.size:Int)≤30 then ((gV.f a0 (⟨#[97,98,99,100,101,102,103,104,105,106,107,108,109,110,111,112,113,114,115,116,117,118,119,120,121,122,48,49,50,51,52,53,54,55,56,57]⟩:ByteArray)).bind fun t101=>(some (t101.toList == ([]:List UInt8)))) else (some false))=some r:=h
  clear h
  by_cases c2:(a0.size:Int)≤30
  · rw [if_pos c2] at H
    have sV:decide ((a0.size:Int)≤30)=true:=decide_eq_true c2
    have zW:decide (a0.size≤30)=true:=decide_eq_true (by omega)
    clear c2
    replace H:=Option.bind_eq_some_iff.mp H
    obtain ⟨t101,FN,H⟩:=H
    replace H:(some (t101.toList == ([]:List UInt8)))=some r:=H
    have A3:=af.mk FN
    clear FN
    obtain rfl:=Option.some.inj H
    go_enter Tryz.func37,Tryz.ntmps37
    go_wp2_with (first|(go_at_call 54;(with_reducible refine (gV.calls a0 (⟨#[97,98,99,100,101,102,103,104,105,106,107,108,109,110,111,112,113,114,115,116,117,118,119,120,121,122,48,49,50,51,52,53,54,55,56,57]⟩:ByteArray) t101 _ A3.out).mono ?_);rintro e w4 ⟨rfl,hb⟩;have dE:=af.mk (aX (by repeat (first|(with_reducible first|exact HB.out|apply ai|apply ag|apply ah)|exact HB.out)) hb);clear HB;have HB:=dE;clear dE;(try clear hb);(try clear hb2);(try clear hk);(try clear hi)))
    go_ret
    exact ⟨by first|rfl|(simp [bF,bD] <;> rfl)|(simp [*,bF,bD] <;> rfl),by repeat (first|(with_reducible first|exact HB.out|apply ai|apply ag|apply ah)|exact HB.out)⟩
  · rw [if_neg c2] at H
    have sV:decide ((a0.size:Int)≤30)=false:=decide_eq_false c2
    have zW:decide (a0.size≤30)=false:=decide_eq_false (by omega)
    clear c2
    obtain rfl:=Option.some.inj H
    go_enter Tryz.func37,Tryz.ntmps37
    go_wp2
    go_ret
    exact ⟨by first|rfl|(simp [bF,bD] <;> rfl)|(simp [*,bF,bD] <;> rfl),by repeat (first|(with_reducible first|exact HB.out|apply ai|apply ag|apply ah)|exact HB.out)⟩
mutual
def dh.l0:Nat→List ByteArray→Int→Int→List ByteArray→ByteArray→ByteArray→List (iR)→Option (Bool)
  | 0,_,_,_,_,_,_,_=>none
  | k+1,x8,x9,x10,yM,vX,vW,rf=>if x10 < x9 then (if 0≤x10 then (if x10 < (x8.length:Int) then (if (eX ByteArray.empty x8 x10).toList=([]:List UInt8) then (some false) else ((dR.f (eX ByteArray.empty x8 x10)).bind fun t104=>(if t104=true then (dh.l0 k x8 x9 (wrap64 (x10+1)) yM vX vW rf) else (some false)))) else (none)) else (none)) else (dh.l1 k rf (rf.length:Int) 0 yM vX vW rf)
def dh.l1:Nat→List (iR)→Int→Int→List ByteArray→ByteArray→ByteArray→List (iR)→Option (Bool)
  | 0,_,_,_,_,_,_,_=>none
  | k+1,TF,x24,x25,yM,vX,vW,rf=>if x25 < x24 then (if 0≤x25 then (if x25 < (TF.length:Int) then ((dQ.f ((aJ TF x25).f0) ((aJ TF x25).f1) ((aJ TF x25).f2) ((aJ TF x25).f3) ((aJ TF x25).f4)).bind fun t107=>(if t107=true then (dh.l1 k TF x24 (wrap64 (x25+1)) yM vX vW rf) else (some false))) else (none)) else (none)) else ((dR.f vX).bind fun t108=>(if t108=true then ((dR.f vW).bind fun t109=>(if t109=true then (some (decide ((rf.length:Int)≤200))) else (some false))) else (some false)))
end
def dh.f (k:Nat) (bP:List ByteArray) (bU:ByteArray) (bQ:ByteArray) (bn:List (iR)):Option (Bool):=dh.l0 k bP (bP.length:Int) 0 bP bU bQ bn
theorem dh.fC:∀ k,(∀ y0 y1 y2 y3 y4 y5 y6,bV (dh.l0 k y0 y1 y2 y3 y4 y5 y6) (dh.l0 (k+1) y0 y1 y2 y3 y4 y5 y6))∧(∀ y0 y1 y2 y3 y4 y5 y6,bV (dh.l1 k y0 y1 y2 y3 y4 y5 y6) (dh.l1 (k+1) y0 y1 y2 y3 y4 y5 y6))
  | 0=>⟨fun _ _ _ _ _ _ _ r h=>by simp [dh.l0] at h,fun _ _ _ _ _ _ _ r h=>by simp [dh.l1] at h⟩
  | k+1=>by
    obtain ⟨iU,ih1⟩:=dh.fC k
    refine ⟨?_,?_⟩
    · intro y0 y1 y2 y3 y4 y5 y6
      unfold dh.l0
      repeat' first
      | (with_reducible exact iU _ _ _ _ _ _ _)
      | (with_reducible exact ih1 _ _ _ _ _ _ _)
      | (with_reducible exact bV.refl _)
      | (with_reducible exact bV.none _)
      | (with_reducible refine bV.ite ?_ ?_)
      | (with_reducible refine bV.bind ?_ (fun _=>?_))
      | exact iU _ _ _ _ _ _ _
      | exact ih1 _ _ _ _ _ _ _
      | exact bV.none _
      | refine bV.ite ?_ ?_
      | refine bV.bind ?_ (fun _=>?_)
    · intro y0 y1 y2 y3 y4 y5 y6
      unfold dh.l1
      repeat' first
      | (with_reducible exact iU _ _ _ _ _ _ _)
      | (with_reducible exact ih1 _ _ _ _ _ _ _)
      | (with_reducible exact bV.refl _)
      | (with_reducible exact bV.none _)
      | (with_reducible refine bV.ite ?_ ?_)
      | (with_reducible refine bV.bind ?_ (fun _=>?_))
      | exact iU _ _ _ _ _ _ _
      | exact ih1 _ _ _ _ _ _ _
      | exact bV.none _
      | refine bV.ite ?_ ?_
      | refine bV.bind ?_ (fun _=>?_)
theorem dh.mono:∀ a0 a1 a2 a3 k,bV (dh.f k a0 a1 a2 a3) (dh.f (k+1) a0 a1 a2 a3):=by
  intro a0 a1 a2 a3 k
  obtain ⟨iU,ih1⟩:=dh.fC k
  unfold dh.f
  repeat' first
      | (with_reducible exact iU _ _ _ _ _ _ _)
      | (with_reducible exact ih1 _ _ _ _ _ _ _)
      | (with_reducible exact bV.refl _)
      | (with_reducible exact bV.none _)
      | (with_reducible refine bV.ite ?_ ?_)
      | (with_reducible refine bV.bind ?_ (fun _=>?_))
      | exact iU _ _ _ _ _ _ _
      | exact ih1 _ _ _ _ _ _ _
      | exact bV.none _
      | refine bV.ite ?_ ?_
      | refine bV.bind ?_ (fun _=>?_)
set_option maxHeartbeats 8000000 in
set_option maxRecDepth 100000 in
theorem dh.calls (k:Nat) (fK:Option Addr) (fJ:Nat) (bP:List ByteArray) (bU:ByteArray) (bQ:ByteArray) (gy:Option Addr) (fH:Nat) (bn:List (iR)) (r:Bool) (w:World) (yj:Kd.C Kd.string w fK bP.length bP) (yt:bP.length≤fJ) (yh:Kd.C k27 w gy bn.length bn) (yl:bn.length≤fH) (jm:Kd.C tC w tH lH.length lH) (h:dh.f k bP bU bQ bn=some r) :
    Calls Tryz.prog 18 #[.agg #[.slice fK bP.length fJ,.string bU,.string bQ,.slice gy bn.length fH]] w fun e w'=>e=.returned (.bool r)∧Below w.heap.size w w':=by
  have PQ:=Tryz.underlying25
  have Ul:=Tryz.underlying27
  have vw:=af.mk yj
  have I7:=af.mk yt
  clear yj yt
  have xg:=af.mk yh
  have I5:=af.mk yl
  clear yh yl
  have qJ:=af.mk jm
  clear jm
  have HB:=af.mk (Below.refl w.heap.size w)
  have H:(dh.l0 k bP (bP.length:Int) 0 bP bU bQ bn)=some r:=h
  clear h
  have H':=af.mk H
  clear H
  go_enter Tryz.func18,Tryz.ntmps18
  go_wp2_with (first|((with_reducible refine eH (N:=1) rfl ?_);(try (refine fP (by rfl) ?_;dsimp only));refine fU ?hg (N:=1) ?hd (cs:=#[.slice fK bP.length fJ,.string bU,.string bQ,.slice gy bn.length fH]) (t:=25) ?hr ?_;(case hd=>rfl);(case hg=>rfl);(case hr=>first|(go_simp;done)|(go_simp;rfl));intro gq hg w2 hbox hb;have dE:=af.mk (aX (by repeat (first|(with_reducible first|exact HB.out|apply ai|apply ag|apply ah)|exact HB.out)) hb);have dL:=af.mk (hbox);have eF:=af.mk ((by rw [hg];exact (aY (by repeat (first|(with_reducible first|exact HB.out|apply ai|apply ag|apply ah)|exact HB.out))):w.heap.size≤gq));have fO:=af.mk ((by rw [hg];exact (aY (by repeat (first|(with_reducible first|exact HB.out|apply ai|apply ag|apply ah)|exact HB.out))):w.heap.size≤gq));clear HB;have HB:=dE;have di:=dL;have afh:=eF;have kN:=fO;clear dE dL eF fO;clear hb hbox hg;have Na:w2.cell? ⟨gq,0,none⟩=some (.slice fK bP.length fJ):=(au di.out 0).trans rfl;have MZ:w2.cell? ⟨gq,1,none⟩=some (.string bU):=(au di.out 1).trans rfl;have MX:w2.cell? ⟨gq,2,none⟩=some (.string bQ):=(au di.out 2).trans rfl;have MW:w2.cell? ⟨gq,3,none⟩=some (.slice gy bn.length fH):=(au di.out 3).trans rfl;have ML:=aj di.out 0;have MK:=aj di.out 1;have MJ:=aj di.out 2;have MI:=aj di.out 3))
  go_loopg [10] k (fun kq v10 w'=>∃ (jO:Int),v10=.int .i64 jO∧af (dh.l0 kq bP (bP.length:Int) jO bP bU bQ bn=some r)∧af (kq≤k)∧af (w'.heap[gq]? = some (.cells #[(.slice fK bP.length fJ),.string bU,.string bQ,(.slice gy bn.length fH)] 25 (0,0)))∧af (Below w.heap.size w w'))
  case atStart=>exact ⟨(0),(by first|rfl|(simp;done)|(simp [*];done)),H',⟨Nat.le_refl _⟩,⟨by (with_reducible repeat (first|refine ay ?_ _|refine aC ?_|refine az ?_ _));exact di.out⟩,⟨by repeat (first|(with_reducible first|exact HB.out|apply ai|apply ag|apply ah|refine aA ?_ kN.out)|exact HB.out)⟩⟩
  case round =>
    clear H'
    try clear c1
    try clear p2
    try clear Na
    try clear MZ
    try clear MX
    try clear MW
    try clear ML
    try clear MK
    try clear MJ
    try clear MI
    obtain ⟨jO,rfl,HA,nV,di,HB⟩:=hrel
    cases gk with
    | zero=>exact absurd HA.out (by simp [dh.l0])
    | succ k1 =>
      have H:=HA.out
      clear HA
      simp only [dh.l0] at H
      by_cases c4:jO < (bP.length:Int)
      · rw [if_pos c4] at H
        have J8:decide (jO < (bP.length:Int))=true:=decide_eq_true c4
        clear c4
        by_cases c5:0≤jO
        · rw [if_pos c5] at H
          have vO:decide (0≤jO)=true:=decide_eq_true c5
          clear c5
          by_cases c6:jO < (bP.length:Int)
          · rw [if_pos c6] at H
            have qR:decide (jO < (bP.length:Int))=true:=decide_eq_true c6
            clear c6
            by_cases c7:(eX ByteArray.empty bP jO).toList=([]:List UInt8)
            · rw [if_pos c7] at H
              have xJ:((eX ByteArray.empty bP jO).toList == ([]:List UInt8))=true:=beq_iff_eq.mpr c7
              have DJ:((eX ByteArray.empty bP jO).toList != ([]:List UInt8))=false:=bne_eq_false_iff_eq.mpr c7
              clear c7
              obtain rfl:=Option.some.inj H
              have yG:0≤(jO:Int):=of_decide_eq_true (by first|(with_reducible assumption)|assumption)
              have yF:jO < (bP.length:Int):=of_decide_eq_true (by first|(with_reducible assumption)|assumption)
              obtain ⟨IQ,NP,mi⟩:=Kd.fG vw.out jO yG yF
              cases NP
              replace mi:=(HB.out.cell (World.block_lt_of_cell? w _ mi)).trans mi
              replace yG:=eq_true yG
              replace yF:=eq_true yF
              go_wp2
              go_ret
              exact ⟨by first|rfl|(simp [bF,bD] <;> rfl)|(simp [*,bF,bD] <;> rfl),by repeat (first|(with_reducible first|exact HB.out|apply ai|apply ag|apply ah|refine aA ?_ kN.out)|exact HB.out)⟩
            · rw [if_neg c7] at H
              have xJ:((eX ByteArray.empty bP jO).toList == ([]:List UInt8))=false:=beq_eq_false_iff_ne.mpr c7
              have DJ:((eX ByteArray.empty bP jO).toList != ([]:List UInt8))=true:=bne_iff_ne.mpr c7
              replace H:=Option.bind_eq_some_iff.mp H
              obtain ⟨t104,XF,H⟩:=H
              replace H:(if t104=true then (dh.l0 k1 bP (bP.length:Int) (wrap64 (jO+1)) bP bU bQ bn) else (some false))=some r:=H
              have A8:=af.mk XF
              clear XF
              by_cases c9:t104=true
              · subst c9
                have H1:(dh.l0 k1 bP (bP.length:Int) (wrap64 (jO+1)) bP bU bQ bn)=some r:=by rw [if_pos rfl] at H;exact H
                clear H
                have H:=H1
                clear H1
                have H':=af.mk H
                clear H
                have yG:0≤(jO:Int):=of_decide_eq_true (by first|(with_reducible assumption)|assumption)
                have yF:jO < (bP.length:Int):=of_decide_eq_true (by first|(with_reducible assumption)|assumption)
                obtain ⟨IQ,NP,mi⟩:=Kd.fG vw.out jO yG yF
                cases NP
                replace mi:=(HB.out.cell (World.block_lt_of_cell? w _ mi)).trans mi
                replace yG:=eq_true yG
                replace yF:=eq_true yF
                go_wp2_with (first|(go_at_call 37;(with_reducible refine (dR.calls (eX ByteArray.empty bP jO) true _ A8.out).mono ?_);rintro e w10 ⟨rfl,hb⟩;have dE:=af.mk (bZ (g:=gq) (o:=.cells #[.slice (some IQ) bP.length fJ,.string bU,.string bQ,.slice gy bn.length fH] 25 (0,0)) (by (with_reducible repeat (first|refine ay ?_ _|refine aC ?_|refine az ?_ _));exact di.out) hb);have dL:=af.mk (aX (by repeat (first|(with_reducible first|exact HB.out|apply ai|apply ag|apply ah|refine aA ?_ kN.out)|exact HB.out)) hb);clear di;clear HB;have di:=dE;have HB:=dL;clear dE dL;(try clear hb);(try clear hb2);(try clear hk);(try clear hi)))
                go_roundg k1
                case measure=>have:=nV.out;omega
                case rel=>exact ⟨(wrap64 (jO+1)),(by first|rfl|(simp;done)|(simp [*];done)),H',⟨by have:=nV.out;omega⟩,⟨by (with_reducible repeat (first|refine ay ?_ _|refine aC ?_|refine az ?_ _));exact di.out⟩,⟨by repeat (first|(with_reducible first|exact HB.out|apply ai|apply ag|apply ah|refine aA ?_ kN.out)|exact HB.out)⟩⟩
              · replace c9:=Bool.eq_false_iff.mpr c9
                subst c9
                have H1:(some false)=some r:=by rw [if_neg (show ¬ (false=true) by decide)] at H;exact H
                clear H
                have H:=H1
                clear H1
                obtain rfl:=Option.some.inj H
                have yG:0≤(jO:Int):=of_decide_eq_true (by first|(with_reducible assumption)|assumption)
                have yF:jO < (bP.length:Int):=of_decide_eq_true (by first|(with_reducible assumption)|assumption)
                obtain ⟨IQ,NP,mi⟩:=Kd.fG vw.out jO yG yF
                cases NP
                replace mi:=(HB.out.cell (World.block_lt_of_cell? w _ mi)).trans mi
                replace yG:=eq_true yG
                replace yF:=eq_true yF
                go_wp2_with (first|(go_at_call 37;(with_reducible refine (dR.calls (eX ByteArray.empty bP jO) false _ A8.out).mono ?_);rintro e w11 ⟨rfl,hb⟩;have dE:=af.mk (bZ (g:=gq) (o:=.cells #[.slice (some IQ) bP.length fJ,.string bU,.string bQ,.slice gy bn.length fH] 25 (0,0)) (by (with_reducible repeat (first|refine ay ?_ _|refine aC ?_|refine az ?_ _));exact di.out) hb);have dL:=af.mk (aX (by repeat (first|(with_reducible first|exact HB.out|apply ai|apply ag|apply ah|refine aA ?_ kN.out)|exact HB.out)) hb);clear di;clear HB;have di:=dE;have HB:=dL;clear dE dL;(try clear hb);(try clear hb2);(try clear hk);(try clear hi)))
                go_ret
                exact ⟨by first|rfl|(simp [bF,bD] <;> rfl)|(simp [*,bF,bD] <;> rfl),by repeat (first|(with_reducible first|exact HB.out|apply ai|apply ag|apply ah|refine aA ?_ kN.out)|exact HB.out)⟩
          · rw [if_neg c6] at H
            exact absurd H (by simp)
        · rw [if_neg c5] at H
          exact absurd H (by simp)
      · rw [if_neg c4] at H
        have J8:decide (jO < (bP.length:Int))=false:=decide_eq_false c4
        clear c4
        have H':=af.mk H
        clear H
        have QM:wr.cell? ⟨gq,0,none⟩=some (.slice fK bP.length fJ):=(au di.out 0).trans rfl
        have QL:wr.cell? ⟨gq,1,none⟩=some (.string bU):=(au di.out 1).trans rfl
        have QK:wr.cell? ⟨gq,2,none⟩=some (.string bQ):=(au di.out 2).trans rfl
        have QJ:wr.cell? ⟨gq,3,none⟩=some (.slice gy bn.length fH):=(au di.out 3).trans rfl
        have Ql:=aj di.out 0
        have Qk:=aj di.out 1
        have Qj:=aj di.out 2
        have Qi:=aj di.out 3
        go_wp2
        go_loopg [25] k1 (fun kq v25 w'=>∃ (eY:Int),v25=.int .i64 eY∧af (dh.l1 kq bn (bn.length:Int) eY bP bU bQ bn=some r)∧af (kq≤k1)∧af (w'.heap[gq]? = some (.cells #[(.slice fK bP.length fJ),.string bU,.string bQ,(.slice gy bn.length fH)] 25 (0,0)))∧af (Below w.heap.size w w'))
        case atStart=>exact ⟨(0),(by first|rfl|(simp;done)|(simp [*];done)),H',⟨Nat.le_refl _⟩,⟨by (with_reducible repeat (first|refine ay ?_ _|refine aC ?_|refine az ?_ _));exact di.out⟩,⟨by repeat (first|(with_reducible first|exact HB.out|apply ai|apply ag|apply ah|refine aA ?_ kN.out)|exact HB.out)⟩⟩
        case round =>
          clear H'
          try clear c1
          try clear p1
          try clear q1
          try clear hx1
          try clear p2
          try clear c4
          try clear J8
          try clear c5
          try clear vO
          try clear c6
          try clear qR
          try clear p6
          try clear c7
          try clear xJ
          try clear DJ
          try clear c9
          try clear p10
          try clear q10
          try clear afI
          try clear QM
          try clear QL
          try clear QK
          try clear QJ
          try clear Na
          try clear MZ
          try clear MX
          try clear MW
          try clear Ql
          try clear Qk
          try clear Qj
          try clear Qi
          try clear ML
          try clear MK
          try clear MJ
          try clear MI
          try clear mi
          try clear yG
          try clear p2
          try clear yF
          obtain ⟨eY,rfl,HA,yA,di,HB⟩:=hrel
          cases gk with
          | zero=>exact absurd HA.out (by simp [dh.l1])
          | succ k2 =>
            have H:=HA.out
            clear HA
            simp only [dh.l1] at H
            by_cases c13:eY < (bn.length:Int)
            · rw [if_pos c13] at H
              have Ff:decide (eY < (bn.length:Int))=true:=decide_eq_true c13
              clear c13
              by_cases c14:0≤eY
              · rw [if_pos c14] at H
                have wU:decide (0≤eY)=true:=decide_eq_true c14
                clear c14
                by_cases c15:eY < (bn.length:Int)
                · rw [if_pos c15] at H
                  have Fe:decide (eY < (bn.length:Int))=true:=decide_eq_true c15
                  clear c15
                  replace H:=Option.bind_eq_some_iff.mp H
                  obtain ⟨t107,FO,H⟩:=H
                  replace H:(if t107=true then (dh.l1 k2 bn (bn.length:Int) (wrap64 (eY+1)) bP bU bQ bn) else (some false))=some r:=H
                  have UW:=af.mk FO
                  clear FO
                  by_cases c17:t107=true
                  · subst c17
                    have H1:(dh.l1 k2 bn (bn.length:Int) (wrap64 (eY+1)) bP bU bQ bn)=some r:=by rw [if_pos rfl] at H;exact H
                    clear H
                    have H:=H1
                    clear H1
                    have H':=af.mk H
                    clear H
                    have Gp:0≤(eY:Int):=of_decide_eq_true (by first|(with_reducible assumption)|assumption)
                    have Gg:eY < (bn.length:Int):=of_decide_eq_true (by first|(with_reducible assumption)|assumption)
                    obtain ⟨wW,UF,sF,sD,su,rZ,rY⟩:=sH xg.out eY Gp Gg
                    cases UF
                    replace sF:=(HB.out.cell (World.block_lt_of_cell? w _ sF)).trans sF
                    replace sD:=(HB.out.cell (World.block_lt_of_cell? w _ sD)).trans sD
                    replace su:=(HB.out.cell (World.block_lt_of_cell? w _ su)).trans su
                    replace rZ:=(HB.out.cell (World.block_lt_of_cell? w _ rZ)).trans rZ
                    replace rY:=(HB.out.cell (World.block_lt_of_cell? w _ rY)).trans rY
                    replace Gp:=eq_true Gp
                    replace Gg:=eq_true Gg
                    go_wp2_with (first|((with_reducible refine eH (N:=6) rfl ?_);(try (refine fP (by rfl) ?_;dsimp only));refine fU ?hg (N:=6) ?hd (cs:=#[.int .u8 0,.int .u8 0,.int .u8 0,.int .u8 0,.int .i64 0]) (t:=27) ?hr ?_;(case hd=>rfl);(case hg=>rfl);(case hr=>first|(go_simp;done)|(go_simp;rfl));intro lX hg OD hbox hb;have dE:=af.mk (bZ (g:=gq) (o:=.cells #[.slice fK bP.length fJ,.string bU,.string bQ,.slice (some wW) bn.length fH] 25 (0,0)) (by (with_reducible repeat (first|refine ay ?_ _|refine aC ?_|refine az ?_ _));exact di.out) hb);have dL:=af.mk (aX (by repeat (first|(with_reducible first|exact HB.out|apply ai|apply ag|apply ah|refine aA ?_ kN.out)|exact HB.out)) hb);have eF:=af.mk (hbox);have fO:=af.mk ((by rw [hg];exact (aY (by repeat (first|(with_reducible first|exact HB.out|apply ai|apply ag|apply ah|refine aA ?_ kN.out)|exact HB.out))):w.heap.size≤lX));have ik:=af.mk ((by rw [hg];exact (aY (by repeat (first|(with_reducible first|exact HB.out|apply ai|apply ag|apply ah|refine aA ?_ kN.out)|exact HB.out))):w.heap.size≤lX));have kR:=af.mk ((by rw [hg];exact Nat.ne_of_lt (kV (g:=gq) (o:=.cells #[.slice fK bP.length fJ,.string bU,.string bQ,.slice (some wW) bn.length fH] 25 (0,0)) (by (with_reducible repeat (first|refine ay ?_ _|refine aC ?_|refine az ?_ _));exact di.out)):gq ≠ lX));have oJ:=af.mk ((by rw [hg];exact Nat.ne_of_gt (kV (g:=gq) (o:=.cells #[.slice fK bP.length fJ,.string bU,.string bQ,.slice (some wW) bn.length fH] 25 (0,0)) (by (with_reducible repeat (first|refine ay ?_ _|refine aC ?_|refine az ?_ _));exact di.out)):lX ≠ gq));clear di;clear HB;have di:=dE;have HB:=dL;have kP:=eF;have Xy:=fO;have Ad:=ik;have jF:=kR;have xM:=oJ;clear dE dL eF fO ik kR oJ;clear hb hbox hg;have aeI:=xM.out;have aer:=jF.out;have Iz:OD.cell? ⟨lX,0,none⟩=some (.int .u8 0):=(au kP.out 0).trans rfl;have Iy:OD.cell? ⟨lX,1,none⟩=some (.int .u8 0):=(au kP.out 1).trans rfl;have Iw:OD.cell? ⟨lX,2,none⟩=some (.int .u8 0):=(au kP.out 2).trans rfl;have Iu:OD.cell? ⟨lX,3,none⟩=some (.int .u8 0):=(au kP.out 3).trans rfl;have ab1:OD.cell? ⟨lX,4,none⟩=some (.int .i64 0):=(au kP.out 4).trans rfl;have Ir:=aj kP.out 0;have Iq:=aj kP.out 1;have Ip:=aj kP.out 2;have Io:=aj kP.out 3;have ZM:=aj kP.out 4)|((with_reducible refine bJ (f:=11) rfl ?_);refine fD (some 30) rfl rfl Tryz.func11 (by kernel_rfl) rfl #[.agg #[.int .u8 ((aJ bn eY).f0),.int .u8 ((aJ bn eY).f1),.int .u8 ((aJ bn eY).f2),.int .u8 ((aJ bn eY).f3),.int .i64 ((aJ bn eY).f4)]] rfl (by (try simp only [List.map_toArray,List.map_cons,List.map_nil]);first|done|rfl|(simp only [List.length_drop,List.length_take];rfl)) ?_;(with_reducible refine (dQ.calls ((aJ bn eY).f0) ((aJ bn eY).f1) ((aJ bn eY).f2) ((aJ bn eY).f3) ((aJ bn eY).f4) true _ ?dS UW.out).mono ?_);(case dS=>exact Kd.dU qJ.out (by repeat (first|(with_reducible first|exact HB.out|apply ai|apply ag|apply ah|refine aA ?_ kN.out|refine aA ?_ Ad.out)|exact HB.out)));rintro e Vg ⟨rfl,hb⟩;refine ⟨_,rfl,?_⟩;have dE:=af.mk (bZ (g:=gq) (o:=.cells #[.slice fK bP.length fJ,.string bU,.string bQ,.slice (some wW) bn.length fH] 25 (0,0)) (by (with_reducible repeat (first|refine ay ?_ _|refine aC ?_|refine az ?_ _));refine gW ?_ jF.out _;(with_reducible repeat (first|refine ay ?_ _|refine aC ?_|refine az ?_ _));refine gW ?_ jF.out _;(with_reducible repeat (first|refine ay ?_ _|refine aC ?_|refine az ?_ _));refine gW ?_ jF.out _;(with_reducible repeat (first|refine ay ?_ _|refine aC ?_|refine az ?_ _));refine gW ?_ jF.out _;(with_reducible repeat (first|refine ay ?_ _|refine aC ?_|refine az ?_ _));refine gW ?_ jF.out _;(with_reducible repeat (first|refine ay ?_ _|refine aC ?_|refine az ?_ _));exact di.out) hb);have dL:=af.mk (bZ (g:=lX) (o:=.cells #[.int .u8 ((aJ bn eY).f0),.int .u8 ((aJ bn eY).f1),.int .u8 ((aJ bn eY).f2),.int .u8 ((aJ bn eY).f3),.int .i64 ((aJ bn eY).f4)] 27 (0,0)) (by (with_reducible repeat (first|refine ay ?_ _|refine aC ?_|refine az ?_ _));refine dP (cs:=#[.int .u8 ((aJ bn eY).f0),.int .u8 ((aJ bn eY).f1),.int .u8 ((aJ bn eY).f2),.int .u8 ((aJ bn eY).f3),.int .i64 0]) ?_ 4 _ rfl;(with_reducible repeat (first|refine ay ?_ _|refine aC ?_|refine az ?_ _));refine dP (cs:=#[.int .u8 ((aJ bn eY).f0),.int .u8 ((aJ bn eY).f1),.int .u8 ((aJ bn eY).f2),.int .u8 0,.int .i64 0]) ?_ 3 _ rfl;(with_reducible repeat (first|refine ay ?_ _|refine aC ?_|refine az ?_ _));refine dP (cs:=#[.int .u8 ((aJ bn eY).f0),.int .u8 ((aJ bn eY).f1),.int .u8 0,.int .u8 0,.int .i64 0]) ?_ 2 _ rfl;(with_reducible repeat (first|refine ay ?_ _|refine aC ?_|refine az ?_ _));refine dP (cs:=#[.int .u8 ((aJ bn eY).f0),.int .u8 0,.int .u8 0,.int .u8 0,.int .i64 0]) ?_ 1 _ rfl;(with_reducible repeat (first|refine ay ?_ _|refine aC ?_|refine az ?_ _));refine dP (cs:=#[.int .u8 0,.int .u8 0,.int .u8 0,.int .u8 0,.int .i64 0]) ?_ 0 _ rfl;(with_reducible repeat (first|refine ay ?_ _|refine aC ?_|refine az ?_ _));exact kP.out) hb);have eF:=af.mk (aX (by repeat (first|(with_reducible first|exact HB.out|apply ai|apply ag|apply ah|refine aA ?_ kN.out|refine aA ?_ Ad.out)|exact HB.out)) hb);clear di;clear kP;clear HB;have di:=dE;have kP:=dL;have HB:=eF;clear dE dL eF;(try clear hb);(try clear hb2);(try clear hk);(try clear hi)))
                    go_roundg k2
                    case measure=>have:=nV.out;have:=yA.out;omega
                    case rel=>exact ⟨(wrap64 (eY+1)),(by first|rfl|(simp;done)|(simp [*];done)),H',⟨by have:=nV.out;have:=yA.out;omega⟩,⟨by (with_reducible repeat (first|refine ay ?_ _|refine aC ?_|refine az ?_ _));exact di.out⟩,⟨by repeat (first|(with_reducible first|exact HB.out|apply ai|apply ag|apply ah|refine aA ?_ kN.out|refine aA ?_ Ad.out)|exact HB.out)⟩⟩
                  · replace c17:=Bool.eq_false_iff.mpr c17
                    subst c17
                    have H1:(some false)=some r:=by rw [if_neg (show ¬ (false=true) by decide)] at H;exact H
                    clear H
                    have H:=H1
                    clear H1
                    obtain rfl:=Option.some.inj H
                    have Gp:0≤(eY:Int):=of_decide_eq_true (by first|(with_reducible assumption)|assumption)
                    have Gg:eY < (bn.length:Int):=of_decide_eq_true (by first|(with_reducible assumption)|assumption)
                    obtain ⟨wW,UF,sF,sD,su,rZ,rY⟩:=sH xg.out eY Gp Gg
                    cases UF
                    replace sF:=(HB.out.cell (World.block_lt_of_cell? w _ sF)).trans sF
                    replace sD:=(HB.out.cell (World.block_lt_of_cell? w _ sD)).trans sD
                    replace su:=(HB.out.cell (World.block_lt_of_cell? w _ su)).trans su
                    replace rZ:=(HB.out.cell (World.block_lt_of_cell? w _ rZ)).trans rZ
                    replace rY:=(HB.out.cell (World.block_lt_of_cell? w _ rY)).trans rY
                    replace Gp:=eq_true Gp
                    replace Gg:=eq_true Gg
                    go_wp2_with (first|((with_reducible refine eH (N:=6) rfl ?_);(try (refine fP (by rfl) ?_;dsimp only));refine fU ?hg (N:=6) ?hd (cs:=#[.int .u8 0,.int .u8 0,.int .u8 0,.int .u8 0,.int .i64 0]) (t:=27) ?hr ?_;(case hd=>rfl);(case hg=>rfl);(case hr=>first|(go_simp;done)|(go_simp;rfl));intro lX hg Kw hbox hb;have dE:=af.mk (bZ (g:=gq) (o:=.cells #[.slice fK bP.length fJ,.string bU,.string bQ,.slice (some wW) bn.length fH] 25 (0,0)) (by (with_reducible repeat (first|refine ay ?_ _|refine aC ?_|refine az ?_ _));exact di.out) hb);have dL:=af.mk (aX (by repeat (first|(with_reducible first|exact HB.out|apply ai|apply ag|apply ah|refine aA ?_ kN.out)|exact HB.out)) hb);have eF:=af.mk (hbox);have fO:=af.mk ((by rw [hg];exact (aY (by repeat (first|(with_reducible first|exact HB.out|apply ai|apply ag|apply ah|refine aA ?_ kN.out)|exact HB.out))):w.heap.size≤lX));have ik:=af.mk ((by rw [hg];exact (aY (by repeat (first|(with_reducible first|exact HB.out|apply ai|apply ag|apply ah|refine aA ?_ kN.out)|exact HB.out))):w.heap.size≤lX));have kR:=af.mk ((by rw [hg];exact Nat.ne_of_lt (kV (g:=gq) (o:=.cells #[.slice fK bP.length fJ,.string bU,.string bQ,.slice (some wW) bn.length fH] 25 (0,0)) (by (with_reducible repeat (first|refine ay ?_ _|refine aC ?_|refine az ?_ _));exact di.out)):gq ≠ lX));have oJ:=af.mk ((by rw [hg];exact Nat.ne_of_gt (kV (g:=gq) (o:=.cells #[.slice fK bP.length fJ,.string bU,.string bQ,.slice (some wW) bn.length fH] 25 (0,0)) (by (with_reducible repeat (first|refine ay ?_ _|refine aC ?_|refine az ?_ _));exact di.out)):lX ≠ gq));clear di;clear HB;have di:=dE;have HB:=dL;have kP:=eF;have Xy:=fO;have Ad:=ik;have jF:=kR;have xM:=oJ;clear dE dL eF fO ik kR oJ;clear hb hbox hg;have aeH:=xM.out;have aeq:=jF.out;have abV:Kw.cell? ⟨lX,0,none⟩=some (.int .u8 0):=(au kP.out 0).trans rfl;have abU:Kw.cell? ⟨lX,1,none⟩=some (.int .u8 0):=(au kP.out 1).trans rfl;have abT:Kw.cell? ⟨lX,2,none⟩=some (.int .u8 0):=(au kP.out 2).trans rfl;have abS:Kw.cell? ⟨lX,3,none⟩=some (.int .u8 0):=(au kP.out 3).trans rfl;have abR:Kw.cell? ⟨lX,4,none⟩=some (.int .i64 0):=(au kP.out 4).trans rfl;have ZH:=aj kP.out 0;have ZG:=aj kP.out 1;have ZF:=aj kP.out 2;have ZE:=aj kP.out 3;have ZC:=aj kP.out 4)|((with_reducible refine bJ (f:=11) rfl ?_);refine fD (some 30) rfl rfl Tryz.func11 (by kernel_rfl) rfl #[.agg #[.int .u8 ((aJ bn eY).f0),.int .u8 ((aJ bn eY).f1),.int .u8 ((aJ bn eY).f2),.int .u8 ((aJ bn eY).f3),.int .i64 ((aJ bn eY).f4)]] rfl (by (try simp only [List.map_toArray,List.map_cons,List.map_nil]);first|done|rfl|(simp only [List.length_drop,List.length_take];rfl)) ?_;(with_reducible refine (dQ.calls ((aJ bn eY).f0) ((aJ bn eY).f1) ((aJ bn eY).f2) ((aJ bn eY).f3) ((aJ bn eY).f4) false _ ?dS UW.out).mono ?_);(case dS=>exact Kd.dU qJ.out (by repeat (first|(with_reducible first|exact HB.out|apply ai|apply ag|apply ah|refine aA ?_ kN.out|refine aA ?_ Ad.out)|exact HB.out)));rintro e Kv ⟨rfl,hb⟩;refine ⟨_,rfl,?_⟩;have dE:=af.mk (bZ (g:=gq) (o:=.cells #[.slice fK bP.length fJ,.string bU,.string bQ,.slice (some wW) bn.length fH] 25 (0,0)) (by (with_reducible repeat (first|refine ay ?_ _|refine aC ?_|refine az ?_ _));refine gW ?_ jF.out _;(with_reducible repeat (first|refine ay ?_ _|refine aC ?_|refine az ?_ _));refine gW ?_ jF.out _;(with_reducible repeat (first|refine ay ?_ _|refine aC ?_|refine az ?_ _));refine gW ?_ jF.out _;(with_reducible repeat (first|refine ay ?_ _|refine aC ?_|refine az ?_ _));refine gW ?_ jF.out _;(with_reducible repeat (first|refine ay ?_ _|refine aC ?_|refine az ?_ _));refine gW ?_ jF.out _;(with_reducible repeat (first|refine ay ?_ _|refine aC ?_|refine az ?_ _));exact di.out) hb);have dL:=af.mk (bZ (g:=lX) (o:=.cells #[.int .u8 ((aJ bn eY).f0),.int .u8 ((aJ bn eY).f1),.int .u8 ((aJ bn eY).f2),.int .u8 ((aJ bn eY).f3),.int .i64 ((aJ bn eY).f4)] 27 (0,0)) (by (with_reducible repeat (first|refine ay ?_ _|refine aC ?_|refine az ?_ _));refine dP (cs:=#[.int .u8 ((aJ bn eY).f0),.int .u8 ((aJ bn eY).f1),.int .u8 ((aJ bn eY).f2),.int .u8 ((aJ bn eY).f3),.int .i64 0]) ?_ 4 _ rfl;(with_reducible repeat (first|refine ay ?_ _|refine aC ?_|refine az ?_ _));refine dP (cs:=#[.int .u8 ((aJ bn eY).f0),.int .u8 ((aJ bn eY).f1),.int .u8 ((aJ bn eY).f2),.int .u8 0,.int .i64 0]) ?_ 3 _ rfl;(with_reducible repeat (first|refine ay ?_ _|refine aC ?_|refine az ?_ _));refine dP (cs:=#[.int .u8 ((aJ bn eY).f0),.int .u8 ((aJ bn eY).f1),.int .u8 0,.int .u8 0,.int .i64 0]) ?_ 2 _ rfl;(with_reducible repeat (first|refine ay ?_ _|refine aC ?_|refine az ?_ _));refine dP (cs:=#[.int .u8 ((aJ bn eY).f0),.int .u8 0,.int .u8 0,.int .u8 0,.int .i64 0]) ?_ 1 _ rfl;(with_reducible repeat (first|refine ay ?_ _|refine aC ?_|refine az ?_ _));refine dP (cs:=#[.int .u8 0,.int .u8 0,.int .u8 0,.int .u8 0,.int .i64 0]) ?_ 0 _ rfl;(with_reducible repeat (first|refine ay ?_ _|refine aC ?_|refine az ?_ _));exact kP.out) hb);have eF:=af.mk (aX (by repeat (first|(with_reducible first|exact HB.out|apply ai|apply ag|apply ah|refine aA ?_ kN.out|refine aA ?_ Ad.out)|exact HB.out)) hb);clear di;clear kP;clear HB;have di:=dE;have kP:=dL;have HB:=eF;clear dE dL eF;(try clear hb);(try clear hb2);(try clear hk);(try clear hi)))
                    go_ret
                    exact ⟨by first|rfl|(simp [bF,bD] <;> rfl)|(simp [*,bF,bD] <;> rfl),by repeat (first|(with_reducible first|exact HB.out|apply ai|apply ag|apply ah|refine aA ?_ kN.out|refine aA ?_ Ad.out)|exact HB.out)⟩
                · rw [if_neg c15] at H
                  exact absurd H (by simp)
              · rw [if_neg c14] at H
                exact absurd H (by simp)
            · rw [if_neg c13] at H
              have Ff:decide (eY < (bn.length:Int))=false:=decide_eq_false c13
              clear c13
              replace H:=Option.bind_eq_some_iff.mp H
              obtain ⟨t108,XJ,H⟩:=H
              replace H:(if t108=true then ((dR.f bQ).bind fun t109=>(if t109=true then (some (decide ((bn.length:Int)≤200))) else (some false))) else (some false))=some r:=H
              have A26:=af.mk XJ
              clear XJ
              by_cases c27:t108=true
              · subst c27
                have H1:((dR.f bQ).bind fun t109=>(if t109=true then (some (decide ((bn.length:Int)≤200))) else (some false)))=some r:=by rw [if_pos rfl] at H;exact H
                clear H
                have H:=H1
                clear H1
                replace H:=Option.bind_eq_some_iff.mp H
                obtain ⟨t109,XI,H⟩:=H
                replace H:(if t109=true then (some (decide ((bn.length:Int)≤200))) else (some false))=some r:=H
                have A28:=af.mk XI
                clear XI
                by_cases c29:t109=true
                · subst c29
                  have H1:(some (decide ((bn.length:Int)≤200)))=some r:=by rw [if_pos rfl] at H;exact H
                  clear H
                  have H:=H1
                  clear H1
                  obtain rfl:=Option.some.inj H
                  have QA:wr.cell? ⟨gq,0,none⟩=some (.slice fK bP.length fJ):=(au di.out 0).trans rfl
                  have Qz:wr.cell? ⟨gq,1,none⟩=some (.string bU):=(au di.out 1).trans rfl
                  have Qy:wr.cell? ⟨gq,2,none⟩=some (.string bQ):=(au di.out 2).trans rfl
                  have Qx:wr.cell? ⟨gq,3,none⟩=some (.slice gy bn.length fH):=(au di.out 3).trans rfl
                  have P8:=aj di.out 0
                  have P7:=aj di.out 1
                  have P6:=aj di.out 2
                  have P5:=aj di.out 3
                  go_wp2_with (first|((with_reducible refine bJ (f:=37) rfl ?_);refine fD (some 35) rfl rfl Tryz.func37 (by kernel_rfl) rfl #[.string bU] rfl (by (try simp only [List.map_toArray,List.map_cons,List.map_nil]);first|done|rfl|(simp only [List.length_drop,List.length_take];rfl)) ?_;(with_reducible refine (dR.calls bU true _ A26.out).mono ?_);rintro e XZ ⟨rfl,hb⟩;refine ⟨_,rfl,?_⟩;have dE:=af.mk (bZ (g:=gq) (o:=.cells #[.slice fK bP.length fJ,.string bU,.string bQ,.slice gy bn.length fH] 25 (0,0)) (by (with_reducible repeat (first|refine ay ?_ _|refine aC ?_|refine az ?_ _));exact di.out) hb);have dL:=af.mk (aX (by repeat (first|(with_reducible first|exact HB.out|apply ai|apply ag|apply ah|refine aA ?_ kN.out)|exact HB.out)) hb);clear di;clear HB;have di:=dE;have HB:=dL;clear dE dL;(try clear hb);(try clear hb2);(try clear hk);(try clear hi);have Dw:XZ.cell? ⟨gq,0,none⟩=some (.slice fK bP.length fJ):=(au di.out 0).trans rfl;have Dv:XZ.cell? ⟨gq,1,none⟩=some (.string bU):=(au di.out 1).trans rfl;have Du:XZ.cell? ⟨gq,2,none⟩=some (.string bQ):=(au di.out 2).trans rfl;have Dt:XZ.cell? ⟨gq,3,none⟩=some (.slice gy bn.length fH):=(au di.out 3).trans rfl;have Dq:=aj di.out 0;have Dp:=aj di.out 1;have Dn:=aj di.out 2;have Dl:=aj di.out 3)|(go_at_call 37;(with_reducible refine (dR.calls bQ true _ A28.out).mono ?_);rintro e Ve ⟨rfl,hb⟩;have dE:=af.mk (bZ (g:=gq) (o:=.cells #[.slice fK bP.length fJ,.string bU,.string bQ,.slice gy bn.length fH] 25 (0,0)) (by (with_reducible repeat (first|refine ay ?_ _|refine aC ?_|refine az ?_ _));exact di.out) hb);have dL:=af.mk (aX (by repeat (first|(with_reducible first|exact HB.out|apply ai|apply ag|apply ah|refine aA ?_ kN.out)|exact HB.out)) hb);clear di;clear HB;have di:=dE;have HB:=dL;clear dE dL;(try clear hb);(try clear hb2);(try clear hk);(try clear hi);have abv:Ve.cell? ⟨gq,0,none⟩=some (.slice fK bP.length fJ):=(au di.out 0).trans rfl;have abu:Ve.cell? ⟨gq,1,none⟩=some (.string bU):=(au di.out 1).trans rfl;have abt:Ve.cell? ⟨gq,2,none⟩=some (.string bQ):=(au di.out 2).trans rfl;have abr:Ve.cell? ⟨gq,3,none⟩=some (.slice gy bn.length fH):=(au di.out 3).trans rfl;have Zg:=aj di.out 0;have Zf:=aj di.out 1;have Ze:=aj di.out 2;have Zd:=aj di.out 3))
                  go_ret
                  exact ⟨by first|rfl|(simp [bF,bD] <;> rfl)|(simp [*,bF,bD] <;> rfl),by repeat (first|(with_reducible first|exact HB.out|apply ai|apply ag|apply ah|refine aA ?_ kN.out)|exact HB.out)⟩
                · replace c29:=Bool.eq_false_iff.mpr c29
                  subst c29
                  have H1:(some false)=some r:=by rw [if_neg (show ¬ (false=true) by decide)] at H;exact H
                  clear H
                  have H:=H1
                  clear H1
                  obtain rfl:=Option.some.inj H
                  have abq:wr.cell? ⟨gq,0,none⟩=some (.slice fK bP.length fJ):=(au di.out 0).trans rfl
                  have abp:wr.cell? ⟨gq,1,none⟩=some (.string bU):=(au di.out 1).trans rfl
                  have abo:wr.cell? ⟨gq,2,none⟩=some (.string bQ):=(au di.out 2).trans rfl
                  have abn:wr.cell? ⟨gq,3,none⟩=some (.slice gy bn.length fH):=(au di.out 3).trans rfl
                  have Zc:=aj di.out 0
                  have Zb:=aj di.out 1
                  have Za:=aj di.out 2
                  have Y9:=aj di.out 3
                  go_wp2_with (first|((with_reducible refine bJ (f:=37) rfl ?_);refine fD (some 35) rfl rfl Tryz.func37 (by kernel_rfl) rfl #[.string bU] rfl (by (try simp only [List.map_toArray,List.map_cons,List.map_nil]);first|done|rfl|(simp only [List.length_drop,List.length_take];rfl)) ?_;(with_reducible refine (dR.calls bU true _ A26.out).mono ?_);rintro e OM ⟨rfl,hb⟩;refine ⟨_,rfl,?_⟩;have dE:=af.mk (bZ (g:=gq) (o:=.cells #[.slice fK bP.length fJ,.string bU,.string bQ,.slice gy bn.length fH] 25 (0,0)) (by (with_reducible repeat (first|refine ay ?_ _|refine aC ?_|refine az ?_ _));exact di.out) hb);have dL:=af.mk (aX (by repeat (first|(with_reducible first|exact HB.out|apply ai|apply ag|apply ah|refine aA ?_ kN.out)|exact HB.out)) hb);clear di;clear HB;have di:=dE;have HB:=dL;clear dE dL;(try clear hb);(try clear hb2);(try clear hk);(try clear hi);have abm:OM.cell? ⟨gq,0,none⟩=some (.slice fK bP.length fJ):=(au di.out 0).trans rfl;have abl:OM.cell? ⟨gq,1,none⟩=some (.string bU):=(au di.out 1).trans rfl;have abk:OM.cell? ⟨gq,2,none⟩=some (.string bQ):=(au di.out 2).trans rfl;have abj:OM.cell? ⟨gq,3,none⟩=some (.slice gy bn.length fH):=(au di.out 3).trans rfl;have Y8:=aj di.out 0;have Y7:=aj di.out 1;have Y6:=aj di.out 2;have Y5:=aj di.out 3)|(go_at_call 37;(with_reducible refine (dR.calls bQ false _ A28.out).mono ?_);rintro e UX ⟨rfl,hb⟩;have dE:=af.mk (bZ (g:=gq) (o:=.cells #[.slice fK bP.length fJ,.string bU,.string bQ,.slice gy bn.length fH] 25 (0,0)) (by (with_reducible repeat (first|refine ay ?_ _|refine aC ?_|refine az ?_ _));exact di.out) hb);have dL:=af.mk (aX (by repeat (first|(with_reducible first|exact HB.out|apply ai|apply ag|apply ah|refine aA ?_ kN.out)|exact HB.out)) hb);clear di;clear HB;have di:=dE;have HB:=dL;clear dE dL;(try clear hb);(try clear hb2);(try clear hk);(try clear hi)))
                  go_ret
                  exact ⟨by first|rfl|(simp [bF,bD] <;> rfl)|(simp [*,bF,bD] <;> rfl),by repeat (first|(with_reducible first|exact HB.out|apply ai|apply ag|apply ah|refine aA ?_ kN.out)|exact HB.out)⟩
              · replace c27:=Bool.eq_false_iff.mpr c27
                subst c27
                have H1:(some false)=some r:=by rw [if_neg (show ¬ (false=true) by decide)] at H;exact H
                clear H
                have H:=H1
                clear H1
                obtain rfl:=Option.some.inj H
                have Qw:wr.cell? ⟨gq,0,none⟩=some (.slice fK bP.length fJ):=(au di.out 0).trans rfl
                have Qv:wr.cell? ⟨gq,1,none⟩=some (.string bU):=(au di.out 1).trans rfl
                have Qu:wr.cell? ⟨gq,2,none⟩=some (.string bQ):=(au di.out 2).trans rfl
                have Qs:wr.cell? ⟨gq,3,none⟩=some (.slice gy bn.length fH):=(au di.out 3).trans rfl
                have PZ:=aj di.out 0
                have PY:=aj di.out 1
                have PX:=aj di.out 2
                have PW:=aj di.out 3
                go_wp2_with (first|((with_reducible refine bJ (f:=37) rfl ?_);refine fD (some 35) rfl rfl Tryz.func37 (by kernel_rfl) rfl #[.string bU] rfl (by (try simp only [List.map_toArray,List.map_cons,List.map_nil]);first|done|rfl|(simp only [List.length_drop,List.length_take];rfl)) ?_;(with_reducible refine (dR.calls bU false _ A26.out).mono ?_);rintro e Vd ⟨rfl,hb⟩;refine ⟨_,rfl,?_⟩;have dE:=af.mk (bZ (g:=gq) (o:=.cells #[.slice fK bP.length fJ,.string bU,.string bQ,.slice gy bn.length fH] 25 (0,0)) (by (with_reducible repeat (first|refine ay ?_ _|refine aC ?_|refine az ?_ _));exact di.out) hb);have dL:=af.mk (aX (by repeat (first|(with_reducible first|exact HB.out|apply ai|apply ag|apply ah|refine aA ?_ kN.out)|exact HB.out)) hb);clear di;clear HB;have di:=dE;have HB:=dL;clear dE dL;(try clear hb);(try clear hb2);(try clear hk);(try clear hi)))
                go_ret
                exact ⟨by first|rfl|(simp [bF,bD] <;> rfl)|(simp [*,bF,bD] <;> rfl),by repeat (first|(with_reducible first|exact HB.out|apply ai|apply ag|apply ah|refine aA ?_ kN.out)|exact HB.out)⟩
def kK.f (a0:ByteArray):Option (ByteArray):=if a0.toList=([]:List UInt8) then (some (⟨#[45]⟩:ByteArray)) else (some a0)
set_option maxHeartbeats 8000000 in
set_option maxRecDepth 100000 in
theorem kK.calls (a0:ByteArray) (r:ByteArray) (w:World) (h:kK.f a0=some r) :
    Calls Tryz.prog 19 #[.string a0] w fun e w'=>e=.returned (.string r)∧dD w w':=by
  have H:(if a0.toList=([]:List UInt8) then (some (⟨#[45]⟩:ByteArray)) else (some a0))=some r:=h
  clear h
  by_cases c2:a0.toList=([]:List UInt8)
  · rw [if_pos c2] at H
    have sV:(a0.toList == ([]:List UInt8))=true:=beq_iff_eq.mpr c2
    have zW:(a0.toList != ([]:List UInt8))=false:=bne_eq_false_iff_eq.mpr c2
    clear c2
    obtain rfl:=Option.some.inj H
    go_enter Tryz.func19,Tryz.ntmps19
    go_wp2
    go_ret
    exact ⟨by first|rfl|(simp;done)|(simp [*];done),by repeat (first|exact dD.refl _|apply dD.step)⟩
  · rw [if_neg c2] at H
    have sV:(a0.toList == ([]:List UInt8))=false:=beq_eq_false_iff_ne.mpr c2
    have zW:(a0.toList != ([]:List UInt8))=true:=bne_iff_ne.mpr c2
    obtain rfl:=Option.some.inj H
    go_enter Tryz.func19,Tryz.ntmps19
    go_wp2
    go_ret
    exact ⟨by first|rfl|(simp;done)|(simp [*];done),by repeat (first|exact dD.refl _|apply dD.step)⟩
end Go.Proofs.YtkclndkbccbhaaaGreatDoor.P
end
