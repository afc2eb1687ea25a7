/- Parts of the proof of Both: what the functions that it reaches compute, and plain facts about that. -/
import Derived.Test.YtkclndkbccbhaaaDoorQac
import Derived.Test.YtkclndkbccbhaaaDoorQad
set_option linter.unusedVariables false
set_option linter.unusedSimpArgs false
section
namespace Go.Proofs.YtkclndkbccbhaaaDoor.P
open Go.RowKit Go.Proofs.az.dw Go.Proofs.az.gB Go.Proofs.az.gX
attribute [local go_sem] pW pU su rZ oh nZ pV pR
def gI.f (a0:ByteArray):Option (Bool):=if (a0.size:Int)≤30 then ((jm.f a0 (⟨#[97,98,99,100,101,102,103,104,105,106,107,108,109,110,111,112,113,114,115,116,117,118,119,120,121,122,48,49,50,51,52,53,54,55,56,57]⟩:ByteArray)).bind fun t101=>(some (t101.toList == ([]:List UInt8)))) else (some false)
set_option maxHeartbeats 8000000 in
set_option maxRecDepth 100000 in
theorem gI.calls (a0:ByteArray) (r:Bool) (w:World) (h:gI.f a0=some r) :
    Calls Tryd.prog 23 #[.string a0] w fun e w'=>e=.returned (.bool r)∧Below w.heap.size w w':=by
  have HB:=ah.mk (Below.refl w.heap.size w)
  have H:(if (a0.size:Int)≤30 then ((jm.f a0 (⟨#[97,98,99,100,101,102,103,104,105,106,107,108,109,110,111,112,113,114,115,116,117,118,119,120,121,122,48,49,50,51,52,53,54,55,56,57]⟩:ByteArray)).bind fun t101=>(some (t101.toList == ([]:List UInt8)))) else (some false))=some r:=h
  clear h
  by_cases c2:(a0.size:Int)≤30
  · rw [if_pos c2] at H
    have JQ:decide ((a0.size:Int)≤30)=true:=decide_eq_true c2
    have JP:decide (a0.size≤30)=true:=decide_eq_true (by omega)
    clear c2
    replace H:=Option.bind_eq_some_iff.mp H
    obtain ⟨t101,F8,H⟩:=H
    replace H:(some (t101.toList == ([]:List UInt8)))=some r:=H
    have A3:=ah.mk F8
    clear F8
    obtain rfl:=Option.some.inj H
    go_enter Tryd.func23,Tryd.ntmps23
    go_wp2_with (first|(go_at_call 35;(with_reducible refine (jm.calls a0 (⟨#[97,98,99,100,101,102,103,104,105,106,107,108,109,110,111,112,113,114,115,116,117,118,119,120,121,122,48,49,50,51,52,53,54,55,56,57]⟩:ByteArray) t101 _ A3.out).mono ?_);rintro e w4 ⟨rfl,hb⟩;have dA:=ah.mk (aT (by repeat (first|(with_reducible first|exact HB.out|apply ak|apply ae|apply aj)|exact HB.out)) hb);clear HB;have HB:=dA;clear dA;(try clear hb);(try clear hb2);(try clear hk);(try clear hi)))
    go_ret
    exact ⟨by first|rfl|(simp [bY,bW] <;> rfl)|(simp [*,bY,bW] <;> rfl),by repeat (first|(with_reducible first|exact HB.out|apply ak|apply ae|apply aj)|exact HB.out)⟩
  · rw [if_neg c2] at H
    have JQ:decide ((a0.size:Int)≤30)=false:=decide_eq_false c2
    have JP:decide (a0.size≤30)=false:=decide_eq_false (by omega)
    clear c2
    obtain rfl:=Option.some.inj H
    go_enter Tryd.func23,Tryd.ntmps23
    go_wp2
    go_ret
    exact ⟨by first|rfl|(simp [bY,bW] <;> rfl)|(simp [*,bY,bW] <;> rfl),by repeat (first|(with_reducible first|exact HB.out|apply ak|apply ae|apply aj)|exact HB.out)⟩
mutual
def fB.l0:Nat→List ByteArray→Int→Int→List ByteArray→ByteArray→ByteArray→List (jo)→Option (Bool)
  | 0,_,_,_,_,_,_,_=>none
  | k+1,x8,x9,x10,DK,Ai,Ah,vU=>if x10 < x9 then (if 0≤x10 then (if x10 < (x8.length:Int) then (if (ja ByteArray.empty x8 x10).toList=([]:List UInt8) then (some false) else ((gI.f (ja ByteArray.empty x8 x10)).bind fun t104=>(if t104=true then (fB.l0 k x8 x9 (wrap64 (x10+1)) DK Ai Ah vU) else (some false)))) else (none)) else (none)) else (fB.l1 k vU (vU.length:Int) 0 DK Ai Ah vU)
def fB.l1:Nat→List (jo)→Int→Int→List ByteArray→ByteArray→ByteArray→List (jo)→Option (Bool)
  | 0,_,_,_,_,_,_,_=>none
  | k+1,J5,x24,x25,DK,Ai,Ah,vU=>if x25 < x24 then (if 0≤x25 then (if x25 < (J5.length:Int) then ((gu.f ((bf J5 x25).f0) ((bf J5 x25).f1) ((bf J5 x25).f2) ((bf J5 x25).f3) ((bf J5 x25).f4)).bind fun t107=>(if t107=true then (fB.l1 k J5 x24 (wrap64 (x25+1)) DK Ai Ah vU) else (some false))) else (none)) else (none)) else ((gI.f Ai).bind fun t108=>(if t108=true then ((gI.f Ah).bind fun t109=>(if t109=true then (some (decide ((vU.length:Int)≤200))) else (some false))) else (some false)))
end
def fB.f (k:Nat) (aU:List ByteArray) (aX:ByteArray) (aZ:ByteArray) (aI:List (jo)):Option (Bool):=fB.l0 k aU (aU.length:Int) 0 aU aX aZ aI
theorem fB.lX:∀ k,(∀ y0 y1 y2 y3 y4 y5 y6,iw (fB.l0 k y0 y1 y2 y3 y4 y5 y6) (fB.l0 (k+1) y0 y1 y2 y3 y4 y5 y6))∧(∀ y0 y1 y2 y3 y4 y5 y6,iw (fB.l1 k y0 y1 y2 y3 y4 y5 y6) (fB.l1 (k+1) y0 y1 y2 y3 y4 y5 y6))
  | 0=>⟨fun _ _ _ _ _ _ _ r h=>by simp [fB.l0] at h,fun _ _ _ _ _ _ _ r h=>by simp [fB.l1] at h⟩
  | k+1=>by
    obtain ⟨qW,ih1⟩:=fB.lX k
    refine ⟨?_,?_⟩
    · intro y0 y1 y2 y3 y4 y5 y6
      unfold fB.l0
      repeat' first
      | (with_reducible exact qW _ _ _ _ _ _ _)
      | (with_reducible exact ih1 _ _ _ _ _ _ _)
      | (with_reducible exact iw.refl _)
      | (with_reducible exact iw.none _)
      | (with_reducible refine iw.ite ?_ ?_)
      | (with_reducible refine iw.bind ?_ (fun _=>?_))
      | exact qW _ _ _ _ _ _ _
      | exact ih1 _ _ _ _ _ _ _
      | exact iw.none _
      | refine iw.ite ?_ ?_
      | refine iw.bind ?_ (fun _=>?_)
    · intro y0 y1 y2 y3 y4 y5 y6
      unfold fB.l1
      repeat' first
      | (with_reducible exact qW _ _ _ _ _ _ _)
      | (with_reducible exact ih1 _ _ _ _ _ _ _)
      | (with_reducible exact iw.refl _)
      | (with_reducible exact iw.none _)
      | (with_reducible refine iw.ite ?_ ?_)
      | (with_reducible refine iw.bind ?_ (fun _=>?_))
      | exact qW _ _ _ _ _ _ _
      | exact ih1 _ _ _ _ _ _ _
      | exact iw.none _
      | refine iw.ite ?_ ?_
      | refine iw.bind ?_ (fun _=>?_)
theorem fB.mono:∀ a0 a1 a2 a3 k,iw (fB.f k a0 a1 a2 a3) (fB.f (k+1) a0 a1 a2 a3):=by
  intro a0 a1 a2 a3 k
  obtain ⟨qW,ih1⟩:=fB.lX k
  unfold fB.f
  repeat' first
      | (with_reducible exact qW _ _ _ _ _ _ _)
      | (with_reducible exact ih1 _ _ _ _ _ _ _)
      | (with_reducible exact iw.refl _)
      | (with_reducible exact iw.none _)
      | (with_reducible refine iw.ite ?_ ?_)
      | (with_reducible refine iw.bind ?_ (fun _=>?_))
      | exact qW _ _ _ _ _ _ _
      | exact ih1 _ _ _ _ _ _ _
      | exact iw.none _
      | refine iw.ite ?_ ?_
      | refine iw.bind ?_ (fun _=>?_)
set_option maxHeartbeats 8000000 in
set_option maxRecDepth 100000 in
theorem fB.calls (k:Nat) (bF:Option Addr) (bD:Nat) (aU:List ByteArray) (aX:ByteArray) (aZ:ByteArray) (bG:Option Addr) (bC:Nat) (aI:List (jo)) (r:Bool) (w:World) (qY:Kd.C Kd.string w bF aU.length aU) (rq:aU.length≤bD) (qX:Kd.C qV w bG aI.length aI) (rf:aI.length≤bC) (kP:Kd.C xu w xw mX.length mX) (h:fB.f k aU aX aZ aI=some r) :
    Calls Tryd.prog 12 #[.agg #[.slice bF aU.length bD,.string aX,.string aZ,.slice bG aI.length bC]] w fun e w'=>e=.returned (.bool r)∧Below w.heap.size w w':=by
  have QO:=Tryd.underlying25
  have XP:=Tryd.underlying35
  have lL:=ah.mk qY
  have oz:=ah.mk rq
  clear qY rq
  have lK:=ah.mk qX
  have ou:=ah.mk rf
  clear qX rf
  have mM:=ah.mk kP
  clear kP
  have HB:=ah.mk (Below.refl w.heap.size w)
  have H:(fB.l0 k aU (aU.length:Int) 0 aU aX aZ aI)=some r:=h
  clear h
  have H':=ah.mk H
  clear H
  go_enter Tryd.func12,Tryd.ntmps12
  go_wp2_with (first|((with_reducible refine dL (N:=1) rfl ?_);(try (refine dQ (by rfl) ?_;dsimp only));refine dO ?hg (N:=1) ?hd (cs:=#[.slice bF aU.length bD,.string aX,.string aZ,.slice bG aI.length bC]) (t:=25) ?hr ?_;(case hd=>rfl);(case hg=>rfl);(case hr=>first|(go_simp;done)|(go_simp;rfl));intro iT hg w2 hbox hb;have dA:=ah.mk (aT (by repeat (first|(with_reducible first|exact HB.out|apply ak|apply ae|apply aj)|exact HB.out)) hb);have dC:=ah.mk (hbox);have dP:=ah.mk ((by rw [hg];exact (aA (by repeat (first|(with_reducible first|exact HB.out|apply ak|apply ae|apply aj)|exact HB.out))):w.heap.size≤iT));have eF:=ah.mk ((by rw [hg];exact (aA (by repeat (first|(with_reducible first|exact HB.out|apply ak|apply ae|apply aj)|exact HB.out))):w.heap.size≤iT));clear HB;have HB:=dA;have fD:=dC;have aup:=dP;have l7:=eF;clear dA dC dP eF;clear hb hbox hg;have Jh:w2.cell? ⟨iT,0,none⟩=some (.slice bF aU.length bD):=(ay fD.out 0).trans rfl;have Jg:w2.cell? ⟨iT,1,none⟩=some (.string aX):=(ay fD.out 1).trans rfl;have Jf:w2.cell? ⟨iT,2,none⟩=some (.string aZ):=(ay fD.out 2).trans rfl;have Je:w2.cell? ⟨iT,3,none⟩=some (.slice bG aI.length bC):=(ay fD.out 3).trans rfl;have IC:=ax fD.out 0;have IB:=ax fD.out 1;have IA:=ax fD.out 2;have Iz:=ax fD.out 3))
  go_loopg [10] k (fun kq v10 w'=>∃ (lG:Int),v10=.int .i64 lG∧ah (fB.l0 kq aU (aU.length:Int) lG aU aX aZ aI=some r)∧ah (kq≤k)∧ah (w'.heap[iT]? = some (.cells #[(.slice bF aU.length bD),.string aX,.string aZ,(.slice bG aI.length bC)] 25 (0,0)))∧ah (Below w.heap.size w w'))
  case atStart=>exact ⟨(0),(by first|rfl|(simp;done)|(simp [*];done)),H',⟨Nat.le_refl _⟩,⟨by (with_reducible repeat (first|refine af ?_ _|refine ai ?_|refine ag ?_ _));exact fD.out⟩,⟨by repeat (first|(with_reducible first|exact HB.out|apply ak|apply ae|apply aj|refine au ?_ l7.out)|exact HB.out)⟩⟩
  case round =>
    clear H'
    try clear c1
    try clear p2
    try clear Jh
    try clear Jg
    try clear Jf
    try clear Je
    try clear IC
    try clear IB
    try clear IA
    try clear Iz
    obtain ⟨lG,rfl,HA,CY,fD,HB⟩:=hrel
    cases gk with
    | zero=>exact absurd HA.out (by simp [fB.l0])
    | succ k1 =>
      have H:=HA.out
      clear HA
      simp only [fB.l0] at H
      by_cases c4:lG < (aU.length:Int)
      · rw [if_pos c4] at H
        have Ru:decide (lG < (aU.length:Int))=true:=decide_eq_true c4
        clear c4
        by_cases c5:0≤lG
        · rw [if_pos c5] at H
          have VK:decide (0≤lG)=true:=decide_eq_true c5
          clear c5
          by_cases c6:lG < (aU.length:Int)
          · rw [if_pos c6] at H
            have xy:decide (lG < (aU.length:Int))=true:=decide_eq_true c6
            clear c6
            by_cases c7:(ja ByteArray.empty aU lG).toList=([]:List UInt8)
            · rw [if_pos c7] at H
              have BP:((ja ByteArray.empty aU lG).toList == ([]:List UInt8))=true:=beq_iff_eq.mpr c7
              have JO:((ja ByteArray.empty aU lG).toList != ([]:List UInt8))=false:=bne_eq_false_iff_eq.mpr c7
              clear c7
              obtain rfl:=Option.some.inj H
              have Du:0≤(lG:Int):=of_decide_eq_true (by first|(with_reducible assumption)|assumption)
              have Dt:lG < (aU.length:Int):=of_decide_eq_true (by first|(with_reducible assumption)|assumption)
              obtain ⟨Qk,Vw,oP⟩:=Kd.iU lL.out lG Du Dt
              cases Vw
              replace oP:=(HB.out.cell (World.block_lt_of_cell? w _ oP)).trans oP
              replace Du:=eq_true Du
              replace Dt:=eq_true Dt
              go_wp2
              go_ret
              exact ⟨by first|rfl|(simp [bY,bW] <;> rfl)|(simp [*,bY,bW] <;> rfl),by repeat (first|(with_reducible first|exact HB.out|apply ak|apply ae|apply aj|refine au ?_ l7.out)|exact HB.out)⟩
            · rw [if_neg c7] at H
              have BP:((ja ByteArray.empty aU lG).toList == ([]:List UInt8))=false:=beq_eq_false_iff_ne.mpr c7
              have JO:((ja ByteArray.empty aU lG).toList != ([]:List UInt8))=true:=bne_iff_ne.mpr c7
              replace H:=Option.bind_eq_some_iff.mp H
              obtain ⟨t104,A80,H⟩:=H
              replace H:(if t104=true then (fB.l0 k1 aU (aU.length:Int) (wrap64 (lG+1)) aU aX aZ aI) else (some false))=some r:=H
              have A8:=ah.mk A80
              clear A80
              by_cases c9:t104=true
              · subst c9
                have H1:(fB.l0 k1 aU (aU.length:Int) (wrap64 (lG+1)) aU aX aZ aI)=some r:=by rw [if_pos rfl] at H;exact H
                clear H
                have H:=H1
                clear H1
                have H':=ah.mk H
                clear H
                have Du:0≤(lG:Int):=of_decide_eq_true (by first|(with_reducible assumption)|assumption)
                have Dt:lG < (aU.length:Int):=of_decide_eq_true (by first|(with_reducible assumption)|assumption)
                obtain ⟨Qk,Vw,oP⟩:=Kd.iU lL.out lG Du Dt
                cases Vw
                replace oP:=(HB.out.cell (World.block_lt_of_cell? w _ oP)).trans oP
                replace Du:=eq_true Du
                replace Dt:=eq_true Dt
                go_wp2_with (first|(go_at_call 23;(with_reducible refine (gI.calls (ja ByteArray.empty aU lG) true _ A8.out).mono ?_);rintro e w10 ⟨rfl,hb⟩;have dA:=ah.mk (aQ (g:=iT) (o:=.cells #[.slice (some Qk) aU.length bD,.string aX,.string aZ,.slice bG aI.length bC] 25 (0,0)) (by (with_reducible repeat (first|refine af ?_ _|refine ai ?_|refine ag ?_ _));exact fD.out) hb);have dC:=ah.mk (aT (by repeat (first|(with_reducible first|exact HB.out|apply ak|apply ae|apply aj|refine au ?_ l7.out)|exact HB.out)) hb);clear fD;clear HB;have fD:=dA;have HB:=dC;clear dA dC;(try clear hb);(try clear hb2);(try clear hk);(try clear hi)))
                go_roundg k1
                case measure=>have:=CY.out;omega
                case rel=>exact ⟨(wrap64 (lG+1)),(by first|rfl|(simp;done)|(simp [*];done)),H',⟨by have:=CY.out;omega⟩,⟨by (with_reducible repeat (first|refine af ?_ _|refine ai ?_|refine ag ?_ _));exact fD.out⟩,⟨by repeat (first|(with_reducible first|exact HB.out|apply ak|apply ae|apply aj|refine au ?_ l7.out)|exact HB.out)⟩⟩
              · replace c9:=Bool.eq_false_iff.mpr c9
                subst c9
                have H1:(some false)=some r:=by rw [if_neg (show ¬ (false=true) by decide)] at H;exact H
                clear H
                have H:=H1
                clear H1
                obtain rfl:=Option.some.inj H
                have Du:0≤(lG:Int):=of_decide_eq_true (by first|(with_reducible assumption)|assumption)
                have Dt:lG < (aU.length:Int):=of_decide_eq_true (by first|(with_reducible assumption)|assumption)
                obtain ⟨Qk,Vw,oP⟩:=Kd.iU lL.out lG Du Dt
                cases Vw
                replace oP:=(HB.out.cell (World.block_lt_of_cell? w _ oP)).trans oP
                replace Du:=eq_true Du
                replace Dt:=eq_true Dt
                go_wp2_with (first|(go_at_call 23;(with_reducible refine (gI.calls (ja ByteArray.empty aU lG) false _ A8.out).mono ?_);rintro e w11 ⟨rfl,hb⟩;have dA:=ah.mk (aQ (g:=iT) (o:=.cells #[.slice (some Qk) aU.length bD,.string aX,.string aZ,.slice bG aI.length bC] 25 (0,0)) (by (with_reducible repeat (first|refine af ?_ _|refine ai ?_|refine ag ?_ _));exact fD.out) hb);have dC:=ah.mk (aT (by repeat (first|(with_reducible first|exact HB.out|apply ak|apply ae|apply aj|refine au ?_ l7.out)|exact HB.out)) hb);clear fD;clear HB;have fD:=dA;have HB:=dC;clear dA dC;(try clear hb);(try clear hb2);(try clear hk);(try clear hi)))
                go_ret
                exact ⟨by first|rfl|(simp [bY,bW] <;> rfl)|(simp [*,bY,bW] <;> rfl),by repeat (first|(with_reducible first|exact HB.out|apply ak|apply ae|apply aj|refine au ?_ l7.out)|exact HB.out)⟩
          · rw [if_neg c6] at H
            exact absurd H (by simp)
        · rw [if_neg c5] at H
          exact absurd H (by simp)
      · rw [if_neg c4] at H
        have Ru:decide (lG < (aU.length:Int))=false:=decide_eq_false c4
        clear c4
        have H':=ah.mk H
        clear H
        have Ey:wr.cell? ⟨iT,0,none⟩=some (.slice bF aU.length bD):=(ay fD.out 0).trans rfl
        have Ew:wr.cell? ⟨iT,1,none⟩=some (.string aX):=(ay fD.out 1).trans rfl
        have Eu:wr.cell? ⟨iT,2,none⟩=some (.string aZ):=(ay fD.out 2).trans rfl
        have Et:wr.cell? ⟨iT,3,none⟩=some (.slice bG aI.length bC):=(ay fD.out 3).trans rfl
        have Ec:=ax fD.out 0
        have Eb:=ax fD.out 1
        have Ea:=ax fD.out 2
        have D9:=ax fD.out 3
        go_wp2
        go_loopg [25] k1 (fun kq v25 w'=>∃ (gK:Int),v25=.int .i64 gK∧ah (fB.l1 kq aI (aI.length:Int) gK aU aX aZ aI=some r)∧ah (kq≤k1)∧ah (w'.heap[iT]? = some (.cells #[(.slice bF aU.length bD),.string aX,.string aZ,(.slice bG aI.length bC)] 25 (0,0)))∧ah (Below w.heap.size w w'))
        case atStart=>exact ⟨(0),(by first|rfl|(simp;done)|(simp [*];done)),H',⟨Nat.le_refl _⟩,⟨by (with_reducible repeat (first|refine af ?_ _|refine ai ?_|refine ag ?_ _));exact fD.out⟩,⟨by repeat (first|(with_reducible first|exact HB.out|apply ak|apply ae|apply aj|refine au ?_ l7.out)|exact HB.out)⟩⟩
        case round =>
          clear H'
          try clear c1
          try clear p1
          try clear q1
          try clear hx1
          try clear p2
          try clear c4
          try clear Ru
          try clear c5
          try clear VK
          try clear c6
          try clear xy
          try clear p6
          try clear c7
          try clear BP
          try clear JO
          try clear c9
          try clear p10
          try clear q10
          try clear avq
          try clear c12
          try clear Ey
          try clear Ew
          try clear Eu
          try clear Et
          try clear Jh
          try clear Jg
          try clear Jf
          try clear Je
          try clear Ec
          try clear Eb
          try clear Ea
          try clear D9
          try clear IC
          try clear IB
          try clear IA
          try clear Iz
          try clear oP
          try clear Du
          try clear p2
          try clear Dt
          obtain ⟨gK,rfl,HA,F7,fD,HB⟩:=hrel
          cases gk with
          | zero=>exact absurd HA.out (by simp [fB.l1])
          | succ k2 =>
            have H:=HA.out
            clear HA
            simp only [fB.l1] at H
            by_cases c13:gK < (aI.length:Int)
            · rw [if_pos c13] at H
              have abn:decide (gK < (aI.length:Int))=true:=decide_eq_true c13
              clear c13
              by_cases c14:0≤gK
              · rw [if_pos c14] at H
                have zG:decide (0≤gK)=true:=decide_eq_true c14
                clear c14
                by_cases c15:gK < (aI.length:Int)
                · rw [if_pos c15] at H
                  have akO:decide (gK < (aI.length:Int))=true:=decide_eq_true c15
                  clear c15
                  replace H:=Option.bind_eq_some_iff.mp H
                  obtain ⟨t107,WQ,H⟩:=H
                  replace H:(if t107=true then (fB.l1 k2 aI (aI.length:Int) (wrap64 (gK+1)) aU aX aZ aI) else (some false))=some r:=H
                  have A16:=ah.mk WQ
                  clear WQ
                  by_cases c17:t107=true
                  · subst c17
                    have H1:(fB.l1 k2 aI (aI.length:Int) (wrap64 (gK+1)) aU aX aZ aI)=some r:=by rw [if_pos rfl] at H;exact H
                    clear H
                    have H:=H1
                    clear H1
                    have H':=ah.mk H
                    clear H
                    have NH:0≤(gK:Int):=of_decide_eq_true (by first|(with_reducible assumption)|assumption)
                    have Nw:gK < (aI.length:Int):=of_decide_eq_true (by first|(with_reducible assumption)|assumption)
                    obtain ⟨Be,acQ,wY,wX,wW,wV,wU⟩:=ny lK.out gK NH Nw
                    cases acQ
                    replace wY:=(HB.out.cell (World.block_lt_of_cell? w _ wY)).trans wY
                    replace wX:=(HB.out.cell (World.block_lt_of_cell? w _ wX)).trans wX
                    replace wW:=(HB.out.cell (World.block_lt_of_cell? w _ wW)).trans wW
                    replace wV:=(HB.out.cell (World.block_lt_of_cell? w _ wV)).trans wV
                    replace wU:=(HB.out.cell (World.block_lt_of_cell? w _ wU)).trans wU
                    replace NH:=eq_true NH
                    replace Nw:=eq_true Nw
                    go_wp2_with (first|((with_reducible refine dL (N:=6) rfl ?_);(try (refine dQ (by rfl) ?_;dsimp only));refine dO ?hg (N:=6) ?hd (cs:=#[.int .u8 0,.int .u8 0,.int .u8 0,.int .u8 0,.int .i64 0]) (t:=35) ?hr ?_;(case hd=>rfl);(case hg=>rfl);(case hr=>first|(go_simp;done)|(go_simp;rfl));intro oJ hg w18 hbox hb;have dA:=ah.mk (aQ (g:=iT) (o:=.cells #[.slice bF aU.length bD,.string aX,.string aZ,.slice (some Be) aI.length bC] 25 (0,0)) (by (with_reducible repeat (first|refine af ?_ _|refine ai ?_|refine ag ?_ _));exact fD.out) hb);have dC:=ah.mk (aT (by repeat (first|(with_reducible first|exact HB.out|apply ak|apply ae|apply aj|refine au ?_ l7.out)|exact HB.out)) hb);have dP:=ah.mk (hbox);have eF:=ah.mk ((by rw [hg];exact (aA (by repeat (first|(with_reducible first|exact HB.out|apply ak|apply ae|apply aj|refine au ?_ l7.out)|exact HB.out))):w.heap.size≤oJ));have fK:=ah.mk ((by rw [hg];exact (aA (by repeat (first|(with_reducible first|exact HB.out|apply ak|apply ae|apply aj|refine au ?_ l7.out)|exact HB.out))):w.heap.size≤oJ));have fQ:=ah.mk ((by rw [hg];exact Nat.ne_of_lt (dm (g:=iT) (o:=.cells #[.slice bF aU.length bD,.string aX,.string aZ,.slice (some Be) aI.length bC] 25 (0,0)) (by (with_reducible repeat (first|refine af ?_ _|refine ai ?_|refine ag ?_ _));exact fD.out)):iT ≠ oJ));have iF:=ah.mk ((by rw [hg];exact Nat.ne_of_gt (dm (g:=iT) (o:=.cells #[.slice bF aU.length bD,.string aX,.string aZ,.slice (some Be) aI.length bC] 25 (0,0)) (by (with_reducible repeat (first|refine af ?_ _|refine ai ?_|refine ag ?_ _));exact fD.out)):oJ ≠ iT));clear fD;clear HB;have fD:=dA;have HB:=dC;have l9:=dP;have alB:=eF;have FQ:=fK;have lg:=fQ;have BV:=iF;clear dA dC dP eF fK fQ iF;clear hb hbox hg;have atp:=BV.out;have asU:=lg.out;have Em:w18.cell? ⟨oJ,0,none⟩=some (.int .u8 0):=(ay l9.out 0).trans rfl;have Ej:w18.cell? ⟨oJ,1,none⟩=some (.int .u8 0):=(ay l9.out 1).trans rfl;have Ei:w18.cell? ⟨oJ,2,none⟩=some (.int .u8 0):=(ay l9.out 2).trans rfl;have Eh:w18.cell? ⟨oJ,3,none⟩=some (.int .u8 0):=(ay l9.out 3).trans rfl;have apa:w18.cell? ⟨oJ,4,none⟩=some (.int .i64 0):=(ay l9.out 4).trans rfl;have DZ:=ax l9.out 0;have DY:=ax l9.out 1;have DX:=ax l9.out 2;have DW:=ax l9.out 3;have anF:=ax l9.out 4)|((with_reducible refine bV (f:=11) rfl ?_);refine fF (some 30) rfl rfl Tryd.func11 (by kernel_rfl) rfl #[.agg #[.int .u8 ((bf aI gK).f0),.int .u8 ((bf aI gK).f1),.int .u8 ((bf aI gK).f2),.int .u8 ((bf aI gK).f3),.int .i64 ((bf aI gK).f4)]] rfl (by (try simp only [List.map_toArray,List.map_cons,List.map_nil]);first|done|rfl|(simp only [List.length_drop,List.length_take];rfl)) ?_;(with_reducible refine (gu.calls ((bf aI gK).f0) ((bf aI gK).f1) ((bf aI gK).f2) ((bf aI gK).f3) ((bf aI gK).f4) true _ ?dN A16.out).mono ?_);(case dN=>exact Kd.dB mM.out (by repeat (first|(with_reducible first|exact HB.out|apply ak|apply ae|apply aj|refine au ?_ l7.out|refine au ?_ FQ.out)|exact HB.out)));rintro e w21 ⟨rfl,hb⟩;refine ⟨_,rfl,?_⟩;have dA:=ah.mk (aQ (g:=iT) (o:=.cells #[.slice bF aU.length bD,.string aX,.string aZ,.slice (some Be) aI.length bC] 25 (0,0)) (by (with_reducible repeat (first|refine af ?_ _|refine ai ?_|refine ag ?_ _));refine aK ?_ lg.out _;(with_reducible repeat (first|refine af ?_ _|refine ai ?_|refine ag ?_ _));refine aK ?_ lg.out _;(with_reducible repeat (first|refine af ?_ _|refine ai ?_|refine ag ?_ _));refine aK ?_ lg.out _;(with_reducible repeat (first|refine af ?_ _|refine ai ?_|refine ag ?_ _));refine aK ?_ lg.out _;(with_reducible repeat (first|refine af ?_ _|refine ai ?_|refine ag ?_ _));refine aK ?_ lg.out _;(with_reducible repeat (first|refine af ?_ _|refine ai ?_|refine ag ?_ _));exact fD.out) hb);have dC:=ah.mk (aQ (g:=oJ) (o:=.cells #[.int .u8 ((bf aI gK).f0),.int .u8 ((bf aI gK).f1),.int .u8 ((bf aI gK).f2),.int .u8 ((bf aI gK).f3),.int .i64 ((bf aI gK).f4)] 35 (0,0)) (by (with_reducible repeat (first|refine af ?_ _|refine ai ?_|refine ag ?_ _));refine aW (cs:=#[.int .u8 ((bf aI gK).f0),.int .u8 ((bf aI gK).f1),.int .u8 ((bf aI gK).f2),.int .u8 ((bf aI gK).f3),.int .i64 0]) ?_ 4 _ rfl;(with_reducible repeat (first|refine af ?_ _|refine ai ?_|refine ag ?_ _));refine aW (cs:=#[.int .u8 ((bf aI gK).f0),.int .u8 ((bf aI gK).f1),.int .u8 ((bf aI gK).f2),.int .u8 0,.int .i64 0]) ?_ 3 _ rfl;(with_reducible repeat (first|refine af ?_ _|refine ai ?_|refine ag ?_ _));refine aW (cs:=#[.int .u8 ((bf aI gK).f0),.int .u8 ((bf aI gK).f1),.int .u8 0,.int .u8 0,.int .i64 0]) ?_ 2 _ rfl;(with_reducible repeat (first|refine af ?_ _|refine ai ?_|refine ag ?_ _));refine aW (cs:=#[.int .u8 ((bf aI gK).f0),.int .u8 0,.int .u8 0,.int .u8 0,.int .i64 0]) ?_ 1 _ rfl;(with_reducible repeat (first|refine af ?_ _|refine ai ?_|refine ag ?_ _));refine aW (cs:=#[.int .u8 0,.int .u8 0,.int .u8 0,.int .u8 0,.int .i64 0]) ?_ 0 _ rfl;(with_reducible repeat (first|refine af ?_ _|refine ai ?_|refine ag ?_ _));exact l9.out) hb);have dP:=ah.mk (aT (by repeat (first|(with_reducible first|exact HB.out|apply ak|apply ae|apply aj|refine au ?_ l7.out|refine au ?_ FQ.out)|exact HB.out)) hb);clear fD;clear l9;clear HB;have fD:=dA;have l9:=dC;have HB:=dP;clear dA dC dP;(try clear hb);(try clear hb2);(try clear hk);(try clear hi)))
                    go_roundg k2
                    case measure=>have:=CY.out;have:=F7.out;omega
                    case rel=>exact ⟨(wrap64 (gK+1)),(by first|rfl|(simp;done)|(simp [*];done)),H',⟨by have:=CY.out;have:=F7.out;omega⟩,⟨by (with_reducible repeat (first|refine af ?_ _|refine ai ?_|refine ag ?_ _));exact fD.out⟩,⟨by repeat (first|(with_reducible first|exact HB.out|apply ak|apply ae|apply aj|refine au ?_ l7.out|refine au ?_ FQ.out)|exact HB.out)⟩⟩
                  · replace c17:=Bool.eq_false_iff.mpr c17
                    subst c17
                    have H1:(some false)=some r:=by rw [if_neg (show ¬ (false=true) by decide)] at H;exact H
                    clear H
                    have H:=H1
                    clear H1
                    obtain rfl:=Option.some.inj H
                    have NH:0≤(gK:Int):=of_decide_eq_true (by first|(with_reducible assumption)|assumption)
                    have Nw:gK < (aI.length:Int):=of_decide_eq_true (by first|(with_reducible assumption)|assumption)
                    obtain ⟨Be,acQ,wY,wX,wW,wV,wU⟩:=ny lK.out gK NH Nw
                    cases acQ
                    replace wY:=(HB.out.cell (World.block_lt_of_cell? w _ wY)).trans wY
                    replace wX:=(HB.out.cell (World.block_lt_of_cell? w _ wX)).trans wX
                    replace wW:=(HB.out.cell (World.block_lt_of_cell? w _ wW)).trans wW
                    replace wV:=(HB.out.cell (World.block_lt_of_cell? w _ wV)).trans wV
                    replace wU:=(HB.out.cell (World.block_lt_of_cell? w _ wU)).trans wU
                    replace NH:=eq_true NH
                    replace Nw:=eq_true Nw
                    go_wp2_with (first|((with_reducible refine dL (N:=6) rfl ?_);(try (refine dQ (by rfl) ?_;dsimp only));refine dO ?hg (N:=6) ?hd (cs:=#[.int .u8 0,.int .u8 0,.int .u8 0,.int .u8 0,.int .i64 0]) (t:=35) ?hr ?_;(case hd=>rfl);(case hg=>rfl);(case hr=>first|(go_simp;done)|(go_simp;rfl));intro oJ hg w22 hbox hb;have dA:=ah.mk (aQ (g:=iT) (o:=.cells #[.slice bF aU.length bD,.string aX,.string aZ,.slice (some Be) aI.length bC] 25 (0,0)) (by (with_reducible repeat (first|refine af ?_ _|refine ai ?_|refine ag ?_ _));exact fD.out) hb);have dC:=ah.mk (aT (by repeat (first|(with_reducible first|exact HB.out|apply ak|apply ae|apply aj|refine au ?_ l7.out)|exact HB.out)) hb);have dP:=ah.mk (hbox);have eF:=ah.mk ((by rw [hg];exact (aA (by repeat (first|(with_reducible first|exact HB.out|apply ak|apply ae|apply aj|refine au ?_ l7.out)|exact HB.out))):w.heap.size≤oJ));have fK:=ah.mk ((by rw [hg];exact (aA (by repeat (first|(with_reducible first|exact HB.out|apply ak|apply ae|apply aj|refine au ?_ l7.out)|exact HB.out))):w.heap.size≤oJ));have fQ:=ah.mk ((by rw [hg];exact Nat.ne_of_lt (dm (g:=iT) (o:=.cells #[.slice bF aU.length bD,.string aX,.string aZ,.slice (some Be) aI.length bC] 25 (0,0)) (by (with_reducible repeat (first|refine af ?_ _|refine ai ?_|refine ag ?_ _));exact fD.out)):iT ≠ oJ));have iF:=ah.mk ((by rw [hg];exact Nat.ne_of_gt (dm (g:=iT) (o:=.cells #[.slice bF aU.length bD,.string aX,.string aZ,.slice (some Be) aI.length bC] 25 (0,0)) (by (with_reducible repeat (first|refine af ?_ _|refine ai ?_|refine ag ?_ _));exact fD.out)):oJ ≠ iT));clear fD;clear HB;have fD:=dA;have HB:=dC;have l9:=dP;have alB:=eF;have FQ:=fK;have lg:=fQ;have BV:=iF;clear dA dC dP eF fK fQ iF;clear hb hbox hg;have atn:=BV.out;have asR:=lg.out;have ao4:w22.cell? ⟨oJ,0,none⟩=some (.int .u8 0):=(ay l9.out 0).trans rfl;have ao3:w22.cell? ⟨oJ,1,none⟩=some (.int .u8 0):=(ay l9.out 1).trans rfl;have ao2:w22.cell? ⟨oJ,2,none⟩=some (.int .u8 0):=(ay l9.out 2).trans rfl;have ao1:w22.cell? ⟨oJ,3,none⟩=some (.int .u8 0):=(ay l9.out 3).trans rfl;have ao0:w22.cell? ⟨oJ,4,none⟩=some (.int .i64 0):=(ay l9.out 4).trans rfl;have anz:=ax l9.out 0;have anx:=ax l9.out 1;have anw:=ax l9.out 2;have anv:=ax l9.out 3;have anu:=ax l9.out 4)|((with_reducible refine bV (f:=11) rfl ?_);refine fF (some 30) rfl rfl Tryd.func11 (by kernel_rfl) rfl #[.agg #[.int .u8 ((bf aI gK).f0),.int .u8 ((bf aI gK).f1),.int .u8 ((bf aI gK).f2),.int .u8 ((bf aI gK).f3),.int .i64 ((bf aI gK).f4)]] rfl (by (try simp only [List.map_toArray,List.map_cons,List.map_nil]);first|done|rfl|(simp only [List.length_drop,List.length_take];rfl)) ?_;(with_reducible refine (gu.calls ((bf aI gK).f0) ((bf aI gK).f1) ((bf aI gK).f2) ((bf aI gK).f3) ((bf aI gK).f4) false _ ?dN A16.out).mono ?_);(case dN=>exact Kd.dB mM.out (by repeat (first|(with_reducible first|exact HB.out|apply ak|apply ae|apply aj|refine au ?_ l7.out|refine au ?_ FQ.out)|exact HB.out)));rintro e RH ⟨rfl,hb⟩;refine ⟨_,rfl,?_⟩;have dA:=ah.mk (aQ (g:=iT) (o:=.cells #[.slice bF aU.length bD,.string aX,.string aZ,.slice (some Be) aI.length bC] 25 (0,0)) (by (with_reducible repeat (first|refine af ?_ _|refine ai ?_|refine ag ?_ _));refine aK ?_ lg.out _;(with_reducible repeat (first|refine af ?_ _|refine ai ?_|refine ag ?_ _));refine aK ?_ lg.out _;(with_reducible repeat (first|refine af ?_ _|refine ai ?_|refine ag ?_ _));refine aK ?_ lg.out _;(with_reducible repeat (first|refine af ?_ _|refine ai ?_|refine ag ?_ _));refine aK ?_ lg.out _;(with_reducible repeat (first|refine af ?_ _|refine ai ?_|refine ag ?_ _));refine aK ?_ lg.out _;(with_reducible repeat (first|refine af ?_ _|refine ai ?_|refine ag ?_ _));exact fD.out) hb);have dC:=ah.mk (aQ (g:=oJ) (o:=.cells #[.int .u8 ((bf aI gK).f0),.int .u8 ((bf aI gK).f1),.int .u8 ((bf aI gK).f2),.int .u8 ((bf aI gK).f3),.int .i64 ((bf aI gK).f4)] 35 (0,0)) (by (with_reducible repeat (first|refine af ?_ _|refine ai ?_|refine ag ?_ _));refine aW (cs:=#[.int .u8 ((bf aI gK).f0),.int .u8 ((bf aI gK).f1),.int .u8 ((bf aI gK).f2),.int .u8 ((bf aI gK).f3),.int .i64 0]) ?_ 4 _ rfl;(with_reducible repeat (first|refine af ?_ _|refine ai ?_|refine ag ?_ _));refine aW (cs:=#[.int .u8 ((bf aI gK).f0),.int .u8 ((bf aI gK).f1),.int .u8 ((bf aI gK).f2),.int .u8 0,.int .i64 0]) ?_ 3 _ rfl;(with_reducible repeat (first|refine af ?_ _|refine ai ?_|refine ag ?_ _));refine aW (cs:=#[.int .u8 ((bf aI gK).f0),.int .u8 ((bf aI gK).f1),.int .u8 0,.int .u8 0,.int .i64 0]) ?_ 2 _ rfl;(with_reducible repeat (first|refine af ?_ _|refine ai ?_|refine ag ?_ _));refine aW (cs:=#[.int .u8 ((bf aI gK).f0),.int .u8 0,.int .u8 0,.int .u8 0,.int .i64 0]) ?_ 1 _ rfl;(with_reducible repeat (first|refine af ?_ _|refine ai ?_|refine ag ?_ _));refine aW (cs:=#[.int .u8 0,.int .u8 0,.int .u8 0,.int .u8 0,.int .i64 0]) ?_ 0 _ rfl;(with_reducible repeat (first|refine af ?_ _|refine ai ?_|refine ag ?_ _));exact l9.out) hb);have dP:=ah.mk (aT (by repeat (first|(with_reducible first|exact HB.out|apply ak|apply ae|apply aj|refine au ?_ l7.out|refine au ?_ FQ.out)|exact HB.out)) hb);clear fD;clear l9;clear HB;have fD:=dA;have l9:=dC;have HB:=dP;clear dA dC dP;(try clear hb);(try clear hb2);(try clear hk);(try clear hi)))
                    go_ret
                    exact ⟨by first|rfl|(simp [bY,bW] <;> rfl)|(simp [*,bY,bW] <;> rfl),by repeat (first|(with_reducible first|exact HB.out|apply ak|apply ae|apply aj|refine au ?_ l7.out|refine au ?_ FQ.out)|exact HB.out)⟩
                · rw [if_neg c15] at H
                  exact absurd H (by simp)
              · rw [if_neg c14] at H
                exact absurd H (by simp)
            · rw [if_neg c13] at H
              have abn:decide (gK < (aI.length:Int))=false:=decide_eq_false c13
              clear c13
              replace H:=Option.bind_eq_some_iff.mp H
              obtain ⟨t108,alL,H⟩:=H
              replace H:(if t108=true then ((gI.f aZ).bind fun t109=>(if t109=true then (some (decide ((aI.length:Int)≤200))) else (some false))) else (some false))=some r:=H
              have A26:=ah.mk alL
              clear alL
              by_cases WT:t108=true
              · subst WT
                have H1:((gI.f aZ).bind fun t109=>(if t109=true then (some (decide ((aI.length:Int)≤200))) else (some false)))=some r:=by rw [if_pos rfl] at H;exact H
                clear H
                have H:=H1
                clear H1
                replace H:=Option.bind_eq_some_iff.mp H
                obtain ⟨t109,alK,H⟩:=H
                replace H:(if t109=true then (some (decide ((aI.length:Int)≤200))) else (some false))=some r:=H
                have A28:=ah.mk alK
                clear alK
                by_cases c29:t109=true
                · subst c29
                  have H1:(some (decide ((aI.length:Int)≤200)))=some r:=by rw [if_pos rfl] at H;exact H
                  clear H
                  have H:=H1
                  clear H1
                  obtain rfl:=Option.some.inj H
                  have PY:wr.cell? ⟨iT,0,none⟩=some (.slice bF aU.length bD):=(ay fD.out 0).trans rfl
                  have PX:wr.cell? ⟨iT,1,none⟩=some (.string aX):=(ay fD.out 1).trans rfl
                  have PW:wr.cell? ⟨iT,2,none⟩=some (.string aZ):=(ay fD.out 2).trans rfl
                  have PV:wr.cell? ⟨iT,3,none⟩=some (.slice bG aI.length bC):=(ay fD.out 3).trans rfl
                  have Po:=ax fD.out 0
                  have Pn:=ax fD.out 1
                  have Pm:=ax fD.out 2
                  have Pj:=ax fD.out 3
                  go_wp2_with (first|((with_reducible refine bV (f:=23) rfl ?_);refine fF (some 35) rfl rfl Tryd.func23 (by kernel_rfl) rfl #[.string aX] rfl (by (try simp only [List.map_toArray,List.map_cons,List.map_nil]);first|done|rfl|(simp only [List.length_drop,List.length_take];rfl)) ?_;(with_reducible refine (gI.calls aX true _ A26.out).mono ?_);rintro e w31 ⟨rfl,hb⟩;refine ⟨_,rfl,?_⟩;have dA:=ah.mk (aQ (g:=iT) (o:=.cells #[.slice bF aU.length bD,.string aX,.string aZ,.slice bG aI.length bC] 25 (0,0)) (by (with_reducible repeat (first|refine af ?_ _|refine ai ?_|refine ag ?_ _));exact fD.out) hb);have dC:=ah.mk (aT (by repeat (first|(with_reducible first|exact HB.out|apply ak|apply ae|apply aj|refine au ?_ l7.out)|exact HB.out)) hb);clear fD;clear HB;have fD:=dA;have HB:=dC;clear dA dC;(try clear hb);(try clear hb2);(try clear hk);(try clear hi);have PU:w31.cell? ⟨iT,0,none⟩=some (.slice bF aU.length bD):=(ay fD.out 0).trans rfl;have PT:w31.cell? ⟨iT,1,none⟩=some (.string aX):=(ay fD.out 1).trans rfl;have PS:w31.cell? ⟨iT,2,none⟩=some (.string aZ):=(ay fD.out 2).trans rfl;have PR:w31.cell? ⟨iT,3,none⟩=some (.slice bG aI.length bC):=(ay fD.out 3).trans rfl;have Ph:=ax fD.out 0;have Pg:=ax fD.out 1;have Pe:=ax fD.out 2;have O9:=ax fD.out 3)|(go_at_call 23;(with_reducible refine (gI.calls aZ true _ A28.out).mono ?_);rintro e w33 ⟨rfl,hb⟩;have dA:=ah.mk (aQ (g:=iT) (o:=.cells #[.slice bF aU.length bD,.string aX,.string aZ,.slice bG aI.length bC] 25 (0,0)) (by (with_reducible repeat (first|refine af ?_ _|refine ai ?_|refine ag ?_ _));exact fD.out) hb);have dC:=ah.mk (aT (by repeat (first|(with_reducible first|exact HB.out|apply ak|apply ae|apply aj|refine au ?_ l7.out)|exact HB.out)) hb);clear fD;clear HB;have fD:=dA;have HB:=dC;clear dA dC;(try clear hb);(try clear hb2);(try clear hk);(try clear hi);have ZN:w33.cell? ⟨iT,0,none⟩=some (.slice bF aU.length bD):=(ay fD.out 0).trans rfl;have ZM:w33.cell? ⟨iT,1,none⟩=some (.string aX):=(ay fD.out 1).trans rfl;have ZL:w33.cell? ⟨iT,2,none⟩=some (.string aZ):=(ay fD.out 2).trans rfl;have ZK:w33.cell? ⟨iT,3,none⟩=some (.slice bG aI.length bC):=(ay fD.out 3).trans rfl;have YL:=ax fD.out 0;have YK:=ax fD.out 1;have YJ:=ax fD.out 2;have YI:=ax fD.out 3))
                  go_ret
                  exact ⟨by first|rfl|(simp [bY,bW] <;> rfl)|(simp [*,bY,bW] <;> rfl),by repeat (first|(with_reducible first|exact HB.out|apply ak|apply ae|apply aj|refine au ?_ l7.out)|exact HB.out)⟩
                · replace c29:=Bool.eq_false_iff.mpr c29
                  subst c29
                  have H1:(some false)=some r:=by rw [if_neg (show ¬ (false=true) by decide)] at H;exact H
                  clear H
                  have H:=H1
                  clear H1
                  obtain rfl:=Option.some.inj H
                  have PL:wr.cell? ⟨iT,0,none⟩=some (.slice bF aU.length bD):=(ay fD.out 0).trans rfl
                  have PK:wr.cell? ⟨iT,1,none⟩=some (.string aX):=(ay fD.out 1).trans rfl
                  have PI:wr.cell? ⟨iT,2,none⟩=some (.string aZ):=(ay fD.out 2).trans rfl
                  have PH:wr.cell? ⟨iT,3,none⟩=some (.slice bG aI.length bC):=(ay fD.out 3).trans rfl
                  have O4:=ax fD.out 0
                  have O3:=ax fD.out 1
                  have O1:=ax fD.out 2
                  have O0:=ax fD.out 3
                  go_wp2_with (first|((with_reducible refine bV (f:=23) rfl ?_);refine fF (some 35) rfl rfl Tryd.func23 (by kernel_rfl) rfl #[.string aX] rfl (by (try simp only [List.map_toArray,List.map_cons,List.map_nil]);first|done|rfl|(simp only [List.length_drop,List.length_take];rfl)) ?_;(with_reducible refine (gI.calls aX true _ A26.out).mono ?_);rintro e Gt ⟨rfl,hb⟩;refine ⟨_,rfl,?_⟩;have dA:=ah.mk (aQ (g:=iT) (o:=.cells #[.slice bF aU.length bD,.string aX,.string aZ,.slice bG aI.length bC] 25 (0,0)) (by (with_reducible repeat (first|refine af ?_ _|refine ai ?_|refine ag ?_ _));exact fD.out) hb);have dC:=ah.mk (aT (by repeat (first|(with_reducible first|exact HB.out|apply ak|apply ae|apply aj|refine au ?_ l7.out)|exact HB.out)) hb);clear fD;clear HB;have fD:=dA;have HB:=dC;clear dA dC;(try clear hb);(try clear hb2);(try clear hk);(try clear hi);have aoZ:Gt.cell? ⟨iT,0,none⟩=some (.slice bF aU.length bD):=(ay fD.out 0).trans rfl;have aoY:Gt.cell? ⟨iT,1,none⟩=some (.string aX):=(ay fD.out 1).trans rfl;have aoX:Gt.cell? ⟨iT,2,none⟩=some (.string aZ):=(ay fD.out 2).trans rfl;have aoW:Gt.cell? ⟨iT,3,none⟩=some (.slice bG aI.length bC):=(ay fD.out 3).trans rfl;have ant:=ax fD.out 0;have anr:=ax fD.out 1;have anq:=ax fD.out 2;have anp:=ax fD.out 3)|(go_at_call 23;(with_reducible refine (gI.calls aZ false _ A28.out).mono ?_);rintro e MX ⟨rfl,hb⟩;have dA:=ah.mk (aQ (g:=iT) (o:=.cells #[.slice bF aU.length bD,.string aX,.string aZ,.slice bG aI.length bC] 25 (0,0)) (by (with_reducible repeat (first|refine af ?_ _|refine ai ?_|refine ag ?_ _));exact fD.out) hb);have dC:=ah.mk (aT (by repeat (first|(with_reducible first|exact HB.out|apply ak|apply ae|apply aj|refine au ?_ l7.out)|exact HB.out)) hb);clear fD;clear HB;have fD:=dA;have HB:=dC;clear dA dC;(try clear hb);(try clear hb2);(try clear hk);(try clear hi)))
                  go_ret
                  exact ⟨by first|rfl|(simp [bY,bW] <;> rfl)|(simp [*,bY,bW] <;> rfl),by repeat (first|(with_reducible first|exact HB.out|apply ak|apply ae|apply aj|refine au ?_ l7.out)|exact HB.out)⟩
              · replace WT:=Bool.eq_false_iff.mpr WT
                subst WT
                have H1:(some false)=some r:=by rw [if_neg (show ¬ (false=true) by decide)] at H;exact H
                clear H
                have H:=H1
                clear H1
                obtain rfl:=Option.some.inj H
                have PG:wr.cell? ⟨iT,0,none⟩=some (.slice bF aU.length bD):=(ay fD.out 0).trans rfl
                have PE:wr.cell? ⟨iT,1,none⟩=some (.string aX):=(ay fD.out 1).trans rfl
                have PD:wr.cell? ⟨iT,2,none⟩=some (.string aZ):=(ay fD.out 2).trans rfl
                have Pz:wr.cell? ⟨iT,3,none⟩=some (.slice bG aI.length bC):=(ay fD.out 3).trans rfl
                have OZ:=ax fD.out 0
                have OY:=ax fD.out 1
                have OX:=ax fD.out 2
                have OW:=ax fD.out 3
                go_wp2_with (first|((with_reducible refine bV (f:=23) rfl ?_);refine fF (some 35) rfl rfl Tryd.func23 (by kernel_rfl) rfl #[.string aX] rfl (by (try simp only [List.map_toArray,List.map_cons,List.map_nil]);first|done|rfl|(simp only [List.length_drop,List.length_take];rfl)) ?_;(with_reducible refine (gI.calls aX false _ A26.out).mono ?_);rintro e w40 ⟨rfl,hb⟩;refine ⟨_,rfl,?_⟩;have dA:=ah.mk (aQ (g:=iT) (o:=.cells #[.slice bF aU.length bD,.string aX,.string aZ,.slice bG aI.length bC] 25 (0,0)) (by (with_reducible repeat (first|refine af ?_ _|refine ai ?_|refine ag ?_ _));exact fD.out) hb);have dC:=ah.mk (aT (by repeat (first|(with_reducible first|exact HB.out|apply ak|apply ae|apply aj|refine au ?_ l7.out)|exact HB.out)) hb);clear fD;clear HB;have fD:=dA;have HB:=dC;clear dA dC;(try clear hb);(try clear hb2);(try clear hk);(try clear hi)))
                go_ret
                exact ⟨by first|rfl|(simp [bY,bW] <;> rfl)|(simp [*,bY,bW] <;> rfl),by repeat (first|(with_reducible first|exact HB.out|apply ak|apply ae|apply aj|refine au ?_ l7.out)|exact HB.out)⟩
def lY.f (a0:ByteArray):Option (ByteArray):=if a0.toList=([]:List UInt8) then (some (⟨#[45]⟩:ByteArray)) else (some a0)
set_option maxHeartbeats 8000000 in
set_option maxRecDepth 100000 in
theorem lY.calls (a0:ByteArray) (r:ByteArray) (w:World) (h:lY.f a0=some r) :
    Calls Tryd.prog 13 #[.string a0] w fun e w'=>e=.returned (.string r)∧kJ w w':=by
  have H:(if a0.toList=([]:List UInt8) then (some (⟨#[45]⟩:ByteArray)) else (some a0))=some r:=h
  clear h
  by_cases c2:a0.toList=([]:List UInt8)
  · rw [if_pos c2] at H
    have JQ:(a0.toList == ([]:List UInt8))=true:=beq_iff_eq.mpr c2
    have JP:(a0.toList != ([]:List UInt8))=false:=bne_eq_false_iff_eq.mpr c2
    clear c2
    obtain rfl:=Option.some.inj H
    go_enter Tryd.func13,Tryd.ntmps13
    go_wp2
    go_ret
    exact ⟨by first|rfl|(simp;done)|(simp [*];done),by repeat (first|exact kJ.refl _|apply kJ.step)⟩
  · rw [if_neg c2] at H
    have JQ:(a0.toList == ([]:List UInt8))=false:=beq_eq_false_iff_ne.mpr c2
    have JP:(a0.toList != ([]:List UInt8))=true:=bne_iff_ne.mpr c2
    obtain rfl:=Option.some.inj H
    go_enter Tryd.func13,Tryd.ntmps13
    go_wp2
    go_ret
    exact ⟨by first|rfl|(simp;done)|(simp [*];done),by repeat (first|exact kJ.refl _|apply kJ.step)⟩
end Go.Proofs.YtkclndkbccbhaaaDoor.P
end
