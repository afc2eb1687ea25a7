/- Parts of the proof of Both: what the functions that it reaches compute, and plain facts about that. -/
import Derived.Test.YtkclndkbccbhaaaDoorQac
import Derived.Test.YtkclndkbccbhaaaDoorQad
import Derived.Test.YtkclndkbccbhaaaDoorQaf
import Derived.Test.YtkclndkbccbhaaaDoorQag
import Derived.Test.YtkclndkbccbhaaaDoorQaj
import Derived.Test.YtkclndkbccbhaaaDoorQal
import Derived.Test.YtkclndkbccbhaaaDoorQam
import Derived.Test.YtkclndkbccbhaaaDoorCards
import Derived.Test.YtkclndkbccbhaaaDoorQak
import Derived.Test.YtkclndkbccbhaaaDoorQah
set_option linter.unusedVariables false
set_option linter.unusedSimpArgs false
section
namespace Go.Proofs.YtkclndkbccbhaaaDoor.P
open Go.RowKit Go.Proofs.az.dw Go.Proofs.az.gB Go.Proofs.az.gX
attribute [local go_sem] pW pU su rZ oh nZ pV pR
def bQ.l0:Nat→Bool→List (jo)→Int→Int→List ByteArray→ByteArray→ByteArray→List (jo)→Option (Bool)
  | 0,_,_,_,_,_,_,_,_=>none
  | k+1,x3,x21,x22,J5,DJ,DI,DF,Ht=>if J5 < x22 then (if 0≤J5 then (if J5 < (x21.length:Int) then (if x3=true then ((gu.f ((bf x21 J5).f0) ((bf x21 J5).f1) ((bf x21 J5).f2) ((bf x21 J5).f3) ((bf x21 J5).f4)).bind fun MZ=>(bQ.l0 k MZ x21 x22 (wrap64 (J5+1)) DJ DI DF Ht)) else (bQ.l0 k false x21 x22 (wrap64 (J5+1)) DJ DI DF Ht)) else (none)) else (none)) else ((bH.f k DJ DI DF Ht).bind fun Md=>((bH.f k DJ DI DF ([]:List (jo))).bind fun Mc=>(if x3=true then (some ((Md.2 == 0) == (Mc.2 == 0))) else (some ((Md.2 == 0) == false)))))
def bQ.f (k:Nat) (aU:List ByteArray) (aX:ByteArray) (aZ:ByteArray) (aI:List (jo)):Option (Bool):=(di.f k).bind fun Qz=>(if Qz=true then ((bK.f k aU aX aZ aI).bind fun Gj=>(if Gj=true then (bQ.l0 k (decide ((aI.length:Int)≤200)) aI (aI.length:Int) 0 aU aX aZ aI) else (some true))) else (some false))
theorem bQ.lX:∀ k,(∀ y0 y1 y2 y3 y4 y5 y6 y7,iw (bQ.l0 k y0 y1 y2 y3 y4 y5 y6 y7) (bQ.l0 (k+1) y0 y1 y2 y3 y4 y5 y6 y7))
  | 0=>fun _ _ _ _ _ _ _ _ r h=>by simp [bQ.l0] at h
  | k+1=>by
    have qW:=bQ.lX k
    · intro y0 y1 y2 y3 y4 y5 y6 y7
      unfold bQ.l0
      repeat' first
      | (with_reducible exact qW _ _ _ _ _ _ _ _)
      | (with_reducible exact bH.mono _ _ _ _ _)
      | (with_reducible exact bK.mono _ _ _ _ _)
      | (with_reducible exact di.mono _)
      | (with_reducible exact iw.refl _)
      | (with_reducible exact iw.none _)
      | (with_reducible refine iw.ite ?_ ?_)
      | (with_reducible refine iw.bind ?_ (fun _=>?_))
      | exact qW _ _ _ _ _ _ _ _
      | exact bH.mono _ _ _ _ _
      | exact bK.mono _ _ _ _ _
      | exact di.mono _
      | exact iw.none _
      | refine iw.ite ?_ ?_
      | refine iw.bind ?_ (fun _=>?_)
theorem bQ.mono:∀ a0 a1 a2 a3 k,iw (bQ.f k a0 a1 a2 a3) (bQ.f (k+1) a0 a1 a2 a3):=by
  intro a0 a1 a2 a3 k
  have qW:=bQ.lX k
  unfold bQ.f
  repeat' first
      | (with_reducible exact qW _ _ _ _ _ _ _ _)
      | (with_reducible exact bH.mono _ _ _ _ _)
      | (with_reducible exact bK.mono _ _ _ _ _)
      | (with_reducible exact di.mono _)
      | (with_reducible exact iw.refl _)
      | (with_reducible exact iw.none _)
      | (with_reducible refine iw.ite ?_ ?_)
      | (with_reducible refine iw.bind ?_ (fun _=>?_))
      | exact qW _ _ _ _ _ _ _ _
      | exact bH.mono _ _ _ _ _
      | exact bK.mono _ _ _ _ _
      | exact di.mono _
      | exact iw.none _
      | refine iw.ite ?_ ?_
      | refine iw.bind ?_ (fun _=>?_)
set_option maxHeartbeats 8000000 in
set_option maxRecDepth 100000 in
theorem bQ.calls (k:Nat) (bF:Option Addr) (bD:Nat) (aU:List ByteArray) (aX:ByteArray) (aZ:ByteArray) (bG:Option Addr) (bC:Nat) (aI:List (jo)) (r:Bool) (w:World) (qY:Kd.C Kd.string w bF aU.length aU) (rq:aU.length≤bD) (qX:Kd.C qV w bG aI.length aI) (rf:aI.length≤bC) (kP:Kd.C xu w xw mX.length mX) (h:bQ.f k aU aX aZ aI=some r) :
    Calls Tryd.prog 5 #[.agg #[.slice bF aU.length bD,.string aX,.string aZ,.slice bG aI.length bC]] w fun e w'=>e=.returned (.bool r)∧Below w.heap.size w w':=by
  have QO:=Tryd.underlying25
  have XP:=Tryd.underlying35
  have lL:=ah.mk qY
  have oz:=ah.mk rq
  clear qY rq
  have lK:=ah.mk qX
  have ou:=ah.mk rf
  clear qX rf
  have mM:=ah.mk kP
  clear kP
  have HB:=ah.mk (Below.refl w.heap.size w)
  have H:((di.f k).bind fun Qz=>(if Qz=true then ((bK.f k aU aX aZ aI).bind fun Gj=>(if Gj=true then (bQ.l0 k (decide ((aI.length:Int)≤200)) aI (aI.length:Int) 0 aU aX aZ aI) else (some true))) else (some false)))=some r:=h
  clear h
  replace H:=Option.bind_eq_some_iff.mp H
  obtain ⟨Qz,WO,H⟩:=H
  replace H:(if Qz=true then ((bK.f k aU aX aZ aI).bind fun Gj=>(if Gj=true then (bQ.l0 k (decide ((aI.length:Int)≤200)) aI (aI.length:Int) 0 aU aX aZ aI) else (some true))) else (some false))=some r:=H
  have A2:=ah.mk WO
  clear WO
  by_cases c3:Qz=true
  · subst c3
    have H1:((bK.f k aU aX aZ aI).bind fun Gj=>(if Gj=true then (bQ.l0 k (decide ((aI.length:Int)≤200)) aI (aI.length:Int) 0 aU aX aZ aI) else (some true)))=some r:=by rw [if_pos rfl] at H;exact H
    clear H
    have H:=H1
    clear H1
    replace H:=Option.bind_eq_some_iff.mp H
    obtain ⟨Gj,A40,H⟩:=H
    replace H:(if Gj=true then (bQ.l0 k (decide ((aI.length:Int)≤200)) aI (aI.length:Int) 0 aU aX aZ aI) else (some true))=some r:=H
    have A4:=ah.mk A40
    clear A40
    by_cases c5:Gj=true
    · subst c5
      have H1:(bQ.l0 k (decide ((aI.length:Int)≤200)) aI (aI.length:Int) 0 aU aX aZ aI)=some r:=by rw [if_pos rfl] at H;exact H
      clear H
      have H:=H1
      clear H1
      have H':=ah.mk H
      clear H
      go_enter Tryd.func5,Tryd.ntmps5
      go_wp2_with (first|((with_reducible refine dL (N:=1) rfl ?_);refine dO ?hg (N:=1) ?hd (cs:=#[.slice bF aU.length bD,.string aX,.string aZ,.slice bG aI.length bC]) (t:=25) ?hr ?_;(case hd=>rfl);(case hg=>rfl);(case hr=>first|(go_simp;done)|(go_simp;rfl));intro gU hg w6 hbox hb;have dA:=ah.mk (aT (by repeat (first|(with_reducible first|exact HB.out|apply ak|apply ae|apply aj)|exact HB.out)) hb);have dC:=ah.mk (hbox);have dP:=ah.mk ((by rw [hg];exact (aA (by repeat (first|(with_reducible first|exact HB.out|apply ak|apply ae|apply aj)|exact HB.out))):w.heap.size≤gU));have eF:=ah.mk ((by rw [hg];exact (aA (by repeat (first|(with_reducible first|exact HB.out|apply ak|apply ae|apply aj)|exact HB.out))):w.heap.size≤gU));clear HB;have HB:=dA;have eY:=dC;have abA:=dP;have jX:=eF;clear dA dC dP eF;clear hb hbox hg)|((with_reducible refine bV (f:=6) rfl ?_);refine fF (some 11) rfl rfl Tryd.func6 (by kernel_rfl) rfl #[] rfl (by (try simp only [List.map_toArray,List.map_cons,List.map_nil]);first|done|rfl|(simp only [List.length_drop,List.length_take];rfl)) ?_;(with_reducible refine (di.calls k  true _ ?dN A2.out).mono ?_);(case dN=>repeat (first|exact (Kd.dB mM.out HB.out)|(with_reducible refine Kd.fJ ?_ _)|(with_reducible refine Kd.fH ?_ _)|(with_reducible refine Kd.gG ?_)));rintro e w7 ⟨rfl,hb⟩;refine ⟨_,rfl,?_⟩;have dA:=ah.mk (aQ (g:=gU) (o:=.cells #[.slice bF aU.length bD,.string aX,.string aZ,.slice bG aI.length bC] 25 (0,0)) (by (with_reducible repeat (first|refine af ?_ _|refine ai ?_|refine ag ?_ _));exact eY.out) hb);have dC:=ah.mk (aT (by repeat (first|(with_reducible first|exact HB.out|apply ak|apply ae|apply aj|refine au ?_ jX.out)|exact HB.out)) hb);clear eY;clear HB;have eY:=dA;have HB:=dC;clear dA dC;(try clear hb);(try clear hb2);(try clear hk);(try clear hi);have Uy:w7.cell? ⟨gU,0,none⟩=some (.slice bF aU.length bD):=(ay eY.out 0).trans rfl;have Ux:w7.cell? ⟨gU,1,none⟩=some (.string aX):=(ay eY.out 1).trans rfl;have Uw:w7.cell? ⟨gU,2,none⟩=some (.string aZ):=(ay eY.out 2).trans rfl;have Uu:w7.cell? ⟨gU,3,none⟩=some (.slice bG aI.length bC):=(ay eY.out 3).trans rfl;have TS:=ax eY.out 0;have TR:=ax eY.out 1;have TQ:=ax eY.out 2;have TP:=ax eY.out 3)|((with_reducible refine bV (f:=7) rfl ?_);refine fF (some 14) rfl rfl Tryd.func7 (by kernel_rfl) rfl #[.agg #[.slice bF aU.length bD,.string aX,.string aZ,.slice bG aI.length bC]] rfl (by (try simp only [List.map_toArray,List.map_cons,List.map_nil]);first|done|rfl|(simp only [List.length_drop,List.length_take];rfl)) ?_;(with_reducible refine (bK.calls k _ _ aU aX aZ _ _ aI true _ ?dN ?iR ?iZ ?iY A4.out).mono ?_);(case dN=>repeat (first|exact (Kd.dB lL.out HB.out)|(with_reducible refine Kd.fJ ?_ _)|(with_reducible refine Kd.fH ?_ _)|(with_reducible refine Kd.gG ?_)));(case iR=>exact oz.out);(case iZ=>repeat (first|exact (Kd.dB lK.out HB.out)|(with_reducible refine Kd.fJ ?_ _)|(with_reducible refine Kd.fH ?_ _)|(with_reducible refine Kd.gG ?_)));(case iY=>exact ou.out);rintro e w9 ⟨rfl,hb⟩;refine ⟨_,rfl,?_⟩;have dA:=ah.mk (aQ (g:=gU) (o:=.cells #[.slice bF aU.length bD,.string aX,.string aZ,.slice bG aI.length bC] 25 (0,0)) (by (with_reducible repeat (first|refine af ?_ _|refine ai ?_|refine ag ?_ _));exact eY.out) hb);have dC:=ah.mk (aT (by repeat (first|(with_reducible first|exact HB.out|apply ak|apply ae|apply aj|refine au ?_ jX.out)|exact HB.out)) hb);clear eY;clear HB;have eY:=dA;have HB:=dC;clear dA dC;(try clear hb);(try clear hb2);(try clear hk);(try clear hi);have uI:w9.cell? ⟨gU,0,none⟩=some (.slice bF aU.length bD):=(ay eY.out 0).trans rfl;have uH:w9.cell? ⟨gU,1,none⟩=some (.string aX):=(ay eY.out 1).trans rfl;have uG:w9.cell? ⟨gU,2,none⟩=some (.string aZ):=(ay eY.out 2).trans rfl;have uF:w9.cell? ⟨gU,3,none⟩=some (.slice bG aI.length bC):=(ay eY.out 3).trans rfl;have uD:=ax eY.out 0;have uC:=ax eY.out 1;have uB:=ax eY.out 2;have uA:=ax eY.out 3))
      go_loopg [3,23] k (fun kq v3 v23 w'=>∃ (zK:Bool) (ji:Int),v3=.bool zK∧v23=.int .i64 ji∧ah (bQ.l0 kq zK aI (aI.length:Int) ji aU aX aZ aI=some r)∧ah (kq≤k)∧ah (w'.heap[gU]? = some (.cells #[(.slice bF aU.length bD),.string aX,.string aZ,(.slice bG aI.length bC)] 25 (0,0)))∧ah (Below w.heap.size w w'))
      case atStart=>exact ⟨(decide ((aI.length:Int)≤200)),(0),(by first|rfl|(simp;done)|(simp [*];done)),(by first|rfl|(simp;done)|(simp [*];done)),H',⟨Nat.le_refl _⟩,⟨by (with_reducible repeat (first|refine af ?_ _|refine ai ?_|refine ag ?_ _));exact eY.out⟩,⟨by repeat (first|(with_reducible first|exact HB.out|apply ak|apply ae|apply aj|refine au ?_ jX.out)|exact HB.out)⟩⟩
      case round =>
        clear H'
        try clear p2
        try clear c3
        try clear c5
        try clear c6
        try clear c7
        try clear uI
        try clear uH
        try clear uG
        try clear uF
        try clear Uy
        try clear Ux
        try clear Uw
        try clear Uu
        try clear uD
        try clear uC
        try clear uB
        try clear uA
        try clear TS
        try clear TR
        try clear TQ
        try clear TP
        obtain ⟨zK,ji,rfl,rfl,HA,CY,eY,HB⟩:=hrel
        cases gk with
        | zero=>exact absurd HA.out (by simp [bQ.l0])
        | succ k1 =>
          have H:=HA.out
          clear HA
          simp only [bQ.l0] at H
          by_cases c11:ji < (aI.length:Int)
          · rw [if_pos c11] at H
            have VR:decide (ji < (aI.length:Int))=true:=decide_eq_true c11
            clear c11
            by_cases c12:0≤ji
            · rw [if_pos c12] at H
              have abo:decide (0≤ji)=true:=decide_eq_true c12
              clear c12
              by_cases c13:ji < (aI.length:Int)
              · rw [if_pos c13] at H
                have abn:decide (ji < (aI.length:Int))=true:=decide_eq_true c13
                clear c13
                by_cases c14:zK=true
                · subst c14
                  have H1:((gu.f ((bf aI ji).f0) ((bf aI ji).f1) ((bf aI ji).f2) ((bf aI ji).f3) ((bf aI ji).f4)).bind fun MZ=>(bQ.l0 k1 MZ aI (aI.length:Int) (wrap64 (ji+1)) aU aX aZ aI))=some r:=by rw [if_pos rfl] at H;exact H
                  clear H
                  have H:=H1
                  clear H1
                  replace H:=Option.bind_eq_some_iff.mp H
                  obtain ⟨MZ,WR,H⟩:=H
                  replace H:(bQ.l0 k1 MZ aI (aI.length:Int) (wrap64 (ji+1)) aU aX aZ aI)=some r:=H
                  have A15:=ah.mk WR
                  clear WR
                  have H':=ah.mk H
                  clear H
                  have NC:0≤(ji:Int):=of_decide_eq_true (by first|(with_reducible assumption)|assumption)
                  have Nr:ji < (aI.length:Int):=of_decide_eq_true (by first|(with_reducible assumption)|assumption)
                  obtain ⟨CV,e297,wH,wG,wF,wE,wC⟩:=ny lK.out ji NC Nr
                  cases e297
                  replace wH:=(HB.out.cell (World.block_lt_of_cell? w _ wH)).trans wH
                  replace wG:=(HB.out.cell (World.block_lt_of_cell? w _ wG)).trans wG
                  replace wF:=(HB.out.cell (World.block_lt_of_cell? w _ wF)).trans wF
                  replace wE:=(HB.out.cell (World.block_lt_of_cell? w _ wE)).trans wE
                  replace wC:=(HB.out.cell (World.block_lt_of_cell? w _ wC)).trans wC
                  replace NC:=eq_true NC
                  replace Nr:=eq_true Nr
                  go_wp2_with (first|((with_reducible refine dL (N:=5) rfl ?_);refine dO ?hg (N:=5) ?hd (cs:=#[.int .u8 0,.int .u8 0,.int .u8 0,.int .u8 0,.int .i64 0]) (t:=35) ?hr ?_;(case hd=>rfl);(case hg=>rfl);(case hr=>first|(go_simp;done)|(go_simp;rfl));intro pg hg w16 hbox hb;have dA:=ah.mk (aQ (g:=gU) (o:=.cells #[.slice bF aU.length bD,.string aX,.string aZ,.slice (some CV) aI.length bC] 25 (0,0)) (by (with_reducible repeat (first|refine af ?_ _|refine ai ?_|refine ag ?_ _));exact eY.out) hb);have dC:=ah.mk (aT (by repeat (first|(with_reducible first|exact HB.out|apply ak|apply ae|apply aj|refine au ?_ jX.out)|exact HB.out)) hb);have dP:=ah.mk (hbox);have eF:=ah.mk ((by rw [hg];exact (aA (by repeat (first|(with_reducible first|exact HB.out|apply ak|apply ae|apply aj|refine au ?_ jX.out)|exact HB.out))):w.heap.size≤pg));have fK:=ah.mk ((by rw [hg];exact (aA (by repeat (first|(with_reducible first|exact HB.out|apply ak|apply ae|apply aj|refine au ?_ jX.out)|exact HB.out))):w.heap.size≤pg));have fQ:=ah.mk ((by rw [hg];exact Nat.ne_of_lt (dm (g:=gU) (o:=.cells #[.slice bF aU.length bD,.string aX,.string aZ,.slice (some CV) aI.length bC] 25 (0,0)) (by (with_reducible repeat (first|refine af ?_ _|refine ai ?_|refine ag ?_ _));exact eY.out)):gU ≠ pg));have iF:=ah.mk ((by rw [hg];exact Nat.ne_of_gt (dm (g:=gU) (o:=.cells #[.slice bF aU.length bD,.string aX,.string aZ,.slice (some CV) aI.length bC] 25 (0,0)) (by (with_reducible repeat (first|refine af ?_ _|refine ai ?_|refine ag ?_ _));exact eY.out)):pg ≠ gU));clear eY;clear HB;have eY:=dA;have HB:=dC;have nH:=dP;have alz:=eF;have MP:=fK;have kZ:=fQ;have BU:=iF;clear dA dC dP eF fK fQ iF;clear hb hbox hg;have atr:=BU.out;have asW:=kZ.out;have apf:w16.cell? ⟨pg,0,none⟩=some (.int .u8 0):=(ay nH.out 0).trans rfl;have ape:w16.cell? ⟨pg,1,none⟩=some (.int .u8 0):=(ay nH.out 1).trans rfl;have apd:w16.cell? ⟨pg,2,none⟩=some (.int .u8 0):=(ay nH.out 2).trans rfl;have apc:w16.cell? ⟨pg,3,none⟩=some (.int .u8 0):=(ay nH.out 3).trans rfl;have apb:w16.cell? ⟨pg,4,none⟩=some (.int .i64 0):=(ay nH.out 4).trans rfl;have anK:=ax nH.out 0;have anJ:=ax nH.out 1;have anI:=ax nH.out 2;have anH:=ax nH.out 3;have anG:=ax nH.out 4)|(go_at_call 11;(with_reducible refine (gu.calls ((bf aI ji).f0) ((bf aI ji).f1) ((bf aI ji).f2) ((bf aI ji).f3) ((bf aI ji).f4) MZ _ ?dN A15.out).mono ?_);(case dN=>exact Kd.dB mM.out (by repeat (first|(with_reducible first|exact HB.out|apply ak|apply ae|apply aj|refine au ?_ jX.out|refine au ?_ MP.out)|exact HB.out)));rintro e w19 ⟨rfl,hb⟩;have dA:=ah.mk (aQ (g:=gU) (o:=.cells #[.slice bF aU.length bD,.string aX,.string aZ,.slice (some CV) aI.length bC] 25 (0,0)) (by (with_reducible repeat (first|refine af ?_ _|refine ai ?_|refine ag ?_ _));refine aK ?_ kZ.out _;(with_reducible repeat (first|refine af ?_ _|refine ai ?_|refine ag ?_ _));refine aK ?_ kZ.out _;(with_reducible repeat (first|refine af ?_ _|refine ai ?_|refine ag ?_ _));refine aK ?_ kZ.out _;(with_reducible repeat (first|refine af ?_ _|refine ai ?_|refine ag ?_ _));refine aK ?_ kZ.out _;(with_reducible repeat (first|refine af ?_ _|refine ai ?_|refine ag ?_ _));refine aK ?_ kZ.out _;(with_reducible repeat (first|refine af ?_ _|refine ai ?_|refine ag ?_ _));exact eY.out) hb);have dC:=ah.mk (aQ (g:=pg) (o:=.cells #[.int .u8 ((bf aI ji).f0),.int .u8 ((bf aI ji).f1),.int .u8 ((bf aI ji).f2),.int .u8 ((bf aI ji).f3),.int .i64 ((bf aI ji).f4)] 35 (0,0)) (by (with_reducible repeat (first|refine af ?_ _|refine ai ?_|refine ag ?_ _));refine aW (cs:=#[.int .u8 ((bf aI ji).f0),.int .u8 ((bf aI ji).f1),.int .u8 ((bf aI ji).f2),.int .u8 ((bf aI ji).f3),.int .i64 0]) ?_ 4 _ rfl;(with_reducible repeat (first|refine af ?_ _|refine ai ?_|refine ag ?_ _));refine aW (cs:=#[.int .u8 ((bf aI ji).f0),.int .u8 ((bf aI ji).f1),.int .u8 ((bf aI ji).f2),.int .u8 0,.int .i64 0]) ?_ 3 _ rfl;(with_reducible repeat (first|refine af ?_ _|refine ai ?_|refine ag ?_ _));refine aW (cs:=#[.int .u8 ((bf aI ji).f0),.int .u8 ((bf aI ji).f1),.int .u8 0,.int .u8 0,.int .i64 0]) ?_ 2 _ rfl;(with_reducible repeat (first|refine af ?_ _|refine ai ?_|refine ag ?_ _));refine aW (cs:=#[.int .u8 ((bf aI ji).f0),.int .u8 0,.int .u8 0,.int .u8 0,.int .i64 0]) ?_ 1 _ rfl;(with_reducible repeat (first|refine af ?_ _|refine ai ?_|refine ag ?_ _));refine aW (cs:=#[.int .u8 0,.int .u8 0,.int .u8 0,.int .u8 0,.int .i64 0]) ?_ 0 _ rfl;(with_reducible repeat (first|refine af ?_ _|refine ai ?_|refine ag ?_ _));exact nH.out) hb);have dP:=ah.mk (aT (by repeat (first|(with_reducible first|exact HB.out|apply ak|apply ae|apply aj|refine au ?_ jX.out|refine au ?_ MP.out)|exact HB.out)) hb);clear eY;clear nH;clear HB;have eY:=dA;have nH:=dC;have HB:=dP;clear dA dC dP;(try clear hb);(try clear hb2);(try clear hk);(try clear hi)))
                  go_roundg k1
                  case measure=>have:=CY.out;omega
                  case rel=>exact ⟨(MZ),(wrap64 (ji+1)),(by first|rfl|(simp;done)|(simp [*];done)),(by first|rfl|(simp;done)|(simp [*];done)),H',⟨by have:=CY.out;omega⟩,⟨by (with_reducible repeat (first|refine af ?_ _|refine ai ?_|refine ag ?_ _));exact eY.out⟩,⟨by repeat (first|(with_reducible first|exact HB.out|apply ak|apply ae|apply aj|refine au ?_ jX.out|refine au ?_ MP.out)|exact HB.out)⟩⟩
                · replace c14:=Bool.eq_false_iff.mpr c14
                  subst c14
                  have H1:(bQ.l0 k1 false aI (aI.length:Int) (wrap64 (ji+1)) aU aX aZ aI)=some r:=by rw [if_neg (show ¬ (false=true) by decide)] at H;exact H
                  clear H
                  have H:=H1
                  clear H1
                  have H':=ah.mk H
                  clear H
                  have NC:0≤(ji:Int):=of_decide_eq_true (by first|(with_reducible assumption)|assumption)
                  have Nr:ji < (aI.length:Int):=of_decide_eq_true (by first|(with_reducible assumption)|assumption)
                  obtain ⟨CV,e297,wH,wG,wF,wE,wC⟩:=ny lK.out ji NC Nr
                  cases e297
                  replace wH:=(HB.out.cell (World.block_lt_of_cell? w _ wH)).trans wH
                  replace wG:=(HB.out.cell (World.block_lt_of_cell? w _ wG)).trans wG
                  replace wF:=(HB.out.cell (World.block_lt_of_cell? w _ wF)).trans wF
                  replace wE:=(HB.out.cell (World.block_lt_of_cell? w _ wE)).trans wE
                  replace wC:=(HB.out.cell (World.block_lt_of_cell? w _ wC)).trans wC
                  replace NC:=eq_true NC
                  replace Nr:=eq_true Nr
                  go_wp2_with (first|((with_reducible refine dL (N:=5) rfl ?_);refine dO ?hg (N:=5) ?hd (cs:=#[.int .u8 0,.int .u8 0,.int .u8 0,.int .u8 0,.int .i64 0]) (t:=35) ?hr ?_;(case hd=>rfl);(case hg=>rfl);(case hr=>first|(go_simp;done)|(go_simp;rfl));intro pg hg w20 hbox hb;have dA:=ah.mk (aQ (g:=gU) (o:=.cells #[.slice bF aU.length bD,.string aX,.string aZ,.slice (some CV) aI.length bC] 25 (0,0)) (by (with_reducible repeat (first|refine af ?_ _|refine ai ?_|refine ag ?_ _));exact eY.out) hb);have dC:=ah.mk (aT (by repeat (first|(with_reducible first|exact HB.out|apply ak|apply ae|apply aj|refine au ?_ jX.out)|exact HB.out)) hb);have dP:=ah.mk (hbox);have eF:=ah.mk ((by rw [hg];exact (aA (by repeat (first|(with_reducible first|exact HB.out|apply ak|apply ae|apply aj|refine au ?_ jX.out)|exact HB.out))):w.heap.size≤pg));have fK:=ah.mk ((by rw [hg];exact (aA (by repeat (first|(with_reducible first|exact HB.out|apply ak|apply ae|apply aj|refine au ?_ jX.out)|exact HB.out))):w.heap.size≤pg));have fQ:=ah.mk ((by rw [hg];exact Nat.ne_of_lt (dm (g:=gU) (o:=.cells #[.slice bF aU.length bD,.string aX,.string aZ,.slice (some CV) aI.length bC] 25 (0,0)) (by (with_reducible repeat (first|refine af ?_ _|refine ai ?_|refine ag ?_ _));exact eY.out)):gU ≠ pg));have iF:=ah.mk ((by rw [hg];exact Nat.ne_of_gt (dm (g:=gU) (o:=.cells #[.slice bF aU.length bD,.string aX,.string aZ,.slice (some CV) aI.length bC] 25 (0,0)) (by (with_reducible repeat (first|refine af ?_ _|refine ai ?_|refine ag ?_ _));exact eY.out)):pg ≠ gU));clear eY;clear HB;have eY:=dA;have HB:=dC;have nH:=dP;have alz:=eF;have MP:=fK;have kZ:=fQ;have BU:=iF;clear dA dC dP eF fK fQ iF;clear hb hbox hg;have ato:=BU.out;have asT:=kZ.out;have ao9:w20.cell? ⟨pg,0,none⟩=some (.int .u8 0):=(ay nH.out 0).trans rfl;have ao8:w20.cell? ⟨pg,1,none⟩=some (.int .u8 0):=(ay nH.out 1).trans rfl;have ao7:w20.cell? ⟨pg,2,none⟩=some (.int .u8 0):=(ay nH.out 2).trans rfl;have ao6:w20.cell? ⟨pg,3,none⟩=some (.int .u8 0):=(ay nH.out 3).trans rfl;have ao5:w20.cell? ⟨pg,4,none⟩=some (.int .i64 0):=(ay nH.out 4).trans rfl;have anE:=ax nH.out 0;have anD:=ax nH.out 1;have anC:=ax nH.out 2;have anB:=ax nH.out 3;have anA:=ax nH.out 4))
                  go_roundg k1
                  case measure=>have:=CY.out;omega
                  case rel=>exact ⟨(false),(wrap64 (ji+1)),(by first|rfl|(simp;done)|(simp [*];done)),(by first|rfl|(simp;done)|(simp [*];done)),H',⟨by have:=CY.out;omega⟩,⟨by (with_reducible repeat (first|refine af ?_ _|refine ai ?_|refine ag ?_ _));refine aK ?_ kZ.out _;(with_reducible repeat (first|refine af ?_ _|refine ai ?_|refine ag ?_ _));refine aK ?_ kZ.out _;(with_reducible repeat (first|refine af ?_ _|refine ai ?_|refine ag ?_ _));refine aK ?_ kZ.out _;(with_reducible repeat (first|refine af ?_ _|refine ai ?_|refine ag ?_ _));refine aK ?_ kZ.out _;(with_reducible repeat (first|refine af ?_ _|refine ai ?_|refine ag ?_ _));refine aK ?_ kZ.out _;(with_reducible repeat (first|refine af ?_ _|refine ai ?_|refine ag ?_ _));exact eY.out⟩,⟨by repeat (first|(with_reducible first|exact HB.out|apply ak|apply ae|apply aj|refine au ?_ jX.out|refine au ?_ MP.out)|exact HB.out)⟩⟩
              · rw [if_neg c13] at H
                exact absurd H (by simp)
            · rw [if_neg c12] at H
              exact absurd H (by simp)
          · rw [if_neg c11] at H
            have VR:decide (ji < (aI.length:Int))=false:=decide_eq_false c11
            clear c11
            replace H:=Option.bind_eq_some_iff.mp H
            obtain ⟨⟨adw,Kw⟩,alP,H⟩:=H
            replace H:((bH.f k1 aU aX aZ ([]:List (jo))).bind fun Mc=>(if zK=true then (some ((Kw == 0) == (Mc.2 == 0))) else (some ((Kw == 0) == false))))=some r:=H
            have A23:=ah.mk alP
            clear alP
            replace H:=Option.bind_eq_some_iff.mp H
            obtain ⟨⟨adv,Xk⟩,alO,H⟩:=H
            replace H:(if zK=true then (some ((Kw == 0) == (Xk == 0))) else (some ((Kw == 0) == false)))=some r:=H
            have A24:=ah.mk alO
            clear alO
            by_cases c25:zK=true
            · subst c25
              have H1:(some ((Kw == 0) == (Xk == 0)))=some r:=by rw [if_pos rfl] at H;exact H
              clear H
              have H:=H1
              clear H1
              obtain rfl:=Option.some.inj H
              have ZW:wr.cell? ⟨gU,0,none⟩=some (.slice bF aU.length bD):=(ay eY.out 0).trans rfl
              have ZV:wr.cell? ⟨gU,1,none⟩=some (.string aX):=(ay eY.out 1).trans rfl
              have ZU:wr.cell? ⟨gU,2,none⟩=some (.string aZ):=(ay eY.out 2).trans rfl
              have ZT:wr.cell? ⟨gU,3,none⟩=some (.slice bG aI.length bC):=(ay eY.out 3).trans rfl
              have YT:=ax eY.out 0
              have YS:=ax eY.out 1
              have YR:=ax eY.out 2
              have YQ:=ax eY.out 3
              go_wp2_with (first|((with_reducible refine bV (f:=8) rfl ?_);refine fF (some 35) rfl rfl Tryd.func8 (by kernel_rfl) rfl #[.agg #[.slice bF aU.length bD,.string aX,.string aZ,.slice bG aI.length bC]] rfl (by (try simp only [List.map_toArray,List.map_cons,List.map_nil]);first|done|rfl|(simp only [List.length_drop,List.length_take];rfl)) ?_;(with_reducible refine (bH.calls k1 _ _ aU aX aZ _ _ aI adw Kw _ ?dN ?iR ?iZ ?iY ?jD A23.out).mono ?_);(case dN=>repeat (first|exact (Kd.dB lL.out HB.out)|(with_reducible refine Kd.fJ ?_ _)|(with_reducible refine Kd.fH ?_ _)|(with_reducible refine Kd.gG ?_)));(case iR=>exact oz.out);(case iZ=>repeat (first|exact (Kd.dB lK.out HB.out)|(with_reducible refine Kd.fJ ?_ _)|(with_reducible refine Kd.fH ?_ _)|(with_reducible refine Kd.gG ?_)));(case iY=>exact ou.out);(case jD=>repeat (first|exact (Kd.dB mM.out HB.out)|(with_reducible refine Kd.fJ ?_ _)|(with_reducible refine Kd.fH ?_ _)|(with_reducible refine Kd.gG ?_)));rintro e w27 ⟨rfl,hb⟩;refine ⟨_,rfl,?_⟩;have dA:=ah.mk (aQ (g:=gU) (o:=.cells #[.slice bF aU.length bD,.string aX,.string aZ,.slice bG aI.length bC] 25 (0,0)) (by (with_reducible repeat (first|refine af ?_ _|refine ai ?_|refine ag ?_ _));exact eY.out) hb);have dC:=ah.mk (aT (by repeat (first|(with_reducible first|exact HB.out|apply ak|apply ae|apply aj|refine au ?_ jX.out)|exact HB.out)) hb);clear eY;clear HB;have eY:=dA;have HB:=dC;clear dA dC;(try clear hb);(try clear hb2);(try clear hk);(try clear hi);have Eg:w27.cell? ⟨gU,0,none⟩=some (.slice bF aU.length bD):=(ay eY.out 0).trans rfl;have Ef:w27.cell? ⟨gU,1,none⟩=some (.string aX):=(ay eY.out 1).trans rfl;have Ee:w27.cell? ⟨gU,2,none⟩=some (.string aZ):=(ay eY.out 2).trans rfl;have Ed:w27.cell? ⟨gU,3,none⟩=some (.slice bG aI.length bC):=(ay eY.out 3).trans rfl;have DV:=ax eY.out 0;have DU:=ax eY.out 1;have DT:=ax eY.out 2;have DR:=ax eY.out 3)|((with_reducible refine dL (N:=8) rfl ?_);refine dO ?hg (N:=8) ?hd (cs:=#[.slice none 0 0,.string (⟨#[]⟩:ByteArray),.string (⟨#[]⟩:ByteArray),.slice none 0 0]) (t:=25) ?hr ?_;(case hd=>rfl);(case hg=>rfl);(case hr=>first|(go_simp;done)|(go_simp;rfl));intro jT hg w29 hbox hb;have dA:=ah.mk (aQ (g:=gU) (o:=.cells #[.slice bF aU.length bD,.string aX,.string aZ,.slice bG aI.length bC] 25 (0,0)) (by (with_reducible repeat (first|refine af ?_ _|refine ai ?_|refine ag ?_ _));exact eY.out) hb);have dC:=ah.mk (aT (by repeat (first|(with_reducible first|exact HB.out|apply ak|apply ae|apply aj|refine au ?_ jX.out)|exact HB.out)) hb);have dP:=ah.mk (hbox);have eF:=ah.mk ((by rw [hg];exact (aA (by repeat (first|(with_reducible first|exact HB.out|apply ak|apply ae|apply aj|refine au ?_ jX.out)|exact HB.out))):w.heap.size≤jT));have fK:=ah.mk ((by rw [hg];exact (aA (by repeat (first|(with_reducible first|exact HB.out|apply ak|apply ae|apply aj|refine au ?_ jX.out)|exact HB.out))):w.heap.size≤jT));have fQ:=ah.mk ((by rw [hg];exact Nat.ne_of_lt (dm (g:=gU) (o:=.cells #[.slice bF aU.length bD,.string aX,.string aZ,.slice bG aI.length bC] 25 (0,0)) (by (with_reducible repeat (first|refine af ?_ _|refine ai ?_|refine ag ?_ _));exact eY.out)):gU ≠ jT));have iF:=ah.mk ((by rw [hg];exact Nat.ne_of_gt (dm (g:=gU) (o:=.cells #[.slice bF aU.length bD,.string aX,.string aZ,.slice bG aI.length bC] 25 (0,0)) (by (with_reducible repeat (first|refine af ?_ _|refine ai ?_|refine ag ?_ _));exact eY.out)):jT ≠ gU));clear eY;clear HB;have eY:=dA;have HB:=dC;have kE:=dP;have aly:=eF;have yw:=fK;have kY:=fQ;have BR:=iF;clear dA dC dP eF fK fQ iF;clear hb hbox hg;have ati:=BR.out;have asN:=kY.out;have Jl:w29.cell? ⟨jT,0,none⟩=some (.slice none 0 0):=(ay kE.out 0).trans rfl;have Jk:w29.cell? ⟨jT,1,none⟩=some (.string (⟨#[]⟩:ByteArray)):=(ay kE.out 1).trans rfl;have Jj:w29.cell? ⟨jT,2,none⟩=some (.string (⟨#[]⟩:ByteArray)):=(ay kE.out 2).trans rfl;have Ji:w29.cell? ⟨jT,3,none⟩=some (.slice none 0 0):=(ay kE.out 3).trans rfl;have IJ:=ax kE.out 0;have II:=ax kE.out 1;have IG:=ax kE.out 2;have IE:=ax kE.out 3)|((with_reducible refine dL (N:=41) rfl ?_);generalize hW_:(((((w29.setCell ⟨jT,0,none⟩ (.slice bF aU.length bD)).setCell ⟨jT,1,none⟩ (.string aX)).setCell ⟨jT,2,none⟩ (.string aZ)).setCell ⟨jT,3,none⟩ (.slice bG aI.length bC)).setCell ⟨jT,3,none⟩ (.slice none 0 0))=W_;have m0_:=ah.mk (show W_.heap[gU]? = some (.cells #[.slice bF aU.length bD,.string aX,.string aZ,.slice bG aI.length bC] 25 (0,0)) from by rw [← hW_];refine aK ?_ kY.out _;refine aK ?_ kY.out _;refine aK ?_ kY.out _;refine aK ?_ kY.out _;refine aK ?_ kY.out _;exact eY.out);have m1_:=ah.mk (show W_.heap[jT]? = some (.cells #[.slice bF aU.length bD,.string aX,.string aZ,.slice none 0 0] 25 (0,0)) from by rw [← hW_];refine aW (cs:=#[.slice bF aU.length bD,.string aX,.string aZ,.slice bG aI.length bC]) ?_ 3 _ rfl;refine aW (cs:=#[.slice bF aU.length bD,.string aX,.string aZ,.slice none 0 0]) ?_ 3 _ rfl;refine aW (cs:=#[.slice bF aU.length bD,.string aX,.string (⟨#[]⟩:ByteArray),.slice none 0 0]) ?_ 2 _ rfl;refine aW (cs:=#[.slice bF aU.length bD,.string (⟨#[]⟩:ByteArray),.string (⟨#[]⟩:ByteArray),.slice none 0 0]) ?_ 1 _ rfl;refine aW (cs:=#[.slice none 0 0,.string (⟨#[]⟩:ByteArray),.string (⟨#[]⟩:ByteArray),.slice none 0 0]) ?_ 0 _ rfl;exact kE.out);have m2_:=ah.mk (show Below w.heap.size w W_ from by rw [← hW_];repeat (first|(with_reducible first|exact HB.out|apply ak|apply ae|apply aj|refine au ?_ jX.out|refine au ?_ yw.out)|exact HB.out));clear hW_ eY kE HB;have eY:=m0_;have kE:=m1_;have HB:=m2_;clear m0_ m1_ m2_;(try clear Eg);(try clear Ef);(try clear Ee);(try clear Ed);(try clear Jl);(try clear Jk);(try clear Jj);(try clear Ji);(try clear DV);(try clear DU);(try clear DT);(try clear DR);(try clear IJ);(try clear II);(try clear IG);(try clear IE);have apK:W_.cell? ⟨jT,0,none⟩=some (.slice bF aU.length bD):=(ay kE.out 0).trans rfl;have apJ:W_.cell? ⟨jT,1,none⟩=some (.string aX):=(ay kE.out 1).trans rfl;have apI:W_.cell? ⟨jT,2,none⟩=some (.string aZ):=(ay kE.out 2).trans rfl;have apH:W_.cell? ⟨jT,3,none⟩=some (.slice none 0 0):=(ay kE.out 3).trans rfl)|((with_reducible refine bV (f:=8) rfl ?_);refine fF (some 42) rfl rfl Tryd.func8 (by kernel_rfl) rfl #[.agg #[.slice bF aU.length bD,.string aX,.string aZ,.slice none 0 0]] rfl (by (try simp only [List.map_toArray,List.map_cons,List.map_nil]);first|done|rfl|(simp only [List.length_drop,List.length_take];rfl)) ?_;(refine (bH.calls k1 _ _ aU aX aZ _ _ ([]:List (jo)) adv Xk _ ?dN ?iR ?iZ ?iY ?jD A24.out).mono ?_);(case dN=>exact Kd.dB lL.out (by repeat (first|(with_reducible first|exact HB.out|apply ak|apply ae|apply aj|refine au ?_ jX.out|refine au ?_ yw.out)|exact HB.out)));(case iR=>exact oz.out);(case iZ=>exact Kd.WC _ _);(case iY=>exact Nat.le_refl _);(case jD=>exact Kd.dB mM.out (by repeat (first|(with_reducible first|exact HB.out|apply ak|apply ae|apply aj|refine au ?_ jX.out|refine au ?_ yw.out)|exact HB.out)));rintro e w32 ⟨rfl,hb⟩;refine ⟨_,rfl,?_⟩;have dA:=ah.mk (aQ (g:=gU) (o:=.cells #[.slice bF aU.length bD,.string aX,.string aZ,.slice bG aI.length bC] 25 (0,0)) (by (with_reducible repeat (first|refine af ?_ _|refine ai ?_|refine ag ?_ _));exact eY.out) hb);have dC:=ah.mk (aQ (g:=jT) (o:=.cells #[.slice bF aU.length bD,.string aX,.string aZ,.slice none 0 0] 25 (0,0)) (by (with_reducible repeat (first|refine af ?_ _|refine ai ?_|refine ag ?_ _));exact kE.out) hb);have dP:=ah.mk (aT (by repeat (first|(with_reducible first|exact HB.out|apply ak|apply ae|apply aj|refine au ?_ jX.out|refine au ?_ yw.out)|exact HB.out)) hb);clear eY;clear kE;clear HB;have eY:=dA;have kE:=dC;have HB:=dP;clear dA dC dP;(try clear hb);(try clear hb2);(try clear hk);(try clear hi)))
              go_ret
              exact ⟨by first|rfl|(simp [bY,bW] <;> rfl)|(simp [*,bY,bW] <;> rfl),by repeat (first|(with_reducible first|exact HB.out|apply ak|apply ae|apply aj|refine au ?_ jX.out|refine au ?_ yw.out)|exact HB.out)⟩
            · replace c25:=Bool.eq_false_iff.mpr c25
              subst c25
              have H1:(some ((Kw == 0) == false))=some r:=by rw [if_neg (show ¬ (false=true) by decide)] at H;exact H
              clear H
              have H:=H1
              clear H1
              obtain rfl:=Option.some.inj H
              have PQ:wr.cell? ⟨gU,0,none⟩=some (.slice bF aU.length bD):=(ay eY.out 0).trans rfl
              have PO:wr.cell? ⟨gU,1,none⟩=some (.string aX):=(ay eY.out 1).trans rfl
              have PN:wr.cell? ⟨gU,2,none⟩=some (.string aZ):=(ay eY.out 2).trans rfl
              have PM:wr.cell? ⟨gU,3,none⟩=some (.slice bG aI.length bC):=(ay eY.out 3).trans rfl
              have O8:=ax eY.out 0
              have O7:=ax eY.out 1
              have O6:=ax eY.out 2
              have O5:=ax eY.out 3
              go_wp2_with (first|((with_reducible refine bV (f:=8) rfl ?_);refine fF (some 35) rfl rfl Tryd.func8 (by kernel_rfl) rfl #[.agg #[.slice bF aU.length bD,.string aX,.string aZ,.slice bG aI.length bC]] rfl (by (try simp only [List.map_toArray,List.map_cons,List.map_nil]);first|done|rfl|(simp only [List.length_drop,List.length_take];rfl)) ?_;(with_reducible refine (bH.calls k1 _ _ aU aX aZ _ _ aI adw Kw _ ?dN ?iR ?iZ ?iY ?jD A23.out).mono ?_);(case dN=>repeat (first|exact (Kd.dB lL.out HB.out)|(with_reducible refine Kd.fJ ?_ _)|(with_reducible refine Kd.fH ?_ _)|(with_reducible refine Kd.gG ?_)));(case iR=>exact oz.out);(case iZ=>repeat (first|exact (Kd.dB lK.out HB.out)|(with_reducible refine Kd.fJ ?_ _)|(with_reducible refine Kd.fH ?_ _)|(with_reducible refine Kd.gG ?_)));(case iY=>exact ou.out);(case jD=>repeat (first|exact (Kd.dB mM.out HB.out)|(with_reducible refine Kd.fJ ?_ _)|(with_reducible refine Kd.fH ?_ _)|(with_reducible refine Kd.gG ?_)));rintro e w34 ⟨rfl,hb⟩;refine ⟨_,rfl,?_⟩;have dA:=ah.mk (aQ (g:=gU) (o:=.cells #[.slice bF aU.length bD,.string aX,.string aZ,.slice bG aI.length bC] 25 (0,0)) (by (with_reducible repeat (first|refine af ?_ _|refine ai ?_|refine ag ?_ _));exact eY.out) hb);have dC:=ah.mk (aT (by repeat (first|(with_reducible first|exact HB.out|apply ak|apply ae|apply aj|refine au ?_ jX.out)|exact HB.out)) hb);clear eY;clear HB;have eY:=dA;have HB:=dC;clear dA dC;(try clear hb);(try clear hb2);(try clear hk);(try clear hi);have PL:w34.cell? ⟨gU,0,none⟩=some (.slice bF aU.length bD):=(ay eY.out 0).trans rfl;have PK:w34.cell? ⟨gU,1,none⟩=some (.string aX):=(ay eY.out 1).trans rfl;have PI:w34.cell? ⟨gU,2,none⟩=some (.string aZ):=(ay eY.out 2).trans rfl;have PH:w34.cell? ⟨gU,3,none⟩=some (.slice bG aI.length bC):=(ay eY.out 3).trans rfl;have O4:=ax eY.out 0;have O3:=ax eY.out 1;have O1:=ax eY.out 2;have O0:=ax eY.out 3)|((with_reducible refine dL (N:=8) rfl ?_);refine dO ?hg (N:=8) ?hd (cs:=#[.slice none 0 0,.string (⟨#[]⟩:ByteArray),.string (⟨#[]⟩:ByteArray),.slice none 0 0]) (t:=25) ?hr ?_;(case hd=>rfl);(case hg=>rfl);(case hr=>first|(go_simp;done)|(go_simp;rfl));intro jT hg Gt hbox hb;have dA:=ah.mk (aQ (g:=gU) (o:=.cells #[.slice bF aU.length bD,.string aX,.string aZ,.slice bG aI.length bC] 25 (0,0)) (by (with_reducible repeat (first|refine af ?_ _|refine ai ?_|refine ag ?_ _));exact eY.out) hb);have dC:=ah.mk (aT (by repeat (first|(with_reducible first|exact HB.out|apply ak|apply ae|apply aj|refine au ?_ jX.out)|exact HB.out)) hb);have dP:=ah.mk (hbox);have eF:=ah.mk ((by rw [hg];exact (aA (by repeat (first|(with_reducible first|exact HB.out|apply ak|apply ae|apply aj|refine au ?_ jX.out)|exact HB.out))):w.heap.size≤jT));have fK:=ah.mk ((by rw [hg];exact (aA (by repeat (first|(with_reducible first|exact HB.out|apply ak|apply ae|apply aj|refine au ?_ jX.out)|exact HB.out))):w.heap.size≤jT));have fQ:=ah.mk ((by rw [hg];exact Nat.ne_of_lt (dm (g:=gU) (o:=.cells #[.slice bF aU.length bD,.string aX,.string aZ,.slice bG aI.length bC] 25 (0,0)) (by (with_reducible repeat (first|refine af ?_ _|refine ai ?_|refine ag ?_ _));exact eY.out)):gU ≠ jT));have iF:=ah.mk ((by rw [hg];exact Nat.ne_of_gt (dm (g:=gU) (o:=.cells #[.slice bF aU.length bD,.string aX,.string aZ,.slice bG aI.length bC] 25 (0,0)) (by (with_reducible repeat (first|refine af ?_ _|refine ai ?_|refine ag ?_ _));exact eY.out)):jT ≠ gU));clear eY;clear HB;have eY:=dA;have HB:=dC;have kE:=dP;have aly:=eF;have yw:=fK;have kY:=fQ;have BR:=iF;clear dA dC dP eF fK fQ iF;clear hb hbox hg;have atg:=BR.out;have asL:=kY.out;have ZJ:Gt.cell? ⟨jT,0,none⟩=some (.slice none 0 0):=(ay kE.out 0).trans rfl;have ZI:Gt.cell? ⟨jT,1,none⟩=some (.string (⟨#[]⟩:ByteArray)):=(ay kE.out 1).trans rfl;have ZH:Gt.cell? ⟨jT,2,none⟩=some (.string (⟨#[]⟩:ByteArray)):=(ay kE.out 2).trans rfl;have ZG:Gt.cell? ⟨jT,3,none⟩=some (.slice none 0 0):=(ay kE.out 3).trans rfl;have YH:=ax kE.out 0;have YG:=ax kE.out 1;have YF:=ax kE.out 2;have YE:=ax kE.out 3)|((with_reducible refine dL (N:=41) rfl ?_);generalize hW_:(((((Gt.setCell ⟨jT,0,none⟩ (.slice bF aU.length bD)).setCell ⟨jT,1,none⟩ (.string aX)).setCell ⟨jT,2,none⟩ (.string aZ)).setCell ⟨jT,3,none⟩ (.slice bG aI.length bC)).setCell ⟨jT,3,none⟩ (.slice none 0 0))=W_;have m0_:=ah.mk (show W_.heap[gU]? = some (.cells #[.slice bF aU.length bD,.string aX,.string aZ,.slice bG aI.length bC] 25 (0,0)) from by rw [← hW_];refine aK ?_ kY.out _;refine aK ?_ kY.out _;refine aK ?_ kY.out _;refine aK ?_ kY.out _;refine aK ?_ kY.out _;exact eY.out);have m1_:=ah.mk (show W_.heap[jT]? = some (.cells #[.slice bF aU.length bD,.string aX,.string aZ,.slice none 0 0] 25 (0,0)) from by rw [← hW_];refine aW (cs:=#[.slice bF aU.length bD,.string aX,.string aZ,.slice bG aI.length bC]) ?_ 3 _ rfl;refine aW (cs:=#[.slice bF aU.length bD,.string aX,.string aZ,.slice none 0 0]) ?_ 3 _ rfl;refine aW (cs:=#[.slice bF aU.length bD,.string aX,.string (⟨#[]⟩:ByteArray),.slice none 0 0]) ?_ 2 _ rfl;refine aW (cs:=#[.slice bF aU.length bD,.string (⟨#[]⟩:ByteArray),.string (⟨#[]⟩:ByteArray),.slice none 0 0]) ?_ 1 _ rfl;refine aW (cs:=#[.slice none 0 0,.string (⟨#[]⟩:ByteArray),.string (⟨#[]⟩:ByteArray),.slice none 0 0]) ?_ 0 _ rfl;exact kE.out);have m2_:=ah.mk (show Below w.heap.size w W_ from by rw [← hW_];repeat (first|(with_reducible first|exact HB.out|apply ak|apply ae|apply aj|refine au ?_ jX.out|refine au ?_ yw.out)|exact HB.out));clear hW_ eY kE HB;have eY:=m0_;have kE:=m1_;have HB:=m2_;clear m0_ m1_ m2_;(try clear PL);(try clear PK);(try clear PI);(try clear PH);(try clear ZJ);(try clear ZI);(try clear ZH);(try clear ZG);(try clear O4);(try clear O3);(try clear O1);(try clear O0);(try clear YH);(try clear YG);(try clear YF);(try clear YE);have apK:W_.cell? ⟨jT,0,none⟩=some (.slice bF aU.length bD):=(ay kE.out 0).trans rfl;have apJ:W_.cell? ⟨jT,1,none⟩=some (.string aX):=(ay kE.out 1).trans rfl;have apI:W_.cell? ⟨jT,2,none⟩=some (.string aZ):=(ay kE.out 2).trans rfl;have apH:W_.cell? ⟨jT,3,none⟩=some (.slice none 0 0):=(ay kE.out 3).trans rfl)|((with_reducible refine bV (f:=8) rfl ?_);refine fF (some 42) rfl rfl Tryd.func8 (by kernel_rfl) rfl #[.agg #[.slice bF aU.length bD,.string aX,.string aZ,.slice none 0 0]] rfl (by (try simp only [List.map_toArray,List.map_cons,List.map_nil]);first|done|rfl|(simp only [List.length_drop,List.length_take];rfl)) ?_;(refine (bH.calls k1 _ _ aU aX aZ _ _ ([]:List (jo)) adv Xk _ ?dN ?iR ?iZ ?iY ?jD A24.out).mono ?_);(case dN=>exact Kd.dB lL.out (by repeat (first|(with_reducible first|exact HB.out|apply ak|apply ae|apply aj|refine au ?_ jX.out|refine au ?_ yw.out)|exact HB.out)));(case iR=>exact oz.out);(case iZ=>exact Kd.WC _ _);(case iY=>exact Nat.le_refl _);(case jD=>exact Kd.dB mM.out (by repeat (first|(with_reducible first|exact HB.out|apply ak|apply ae|apply aj|refine au ?_ jX.out|refine au ?_ yw.out)|exact HB.out)));rintro e w39 ⟨rfl,hb⟩;refine ⟨_,rfl,?_⟩;have dA:=ah.mk (aQ (g:=gU) (o:=.cells #[.slice bF aU.length bD,.string aX,.string aZ,.slice bG aI.length bC] 25 (0,0)) (by (with_reducible repeat (first|refine af ?_ _|refine ai ?_|refine ag ?_ _));exact eY.out) hb);have dC:=ah.mk (aQ (g:=jT) (o:=.cells #[.slice bF aU.length bD,.string aX,.string aZ,.slice none 0 0] 25 (0,0)) (by (with_reducible repeat (first|refine af ?_ _|refine ai ?_|refine ag ?_ _));exact kE.out) hb);have dP:=ah.mk (aT (by repeat (first|(with_reducible first|exact HB.out|apply ak|apply ae|apply aj|refine au ?_ jX.out|refine au ?_ yw.out)|exact HB.out)) hb);clear eY;clear kE;clear HB;have eY:=dA;have kE:=dC;have HB:=dP;clear dA dC dP;(try clear hb);(try clear hb2);(try clear hk);(try clear hi)))
              go_ret
              exact ⟨by first|rfl|(simp [bY,bW] <;> rfl)|(simp [*,bY,bW] <;> rfl),by repeat (first|(with_reducible first|exact HB.out|apply ak|apply ae|apply aj|refine au ?_ jX.out|refine au ?_ yw.out)|exact HB.out)⟩
    · replace c5:=Bool.eq_false_iff.mpr c5
      subst c5
      have H1:(some true)=some r:=by rw [if_neg (show ¬ (false=true) by decide)] at H;exact H
      clear H
      have H:=H1
      clear H1
      obtain rfl:=Option.some.inj H
      go_enter Tryd.func5,Tryd.ntmps5
      go_wp2_with (first|((with_reducible refine dL (N:=1) rfl ?_);refine dO ?hg (N:=1) ?hd (cs:=#[.slice bF aU.length bD,.string aX,.string aZ,.slice bG aI.length bC]) (t:=25) ?hr ?_;(case hd=>rfl);(case hg=>rfl);(case hr=>first|(go_simp;done)|(go_simp;rfl));intro gU hg w40 hbox hb;have dA:=ah.mk (aT (by repeat (first|(with_reducible first|exact HB.out|apply ak|apply ae|apply aj)|exact HB.out)) hb);have dC:=ah.mk (hbox);have dP:=ah.mk ((by rw [hg];exact (aA (by repeat (first|(with_reducible first|exact HB.out|apply ak|apply ae|apply aj)|exact HB.out))):w.heap.size≤gU));have eF:=ah.mk ((by rw [hg];exact (aA (by repeat (first|(with_reducible first|exact HB.out|apply ak|apply ae|apply aj)|exact HB.out))):w.heap.size≤gU));clear HB;have HB:=dA;have eY:=dC;have abA:=dP;have jX:=eF;clear dA dC dP eF;clear hb hbox hg)|((with_reducible refine bV (f:=6) rfl ?_);refine fF (some 11) rfl rfl Tryd.func6 (by kernel_rfl) rfl #[] rfl (by (try simp only [List.map_toArray,List.map_cons,List.map_nil]);first|done|rfl|(simp only [List.length_drop,List.length_take];rfl)) ?_;(with_reducible refine (di.calls k  true _ ?dN A2.out).mono ?_);(case dN=>repeat (first|exact (Kd.dB mM.out HB.out)|(with_reducible refine Kd.fJ ?_ _)|(with_reducible refine Kd.fH ?_ _)|(with_reducible refine Kd.gG ?_)));rintro e w41 ⟨rfl,hb⟩;refine ⟨_,rfl,?_⟩;have dA:=ah.mk (aQ (g:=gU) (o:=.cells #[.slice bF aU.length bD,.string aX,.string aZ,.slice bG aI.length bC] 25 (0,0)) (by (with_reducible repeat (first|refine af ?_ _|refine ai ?_|refine ag ?_ _));exact eY.out) hb);have dC:=ah.mk (aT (by repeat (first|(with_reducible first|exact HB.out|apply ak|apply ae|apply aj|refine au ?_ jX.out)|exact HB.out)) hb);clear eY;clear HB;have eY:=dA;have HB:=dC;clear dA dC;(try clear hb);(try clear hb2);(try clear hk);(try clear hi);have Zw:w41.cell? ⟨gU,0,none⟩=some (.slice bF aU.length bD):=(ay eY.out 0).trans rfl;have Zv:w41.cell? ⟨gU,1,none⟩=some (.string aX):=(ay eY.out 1).trans rfl;have Zu:w41.cell? ⟨gU,2,none⟩=some (.string aZ):=(ay eY.out 2).trans rfl;have Zt:w41.cell? ⟨gU,3,none⟩=some (.slice bG aI.length bC):=(ay eY.out 3).trans rfl;have Yv:=ax eY.out 0;have Yu:=ax eY.out 1;have Yt:=ax eY.out 2;have Yr:=ax eY.out 3)|((with_reducible refine bV (f:=7) rfl ?_);refine fF (some 14) rfl rfl Tryd.func7 (by kernel_rfl) rfl #[.agg #[.slice bF aU.length bD,.string aX,.string aZ,.slice bG aI.length bC]] rfl (by (try simp only [List.map_toArray,List.map_cons,List.map_nil]);first|done|rfl|(simp only [List.length_drop,List.length_take];rfl)) ?_;(with_reducible refine (bK.calls k _ _ aU aX aZ _ _ aI false _ ?dN ?iR ?iZ ?iY A4.out).mono ?_);(case dN=>repeat (first|exact (Kd.dB lL.out HB.out)|(with_reducible refine Kd.fJ ?_ _)|(with_reducible refine Kd.fH ?_ _)|(with_reducible refine Kd.gG ?_)));(case iR=>exact oz.out);(case iZ=>repeat (first|exact (Kd.dB lK.out HB.out)|(with_reducible refine Kd.fJ ?_ _)|(with_reducible refine Kd.fH ?_ _)|(with_reducible refine Kd.gG ?_)));(case iY=>exact ou.out);rintro e w43 ⟨rfl,hb⟩;refine ⟨_,rfl,?_⟩;have dA:=ah.mk (aQ (g:=gU) (o:=.cells #[.slice bF aU.length bD,.string aX,.string aZ,.slice bG aI.length bC] 25 (0,0)) (by (with_reducible repeat (first|refine af ?_ _|refine ai ?_|refine ag ?_ _));exact eY.out) hb);have dC:=ah.mk (aT (by repeat (first|(with_reducible first|exact HB.out|apply ak|apply ae|apply aj|refine au ?_ jX.out)|exact HB.out)) hb);clear eY;clear HB;have eY:=dA;have HB:=dC;clear dA dC;(try clear hb);(try clear hb2);(try clear hk);(try clear hi)))
      go_ret
      exact ⟨by first|rfl|(simp [bY,bW] <;> rfl)|(simp [*,bY,bW] <;> rfl),by repeat (first|(with_reducible first|exact HB.out|apply ak|apply ae|apply aj|refine au ?_ jX.out)|exact HB.out)⟩
  · replace c3:=Bool.eq_false_iff.mpr c3
    subst c3
    have H1:(some false)=some r:=by rw [if_neg (show ¬ (false=true) by decide)] at H;exact H
    clear H
    have H:=H1
    clear H1
    obtain rfl:=Option.some.inj H
    go_enter Tryd.func5,Tryd.ntmps5
    go_wp2_with (first|((with_reducible refine dL (N:=1) rfl ?_);refine dO ?hg (N:=1) ?hd (cs:=#[.slice bF aU.length bD,.string aX,.string aZ,.slice bG aI.length bC]) (t:=25) ?hr ?_;(case hd=>rfl);(case hg=>rfl);(case hr=>first|(go_simp;done)|(go_simp;rfl));intro gU hg w44 hbox hb;have dA:=ah.mk (aT (by repeat (first|(with_reducible first|exact HB.out|apply ak|apply ae|apply aj)|exact HB.out)) hb);have dC:=ah.mk (hbox);have dP:=ah.mk ((by rw [hg];exact (aA (by repeat (first|(with_reducible first|exact HB.out|apply ak|apply ae|apply aj)|exact HB.out))):w.heap.size≤gU));have eF:=ah.mk ((by rw [hg];exact (aA (by repeat (first|(with_reducible first|exact HB.out|apply ak|apply ae|apply aj)|exact HB.out))):w.heap.size≤gU));clear HB;have HB:=dA;have eY:=dC;have abA:=dP;have jX:=eF;clear dA dC dP eF;clear hb hbox hg)|((with_reducible refine bV (f:=6) rfl ?_);refine fF (some 11) rfl rfl Tryd.func6 (by kernel_rfl) rfl #[] rfl (by (try simp only [List.map_toArray,List.map_cons,List.map_nil]);first|done|rfl|(simp only [List.length_drop,List.length_take];rfl)) ?_;(with_reducible refine (di.calls k  false _ ?dN A2.out).mono ?_);(case dN=>repeat (first|exact (Kd.dB mM.out HB.out)|(with_reducible refine Kd.fJ ?_ _)|(with_reducible refine Kd.fH ?_ _)|(with_reducible refine Kd.gG ?_)));rintro e w45 ⟨rfl,hb⟩;refine ⟨_,rfl,?_⟩;have dA:=ah.mk (aQ (g:=gU) (o:=.cells #[.slice bF aU.length bD,.string aX,.string aZ,.slice bG aI.length bC] 25 (0,0)) (by (with_reducible repeat (first|refine af ?_ _|refine ai ?_|refine ag ?_ _));exact eY.out) hb);have dC:=ah.mk (aT (by repeat (first|(with_reducible first|exact HB.out|apply ak|apply ae|apply aj|refine au ?_ jX.out)|exact HB.out)) hb);clear eY;clear HB;have eY:=dA;have HB:=dC;clear dA dC;(try clear hb);(try clear hb2);(try clear hk);(try clear hi)))
    go_ret
    exact ⟨by first|rfl|(simp [bY,bW] <;> rfl)|(simp [*,bY,bW] <;> rfl),by repeat (first|(with_reducible first|exact HB.out|apply ak|apply ae|apply aj|refine au ?_ jX.out)|exact HB.out)⟩
end Go.Proofs.YtkclndkbccbhaaaDoor.P
end
section
namespace Go.Proofs.YtkclndkbccbhaaaDoor.P
open Go Go.RowKit Go.Proofs.az.dw Go.Proofs.az.gB Go.Proofs.az.gX
theorem Vt (ts:List ByteArray) (lo gl:ByteArray) (cs:List jo) (x:Bool) (hx:x=(decide (cs.length≤200) && cs.all jJ)) :
    (((if wB ts lo gl cs=true then (rQ ts lo gl cs,(0:Int)) else (⟨#[]⟩,2)).2 == 0) == (if x=true then ((if wB ts lo gl []=true then (rQ ts lo gl [],(0:Int)) else (⟨#[]⟩,2)).2 == 0) else false))=true:=by
  have e:wB ts lo gl cs=(x && wB ts lo gl []):=by
    rw [hx]
    unfold wB
    simp only [List.all_nil,List.length_nil]
    cases ts.all QG <;> cases cs.all jJ <;> cases lq lo <;> cases lq gl <;> cases decide (cs.length≤200) <;> rfl
  rw [e]
  cases x <;> cases wB ts lo gl [] <;> rfl
theorem Qc (ts:List ByteArray) (lo gl:ByteArray) (cs:List jo) (ht:ts.length≤140737488355328) (hc:cs.length≤140737488355328) (hw:Wf cs) (hf:Ri ts lo gl cs=true):∀ (d i:Nat) (x:Bool),i+d=cs.length→x=(decide (cs.length≤200) && (cs.take i).all jJ) →
    Ev (fun k=>bQ.l0 k x cs ((cs.length:Nat):Int) (i:Int) ts lo gl cs) true
  | 0,i,x,hi,hx=>by
    rw [List.take_of_length_le (by omega)] at hx
    have p1:=printed ht hc hw fun h=>y9 ht (xJ.1 h) hf
    have p2:=printed (cs:=[]) ht (by simp) (fun y hy=>by cases hy) fun h=>y9 ht (xJ.1 h) hf
    have e:=Vt ts lo gl cs x hx
    refine Ev.step (fun k=>?_) (f:=fun k=>(bH.f k ts lo gl cs).bind fun Md=>(bH.f k ts lo gl ([]:List jo)).bind fun Mc=>if x=true then some ((Md.2 == 0) == (Mc.2 == 0)) else some ((Md.2 == 0) == false)) (Ev.bind p1 (Ev.bind p2 ?_))
    · conv=>lhs;simp only [bQ.l0]
      rw [if_neg (by omega)]
    · refine Ev.congr (f:=fun _=>some true) (fun k=>?_) (Ev.now _)
      cases x with
      | true=>exact (if_pos rfl).trans (congrArg some e)
      | false=>exact (if_neg (by simp)).trans (congrArg some e)
  | d+1,i,x,hi,hx=>by
    have hlt:i < cs.length:=by omega
    have hx':(x && jJ cs[i])=(decide (cs.length≤200) && (cs.take (i+1)).all jJ):=by
      rw [hx,BB cs i hlt,List.all_append,List.all_cons,List.all_nil,Bool.and_true,Bool.and_assoc]
    have ih:=Qc ts lo gl cs ht hc hw hf d (i+1) (x && jJ cs[i]) (by omega) hx'
    refine Ev.step (fun k=>?_) ih
    conv=>lhs;simp only [bQ.l0]
    rw [if_pos (by omega),if_pos (by omega),if_pos (by omega),AL cs i hlt,OB,Option.bind_some,nK i (by omega)]
    cases x with
    | true=>rw [if_pos rfl,Bool.true_and]
    | false=>rw [if_neg (by simp),Bool.false_and]
theorem Vs (ts:List ByteArray) (lo gl:ByteArray) (cs:List jo) (ht:ts.length≤140737488355328) (hc:cs.length≤140737488355328) (hw:Wf cs):Ev (fun k=>bQ.f k ts lo gl cs) true:=by
  unfold bQ.f
  refine Ev.bind MC (Ev.congr (fun k=>if_pos rfl) ?_)
  refine Ev.bind (Vk ts lo gl cs ht) ?_
  cases hf:Ri ts lo gl cs with
  | false=>exact Ev.now _
  | true =>
    refine Ev.congr (fun k=>if_pos rfl) ?_
    have h:=Qc ts lo gl cs ht hc hw hf cs.length 0 (decide (cs.length≤200)) (Nat.zero_add _) (by simp)
    have e:decide ((cs.length:Int)≤200)=decide (cs.length≤200):=by
      congr 1
      exact propext (by omega)
    rw [e]
    exact h
end Go.Proofs.YtkclndkbccbhaaaDoor.P
end
section
namespace Go.Proofs.YtkclndkbccbhaaaDoor.codeEach
open Go.ChangeShapes Go.WideShapes Go.ChangeAt Go.RowKit Go.Proofs.YtkclndkbccbhaaaDoor.P
theorem laidOut:laidOutB Tryd.prog=true:=by kernel_rfl
set_option maxRecDepth 100000 in
theorem contract (H:Type) (enc:TypeId × Value→H) (W:World) (base:Nat) (args:Array Value) (ds gs:List (DataW H)) (before:List MemPlace)
    (hval:∀ (j:Nat) t v,Tryd.f5.params[j]? = some t→args[j]? = some v→Value.okWide Tryd.prog W .any base t v)
    (hW:DataW.Whole enc Tryd.prog Tryd.f5.params.toList Rows.codeEachSpec.vars false W args.toList ds gs before)
    (hz:(DataW.weightsEach Tryd.prog (Tryd.f5.params.toList++[]) (ds++gs)).all (·≤reachBytes)=true)
    (hL:laidMetH Tryd.prog Rows.codeEachRow.laid W) (hsh:W.ShapedOpen Tryd.prog) :
    Calls Tryd.prog 5 args W fun e W'=>∃ v,e=.returned v∧Rows.codeEachSpec.post enc Tryd.prog Tryd.f5 false true false false W args v W':=by
  have hW':=hW
  obtain ⟨p,q,hA0,hV,rfl,hfz,hnd⟩:=hW
  have hA:DataW.TrodAll enc Tryd.prog W 0 (fun _=>true) true Tryd.f5.params.toList args.toList ds p:=hA0
  rw [Tryd.params5] at hA hval hz
  obtain ⟨v0,vs0,d0,ds0,p0,q0,hargs,rfl,rfl,h0,r0⟩:=trodAll_cons hA
  obtain ⟨rfl,rfl,rfl⟩:=trodAll_nil r0
  obtain rfl:args=#[v0]:=by cases args;simp_all
  obtain ⟨rfl,rfl⟩:=trodVars_none hV
  have z0:=EL hz
  have k0:=h0
  have lt0:∀ x ∈ p0,x.block < W.heap.size:=by obtain ⟨m,hm⟩:=k0;exact DataW.trod_lt m _ _ _ hm
  obtain ⟨A0,c0,t0,lo0,gl0,B0,e0,LX,rfl,hT0,acJ,hC0,acL,hw0,ht0,hl0⟩:=GI (hval 0 25 v0 rfl rfl) h0 z0.1
  clear hA0
  obtain ⟨k,hk⟩:=Go.Proofs.az.dw.Ev.rounds (Vs t0 lo0 gl0 LX ht0 hl0 hw0)
  refine (bQ.calls k A0 c0 t0 lo0 gl0 B0 e0 LX true W hT0 acJ hC0 acL (table hL hsh) hk).mono fun e W' ⟨he,bel⟩=>?_
  subst he
  exact ⟨_,rfl,_,_,_,[],_,[],hW',trodAll_mk1 (shut_bool Tryd.underlying4 _),(trodAll_cons_mk (Below.trod laidOut (by kernel_rfl) (of_decide_eq_true (by kernel_rfl)) k0 bel lt0) trodAll_mk0),rfl,bel.frame _,fun h=>by cases h⟩
set_option maxRecDepth 100000 in
theorem lifted (os:Os) (started:os.Started) (H:Type) (enc:TypeId × Value→H) (F:Stop.Interp) :
    ReturnsInHanded {} Tryd.checked os 5 .any ((OpenSpec.ofChange Rows.codeEachSpec).preRow enc Tryd.prog Tryd.f5 Rows.codeEachRow.domain false Rows.codeEachRow.laid) (((OpenSpec.ofChange Rows.codeEachSpec).at F).post enc Tryd.prog Tryd.f5 false true false false):=by
  have hx:DataW.whole enc Tryd.prog ((laidWorld os).forCall (fun _ _=>0) ⟨#[],#[.agg #[.slice none 0 0,.string ⟨#[]⟩,.string ⟨#[]⟩,.slice none 0 0]],[]⟩).memory Tryd.f5.params.toList Rows.codeEachSpec.vars false (#[.agg #[.slice none 0 0,.string ⟨#[]⟩,.string ⟨#[]⟩,.slice none 0 0]]:Array Value).toList 8=some ([.agg [.nil,.lit (.string []),.lit (.string []),.nil]],[],[]):=by kernel_rfl
  refine returnsInHanded_of_row (C:=Tryd.checked) (s:=OpenSpec.ofChange Rows.codeEachSpec) own started (by kernel_rfl) Tryd.func5
    (witness_row_at (enc:=enc) (C:=Tryd.checked) false (laidWorld os) #[.agg #[.slice none 0 0,.string ⟨#[]⟩,.string ⟨#[]⟩,.slice none 0 0]] (World.laidAll_os _ _ _) (by kernel_rfl) (by kernel_rfl) (by kernel_rfl)
      (OpenSpec.preRow_of_cond 8 hx (by kernel_rfl) (fun k hk=>by cases hk) (by kernel_rfl) (laid_met os _))) ?_
  intro W base args ds gs before hval hW _ _ hz hL hsh _
  exact contract H enc W base args ds gs before hval hW hz hL hsh
theorem said:Rows.CodeEachSaid :=
  OpenClaim.holds_of_cond 5 Tryd.f5 rfl rfl rfl rfl rfl rfl rfl ⟨rfl,rfl,rfl,rfl,rfl⟩ rfl rfl rfl rfl rfl (by kernel_rfl) Tryd.func5 (by kernel_rfl)
    (of_decide_eq_true (by kernel_rfl)) (by unfold Func.isWrapper;first|(rw [if_pos (by decide +kernel)];kernel_rfl)|(rw [if_neg (by decide +kernel)];exact ⟨rfl,rfl⟩))
    (fun os started H enc _ F=>by rw [OpenClaim.pre_eq_preRow];exact lifted os started H enc F)
theorem plain (f:FuncId) (fn:Func) (hf:Tryd.pinned.checked.prog.funcNamed "lockstitch/lockstitchlaw04.CodeEach"=some f) (hfn:Tryd.pinned.checked.prog.funcs[f]? = some fn) :
    true=Tryd.pinned.checked.prog.looks []∧∀ (j:Nat) t,fn.params[j]? = some t→Tryd.pinned.checked.prog.wantsStandIn t=false:=by
  obtain rfl:f=5:=Option.some.inj ((show Tryd.prog.funcNamed "lockstitch/lockstitchlaw04.CodeEach"=some 5 by kernel_rfl).symm.trans hf) |>.symm
  obtain rfl:fn=Tryd.f5:=(Option.some.inj (Tryd.func5.symm.trans hfn)).symm
  refine ⟨by kernel_rfl,fun j t ht=>?_⟩
  rw [Tryd.params5] at ht
  obtain rfl:t=25:=by simpa using Array.mem_of_getElem? ht
  exact (show Tryd.prog.wantsStandIn 25=false by kernel_rfl)
theorem card:Rows.CodeEachCardSaid :=
  Claim7.holds_tied_plain_at .later [] _ _ _ _ said (fun _ h=>by cases h) (by kernel_rfl) (fun _ h=>by cases h) codeEach_row_tie rfl ⟨rfl,rfl⟩ (by kernel_rfl) rfl plain (by kernel_rfl)
end Go.Proofs.YtkclndkbccbhaaaDoor.codeEach
namespace Go.Proofs.YtkclndkbccbhaaaDoor
theorem codeEach_holds:Rows.CodeEachCardSaid:=codeEach.card
#print axioms codeEach_holds
end Go.Proofs.YtkclndkbccbhaaaDoor
end
section
namespace Go.Proofs.YtkclndkbccbhaaaDoor.P
open Go Go.RowKit Go.Proofs.az.dw Go.Proofs.az.gB Go.Proofs.az.gX
theorem Tm (x y:jo):(!(x.f0 == y.f0) || (!(x.f1 == y.f1) || (!(x.f2 == y.f2) || (!(x.f3 == y.f3) || (!(x.f4 == y.f4))))))=true ↔ x ≠ y:=by
  obtain ⟨a0,a1,a2,a3,a4⟩:=x
  obtain ⟨b0,b1,b2,b3,b4⟩:=y
  simp only [ne_eq,jo.mk.injEq,Bool.or_eq_true,Bool.not_eq_true',beq_eq_false_iff_ne]
  by_cases h0:a0=b0 <;> by_cases h1:a1=b1 <;> by_cases h2:a2=b2 <;> by_cases h3:a3=b3 <;> by_cases h4:a4=b4 <;> simp [h0,h1,h2,h3,h4]
theorem Oz (t1:List ByteArray) (lo1 Ez:ByteArray) (c1:List jo) (t2:List ByteArray) (lo2 JH:ByteArray) (c2:List jo) (hl:c1.length=c2.length) (hc:c1.length≤140737488355328):∀ (d i:Nat),i+d=c1.length →
    ∃ b,Ev (fun k=>aH.l1 k (i:Int) t1 lo1 Ez c1 t2 lo2 JH c2) b∧(b=true ↔ c1.drop i=c2.drop i)
  | 0,i,hi=>by
    refine ⟨true,Ev.step (f:=fun _=>some _) (fun k=>?_) (Ev.now _),?_⟩
    · simp only [aH.l1]
      rw [if_neg (by omega)]
    · rw [List.drop_eq_nil_of_le (by omega),List.drop_eq_nil_of_le (by omega)]
      simp
  | d+1,i,hi=>by
    have h1:i < c1.length:=by omega
    have h2:i < c2.length:=by omega
    obtain ⟨b,hb,hbi⟩:=Oz t1 lo1 Ez c1 t2 lo2 JH c2 hl hc d (i+1) (by omega)
    rw [List.drop_eq_getElem_cons h1,List.drop_eq_getElem_cons h2,List.cons.injEq]
    have Ib:∀ k,aH.l1 (k+1) (i:Int) t1 lo1 Ez c1 t2 lo2 JH c2=if (!(c1[i].f0 == c2[i].f0) || (!(c1[i].f1 == c2[i].f1) || (!(c1[i].f2 == c2[i].f2) || (!(c1[i].f3 == c2[i].f3) || (!(c1[i].f4 == c2[i].f4))))))=true then some false else aH.l1 k ((i+1:Nat):Int) t1 lo1 Ez c1 t2 lo2 JH c2:=by
      intro k
      conv=>lhs;simp only [aH.l1]
      rw [if_pos (by omega),if_pos (by omega),if_pos (by omega),AL c1 i h1,AL c2 i h2,nK i (by omega)]
    by_cases e:c1[i]=c2[i]
    · refine ⟨b,Ev.step (fun k=>?_) hb,?_⟩
      · rw [Ib k,if_neg (fun h=>(Tm _ _).1 h e)]
      · rw [hbi]
        exact ⟨fun h=>⟨e,h⟩,fun h=>h.2⟩
    · refine ⟨false,Ev.step (f:=fun _=>some _) (fun k=>?_) (Ev.now _),?_⟩
      · rw [Ib k,if_pos ((Tm _ _).2 e)]
      · exact ⟨fun h=>(by cases h),fun h=>absurd h.1 e⟩
theorem OA (t1:List ByteArray) (lo1 Ez:ByteArray) (c1:List jo) (t2:List ByteArray) (lo2 JH:ByteArray) (c2:List jo) (hl:c1.length=c2.length) (hc:c1.length≤140737488355328) (hlt:t1.length=t2.length) (ht:t1.length≤140737488355328):∀ (d i:Nat),i+d=t1.length →
    ∃ b,Ev (fun k=>aH.l0 k (i:Int) t1 lo1 Ez c1 t2 lo2 JH c2) b∧(b=true ↔ t1.drop i=t2.drop i∧c1=c2)
  | 0,i,hi=>by
    obtain ⟨b,hb,hbi⟩:=Oz t1 lo1 Ez c1 t2 lo2 JH c2 hl hc c1.length 0 (Nat.zero_add _)
    refine ⟨b,Ev.step (fun k=>?_) hb,?_⟩
    · simp only [aH.l0]
      rw [if_neg (by omega)]
      rfl
    · rw [List.drop_eq_nil_of_le (by omega),List.drop_eq_nil_of_le (by omega),hbi,List.drop_zero,List.drop_zero]
      simp
  | d+1,i,hi=>by
    have h1:i < t1.length:=by omega
    have h2:i < t2.length:=by omega
    obtain ⟨b,hb,hbi⟩:=OA t1 lo1 Ez c1 t2 lo2 JH c2 hl hc hlt ht d (i+1) (by omega)
    rw [List.drop_eq_getElem_cons h1,List.drop_eq_getElem_cons h2,List.cons.injEq]
    have Ib:∀ k,aH.l0 (k+1) (i:Int) t1 lo1 Ez c1 t2 lo2 JH c2=if t1[i].toList=t2[i].toList then aH.l0 k ((i+1:Nat):Int) t1 lo1 Ez c1 t2 lo2 JH c2 else some false:=by
      intro k
      conv=>lhs;simp only [aH.l0]
      rw [if_pos (by omega),if_pos (by omega),if_pos (by omega),xI t1 i h1,xI t2 i h2,nK i (by omega)]
    by_cases e:t1[i].toList=t2[i].toList
    · refine ⟨b,Ev.step (fun k=>?_) hb,?_⟩
      · rw [Ib k,if_pos e]
      · rw [hbi]
        exact ⟨fun h=>⟨⟨toList_inj.1 e,h.1⟩,h.2⟩,fun h=>⟨h.1.2,h.2⟩⟩
    · refine ⟨false,Ev.step (f:=fun _=>some _) (fun k=>?_) (Ev.now _),?_⟩
      · rw [Ib k,if_neg e]
      · exact ⟨fun h=>(by cases h),fun h=>absurd (congrArg ByteArray.toList h.1.1) e⟩
theorem Xp (t1:List ByteArray) (lo1 Ez:ByteArray) (c1:List jo) (t2:List ByteArray) (lo2 JH:ByteArray) (c2:List jo) (hc:c1.length≤140737488355328) (ht:t1.length≤140737488355328) :
    ∃ b,Ev (fun k=>aH.f k t1 lo1 Ez c1 t2 lo2 JH c2) b∧(b=true ↔ t1=t2∧lo1=lo2∧Ez=JH∧c1=c2):=by
  have no:Ev (fun k=>aH.j0 k true t1 lo1 Ez c1 t2 lo2 JH c2) false :=
    Ev.step (f:=fun _=>some false) (fun k=>by simp only [aH.j0];rw [if_pos trivial]) (Ev.now _)
  by_cases h1:t1.length=t2.length
  · by_cases h2:c1.length=c2.length
    · by_cases h3:lo1.toList=lo2.toList
      · by_cases h4:Ez.toList=JH.toList
        · obtain ⟨b,hb,hbi⟩:=OA t1 lo1 Ez c1 t2 lo2 JH c2 h2 hc h1 ht t1.length 0 (Nat.zero_add _)
          refine ⟨b,Ev.congr (fun k=>?_) (Ev.step (f:=fun k=>aH.l0 k 0 t1 lo1 Ez c1 t2 lo2 JH c2) (g:=fun k=>aH.j0 k (Ez.toList != JH.toList) t1 lo1 Ez c1 t2 lo2 JH c2) (fun k=>?_) hb),?_⟩
          · unfold aH.f
            rw [if_pos (by omega),if_pos (by omega),if_pos h3]
          · simp only [aH.j0]
            rw [if_neg (by simp [h4])]
          · rw [hbi,List.drop_zero,List.drop_zero]
            exact ⟨fun h=>⟨h.1,toList_inj.1 h3,toList_inj.1 h4,h.2⟩,fun h=>⟨h.1,h.2.2.2⟩⟩
        · refine ⟨false,Ev.congr (fun k=>?_) no,⟨fun h=>(by cases h),fun h=>absurd (congrArg ByteArray.toList h.2.2.1) h4⟩⟩
          unfold aH.f
          rw [if_pos (by omega),if_pos (by omega),if_pos h3,bne_iff_ne.2 h4]
      · refine ⟨false,Ev.congr (fun k=>?_) no,⟨fun h=>(by cases h),fun h=>absurd (congrArg ByteArray.toList h.2.1) h3⟩⟩
        unfold aH.f
        rw [if_pos (by omega),if_pos (by omega),if_neg h3]
    · refine ⟨false,Ev.congr (fun k=>?_) no,⟨fun h=>(by cases h),fun h=>absurd (congrArg List.length h.2.2.2) h2⟩⟩
      unfold aH.f
      rw [if_pos (by omega),if_neg (by omega)]
  · refine ⟨false,Ev.congr (fun k=>?_) no,⟨fun h=>(by cases h),fun h=>absurd (congrArg List.length h.1) h1⟩⟩
    unfold aH.f
    rw [if_neg (by omega)]
theorem QB (t1:List ByteArray) (lo1 Ez:ByteArray) (c1:List jo) (hc:c1.length≤140737488355328) (ht:t1.length≤140737488355328):Ev (fun k=>aH.f k t1 lo1 Ez c1 t1 lo1 Ez c1) true:=by
  obtain ⟨b,hb,hi⟩:=Xp t1 lo1 Ez c1 t1 lo1 Ez c1 hc ht
  rwa [hi.2 ⟨rfl,rfl,rfl,rfl⟩] at hb
end Go.Proofs.YtkclndkbccbhaaaDoor.P
end
