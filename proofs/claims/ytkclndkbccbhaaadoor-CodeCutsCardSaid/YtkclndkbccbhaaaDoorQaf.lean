/- Parts of the proof of Both: what the functions that it reaches compute, and plain facts about that. -/
import Derived.Test.YtkclndkbccbhaaaDoorQac
import Derived.Test.YtkclndkbccbhaaaDoorQad
import Derived.Test.YtkclndkbccbhaaaDoorQae
set_option linter.unusedVariables false
set_option linter.unusedSimpArgs false
section
namespace Go.Proofs.YtkclndkbccbhaaaDoor.P
open Go.RowKit Go.Proofs.az.dw Go.Proofs.az.gB Go.Proofs.az.gX
attribute [local go_sem] pW pU su rZ oh nZ pV pR
mutual
def bH.l0:Nat→List (List ByteArray)→List ByteArray→Int→Int→List ByteArray→ByteArray→ByteArray→List (jo)→Option (ByteArray × Int)
  | 0,_,_,_,_,_,_,_,_=>none
  | k+1,x4,x13,x14,x15,WY,Oj,Oi,Hu=>if x15 < x14 then (if 0≤x15 then (if x15 < (x13.length:Int) then (if x4.length < 5864062014805 then (bH.l0 k (x4++[(([(⟨#[116,121,112,101]⟩:ByteArray),ja ByteArray.empty x13 x15]:List ByteArray))]) x13 x14 (wrap64 (x15+1)) WY Oj Oi Hu) else (none)) else (none)) else (none)) else ((lY.f Oj).bind fun t119=>((lY.f Oi).bind fun t123=>((some (([(([(⟨#[108,111,99,97,108,115]⟩:ByteArray),t119]:List ByteArray)),(([(⟨#[103,108,111,98,97,108,115]⟩:ByteArray),t123]:List ByteArray))]:List (List ByteArray)):List (List ByteArray))).bind fun vw=>(if x4.length+vw.length < 5864062014805 then (bH.l1 k (x4++vw) Hu (Hu.length:Int) 0) else (none)))))
def bH.l1:Nat→List (List ByteArray)→List (jo)→Int→Int→Option (ByteArray × Int)
  | 0,_,_,_,_=>none
  | k+1,x4,x37,x38,x39=>if x39 < x38 then (if 0≤x39 then (if x39 < (x37.length:Int) then ((o6.f ((bf x37 x39).f0) ((bf x37 x39).f1) ((bf x37 x39).f2) ((bf x37 x39).f3) ((bf x37 x39).f4)).bind fun t135=>(if x4.length < 5864062014805 then (bH.l1 k (x4++[t135]) x37 x38 (wrap64 (x39+1))) else (none))) else (none)) else (none)) else ((lW.f x4).bind fun t141=>(some (t141,0)))
end
def bH.f (k:Nat) (aU:List ByteArray) (aX:ByteArray) (aZ:ByteArray) (aI:List (jo)):Option (ByteArray × Int):=(fB.f k aU aX aZ aI).bind fun t111=>(if t111=true then (bH.l0 k ([]:List (List ByteArray)) aU (aU.length:Int) 0 aU aX aZ aI) else (some ((⟨#[]⟩:ByteArray),2)))
theorem bH.lX:∀ k,(∀ y0 y1 y2 y3 y4 y5 y6 y7,iw (bH.l0 k y0 y1 y2 y3 y4 y5 y6 y7) (bH.l0 (k+1) y0 y1 y2 y3 y4 y5 y6 y7))∧(∀ y0 y1 y2 y3,iw (bH.l1 k y0 y1 y2 y3) (bH.l1 (k+1) y0 y1 y2 y3))
  | 0=>⟨fun _ _ _ _ _ _ _ _ r h=>by simp [bH.l0] at h,fun _ _ _ _ r h=>by simp [bH.l1] at h⟩
  | k+1=>by
    obtain ⟨qW,ih1⟩:=bH.lX k
    refine ⟨?_,?_⟩
    · intro y0 y1 y2 y3 y4 y5 y6 y7
      unfold bH.l0
      repeat' first
      | (with_reducible exact qW _ _ _ _ _ _ _ _)
      | (with_reducible exact ih1 _ _ _ _)
      | (with_reducible exact fB.mono _ _ _ _ _)
      | (with_reducible exact iw.refl _)
      | (with_reducible exact iw.none _)
      | (with_reducible refine iw.ite ?_ ?_)
      | (with_reducible refine iw.bind ?_ (fun _=>?_))
      | exact qW _ _ _ _ _ _ _ _
      | exact ih1 _ _ _ _
      | exact fB.mono _ _ _ _ _
      | exact iw.none _
      | refine iw.ite ?_ ?_
      | refine iw.bind ?_ (fun _=>?_)
    · intro y0 y1 y2 y3
      unfold bH.l1
      repeat' first
      | (with_reducible exact qW _ _ _ _ _ _ _ _)
      | (with_reducible exact ih1 _ _ _ _)
      | (with_reducible exact fB.mono _ _ _ _ _)
      | (with_reducible exact iw.refl _)
      | (with_reducible exact iw.none _)
      | (with_reducible refine iw.ite ?_ ?_)
      | (with_reducible refine iw.bind ?_ (fun _=>?_))
      | exact qW _ _ _ _ _ _ _ _
      | exact ih1 _ _ _ _
      | exact fB.mono _ _ _ _ _
      | exact iw.none _
      | refine iw.ite ?_ ?_
      | refine iw.bind ?_ (fun _=>?_)
theorem bH.mono:∀ a0 a1 a2 a3 k,iw (bH.f k a0 a1 a2 a3) (bH.f (k+1) a0 a1 a2 a3):=by
  intro a0 a1 a2 a3 k
  obtain ⟨qW,ih1⟩:=bH.lX k
  unfold bH.f
  repeat' first
      | (with_reducible exact qW _ _ _ _ _ _ _ _)
      | (with_reducible exact ih1 _ _ _ _)
      | (with_reducible exact fB.mono _ _ _ _ _)
      | (with_reducible exact iw.refl _)
      | (with_reducible exact iw.none _)
      | (with_reducible refine iw.ite ?_ ?_)
      | (with_reducible refine iw.bind ?_ (fun _=>?_))
      | exact qW _ _ _ _ _ _ _ _
      | exact ih1 _ _ _ _
      | exact fB.mono _ _ _ _ _
      | exact iw.none _
      | refine iw.ite ?_ ?_
      | refine iw.bind ?_ (fun _=>?_)
def bH.T9:Bool × List (List Nat × List Nat):=(true,[([],[]),([],[]),([1],[1]),([2],[2]),([3],[3]),([],[]),([5],[5]),([6,3],[6]),([7],[7]),([4,8],[4,8]),([0,9,7],[0,9]),([10,10,0,1,2,3,4,5,6,7,8,9,10],[0,10])])
def bH.B9:List Nat:=[0,0,2,6,14,0,32,110,238,510,1023,2047]
theorem bH.apz:rH .any (opsOf Tryd.f8 9)=bH.T9:=by kernel_rfl
theorem bH.akT:uo bH.T9.2 bH.B9=true:=by kernel_rfl
set_option maxHeartbeats 8000000 in
set_option maxRecDepth 100000 in
theorem bH.calls (k:Nat) (bF:Option Addr) (bD:Nat) (aU:List ByteArray) (aX:ByteArray) (aZ:ByteArray) (bG:Option Addr) (bC:Nat) (aI:List (jo)) (r1:ByteArray) (r2:Int) (w:World) (qY:Kd.C Kd.string w bF aU.length aU) (rq:aU.length≤bD) (qX:Kd.C qV w bG aI.length aI) (rf:aI.length≤bC) (kP:Kd.C xu w xw mX.length mX) (h:bH.f k aU aX aZ aI=some (r1,r2)) :
    Calls Tryd.prog 8 #[.agg #[.slice bF aU.length bD,.string aX,.string aZ,.slice bG aI.length bC]] w fun e w'=>e=.returned (.tuple #[.string r1,.int .i64 r2])∧Below w.heap.size w w':=by
  have QO:=Tryd.underlying25
  have XP:=Tryd.underlying35
  have lL:=ah.mk qY
  have oz:=ah.mk rq
  clear qY rq
  have lK:=ah.mk qX
  have ou:=ah.mk rf
  clear qX rf
  have mM:=ah.mk kP
  clear kP
  have HB:=ah.mk (Below.refl w.heap.size w)
  have H:((fB.f k aU aX aZ aI).bind fun t111=>(if t111=true then (bH.l0 k ([]:List (List ByteArray)) aU (aU.length:Int) 0 aU aX aZ aI) else (some ((⟨#[]⟩:ByteArray),2))))=some (r1,r2):=h
  clear h
  replace H:=Option.bind_eq_some_iff.mp H
  obtain ⟨t111,WO,H⟩:=H
  replace H:(if t111=true then (bH.l0 k ([]:List (List ByteArray)) aU (aU.length:Int) 0 aU aX aZ aI) else (some ((⟨#[]⟩:ByteArray),2)))=some (r1,r2):=H
  have A2:=ah.mk WO
  clear WO
  by_cases c3:t111=true
  · subst c3
    have H1:(bH.l0 k ([]:List (List ByteArray)) aU (aU.length:Int) 0 aU aX aZ aI)=some (r1,r2):=by rw [if_pos rfl] at H;exact H
    clear H
    have H:=H1
    clear H1
    have H':=ah.mk H
    clear H
    go_enter Tryd.func8,Tryd.ntmps8
    go_wp2_with (first|((with_reducible refine dL (N:=1) rfl ?_);refine dO ?hg (N:=1) ?hd (cs:=#[.slice bF aU.length bD,.string aX,.string aZ,.slice bG aI.length bC]) (t:=25) ?hr ?_;(case hd=>rfl);(case hg=>rfl);(case hr=>first|(go_simp;done)|(go_simp;rfl));intro gy hg w4 hbox hb;have dA:=ah.mk (aT (by repeat (first|(with_reducible first|exact HB.out|apply ak|apply ae|apply aj)|exact HB.out)) hb);have dC:=ah.mk (hbox);have dP:=ah.mk ((by rw [hg];exact (aA (by repeat (first|(with_reducible first|exact HB.out|apply ak|apply ae|apply aj)|exact HB.out))):w.heap.size≤gy));have eF:=ah.mk ((by rw [hg];exact (aA (by repeat (first|(with_reducible first|exact HB.out|apply ak|apply ae|apply aj)|exact HB.out))):w.heap.size≤gy));clear HB;have HB:=dA;have dM:=dC;have alA:=dP;have jI:=eF;clear dA dC dP eF;clear hb hbox hg;have UG:w4.cell? ⟨gy,0,none⟩=some (.slice bF aU.length bD):=(ay dM.out 0).trans rfl;have UF:w4.cell? ⟨gy,1,none⟩=some (.string aX):=(ay dM.out 1).trans rfl;have UE:w4.cell? ⟨gy,2,none⟩=some (.string aZ):=(ay dM.out 2).trans rfl;have UD:w4.cell? ⟨gy,3,none⟩=some (.slice bG aI.length bC):=(ay dM.out 3).trans rfl;have Ub:=ax dM.out 0;have Ua:=ax dM.out 1;have TZ:=ax dM.out 2;have TY:=ax dM.out 3)|((with_reducible refine bV (f:=12) rfl ?_);refine fF (some 10) rfl rfl Tryd.func12 (by kernel_rfl) rfl #[.agg #[.slice bF aU.length bD,.string aX,.string aZ,.slice bG aI.length bC]] rfl (by (try simp only [List.map_toArray,List.map_cons,List.map_nil]);first|done|rfl|(simp only [List.length_drop,List.length_take];rfl)) ?_;(with_reducible refine (fB.calls k _ _ aU aX aZ _ _ aI true _ ?dN ?iR ?iZ ?iY ?jD A2.out).mono ?_);(case dN=>repeat (first|exact (Kd.dB lL.out HB.out)|(with_reducible refine Kd.fJ ?_ _)|(with_reducible refine Kd.fH ?_ _)|(with_reducible refine Kd.gG ?_)));(case iR=>exact oz.out);(case iZ=>repeat (first|exact (Kd.dB lK.out HB.out)|(with_reducible refine Kd.fJ ?_ _)|(with_reducible refine Kd.fH ?_ _)|(with_reducible refine Kd.gG ?_)));(case iY=>exact ou.out);(case jD=>repeat (first|exact (Kd.dB mM.out HB.out)|(with_reducible refine Kd.fJ ?_ _)|(with_reducible refine Kd.fH ?_ _)|(with_reducible refine Kd.gG ?_)));rintro e w6 ⟨rfl,hb⟩;refine ⟨_,rfl,?_⟩;have dA:=ah.mk (aQ (g:=gy) (o:=.cells #[.slice bF aU.length bD,.string aX,.string aZ,.slice bG aI.length bC] 25 (0,0)) (by (with_reducible repeat (first|refine af ?_ _|refine ai ?_|refine ag ?_ _));exact dM.out) hb);have dC:=ah.mk (aT (by repeat (first|(with_reducible first|exact HB.out|apply ak|apply ae|apply aj|refine au ?_ jI.out)|exact HB.out)) hb);clear dM;clear HB;have dM:=dA;have HB:=dC;clear dA dC;(try clear hb);(try clear hb2);(try clear hk);(try clear hi);have UC:w6.cell? ⟨gy,0,none⟩=some (.slice bF aU.length bD):=(ay dM.out 0).trans rfl;have UB:w6.cell? ⟨gy,1,none⟩=some (.string aX):=(ay dM.out 1).trans rfl;have UA:w6.cell? ⟨gy,2,none⟩=some (.string aZ):=(ay dM.out 2).trans rfl;have Uz:w6.cell? ⟨gy,3,none⟩=some (.slice bG aI.length bC):=(ay dM.out 3).trans rfl;have TW:=ax dM.out 0;have TV:=ax dM.out 1;have TU:=ax dM.out 2;have TT:=ax dM.out 3))
    go_loopg [4,15] k (fun kq v4 v15 w'=>∃ (nJ:List (List ByteArray)) (oH:Int),v15=.int .i64 oH∧ah (bH.l0 kq nJ aU (aU.length:Int) oH aU aX aZ aI=some (r1,r2))∧ah (kq≤k)∧ah (Kd.N (Kd.slice 9 Kd.string) 22 w' w.heap.size (fun k_=>k_ ≠ gy) v4 nJ)∧ah (w'.heap[gy]? = some (.cells #[(.slice bF aU.length bD),.string aX,.string aZ,(.slice bG aI.length bC)] 25 (0,0)))∧ah (Below w.heap.size w w'))
    case atStart=>exact ⟨(([]:List (List ByteArray))),(0),(by first|rfl|(simp;done)|(simp [*];done)),H',⟨Nat.le_refl _⟩,⟨by first|exact Kd.MI _ _ _ _ _|exact Kd.MK _ _ _ _ _|exact Kd.MG _ _ _ _ _|exact Kd.MJ _ _ _ _ _|exact Kd.kX _ _ _ _ _⟩,⟨by (with_reducible repeat (first|refine af ?_ _|refine ai ?_|refine ag ?_ _));exact dM.out⟩,⟨by repeat (first|(with_reducible first|exact HB.out|apply ak|apply ae|apply aj|refine au ?_ jI.out)|exact HB.out)⟩⟩
    case round =>
      clear H'
      try clear c1
      try clear p2
      try clear c3
      try clear UG
      try clear UF
      try clear UE
      try clear UD
      try clear UC
      try clear UB
      try clear UA
      try clear Uz
      try clear Ub
      try clear Ua
      try clear TZ
      try clear TY
      try clear TW
      try clear TV
      try clear TU
      try clear TT
      obtain ⟨nJ,oH,rfl,HA,CY,jF,dM,HB⟩:=hrel
      cases gk with
      | zero=>exact absurd HA.out (by simp [bH.l0])
      | succ k1 =>
        have H:=HA.out
        clear HA
        simp only [bH.l0] at H
        by_cases c8:oH < (aU.length:Int)
        · rw [if_pos c8] at H
          have FI:decide (oH < (aU.length:Int))=true:=decide_eq_true c8
          clear c8
          by_cases c9:0≤oH
          · rw [if_pos c9] at H
            have acS:decide (0≤oH)=true:=decide_eq_true c9
            clear c9
            by_cases c10:oH < (aU.length:Int)
            · rw [if_pos c10] at H
              have VS:decide (oH < (aU.length:Int))=true:=decide_eq_true c10
              clear c10
              obtain ⟨y113,hy113⟩:∃ y_:List ByteArray,y_=(([(⟨#[116,121,112,101]⟩:ByteArray),ja ByteArray.empty aU oH]:List ByteArray)):=⟨_,rfl⟩
              replace H:(if nJ.length < 5864062014805 then (bH.l0 k1 (nJ++[y113]) aU (aU.length:Int) (wrap64 (oH+1)) aU aX aZ aI) else (none))=some (r1,r2):=by first|(rw [hy113];with_reducible exact H)|(have vk:=(Option.bind_some _ _).symm.trans H;rw [hy113];with_reducible exact vk)|(have vk:=(Option.bind_some _ _).symm.trans H;with_reducible exact vk)|with_reducible exact H|(rw [hy113];exact H)|exact H
              have abt:=ah.mk hy113
              clear hy113
              by_cases c11:nJ.length < 5864062014805
              · rw [if_pos c11] at H
                have ale:=ah.mk c11
                clear c11
                obtain ⟨adl,Lm⟩:∃ y_:List (List ByteArray),y_=(nJ++[y113]):=⟨_,rfl⟩
                replace H:(bH.l0 k1 adl aU (aU.length:Int) (wrap64 (oH+1)) aU aX aZ aI)=some (r1,r2):=by first|(rw [Lm];with_reducible exact H)|(have vk:=(Option.bind_some _ _).symm.trans H;rw [Lm];with_reducible exact vk)|(have vk:=(Option.bind_some _ _).symm.trans H;with_reducible exact vk)|with_reducible exact H|(rw [Lm];exact H)|exact H
                have ak7:=ah.mk Lm
                clear Lm
                have H':=ah.mk H
                clear H
                have XE:0≤(oH:Int):=of_decide_eq_true (by first|(with_reducible assumption)|assumption)
                have XC:oH < (aU.length:Int):=of_decide_eq_true (by first|(with_reducible assumption)|assumption)
                obtain ⟨VV,arH,DN⟩:=Kd.iU lL.out oH XE XC
                cases arH
                replace DN:=(HB.out.cell (World.block_lt_of_cell? w _ DN)).trans DN
                replace XE:=eq_true XE
                replace XC:=eq_true XC
                go_wp2_with (first|((with_reducible refine dL (N:=21) rfl ?_);refine Kd.ak1 Kd.string _ 9 ?hg (N:=21) ?hd (xs:=([(⟨#[116,121,112,101]⟩:ByteArray),ja ByteArray.empty aU oH]:List ByteArray)) (inner:=[.string (⟨#[116,121,112,101]⟩:ByteArray),.string (ja ByteArray.empty aU oH)]) (ok:=fun _=>True) (qR:=fun _=>True) ?hr ?hp (fun _ hk=>hk) trivial (Below.refl _ _) (Nat.le_refl _) (by simp) ?_;(case hd=>rfl);(case hg=>rfl);(case hr=>first|(go_simp;done)|(go_simp;rfl));(case hp=>exact (jY.one (show Kd.M Kd.string _ _ _ (⟨#[116,121,112,101]⟩:ByteArray) [.string (⟨#[116,121,112,101]⟩:ByteArray)] from rfl) (jY.one (show Kd.M Kd.string _ _ _ (ja ByteArray.empty aU oH) [.string (ja ByteArray.empty aU oH)] from rfl) (jY.none _ _))));intro avj w12 QQ hb NU tJ;clear NU tJ;(first|rw [← abt.out] at QQ|(simp only [Int.reduceToNat] at QQ;rw [← abt.out] at QQ));have dA:=ah.mk (Kd.qj (by (with_reducible repeat (first|apply Kd.ku|apply Kd.jZ|apply Kd.lu));exact jF.out) (Kd.gV QQ) hb);have dC:=ah.mk (Kd.dS QQ (aA (by repeat (first|(with_reducible first|exact HB.out|apply ak|apply ae|apply aj|refine au ?_ jI.out)|exact HB.out))));have dP:=ah.mk (aQ (g:=gy) (o:=.cells #[.slice (some VV) aU.length bD,.string aX,.string aZ,.slice bG aI.length bC] 25 (0,0)) (by (with_reducible repeat (first|refine af ?_ _|refine ai ?_|refine ag ?_ _));exact dM.out) hb);have eF:=ah.mk (aT (by repeat (first|(with_reducible first|exact HB.out|apply ak|apply ae|apply aj|refine au ?_ jI.out)|exact HB.out)) hb);clear jF;clear dM;clear HB;have jF:=dA;have Qr:=dC;have dM:=dP;have HB:=eF;clear dA dC dP eF;clear hb QQ;obtain ⟨asc,arK,arD⟩:=Kd.dR Qr.out;subst arD)|((with_reducible refine lH (b:=.append) (xs:=#[.tmp 19,.tmp 22]) rfl ?_);at_builtin;refine Kd.MM (Kd.slice 9 Kd.string) (w0:=w) w.heap.size rfl (.tmp 19) (.tmp 22) 37 22 (.slice none 0 0) 24 rfl Tryd.underlying37 info22 rfl (by decide) (by omega) u4 nJ y113 [.slice asc y113.length arK] (fun k_=>k_ ≠ gy) (fun k_=>((fun k_=>k_ ≠ gy)) k_∧some k_ ≠ (u4:Value).ownBlock) rfl rfl ?aP (fun _ hk=>hk) ?aF ?aO ?aB ?aS ?aL ?_;(case aP=>exact (Kd.uU (Kd.dF (Kd.bP (ok':=(fun k_=>((fun k_=>k_ ≠ gy)) k_∧some k_ ≠ (u4:Value).ownBlock)) (Kd.bI (Kd.oL (Qr.out) (Kd.uQ jF.out) (by decide)) dM.out (by decide)) (fun k_ hk=>⟨hk.2,hk.1.2⟩))).2.1 (Kd.R_F (Kd.bP (ok':=(fun k_=>((fun k_=>k_ ≠ gy)) k_∧some k_ ≠ (u4:Value).ownBlock)) (Kd.bI (Kd.oL (Qr.out) (Kd.uQ jF.out) (by decide)) dM.out (by decide)) (fun k_ hk=>⟨hk.2,hk.1.2⟩)))));(case aB=>exact (by repeat (first|(with_reducible first|exact HB.out|apply ak|apply ae|apply aj|refine au ?_ jI.out)|exact HB.out)));(case aF=>exact (fun k_ hk=>Kd.Fv (g:=gy) (o:=.cells #[.slice (some VV) aU.length bD,.string aX,.string aZ,.slice bG aI.length bC] 25 (0,0)) (by (with_reducible repeat (first|refine af ?_ _|refine ai ?_|refine ag ?_ _));exact dM.out) k_ hk));(case aO=>exact (by (with_reducible repeat (first|apply Kd.ku|apply Kd.jZ|apply Kd.lu));exact Kd.qi jF.out (fun _ hk=>hk.1)));(case aS=>exact (aA (by repeat (first|(with_reducible first|exact HB.out|apply ak|apply ae|apply aj|refine au ?_ jI.out)|exact HB.out))));(case aL=>have:=ale.out;omega);intro v117 w14 ho hb hg hat;rw [← ak7.out] at ho;have dA:=ah.mk (zg (g:=gy) (o:=.cells #[.slice (some VV) aU.length bD,.string aX,.string aZ,.slice bG aI.length bC] 25 (0,0)) (by (with_reducible repeat (first|refine af ?_ _|refine ai ?_|refine ag ?_ _));exact dM.out) hg (Kd.aaD jF.out dM.out (by decide)));have dC:=ah.mk (hb);have dP:=ah.mk (ho);clear dM;clear HB;clear jF;clear Qr;have dM:=dA;have HB:=dC;have alo:=dP;clear dA dC dP;clear ho hb hg hat))
                go_roundg k1
                case measure=>have:=CY.out;omega
                case rel=>exact ⟨(adl),(wrap64 (oH+1)),(by first|rfl|(simp;done)|(simp [*];done)),H',⟨by have:=CY.out;omega⟩,⟨by (with_reducible repeat (first|apply Kd.ku|apply Kd.jZ|apply Kd.lu));exact alo.out⟩,⟨by (with_reducible repeat (first|refine af ?_ _|refine ai ?_|refine ag ?_ _));exact dM.out⟩,⟨by repeat (first|(with_reducible first|exact HB.out|apply ak|apply ae|apply aj|refine au ?_ jI.out)|exact HB.out)⟩⟩
              · rw [if_neg c11] at H
                exact absurd H (by simp)
            · rw [if_neg c10] at H
              exact absurd H (by simp)
          · rw [if_neg c9] at H
            exact absurd H (by simp)
        · rw [if_neg c8] at H
          have FI:decide (oH < (aU.length:Int))=false:=decide_eq_false c8
          clear c8
          replace H:=Option.bind_eq_some_iff.mp H
          obtain ⟨t119,WQ,H⟩:=H
          replace H:((lY.f aZ).bind fun t123=>((some (([(([(⟨#[108,111,99,97,108,115]⟩:ByteArray),t119]:List ByteArray)),(([(⟨#[103,108,111,98,97,108,115]⟩:ByteArray),t123]:List ByteArray))]:List (List ByteArray)):List (List ByteArray))).bind fun vw=>(if nJ.length+vw.length < 5864062014805 then (bH.l1 k1 (nJ++vw) aI (aI.length:Int) 0) else (none))))=some (r1,r2):=H
          have A16:=ah.mk WQ
          clear WQ
          obtain ⟨F9,Ll⟩:∃ y_:List ByteArray,y_=(([(⟨#[108,111,99,97,108,115]⟩:ByteArray),t119]:List ByteArray)):=⟨_,rfl⟩
          replace H:((lY.f aZ).bind fun t123=>((some (([F9,(([(⟨#[103,108,111,98,97,108,115]⟩:ByteArray),t123]:List ByteArray))]:List (List ByteArray)):List (List ByteArray))).bind fun vw=>(if nJ.length+vw.length < 5864062014805 then (bH.l1 k1 (nJ++vw) aI (aI.length:Int) 0) else (none))))=some (r1,r2):=by first|(rw [Ll];with_reducible exact H)|(have vk:=(Option.bind_some _ _).symm.trans H;rw [Ll];with_reducible exact vk)|(have vk:=(Option.bind_some _ _).symm.trans H;with_reducible exact vk)|with_reducible exact H|(rw [Ll];exact H)|exact H
          have Hf:=ah.mk Ll
          clear Ll
          replace H:=Option.bind_eq_some_iff.mp H
          obtain ⟨t123,alR,H⟩:=H
          replace H:((some (([F9,(([(⟨#[103,108,111,98,97,108,115]⟩:ByteArray),t123]:List ByteArray))]:List (List ByteArray)):List (List ByteArray))).bind fun vw=>(if nJ.length+vw.length < 5864062014805 then (bH.l1 k1 (nJ++vw) aI (aI.length:Int) 0) else (none)))=some (r1,r2):=H
          have A17:=ah.mk alR
          clear alR
          obtain ⟨J6,Lj⟩:∃ y_:List ByteArray,y_=(([(⟨#[103,108,111,98,97,108,115]⟩:ByteArray),t123]:List ByteArray)):=⟨_,rfl⟩
          replace H:((some (([F9,J6]:List (List ByteArray)):List (List ByteArray))).bind fun vw=>(if nJ.length+vw.length < 5864062014805 then (bH.l1 k1 (nJ++vw) aI (aI.length:Int) 0) else (none)))=some (r1,r2):=by first|(rw [Lj];with_reducible exact H)|(have vk:=(Option.bind_some _ _).symm.trans H;rw [Lj];with_reducible exact vk)|(have vk:=(Option.bind_some _ _).symm.trans H;with_reducible exact vk)|with_reducible exact H|(rw [Lj];exact H)|exact H
          have He:=ah.mk Lj
          clear Lj
          obtain ⟨vw,AU⟩:∃ y_:List (List ByteArray),y_=(([F9,J6]:List (List ByteArray))):=⟨_,rfl⟩
          replace H:(if nJ.length+vw.length < 5864062014805 then (bH.l1 k1 (nJ++vw) aI (aI.length:Int) 0) else (none))=some (r1,r2):=by first|(rw [AU];with_reducible exact H)|(have vk:=(Option.bind_some _ _).symm.trans H;rw [AU];with_reducible exact vk)|(have vk:=(Option.bind_some _ _).symm.trans H;with_reducible exact vk)|with_reducible exact H|(rw [AU];exact H)|exact H
          have abr:=ah.mk AU
          clear AU
          by_cases c18:nJ.length+vw.length < 5864062014805
          · rw [if_pos c18] at H
            have ald:=ah.mk c18
            clear c18
            obtain ⟨adk,Lh⟩:∃ y_:List (List ByteArray),y_=(nJ++vw):=⟨_,rfl⟩
            replace H:(bH.l1 k1 adk aI (aI.length:Int) 0)=some (r1,r2):=by first|(rw [Lh];with_reducible exact H)|(have vk:=(Option.bind_some _ _).symm.trans H;rw [Lh];with_reducible exact vk)|(have vk:=(Option.bind_some _ _).symm.trans H;with_reducible exact vk)|with_reducible exact H|(rw [Lh];exact H)|exact H
            have ak6:=ah.mk Lh
            clear Lh
            have H':=ah.mk H
            clear H
            obtain ⟨DD,DC,arB⟩:=Kd.JX jF.out
            subst arB
            try go_wp2
            have dA:=ah.mk (Kd.lu jF.out)
            have dC:=ah.mk (ai dM.out)
            have dP:=ah.mk (aj HB.out)
            clear jF
            clear dM
            clear HB
            have jF:=dA
            have dM:=dC
            have HB:=dP
            clear dA dC dP
            refine vY (n:=12) (S:=fun w'=>w'.cell? ⟨gy,0,none⟩=some (.slice bF aU.length bD)∧w'.cell? ⟨gy,1,none⟩=some (.string aX)∧w'.cell? ⟨gy,2,none⟩=some (.string aZ)∧w'.cell? ⟨gy,3,none⟩=some (.slice bG aI.length bC)) (ds:=[]) #[false,false,false,false,false,false,false,false,false,false,false,false] (by kernel_rfl) rfl rfl ⟨(ay dM.out 0).trans rfl,(ay dM.out 1).trans rfl,(ay dM.out 2).trans rfl,(ay dM.out 3).trans rfl⟩ (fun hHeld=>?_);refine nY bH.apz bH.akT (fun fM o8=>?_)
            generalize wr.drew=w20 at jF dM HB hHeld ⊢
            refine dn (i:=0) (N:=some 25) (v:=?_) (a':=?_) #[true,false,false,false,false,false,false,false,false,false,false,false] rfl rfl (bU fM.out (by kernel_rfl)) (fun _ _ _ h=>h) (Or.inl ⟨by rfl,?_⟩) ?_ ?_
            rotate_left
            · intro w'
              go_simp
              with_reducible rfl
            rotate_left
            · simp only [Act.put,List.setIfInBounds_toArray,List.set_cons_zero,List.set_cons_succ,bJ,bM]
              rfl
            refine dn (i:=1) (N:=some 26) (v:=?_) (a':=?_) #[true,true,false,false,false,false,false,false,false,false,false,false] rfl rfl (bU fM.out (by kernel_rfl)) (fun _ _ _ h=>h) (Or.inl ⟨by rfl,?_⟩) ?_ ?_
            rotate_left
            · intro w'
              go_simp
              with_reducible rfl
            rotate_left
            · simp only [Act.put,List.setIfInBounds_toArray,List.set_cons_zero,List.set_cons_succ,bJ,bM]
              rfl
            refine dn (i:=5) (N:=some 30) (v:=?_) (a':=?_) #[true,true,false,false,false,true,false,false,false,false,false,false] rfl rfl (bU fM.out (by kernel_rfl)) (fun _ _ _ h=>h) (Or.inl ⟨by rfl,?_⟩) ?_ ?_
            rotate_left
            · intro w'
              go_simp
              with_reducible rfl
            rotate_left
            · simp only [Act.put,List.setIfInBounds_toArray,List.set_cons_zero,List.set_cons_succ,bJ,bM]
              rfl
            refine iQ (i:=2) (N:=some 27) (v:=?_) (a':=?_) #[true,true,true,false,false,true,false,false,false,false,false,false] rfl rfl (fA fM.out o8.out (by kernel_rfl)) (fun _ _ _ h=>h) (Or.inl ⟨by rfl,?_⟩) hHeld ?_ ?_
            rotate_left
            · rintro w' ⟨s0,s1,s2,s3⟩
              go_simp
              with_reducible rfl
            rotate_left
            · simp only [Act.put,List.setIfInBounds_toArray,List.set_cons_zero,List.set_cons_succ,bJ,bM]
              rfl
            refine iQ (i:=6) (N:=some 31) (v:=?_) (a':=?_) #[true,true,true,false,false,true,true,false,false,false,false,false] rfl rfl (fA fM.out o8.out (by kernel_rfl)) (fun _ _ _ h=>h) (Or.inl ⟨by rfl,?_⟩) hHeld ?_ ?_
            rotate_left
            · rintro w' ⟨s0,s1,s2,s3⟩
              go_simp
              with_reducible rfl
            rotate_left
            · simp only [Act.put,List.setIfInBounds_toArray,List.set_cons_zero,List.set_cons_succ,bJ,bM]
              rfl
            refine zL (i:=3) (N:=some 28) #[true,true,true,true,false,true,true,false,false,false,false,false] rfl rfl (mD fM.out (by kernel_rfl)) (by decide) (fun K hK=>?_)
            refine zF Tryd.func13 (by kernel_rfl) rfl #[.string aX] (by rfl) rfl rfl (by (try simp only [List.map_toArray,List.map_cons,List.map_nil]);first|done|rfl|(simp only [List.length_drop,List.length_take];rfl)) ?_
            with_reducible refine (lY.calls aX t119 _ A16.out).mono ?_
            rintro e w' ⟨rfl,⟨nd,rfl⟩⟩
            refine ⟨_,rfl,?_⟩
            refine hK.out _ _ ⟨(ay dM.out 0).trans rfl,(ay dM.out 1).trans rfl,(ay dM.out 2).trans rfl,(ay dM.out 3).trans rfl⟩ (fun hHeld=>?_)
            clear hK K
            refine nN (a':=?_) ?_ ?_
            rotate_left
            · show Act.put _ (some 28) _=_
              simp only [Act.put,List.setIfInBounds_toArray,List.set_cons_zero,List.set_cons_succ,bJ,bM]
              rfl
            refine adI (σ:=Value × Value) 3 #[true,true,true,true,true,true,true,true,true,false,false,false] (fun s_=>[(29,s_.1),(32,.string t123),(33,s_.2)]) (fun s_ w'=>(w'.cell? ⟨gy,0,none⟩=some (.slice bF aU.length bD)∧w'.cell? ⟨gy,1,none⟩=some (.string aX)∧w'.cell? ⟨gy,2,none⟩=some (.string aZ)∧w'.cell? ⟨gy,3,none⟩=some (.slice bG aI.length bC))∧(Kd.R Kd.string 9 w' w.heap.size (fun k_=>some k_ ≠ (s_.2:Value).ownBlock) s_.1 F9)∧(Kd.R Kd.string 9 w' w.heap.size (fun k_=>some k_ ≠ (s_.1:Value).ownBlock) s_.2 J6)∧(Kd.N (Kd.slice 9 Kd.string) 22 w' w.heap.size (fun k_=>some k_ ≠ (s_.1:Value).ownBlock∧some k_ ≠ (s_.2:Value).ownBlock∧k_ ≠ gy) (.slice DD nJ.length DC) nJ)∧(w'.heap[gy]? = some (.cells #[.slice bF aU.length bD,.string aX,.string aZ,.slice bG aI.length bC] 25 (0,0)))∧(Below w.heap.size w w')) ?_ ?_
            rotate_left
            · intro Vb
              refine adu (i:=4) (j:=7) (Ni:=some 29) (Nj:=some 32) #[true,true,true,true,true,true,true,false,false,false,false,false] #[true,true,true,true,false,true,true,true,false,false,false,false] rfl rfl rfl rfl (RX fM.out (by kernel_rfl)) (by decide) (by decide) (fun K hK=>?_) (fun K hK=>?_)
              · skip
                refine Kd.o7 Kd.string _ 9 ?hg (N:=29) ?hd (xs:=([(⟨#[108,111,99,97,108,115]⟩:ByteArray),t119]:List ByteArray)) (inner:=[.string (⟨#[108,111,99,97,108,115]⟩:ByteArray),.string t119]) (ok:=fun _=>True) (qR:=fun _=>True) ?hr ?hp (fun _ hk=>hk) trivial (Below.refl _ _) (Nat.le_refl _) (by simp) ?_;(case hd=>rfl);(case hg=>rfl);(case hr=>first|(go_simp;done)|(go_simp;rfl));(case hp=>exact (jY.one (show Kd.M Kd.string _ _ _ (⟨#[108,111,99,97,108,115]⟩:ByteArray) [.string (⟨#[108,111,99,97,108,115]⟩:ByteArray)] from rfl) (jY.one (show Kd.M Kd.string _ _ _ t119 [.string t119] from rfl) (jY.none _ _))))
                intro H8 w21 vH hb NU tJ
                clear NU tJ
                (first|rw [← Hf.out] at vH|(simp only [Int.reduceToNat] at vH;rw [← Hf.out] at vH))
                have dA:=ah.mk (Kd.qj (by (with_reducible repeat (first|apply Kd.ku|apply Kd.jZ|apply Kd.lu));exact jF.out) (Kd.gV vH) hb)
                have dC:=ah.mk (Kd.dS vH (aA (by repeat (first|(with_reducible first|exact HB.out|apply ak|apply ae|apply aj|refine au ?_ jI.out)|exact HB.out))))
                have dP:=ah.mk (aQ (g:=gy) (o:=.cells #[.slice bF aU.length bD,.string aX,.string aZ,.slice bG aI.length bC] 25 (0,0)) (by (with_reducible repeat (first|refine af ?_ _|refine ai ?_|refine ag ?_ _));exact dM.out) hb)
                have eF:=ah.mk (aT (by repeat (first|(with_reducible first|exact HB.out|apply ak|apply ae|apply aj|refine au ?_ jI.out)|exact HB.out)) hb)
                clear jF
                clear dM
                clear HB
                have jF:=dA
                have qy:=dC
                have dM:=dP
                have HB:=eF
                clear dA dC dP eF
                clear hb vH
                refine hK.out _ _ ⟨(ay dM.out 0).trans rfl,(ay dM.out 1).trans rfl,(ay dM.out 2).trans rfl,(ay dM.out 3).trans rfl⟩ (fun hHeld=>?_)
                clear hK K
                refine nN (a':=?_) ?_ ?_
                rotate_left
                · show Act.put _ (some 29) _=_
                  simp only [Act.put,List.setIfInBounds_toArray,List.set_cons_zero,List.set_cons_succ,bJ,bM]
                  rfl
                refine zL (i:=7) (N:=some 32) #[true,true,true,true,true,true,true,true,false,false,false,false] rfl rfl (mD fM.out (by kernel_rfl)) (by decide) (fun K hK=>?_)
                refine zF Tryd.func13 (by kernel_rfl) rfl #[.string aZ] (by rfl) rfl rfl (by (try simp only [List.map_toArray,List.map_cons,List.map_nil]);first|done|rfl|(simp only [List.length_drop,List.length_take];rfl)) ?_
                with_reducible refine (lY.calls aZ t123 _ A17.out).mono ?_
                rintro e w' ⟨rfl,⟨nd,rfl⟩⟩
                refine ⟨_,rfl,?_⟩
                refine hK.out _ _ ⟨(ay dM.out 0).trans rfl,(ay dM.out 1).trans rfl,(ay dM.out 2).trans rfl,(ay dM.out 3).trans rfl⟩ (fun hHeld=>?_)
                clear hK K
                refine nN (a':=?_) ?_ ?_
                rotate_left
                · show Act.put _ (some 32) _=_
                  simp only [Act.put,List.setIfInBounds_toArray,List.set_cons_zero,List.set_cons_succ,bJ,bM]
                  rfl
                refine zL (i:=8) (N:=some 33) #[true,true,true,true,true,true,true,true,true,false,false,false] rfl rfl (mD fM.out (by kernel_rfl)) (by decide) (fun K hK=>?_)
                refine Kd.o7 Kd.string _ 9 ?hg (N:=33) ?hd (xs:=([(⟨#[103,108,111,98,97,108,115]⟩:ByteArray),t123]:List ByteArray)) (inner:=[.string (⟨#[103,108,111,98,97,108,115]⟩:ByteArray),.string t123]) (ok:=fun _=>True) (qR:=fun _=>True) ?hr ?hp (fun _ hk=>hk) trivial (Below.refl _ _) (Nat.le_refl _) (by simp) ?_;(case hd=>rfl);(case hg=>rfl);(case hr=>first|(go_simp;done)|(go_simp;rfl));(case hp=>exact (jY.one (show Kd.M Kd.string _ _ _ (⟨#[103,108,111,98,97,108,115]⟩:ByteArray) [.string (⟨#[103,108,111,98,97,108,115]⟩:ByteArray)] from rfl) (jY.one (show Kd.M Kd.string _ _ _ t123 [.string t123] from rfl) (jY.none _ _))))
                intro H7 Ry tH hb NU tJ
                clear NU tJ
                (first|rw [← He.out] at tH|(simp only [Int.reduceToNat] at tH;rw [← He.out] at tH))
                have dA:=ah.mk (Kd.qj (by (with_reducible repeat (first|apply Kd.ku|apply Kd.jZ|apply Kd.lu));exact jF.out) (Kd.gV tH) hb)
                have dC:=ah.mk (Kd.gz (by (with_reducible repeat (first|apply Kd.aC|apply Kd.aG|apply Kd.aN));exact qy.out) (Kd.gV tH) hb)
                have dP:=ah.mk (Kd.dS (Kd.iW tH (Kd.lC (by (with_reducible repeat (first|apply Kd.aC|apply Kd.aG|apply Kd.aN));exact qy.out))) (aA (by repeat (first|(with_reducible first|exact HB.out|apply ak|apply ae|apply aj|refine au ?_ jI.out)|exact HB.out))))
                have eF:=ah.mk (aQ (g:=gy) (o:=.cells #[.slice bF aU.length bD,.string aX,.string aZ,.slice bG aI.length bC] 25 (0,0)) (by (with_reducible repeat (first|refine af ?_ _|refine ai ?_|refine ag ?_ _));exact dM.out) hb)
                have fK:=ah.mk (aT (by repeat (first|(with_reducible first|exact HB.out|apply ak|apply ae|apply aj|refine au ?_ jI.out)|exact HB.out)) hb)
                clear jF
                clear qy
                clear dM
                clear HB
                have jF:=dA
                have qy:=dC
                have uS:=dP
                have dM:=eF
                have HB:=fK
                clear dA dC dP eF fK
                clear hb tH
                refine hK.out _ _ ⟨(ay dM.out 0).trans rfl,(ay dM.out 1).trans rfl,(ay dM.out 2).trans rfl,(ay dM.out 3).trans rfl⟩ (fun hHeld=>?_)
                clear hK K
                refine nN (a':=?_) ?_ ?_
                rotate_left
                · show Act.put _ (some 33) _=_
                  simp only [Act.put,List.setIfInBounds_toArray,List.set_cons_zero,List.set_cons_succ,bJ,bM]
                  rfl
                exact nN (by simp only [o5,Act.put,List.setIfInBounds_toArray,List.set_cons_zero,List.set_cons_succ]) (Vb (H8,H7) _ ⟨hHeld,(by (with_reducible repeat (first|apply Kd.aC|apply Kd.aG|apply Kd.aN));exact Kd.bP qy.out (fun _ hk=>hk.2)),(by (with_reducible repeat (first|apply Kd.aC|apply Kd.aG|apply Kd.aN));exact Kd.bP uS.out (fun _ hk=>hk.2)),(by (with_reducible repeat (first|apply Kd.ku|apply Kd.jZ|apply Kd.lu));exact Kd.qi jF.out (fun _ hk=>⟨hk.1.2,⟨hk.2,hk.1.1⟩⟩)),(by (with_reducible repeat (first|refine af ?_ _|refine ai ?_|refine ag ?_ _));exact dM.out),(by repeat (first|(with_reducible first|exact HB.out|apply ak|apply ae|apply aj|refine au ?_ jI.out)|exact HB.out))⟩)
              · skip
                refine zF Tryd.func13 (by kernel_rfl) rfl #[.string aZ] (by rfl) rfl rfl (by (try simp only [List.map_toArray,List.map_cons,List.map_nil]);first|done|rfl|(simp only [List.length_drop,List.length_take];rfl)) ?_
                with_reducible refine (lY.calls aZ t123 _ A17.out).mono ?_
                rintro e w' ⟨rfl,⟨nd,rfl⟩⟩
                refine ⟨_,rfl,?_⟩
                refine hK.out _ _ ⟨(ay dM.out 0).trans rfl,(ay dM.out 1).trans rfl,(ay dM.out 2).trans rfl,(ay dM.out 3).trans rfl⟩ (fun hHeld=>?_)
                clear hK K
                refine nN (a':=?_) ?_ ?_
                rotate_left
                · show Act.put _ (some 32) _=_
                  simp only [Act.put,List.setIfInBounds_toArray,List.set_cons_zero,List.set_cons_succ,bJ,bM]
                  rfl
                refine adu (i:=4) (j:=8) (Ni:=some 29) (Nj:=some 33) #[true,true,true,true,true,true,true,true,false,false,false,false] #[true,true,true,true,false,true,true,true,true,false,false,false] rfl rfl rfl rfl (RX fM.out (by kernel_rfl)) (by decide) (by decide) (fun K hK=>?_) (fun K hK=>?_)
                · skip
                  refine Kd.o7 Kd.string _ 9 ?hg (N:=29) ?hd (xs:=([(⟨#[108,111,99,97,108,115]⟩:ByteArray),t119]:List ByteArray)) (inner:=[.string (⟨#[108,111,99,97,108,115]⟩:ByteArray),.string t119]) (ok:=fun _=>True) (qR:=fun _=>True) ?hr ?hp (fun _ hk=>hk) trivial (Below.refl _ _) (Nat.le_refl _) (by simp) ?_;(case hd=>rfl);(case hg=>rfl);(case hr=>first|(go_simp;done)|(go_simp;rfl));(case hp=>exact (jY.one (show Kd.M Kd.string _ _ _ (⟨#[108,111,99,97,108,115]⟩:ByteArray) [.string (⟨#[108,111,99,97,108,115]⟩:ByteArray)] from rfl) (jY.one (show Kd.M Kd.string _ _ _ t119 [.string t119] from rfl) (jY.none _ _))))
                  intro H8 w21 vH hb NU tJ
                  clear NU tJ
                  (first|rw [← Hf.out] at vH|(simp only [Int.reduceToNat] at vH;rw [← Hf.out] at vH))
                  have dA:=ah.mk (Kd.qj (by (with_reducible repeat (first|apply Kd.ku|apply Kd.jZ|apply Kd.lu));exact jF.out) (Kd.gV vH) hb)
                  have dC:=ah.mk (Kd.dS vH (aA (by repeat (first|(with_reducible first|exact HB.out|apply ak|apply ae|apply aj|refine au ?_ jI.out)|exact HB.out))))
                  have dP:=ah.mk (aQ (g:=gy) (o:=.cells #[.slice bF aU.length bD,.string aX,.string aZ,.slice bG aI.length bC] 25 (0,0)) (by (with_reducible repeat (first|refine af ?_ _|refine ai ?_|refine ag ?_ _));exact dM.out) hb)
                  have eF:=ah.mk (aT (by repeat (first|(with_reducible first|exact HB.out|apply ak|apply ae|apply aj|refine au ?_ jI.out)|exact HB.out)) hb)
                  clear jF
                  clear dM
                  clear HB
                  have jF:=dA
                  have qy:=dC
                  have dM:=dP
                  have HB:=eF
                  clear dA dC dP eF
                  clear hb vH
                  refine hK.out _ _ ⟨(ay dM.out 0).trans rfl,(ay dM.out 1).trans rfl,(ay dM.out 2).trans rfl,(ay dM.out 3).trans rfl⟩ (fun hHeld=>?_)
                  clear hK K
                  refine nN (a':=?_) ?_ ?_
                  rotate_left
                  · show Act.put _ (some 29) _=_
                    simp only [Act.put,List.setIfInBounds_toArray,List.set_cons_zero,List.set_cons_succ,bJ,bM]
                    rfl
                  refine zL (i:=8) (N:=some 33) #[true,true,true,true,true,true,true,true,true,false,false,false] rfl rfl (mD fM.out (by kernel_rfl)) (by decide) (fun K hK=>?_)
                  refine Kd.o7 Kd.string _ 9 ?hg (N:=33) ?hd (xs:=([(⟨#[103,108,111,98,97,108,115]⟩:ByteArray),t123]:List ByteArray)) (inner:=[.string (⟨#[103,108,111,98,97,108,115]⟩:ByteArray),.string t123]) (ok:=fun _=>True) (qR:=fun _=>True) ?hr ?hp (fun _ hk=>hk) trivial (Below.refl _ _) (Nat.le_refl _) (by simp) ?_;(case hd=>rfl);(case hg=>rfl);(case hr=>first|(go_simp;done)|(go_simp;rfl));(case hp=>exact (jY.one (show Kd.M Kd.string _ _ _ (⟨#[103,108,111,98,97,108,115]⟩:ByteArray) [.string (⟨#[103,108,111,98,97,108,115]⟩:ByteArray)] from rfl) (jY.one (show Kd.M Kd.string _ _ _ t123 [.string t123] from rfl) (jY.none _ _))))
                  intro H7 Ry tH hb NU tJ
                  clear NU tJ
                  (first|rw [← He.out] at tH|(simp only [Int.reduceToNat] at tH;rw [← He.out] at tH))
                  have dA:=ah.mk (Kd.qj (by (with_reducible repeat (first|apply Kd.ku|apply Kd.jZ|apply Kd.lu));exact jF.out) (Kd.gV tH) hb)
                  have dC:=ah.mk (Kd.gz (by (with_reducible repeat (first|apply Kd.aC|apply Kd.aG|apply Kd.aN));exact qy.out) (Kd.gV tH) hb)
                  have dP:=ah.mk (Kd.dS (Kd.iW tH (Kd.lC (by (with_reducible repeat (first|apply Kd.aC|apply Kd.aG|apply Kd.aN));exact qy.out))) (aA (by repeat (first|(with_reducible first|exact HB.out|apply ak|apply ae|apply aj|refine au ?_ jI.out)|exact HB.out))))
                  have eF:=ah.mk (aQ (g:=gy) (o:=.cells #[.slice bF aU.length bD,.string aX,.string aZ,.slice bG aI.length bC] 25 (0,0)) (by (with_reducible repeat (first|refine af ?_ _|refine ai ?_|refine ag ?_ _));exact dM.out) hb)
                  have fK:=ah.mk (aT (by repeat (first|(with_reducible first|exact HB.out|apply ak|apply ae|apply aj|refine au ?_ jI.out)|exact HB.out)) hb)
                  clear jF
                  clear qy
                  clear dM
                  clear HB
                  have jF:=dA
                  have qy:=dC
                  have uS:=dP
                  have dM:=eF
                  have HB:=fK
                  clear dA dC dP eF fK
                  clear hb tH
                  refine hK.out _ _ ⟨(ay dM.out 0).trans rfl,(ay dM.out 1).trans rfl,(ay dM.out 2).trans rfl,(ay dM.out 3).trans rfl⟩ (fun hHeld=>?_)
                  clear hK K
                  refine nN (a':=?_) ?_ ?_
                  rotate_left
                  · show Act.put _ (some 33) _=_
                    simp only [Act.put,List.setIfInBounds_toArray,List.set_cons_zero,List.set_cons_succ,bJ,bM]
                    rfl
                  exact nN (by simp only [o5,Act.put,List.setIfInBounds_toArray,List.set_cons_zero,List.set_cons_succ]) (Vb (H8,H7) _ ⟨hHeld,(by (with_reducible repeat (first|apply Kd.aC|apply Kd.aG|apply Kd.aN));exact Kd.bP qy.out (fun _ hk=>hk.2)),(by (with_reducible repeat (first|apply Kd.aC|apply Kd.aG|apply Kd.aN));exact Kd.bP uS.out (fun _ hk=>hk.2)),(by (with_reducible repeat (first|apply Kd.ku|apply Kd.jZ|apply Kd.lu));exact Kd.qi jF.out (fun _ hk=>⟨hk.1.2,⟨hk.2,hk.1.1⟩⟩)),(by (with_reducible repeat (first|refine af ?_ _|refine ai ?_|refine ag ?_ _));exact dM.out),(by repeat (first|(with_reducible first|exact HB.out|apply ak|apply ae|apply aj|refine au ?_ jI.out)|exact HB.out))⟩)
                · skip
                  refine Kd.o7 Kd.string _ 9 ?hg (N:=33) ?hd (xs:=([(⟨#[103,108,111,98,97,108,115]⟩:ByteArray),t123]:List ByteArray)) (inner:=[.string (⟨#[103,108,111,98,97,108,115]⟩:ByteArray),.string t123]) (ok:=fun _=>True) (qR:=fun _=>True) ?hr ?hp (fun _ hk=>hk) trivial (Below.refl _ _) (Nat.le_refl _) (by simp) ?_;(case hd=>rfl);(case hg=>rfl);(case hr=>first|(go_simp;done)|(go_simp;rfl));(case hp=>exact (jY.one (show Kd.M Kd.string _ _ _ (⟨#[103,108,111,98,97,108,115]⟩:ByteArray) [.string (⟨#[103,108,111,98,97,108,115]⟩:ByteArray)] from rfl) (jY.one (show Kd.M Kd.string _ _ _ t123 [.string t123] from rfl) (jY.none _ _))))
                  intro H7 w21 vH hb NU tJ
                  clear NU tJ
                  (first|rw [← He.out] at vH|(simp only [Int.reduceToNat] at vH;rw [← He.out] at vH))
                  have dA:=ah.mk (Kd.qj (by (with_reducible repeat (first|apply Kd.ku|apply Kd.jZ|apply Kd.lu));exact jF.out) (Kd.gV vH) hb)
                  have dC:=ah.mk (Kd.dS vH (aA (by repeat (first|(with_reducible first|exact HB.out|apply ak|apply ae|apply aj|refine au ?_ jI.out)|exact HB.out))))
                  have dP:=ah.mk (aQ (g:=gy) (o:=.cells #[.slice bF aU.length bD,.string aX,.string aZ,.slice bG aI.length bC] 25 (0,0)) (by (with_reducible repeat (first|refine af ?_ _|refine ai ?_|refine ag ?_ _));exact dM.out) hb)
                  have eF:=ah.mk (aT (by repeat (first|(with_reducible first|exact HB.out|apply ak|apply ae|apply aj|refine au ?_ jI.out)|exact HB.out)) hb)
                  clear jF
                  clear dM
                  clear HB
                  have jF:=dA
                  have uS:=dC
                  have dM:=dP
                  have HB:=eF
                  clear dA dC dP eF
                  clear hb vH
                  refine hK.out _ _ ⟨(ay dM.out 0).trans rfl,(ay dM.out 1).trans rfl,(ay dM.out 2).trans rfl,(ay dM.out 3).trans rfl⟩ (fun hHeld=>?_)
                  clear hK K
                  refine nN (a':=?_) ?_ ?_
                  rotate_left
                  · show Act.put _ (some 33) _=_
                    simp only [Act.put,List.setIfInBounds_toArray,List.set_cons_zero,List.set_cons_succ,bJ,bM]
                    rfl
                  refine zL (i:=4) (N:=some 29) #[true,true,true,true,true,true,true,true,true,false,false,false] rfl rfl (mD fM.out (by kernel_rfl)) (by decide) (fun K hK=>?_)
                  refine Kd.o7 Kd.string _ 9 ?hg (N:=29) ?hd (xs:=([(⟨#[108,111,99,97,108,115]⟩:ByteArray),t119]:List ByteArray)) (inner:=[.string (⟨#[108,111,99,97,108,115]⟩:ByteArray),.string t119]) (ok:=fun _=>True) (qR:=fun _=>True) ?hr ?hp (fun _ hk=>hk) trivial (Below.refl _ _) (Nat.le_refl _) (by simp) ?_;(case hd=>rfl);(case hg=>rfl);(case hr=>first|(go_simp;done)|(go_simp;rfl));(case hp=>exact (jY.one (show Kd.M Kd.string _ _ _ (⟨#[108,111,99,97,108,115]⟩:ByteArray) [.string (⟨#[108,111,99,97,108,115]⟩:ByteArray)] from rfl) (jY.one (show Kd.M Kd.string _ _ _ t119 [.string t119] from rfl) (jY.none _ _))))
                  intro H8 Ry tH hb NU tJ
                  clear NU tJ
                  (first|rw [← Hf.out] at tH|(simp only [Int.reduceToNat] at tH;rw [← Hf.out] at tH))
                  have dA:=ah.mk (Kd.qj (by (with_reducible repeat (first|apply Kd.ku|apply Kd.jZ|apply Kd.lu));exact jF.out) (Kd.gV tH) hb)
                  have dC:=ah.mk (Kd.gz (by (with_reducible repeat (first|apply Kd.aC|apply Kd.aG|apply Kd.aN));exact uS.out) (Kd.gV tH) hb)
                  have dP:=ah.mk (Kd.dS (Kd.iW tH (Kd.lC (by (with_reducible repeat (first|apply Kd.aC|apply Kd.aG|apply Kd.aN));exact uS.out))) (aA (by repeat (first|(with_reducible first|exact HB.out|apply ak|apply ae|apply aj|refine au ?_ jI.out)|exact HB.out))))
                  have eF:=ah.mk (aQ (g:=gy) (o:=.cells #[.slice bF aU.length bD,.string aX,.string aZ,.slice bG aI.length bC] 25 (0,0)) (by (with_reducible repeat (first|refine af ?_ _|refine ai ?_|refine ag ?_ _));exact dM.out) hb)
                  have fK:=ah.mk (aT (by repeat (first|(with_reducible first|exact HB.out|apply ak|apply ae|apply aj|refine au ?_ jI.out)|exact HB.out)) hb)
                  clear jF
                  clear uS
                  clear dM
                  clear HB
                  have jF:=dA
                  have uS:=dC
                  have qy:=dP
                  have dM:=eF
                  have HB:=fK
                  clear dA dC dP eF fK
                  clear hb tH
                  refine hK.out _ _ ⟨(ay dM.out 0).trans rfl,(ay dM.out 1).trans rfl,(ay dM.out 2).trans rfl,(ay dM.out 3).trans rfl⟩ (fun hHeld=>?_)
                  clear hK K
                  refine nN (a':=?_) ?_ ?_
                  rotate_left
                  · show Act.put _ (some 29) _=_
                    simp only [Act.put,List.setIfInBounds_toArray,List.set_cons_zero,List.set_cons_succ,bJ,bM]
                    rfl
                  exact nN (by simp only [o5,Act.put,List.setIfInBounds_toArray,List.set_cons_zero,List.set_cons_succ]) (Vb (H8,H7) _ ⟨hHeld,(by (with_reducible repeat (first|apply Kd.aC|apply Kd.aG|apply Kd.aN));exact Kd.bP qy.out (fun _ hk=>hk.2)),(by (with_reducible repeat (first|apply Kd.aC|apply Kd.aG|apply Kd.aN));exact Kd.bP uS.out (fun _ hk=>hk.2)),(by (with_reducible repeat (first|apply Kd.ku|apply Kd.jZ|apply Kd.lu));exact Kd.qi jF.out (fun _ hk=>⟨hk.2,⟨hk.1.2,hk.1.1⟩⟩)),(by (with_reducible repeat (first|refine af ?_ _|refine ai ?_|refine ag ?_ _));exact dM.out),(by repeat (first|(with_reducible first|exact HB.out|apply ak|apply ae|apply aj|refine au ?_ jI.out)|exact HB.out))⟩)
            rintro ⟨H8,H7⟩ RH ⟨kM,h0_,h1_,h2_,h3_,h4_⟩
            have dA:ah (Kd.R Kd.string 9 RH w.heap.size (fun k_=>some k_ ≠ (H7:Value).ownBlock) H8 F9):=⟨h0_⟩
            have dC:ah (Kd.R Kd.string 9 RH w.heap.size (fun k_=>some k_ ≠ (H8:Value).ownBlock) H7 J6):=⟨h1_⟩
            have dP:ah (Kd.N (Kd.slice 9 Kd.string) 22 RH w.heap.size (fun k_=>some k_ ≠ (H8:Value).ownBlock∧some k_ ≠ (H7:Value).ownBlock∧k_ ≠ gy) (.slice DD nJ.length DC) nJ):=⟨h2_⟩
            have eF:ah (RH.heap[gy]? = some (.cells #[.slice bF aU.length bD,.string aX,.string aZ,.slice bG aI.length bC] 25 (0,0))):=⟨h3_⟩
            have fK:ah (Below w.heap.size w RH):=⟨h4_⟩
            clear jF
            clear dM
            clear HB
            clear h0_ h1_ h2_ h3_ h4_
            have qy:=dA
            have uS:=dC
            have jF:=dP
            have dM:=eF
            have HB:=fK
            clear dA dC dP eF fK
            have hHeld:RH.cell? ⟨gy,0,none⟩=some (.slice bF aU.length bD)∧RH.cell? ⟨gy,1,none⟩=some (.string aX)∧RH.cell? ⟨gy,2,none⟩=some (.string aZ)∧RH.cell? ⟨gy,3,none⟩=some (.slice bG aI.length bC):=kM
            obtain ⟨WN,VH,aak⟩:=Kd.dR qy.out
            (first|subst aak|(injection aak with f1_ f2_ f3_;have f4_:=f1_.symm;have f5_:=f3_.symm;clear f1_ f2_ f3_;subst f4_;subst f5_))
            obtain ⟨xk,wZ,aaj⟩:=Kd.dR uS.out
            (first|subst aaj|(injection aaj with f1_ f2_ f3_;have f4_:=f1_.symm;have f5_:=f3_.symm;clear f1_ f2_ f3_;subst f4_;subst f5_))
            refine nN (a':=?_) ?_ ?_
            rotate_left
            · simp only [o5,Act.put,List.setIfInBounds_toArray,List.set_cons_zero,List.set_cons_succ]
              rfl
            refine zL (i:=9) (N:=some 34) #[true,true,true,true,true,true,true,true,true,true,false,false] rfl rfl (mD fM.out (by kernel_rfl)) (by decide) (fun K hK=>?_)
            refine Kd.N9 (Kd.slice 9 Kd.string) _ 22 ?hg (N':=34) ?hd (xs:=([F9,J6]:List (List ByteArray))) (inner:=[.slice WN F9.length VH,.slice xk J6.length wZ]) (ok:=(fun k_=>some k_ ≠ (.slice DD nJ.length DC:Value).ownBlock∧k_ ≠ gy)) (qR:=(fun k_=>some k_ ≠ (.slice DD nJ.length DC:Value).ownBlock∧k_ ≠ gy)) ?hr ?hp (fun _ hk=>hk) ((show ∀ k_,RH.heap.size≤k_→(fun k_=>some k_ ≠ (.slice DD nJ.length DC:Value).ownBlock∧k_ ≠ gy) k_ from fun k_ hk=>⟨Kd.fresh' (Kd.ak8 (by (with_reducible repeat (first|apply Kd.ku|apply Kd.jZ|apply Kd.lu));exact jF.out)) k_ hk,Kd.Fv (g:=gy) (o:=.cells #[.slice bF aU.length bD,.string aX,.string aZ,.slice bG aI.length bC] 25 (0,0)) (by (with_reducible repeat (first|refine af ?_ _|refine ai ?_|refine ag ?_ _));exact dM.out) k_ hk⟩) _ (Nat.le_refl _)) (Below.refl _ _) (Nat.le_refl _) (by simp) ?_;(case hd=>rfl);(case hg=>rfl);(case hr=>first|(go_simp;done)|(go_simp;rfl));(case hp=>exact (jY.one (show Kd.FK (Kd.slice 9 Kd.string) _ _ F9 [.slice WN F9.length VH] from (Kd.uU (Kd.dF (Kd.bP (ok':=(fun k_=>some k_ ≠ (.slice DD nJ.length DC:Value).ownBlock∧k_ ≠ gy)) (Kd.bI (Kd.oL (qy.out) (Kd.uQ jF.out) (by decide)) dM.out (by decide)) (fun k_ hk=>⟨hk.1.2,hk.2⟩))).2.1 (Kd.R_F (Kd.bP (ok':=(fun k_=>some k_ ≠ (.slice DD nJ.length DC:Value).ownBlock∧k_ ≠ gy)) (Kd.bI (Kd.oL (qy.out) (Kd.uQ jF.out) (by decide)) dM.out (by decide)) (fun k_ hk=>⟨hk.1.2,hk.2⟩))))) (jY.one (show Kd.FK (Kd.slice 9 Kd.string) _ _ J6 [.slice xk J6.length wZ] from (Kd.uU (Kd.dF (Kd.bP (ok':=(fun k_=>some k_ ≠ (.slice DD nJ.length DC:Value).ownBlock∧k_ ≠ gy)) (Kd.bI (Kd.oL (uS.out) (Kd.uQ jF.out) (by decide)) dM.out (by decide)) (fun k_ hk=>⟨hk.1.2,hk.2⟩))).2.1 (Kd.R_F (Kd.bP (ok':=(fun k_=>some k_ ≠ (.slice DD nJ.length DC:Value).ownBlock∧k_ ≠ gy)) (Kd.bI (Kd.oL (uS.out) (Kd.uQ jF.out) (by decide)) dM.out (by decide)) (fun k_ hk=>⟨hk.1.2,hk.2⟩))))) (jY.none _ _))))
            intro avi w28 QP hb NU tJ
            clear NU tJ
            (first|rw [← abr.out] at QP|(simp only [Int.reduceToNat] at QP;rw [← abr.out] at QP))
            have dA:=ah.mk (Kd.qj (by (with_reducible repeat (first|apply Kd.ku|apply Kd.jZ|apply Kd.lu));exact jF.out) (Kd.ac2 QP) hb)
            have dC:=ah.mk (Kd.aaE QP (aA (by repeat (first|(with_reducible first|exact HB.out|apply ak|apply ae|apply aj|refine au ?_ jI.out)|exact HB.out))))
            have dP:=ah.mk (aQ (g:=gy) (o:=.cells #[.slice bF aU.length bD,.string aX,.string aZ,.slice bG aI.length bC] 25 (0,0)) (by (with_reducible repeat (first|refine af ?_ _|refine ai ?_|refine ag ?_ _));exact dM.out) hb)
            have eF:=ah.mk (aT (by repeat (first|(with_reducible first|exact HB.out|apply ak|apply ae|apply aj|refine au ?_ jI.out)|exact HB.out)) hb)
            clear jF
            clear dM
            clear HB
            clear qy
            clear uS
            have jF:=dA
            have MN:=dC
            have dM:=dP
            have HB:=eF
            clear dA dC dP eF
            clear hb QP
            obtain ⟨avS,avE,aj3⟩:=Kd.JX MN.out
            (first|subst aj3|(injection aj3 with f1_ f2_ f3_;have f4_:=f1_.symm;have f5_:=f3_.symm;clear f1_ f2_ f3_;subst f4_;subst f5_))
            refine hK.out _ _ ⟨(ay dM.out 0).trans rfl,(ay dM.out 1).trans rfl,(ay dM.out 2).trans rfl,(ay dM.out 3).trans rfl⟩ (fun hHeld=>?_)
            clear hK K
            refine nN (a':=?_) ?_ ?_
            rotate_left
            · show Act.put _ (some 34) _=_
              simp only [Act.put,List.setIfInBounds_toArray,List.set_cons_zero,List.set_cons_succ,bJ,bM]
              rfl
            refine zL (i:=10) (N:=some 35) #[true,true,true,true,true,true,true,true,true,true,true,false] rfl rfl (mD fM.out (by kernel_rfl)) (by decide) (fun K hK=>?_)
            refine Kd.zY (Kd.slice 9 Kd.string) (w0:=w) w.heap.size (by rfl) (.tmp 25) (.tmp 34) 37 22 (.slice none 0 0) 24 rfl Tryd.underlying37 info22 rfl (by decide) (by omega) (.slice DD nJ.length DC) nJ vw _ _ _ (fun k_=>k_ ≠ gy) (fun k_=>((fun k_=>k_ ≠ gy)) k_∧some k_ ≠ (.slice DD nJ.length DC:Value).ownBlock) rfl rfl ?aO ?aR (fun _ hk=>hk) ?aF ?aB ?aS ?aL ?_
            (case aR=>exact (by skip;exact Kd.N_F (Kd.qi (ok':=(fun k_=>((fun k_=>k_ ≠ gy)) k_∧some k_ ≠ (.slice DD nJ.length DC:Value).ownBlock)) (MN.out) (fun k_ hk=>⟨hk.2,hk.1⟩))))
            (case aB=>exact (by repeat (first|(with_reducible first|exact HB.out|apply ak|apply ae|apply aj|refine au ?_ jI.out)|exact HB.out)))
            (case aF=>exact (fun k_ hk=>Kd.Fv (g:=gy) (o:=.cells #[.slice bF aU.length bD,.string aX,.string aZ,.slice bG aI.length bC] 25 (0,0)) (by (with_reducible repeat (first|refine af ?_ _|refine ai ?_|refine ag ?_ _));exact dM.out) k_ hk))
            (case aO=>exact (by (with_reducible repeat (first|apply Kd.ku|apply Kd.jZ|apply Kd.lu));exact Kd.qi jF.out (fun _ hk=>hk.1.2.2)))
            (case aS=>exact (aA (by repeat (first|(with_reducible first|exact HB.out|apply ak|apply ae|apply aj|refine au ?_ jI.out)|exact HB.out))))
            (case aL=>have:=ald.out;omega)
            intro v131 w30 ho hb hg hat
            rw [← ak6.out] at ho
            have dA:=ah.mk (zg (g:=gy) (o:=.cells #[.slice bF aU.length bD,.string aX,.string aZ,.slice bG aI.length bC] 25 (0,0)) (by (with_reducible repeat (first|refine af ?_ _|refine ai ?_|refine ag ?_ _));exact dM.out) hg (Kd.aaD jF.out dM.out (by decide)))
            have dC:=ah.mk (Kd.V9 (ok:=(fun k_=>k_ ≠ gy)) (by (with_reducible repeat (first|apply Kd.ku|apply Kd.jZ|apply Kd.lu));exact Kd.qi MN.out (fun _ hk=>⟨hk.2,hk.1⟩)) hg hat)
            have dP:=ah.mk (hb)
            have eF:=ah.mk (ho)
            clear dM
            clear MN
            clear HB
            clear jF
            have dM:=dA
            have MN:=dC
            have HB:=dP
            have aln:=eF
            clear dA dC dP eF
            clear ho hb hg hat
            refine hK.out _ _ ⟨(ay dM.out 0).trans rfl,(ay dM.out 1).trans rfl,(ay dM.out 2).trans rfl,(ay dM.out 3).trans rfl⟩ (fun hHeld=>?_)
            clear hK K
            refine nN (a':=?_) ?_ ?_
            rotate_left
            · show Act.put _ (some 35) _=_
              simp only [Act.put,List.setIfInBounds_toArray,List.set_cons_zero,List.set_cons_succ,bJ,bM]
              rfl
            refine dn (i:=11) (N:=some 4) (v:=?_) (a':=?_) #[true,true,true,true,true,true,true,true,true,true,true,true] rfl rfl (bU fM.out (by kernel_rfl)) (fun _ _ _ h=>h) (Or.inl ⟨by rfl,?_⟩) ?_ ?_
            rotate_left
            · intro w'
              go_simp
              with_reducible rfl
            rotate_left
            · simp only [Act.put,List.setIfInBounds_toArray,List.set_cons_zero,List.set_cons_succ,bJ,bM]
              rfl
            refine AY (sF fM.out (by kernel_rfl)) ?_
            have PU:w30.cell? ⟨gy,0,none⟩=some (.slice bF aU.length bD):=(ay dM.out 0).trans rfl
            have PT:w30.cell? ⟨gy,1,none⟩=some (.string aX):=(ay dM.out 1).trans rfl
            have PS:w30.cell? ⟨gy,2,none⟩=some (.string aZ):=(ay dM.out 2).trans rfl
            have PR:w30.cell? ⟨gy,3,none⟩=some (.slice bG aI.length bC):=(ay dM.out 3).trans rfl
            have Ph:=ax dM.out 0
            have Pg:=ax dM.out 1
            have Pe:=ax dM.out 2
            have O9:=ax dM.out 3
            try go_wp2
            go_loopg [4,39] k1 (fun kq v4 v39 w'=>∃ (Gf:List (List ByteArray)) (iK:Int),v39=.int .i64 iK∧ah (bH.l1 kq Gf aI (aI.length:Int) iK=some (r1,r2))∧ah (kq≤k1)∧ah (Kd.N (Kd.slice 9 Kd.string) 22 w' w.heap.size (fun k_=>k_ ≠ gy) v4 Gf)∧ah (w'.heap[gy]? = some (.cells #[(.slice bF aU.length bD),.string aX,.string aZ,(.slice bG aI.length bC)] 25 (0,0)))∧ah (Below w.heap.size w w'))
            case atStart=>exact ⟨(adk),(0),(by first|rfl|(simp;done)|(simp [*];done)),H',⟨Nat.le_refl _⟩,⟨by (with_reducible repeat (first|apply Kd.ku|apply Kd.jZ|apply Kd.lu));exact aln.out⟩,⟨by (with_reducible repeat (first|refine af ?_ _|refine ai ?_|refine ag ?_ _));exact dM.out⟩,⟨by repeat (first|(with_reducible first|exact HB.out|apply ak|apply ae|apply aj|refine au ?_ jI.out)|exact HB.out)⟩⟩
            case round =>
              clear H'
              try clear c1
              try clear p1
              try clear q1
              try clear hx1
              try clear p2
              try clear c3
              try clear p6
              try clear c8
              try clear FI
              try clear c9
              try clear acS
              try clear c10
              try clear VS
              try clear c11
              try clear p11
              try clear q11
              try clear avp
              try clear c12
              try clear c13
              try clear c18
              try clear PU
              try clear PT
              try clear PS
              try clear PR
              try clear UG
              try clear UF
              try clear UE
              try clear UD
              try clear UC
              try clear UB
              try clear UA
              try clear Uz
              try clear Ph
              try clear Pg
              try clear Pe
              try clear O9
              try clear Ub
              try clear Ua
              try clear TZ
              try clear TY
              try clear TW
              try clear TV
              try clear TU
              try clear TT
              try clear DN
              try clear XE
              try clear p2
              try clear XC
              obtain ⟨Gf,iK,rfl,HA,F7,jF,dM,HB⟩:=hrel
              cases gk with
              | zero=>exact absurd HA.out (by simp [bH.l1])
              | succ k2 =>
                have H:=HA.out
                clear HA
                simp only [bH.l1] at H
                by_cases VL:iK < (aI.length:Int)
                · rw [if_pos VL] at H
                  have akJ:decide (iK < (aI.length:Int))=true:=decide_eq_true VL
                  clear VL
                  by_cases c34:0≤iK
                  · rw [if_pos c34] at H
                    have Qe:decide (0≤iK)=true:=decide_eq_true c34
                    clear c34
                    by_cases c35:iK < (aI.length:Int)
                    · rw [if_pos c35] at H
                      have akH:decide (iK < (aI.length:Int))=true:=decide_eq_true c35
                      clear c35
                      replace H:=Option.bind_eq_some_iff.mp H
                      obtain ⟨t135,alH,H⟩:=H
                      replace H:(if Gf.length < 5864062014805 then (bH.l1 k2 (Gf++[t135]) aI (aI.length:Int) (wrap64 (iK+1))) else (none))=some (r1,r2):=H
                      have A36:=ah.mk alH
                      clear alH
                      by_cases c37:Gf.length < 5864062014805
                      · rw [if_pos c37] at H
                        have ala:=ah.mk c37
                        clear c37
                        obtain ⟨adi,Le⟩:∃ y_:List (List ByteArray),y_=(Gf++[t135]):=⟨_,rfl⟩
                        replace H:(bH.l1 k2 adi aI (aI.length:Int) (wrap64 (iK+1)))=some (r1,r2):=by first|(rw [Le];with_reducible exact H)|(have vk:=(Option.bind_some _ _).symm.trans H;rw [Le];with_reducible exact vk)|(have vk:=(Option.bind_some _ _).symm.trans H;with_reducible exact vk)|with_reducible exact H|(rw [Le];exact H)|exact H
                        have ak5:=ah.mk Le
                        clear Le
                        have H':=ah.mk H
                        clear H
                        have aca:0≤(iK:Int):=of_decide_eq_true (by first|(with_reducible assumption)|assumption)
                        have ab6:iK < (aI.length:Int):=of_decide_eq_true (by first|(with_reducible assumption)|assumption)
                        obtain ⟨Ha,arG,Iy,Iw,Iu,Ir,Iq⟩:=ny lK.out iK aca ab6
                        cases arG
                        replace Iy:=(HB.out.cell (World.block_lt_of_cell? w _ Iy)).trans Iy
                        replace Iw:=(HB.out.cell (World.block_lt_of_cell? w _ Iw)).trans Iw
                        replace Iu:=(HB.out.cell (World.block_lt_of_cell? w _ Iu)).trans Iu
                        replace Ir:=(HB.out.cell (World.block_lt_of_cell? w _ Ir)).trans Ir
                        replace Iq:=(HB.out.cell (World.block_lt_of_cell? w _ Iq)).trans Iq
                        replace aca:=eq_true aca
                        replace ab6:=eq_true ab6
                        go_wp2_with (first|((with_reducible refine dL (N:=8) rfl ?_);refine dO ?hg (N:=8) ?hd (cs:=#[.int .u8 0,.int .u8 0,.int .u8 0,.int .u8 0,.int .i64 0]) (t:=35) ?hr ?_;(case hd=>rfl);(case hg=>rfl);(case hr=>first|(go_simp;done)|(go_simp;rfl));intro nO hg MX hbox hb;have dA:=ah.mk (Kd.zk (Kd.V8 (by (with_reducible repeat (first|apply Kd.ku|apply Kd.jZ|apply Kd.lu));exact jF.out) nO (Nat.le_of_eq hg.symm)) hb);have dC:=ah.mk (aQ (g:=gy) (o:=.cells #[.slice bF aU.length bD,.string aX,.string aZ,.slice (some Ha) aI.length bC] 25 (0,0)) (by (with_reducible repeat (first|refine af ?_ _|refine ai ?_|refine ag ?_ _));exact dM.out) hb);have dP:=ah.mk (aT (by repeat (first|(with_reducible first|exact HB.out|apply ak|apply ae|apply aj|refine au ?_ jI.out)|exact HB.out)) hb);have eF:=ah.mk (hbox);have fK:=ah.mk ((by rw [hg];exact (aA (by repeat (first|(with_reducible first|exact HB.out|apply ak|apply ae|apply aj|refine au ?_ jI.out)|exact HB.out))):w.heap.size≤nO));have fQ:=ah.mk ((by rw [hg];exact (aA (by repeat (first|(with_reducible first|exact HB.out|apply ak|apply ae|apply aj|refine au ?_ jI.out)|exact HB.out))):w.heap.size≤nO));have iF:=ah.mk ((by rw [hg];exact Nat.ne_of_lt (dm (g:=gy) (o:=.cells #[.slice bF aU.length bD,.string aX,.string aZ,.slice (some Ha) aI.length bC] 25 (0,0)) (by (with_reducible repeat (first|refine af ?_ _|refine ai ?_|refine ag ?_ _));exact dM.out)):gy ≠ nO));have jd:=ah.mk ((by rw [hg];exact Nat.ne_of_gt (dm (g:=gy) (o:=.cells #[.slice bF aU.length bD,.string aX,.string aZ,.slice (some Ha) aI.length bC] 25 (0,0)) (by (with_reducible repeat (first|refine af ?_ _|refine ai ?_|refine ag ?_ _));exact dM.out)):nO ≠ gy));clear jF;clear dM;clear HB;have jF:=dA;have dM:=dC;have HB:=dP;have pG:=eF;have auo:=fK;have Hq:=fQ;have sJ:=iF;have Rx:=jd;clear dA dC dP eF fK fQ iF jd;clear hb hbox hg;have atf:=Rx.out;have asK:=sJ.out;have ZF:MX.cell? ⟨nO,0,none⟩=some (.int .u8 0):=(ay pG.out 0).trans rfl;have ZE:MX.cell? ⟨nO,1,none⟩=some (.int .u8 0):=(ay pG.out 1).trans rfl;have ZC:MX.cell? ⟨nO,2,none⟩=some (.int .u8 0):=(ay pG.out 2).trans rfl;have ZB:MX.cell? ⟨nO,3,none⟩=some (.int .u8 0):=(ay pG.out 3).trans rfl;have aoV:MX.cell? ⟨nO,4,none⟩=some (.int .i64 0):=(ay pG.out 4).trans rfl;have YD:=ax pG.out 0;have YC:=ax pG.out 1;have YB:=ax pG.out 2;have YA:=ax pG.out 3;have ano:=ax pG.out 4)|((with_reducible refine bV (f:=14) rfl ?_);refine fF (some 45) rfl rfl Tryd.func14 (by kernel_rfl) rfl #[.agg #[.int .u8 ((bf aI iK).f0),.int .u8 ((bf aI iK).f1),.int .u8 ((bf aI iK).f2),.int .u8 ((bf aI iK).f3),.int .i64 ((bf aI iK).f4)]] rfl (by (try simp only [List.map_toArray,List.map_cons,List.map_nil]);first|done|rfl|(simp only [List.length_drop,List.length_take];rfl)) ?_;(with_reducible refine (o6.calls ((bf aI iK).f0) ((bf aI iK).f1) ((bf aI iK).f2) ((bf aI iK).f3) ((bf aI iK).f4) t135 _ ?dN A36.out).mono ?_);(case dN=>exact Kd.dB mM.out (by repeat (first|(with_reducible first|exact HB.out|apply ak|apply ae|apply aj|refine au ?_ jI.out|refine au ?_ Hq.out)|exact HB.out)));rintro e w41 ⟨avh,rfl,ho0,hb⟩;refine ⟨_,rfl,?_⟩;have dA:=ah.mk (Kd.qj (by (with_reducible repeat (first|apply Kd.ku|apply Kd.jZ|apply Kd.lu));exact (Kd.qi (Kd.ML (p:=⟨nO,4,none⟩) (Kd.ML (p:=⟨nO,3,none⟩) (Kd.ML (p:=⟨nO,2,none⟩) (Kd.ML (p:=⟨nO,1,none⟩) (Kd.ML (p:=⟨nO,0,none⟩) (Kd.qi jF.out (fun k_ hk=>(⟨hk,hk.2⟩:_∧k_ ≠ nO))) (fun _ hk=>hk.2) (.int .u8 ((bf aI iK).f0))) (fun _ hk=>hk.2) (.int .u8 ((bf aI iK).f1))) (fun _ hk=>hk.2) (.int .u8 ((bf aI iK).f2))) (fun _ hk=>hk.2) (.int .u8 ((bf aI iK).f3))) (fun _ hk=>hk.2) (.int .i64 ((bf aI iK).f4))) (fun _ h_=>h_.1))) (Kd.gV ho0) hb);have dC:=ah.mk (Kd.dS ho0 (aA (by repeat (first|(with_reducible first|exact HB.out|apply ak|apply ae|apply aj|refine au ?_ jI.out|refine au ?_ Hq.out)|exact HB.out))));have dP:=ah.mk (aQ (g:=gy) (o:=.cells #[.slice bF aU.length bD,.string aX,.string aZ,.slice (some Ha) aI.length bC] 25 (0,0)) (by (with_reducible repeat (first|refine af ?_ _|refine ai ?_|refine ag ?_ _));refine aK ?_ sJ.out _;(with_reducible repeat (first|refine af ?_ _|refine ai ?_|refine ag ?_ _));refine aK ?_ sJ.out _;(with_reducible repeat (first|refine af ?_ _|refine ai ?_|refine ag ?_ _));refine aK ?_ sJ.out _;(with_reducible repeat (first|refine af ?_ _|refine ai ?_|refine ag ?_ _));refine aK ?_ sJ.out _;(with_reducible repeat (first|refine af ?_ _|refine ai ?_|refine ag ?_ _));refine aK ?_ sJ.out _;(with_reducible repeat (first|refine af ?_ _|refine ai ?_|refine ag ?_ _));exact dM.out) hb);have eF:=ah.mk (aQ (g:=nO) (o:=.cells #[.int .u8 ((bf aI iK).f0),.int .u8 ((bf aI iK).f1),.int .u8 ((bf aI iK).f2),.int .u8 ((bf aI iK).f3),.int .i64 ((bf aI iK).f4)] 35 (0,0)) (by (with_reducible repeat (first|refine af ?_ _|refine ai ?_|refine ag ?_ _));refine aW (cs:=#[.int .u8 ((bf aI iK).f0),.int .u8 ((bf aI iK).f1),.int .u8 ((bf aI iK).f2),.int .u8 ((bf aI iK).f3),.int .i64 0]) ?_ 4 _ rfl;(with_reducible repeat (first|refine af ?_ _|refine ai ?_|refine ag ?_ _));refine aW (cs:=#[.int .u8 ((bf aI iK).f0),.int .u8 ((bf aI iK).f1),.int .u8 ((bf aI iK).f2),.int .u8 0,.int .i64 0]) ?_ 3 _ rfl;(with_reducible repeat (first|refine af ?_ _|refine ai ?_|refine ag ?_ _));refine aW (cs:=#[.int .u8 ((bf aI iK).f0),.int .u8 ((bf aI iK).f1),.int .u8 0,.int .u8 0,.int .i64 0]) ?_ 2 _ rfl;(with_reducible repeat (first|refine af ?_ _|refine ai ?_|refine ag ?_ _));refine aW (cs:=#[.int .u8 ((bf aI iK).f0),.int .u8 0,.int .u8 0,.int .u8 0,.int .i64 0]) ?_ 1 _ rfl;(with_reducible repeat (first|refine af ?_ _|refine ai ?_|refine ag ?_ _));refine aW (cs:=#[.int .u8 0,.int .u8 0,.int .u8 0,.int .u8 0,.int .i64 0]) ?_ 0 _ rfl;(with_reducible repeat (first|refine af ?_ _|refine ai ?_|refine ag ?_ _));exact pG.out) hb);have fK:=ah.mk (aT (by repeat (first|(with_reducible first|exact HB.out|apply ak|apply ae|apply aj|refine au ?_ jI.out|refine au ?_ Hq.out)|exact HB.out)) hb);clear jF;clear dM;clear pG;clear HB;have jF:=dA;have Qq:=dC;have dM:=dP;have pG:=eF;have HB:=fK;clear dA dC dP eF fK;(try clear hb);(try clear hb2);(try clear hk);(try clear hi);(try clear ho0);obtain ⟨asb,arJ,arq⟩:=Kd.dR Qq.out;subst arq)|((with_reducible refine lH (b:=.append) (xs:=#[.tmp 43,.tmp 46]) rfl ?_);at_builtin;refine Kd.MM (Kd.slice 9 Kd.string) (w0:=w) w.heap.size rfl (.tmp 43) (.tmp 46) 37 22 (.slice none 0 0) 24 rfl Tryd.underlying37 info22 rfl (by decide) (by omega) u4 Gf t135 [.slice asb t135.length arJ] (fun k_=>k_ ≠ gy∧k_ ≠ nO) (fun k_=>((fun k_=>k_ ≠ gy∧k_ ≠ nO)) k_∧some k_ ≠ (u4:Value).ownBlock) rfl rfl ?aP (fun _ hk=>hk) ?aF ?aO ?aB ?aS ?aL ?_;(case aP=>exact (Kd.uU (Kd.dF (Kd.bP (ok':=(fun k_=>((fun k_=>k_ ≠ gy∧k_ ≠ nO)) k_∧some k_ ≠ (u4:Value).ownBlock)) (Kd.bI (Kd.bI (Kd.oL (Qq.out) (Kd.uQ jF.out) (by decide)) dM.out (by decide)) pG.out (by decide)) (fun k_ hk=>⟨⟨hk.1.2,hk.2⟩,hk.1.1.2⟩))).2.1 (Kd.R_F (Kd.bP (ok':=(fun k_=>((fun k_=>k_ ≠ gy∧k_ ≠ nO)) k_∧some k_ ≠ (u4:Value).ownBlock)) (Kd.bI (Kd.bI (Kd.oL (Qq.out) (Kd.uQ jF.out) (by decide)) dM.out (by decide)) pG.out (by decide)) (fun k_ hk=>⟨⟨hk.1.2,hk.2⟩,hk.1.1.2⟩)))));(case aB=>exact (by repeat (first|(with_reducible first|exact HB.out|apply ak|apply ae|apply aj|refine au ?_ jI.out|refine au ?_ Hq.out)|exact HB.out)));(case aF=>exact (fun k_ hk=>⟨Kd.Fv (g:=gy) (o:=.cells #[.slice bF aU.length bD,.string aX,.string aZ,.slice (some Ha) aI.length bC] 25 (0,0)) (by (with_reducible repeat (first|refine af ?_ _|refine ai ?_|refine ag ?_ _));exact dM.out) k_ hk,Kd.Fv (g:=nO) (o:=.cells #[.int .u8 ((bf aI iK).f0),.int .u8 ((bf aI iK).f1),.int .u8 ((bf aI iK).f2),.int .u8 ((bf aI iK).f3),.int .i64 ((bf aI iK).f4)] 35 (0,0)) (by (with_reducible repeat (first|refine af ?_ _|refine ai ?_|refine ag ?_ _));exact pG.out) k_ hk⟩));(case aO=>exact (by (with_reducible repeat (first|apply Kd.ku|apply Kd.jZ|apply Kd.lu));exact Kd.qi jF.out (fun _ hk=>⟨hk.1.1,hk.1.2⟩)));(case aS=>exact (aA (by repeat (first|(with_reducible first|exact HB.out|apply ak|apply ae|apply aj|refine au ?_ jI.out|refine au ?_ Hq.out)|exact HB.out))));(case aL=>have:=ala.out;omega);intro v139 w42 ho hb hg hat;rw [← ak5.out] at ho;have dA:=ah.mk (zg (g:=gy) (o:=.cells #[.slice bF aU.length bD,.string aX,.string aZ,.slice (some Ha) aI.length bC] 25 (0,0)) (by (with_reducible repeat (first|refine af ?_ _|refine ai ?_|refine ag ?_ _));exact dM.out) hg (Kd.aaD jF.out dM.out (by decide)));have dC:=ah.mk (zg (g:=nO) (o:=.cells #[.int .u8 ((bf aI iK).f0),.int .u8 ((bf aI iK).f1),.int .u8 ((bf aI iK).f2),.int .u8 ((bf aI iK).f3),.int .i64 ((bf aI iK).f4)] 35 (0,0)) (by (with_reducible repeat (first|refine af ?_ _|refine ai ?_|refine ag ?_ _));exact pG.out) hg (Kd.aaD jF.out pG.out (by decide)));have dP:=ah.mk (hb);have eF:=ah.mk (ho);clear dM;clear pG;clear HB;clear jF;clear Qq;have dM:=dA;have pG:=dC;have HB:=dP;have alm:=eF;clear dA dC dP eF;clear ho hb hg hat))
                        go_roundg k2
                        case measure=>have:=CY.out;have:=F7.out;omega
                        case rel=>exact ⟨(adi),(wrap64 (iK+1)),(by first|rfl|(simp;done)|(simp [*];done)),H',⟨by have:=CY.out;have:=F7.out;omega⟩,⟨by (with_reducible repeat (first|apply Kd.ku|apply Kd.jZ|apply Kd.lu));exact Kd.qi alm.out (fun _ hk=>hk.1)⟩,⟨by (with_reducible repeat (first|refine af ?_ _|refine ai ?_|refine ag ?_ _));exact dM.out⟩,⟨by repeat (first|(with_reducible first|exact HB.out|apply ak|apply ae|apply aj|refine au ?_ jI.out|refine au ?_ Hq.out)|exact HB.out)⟩⟩
                      · rw [if_neg c37] at H
                        exact absurd H (by simp)
                    · rw [if_neg c35] at H
                      exact absurd H (by simp)
                  · rw [if_neg c34] at H
                    exact absurd H (by simp)
                · rw [if_neg VL] at H
                  have akJ:decide (iK < (aI.length:Int))=false:=decide_eq_false VL
                  clear VL
                  replace H:=Option.bind_eq_some_iff.mp H
                  obtain ⟨t141,alF,H⟩:=H
                  replace H:(some (t141,0))=some (r1,r2):=H
                  have A44:=ah.mk alF
                  clear alF
                  simp only [Option.some.injEq,Prod.mk.injEq] at H
                  obtain ⟨rfl,rfl⟩:=H
                  obtain ⟨asa,arI,arp⟩:=Kd.JX jF.out
                  subst arp
                  go_wp2_with (first|((with_reducible refine bV (f:=15) rfl ?_);refine fF (some 50) rfl rfl Tryd.func15 (by kernel_rfl) rfl #[.slice asa Gf.length arI] rfl (by (try simp only [List.map_toArray,List.map_cons,List.map_nil]);first|done|rfl|(simp only [List.length_drop,List.length_take];rfl)) ?_;(with_reducible refine (lW.calls _ _ Gf t141 _ ?dN ?iR A44.out).mono ?_);(case dN=>repeat (first|exact (Kd.FO jF.out).2.2|(with_reducible refine Kd.fJ ?_ _)|(with_reducible refine Kd.fH ?_ _)|(with_reducible refine Kd.gG ?_)));(case iR=>exact (Kd.FO jF.out).2.1);rintro e Gs ⟨rfl,hb⟩;refine ⟨_,rfl,?_⟩;have dA:=ah.mk (Kd.zk (by (with_reducible repeat (first|apply Kd.ku|apply Kd.jZ|apply Kd.lu));exact jF.out) hb);have dC:=ah.mk (aQ (g:=gy) (o:=.cells #[.slice bF aU.length bD,.string aX,.string aZ,.slice bG aI.length bC] 25 (0,0)) (by (with_reducible repeat (first|refine af ?_ _|refine ai ?_|refine ag ?_ _));exact dM.out) hb);have dP:=ah.mk (aT (by repeat (first|(with_reducible first|exact HB.out|apply ak|apply ae|apply aj|refine au ?_ jI.out)|exact HB.out)) hb);clear jF;clear dM;clear HB;have jF:=dA;have dM:=dC;have HB:=dP;clear dA dC dP;(try clear hb);(try clear hb2);(try clear hk);(try clear hi)))
                  go_ret2
                  exact ⟨by first|rfl|(simp [bY,bW] <;> rfl)|(simp [*,bY,bW] <;> rfl),by repeat (first|(with_reducible first|exact HB.out|apply ak|apply ae|apply aj|refine au ?_ jI.out)|exact HB.out)⟩
          · rw [if_neg c18] at H
            exact absurd H (by simp)
  · replace c3:=Bool.eq_false_iff.mpr c3
    subst c3
    have H1:(some ((⟨#[]⟩:ByteArray),2))=some (r1,r2):=by rw [if_neg (show ¬ (false=true) by decide)] at H;exact H
    clear H
    have H:=H1
    clear H1
    simp only [Option.some.injEq,Prod.mk.injEq] at H
    obtain ⟨rfl,rfl⟩:=H
    go_enter Tryd.func8,Tryd.ntmps8
    go_wp2_with (first|((with_reducible refine dL (N:=1) rfl ?_);refine dO ?hg (N:=1) ?hd (cs:=#[.slice bF aU.length bD,.string aX,.string aZ,.slice bG aI.length bC]) (t:=25) ?hr ?_;(case hd=>rfl);(case hg=>rfl);(case hr=>first|(go_simp;done)|(go_simp;rfl));intro gy hg w47 hbox hb;have dA:=ah.mk (aT (by repeat (first|(with_reducible first|exact HB.out|apply ak|apply ae|apply aj)|exact HB.out)) hb);have dC:=ah.mk (hbox);have dP:=ah.mk ((by rw [hg];exact (aA (by repeat (first|(with_reducible first|exact HB.out|apply ak|apply ae|apply aj)|exact HB.out))):w.heap.size≤gy));have eF:=ah.mk ((by rw [hg];exact (aA (by repeat (first|(with_reducible first|exact HB.out|apply ak|apply ae|apply aj)|exact HB.out))):w.heap.size≤gy));clear HB;have HB:=dA;have dM:=dC;have alA:=dP;have jI:=eF;clear dA dC dP eF;clear hb hbox hg;have Zj:w47.cell? ⟨gy,0,none⟩=some (.slice bF aU.length bD):=(ay dM.out 0).trans rfl;have Zi:w47.cell? ⟨gy,1,none⟩=some (.string aX):=(ay dM.out 1).trans rfl;have Zh:w47.cell? ⟨gy,2,none⟩=some (.string aZ):=(ay dM.out 2).trans rfl;have Zg:w47.cell? ⟨gy,3,none⟩=some (.slice bG aI.length bC):=(ay dM.out 3).trans rfl;have Yi:=ax dM.out 0;have Yh:=ax dM.out 1;have Yg:=ax dM.out 2;have Yf:=ax dM.out 3)|((with_reducible refine bV (f:=12) rfl ?_);refine fF (some 10) rfl rfl Tryd.func12 (by kernel_rfl) rfl #[.agg #[.slice bF aU.length bD,.string aX,.string aZ,.slice bG aI.length bC]] rfl (by (try simp only [List.map_toArray,List.map_cons,List.map_nil]);first|done|rfl|(simp only [List.length_drop,List.length_take];rfl)) ?_;(with_reducible refine (fB.calls k _ _ aU aX aZ _ _ aI false _ ?dN ?iR ?iZ ?iY ?jD A2.out).mono ?_);(case dN=>repeat (first|exact (Kd.dB lL.out HB.out)|(with_reducible refine Kd.fJ ?_ _)|(with_reducible refine Kd.fH ?_ _)|(with_reducible refine Kd.gG ?_)));(case iR=>exact oz.out);(case iZ=>repeat (first|exact (Kd.dB lK.out HB.out)|(with_reducible refine Kd.fJ ?_ _)|(with_reducible refine Kd.fH ?_ _)|(with_reducible refine Kd.gG ?_)));(case iY=>exact ou.out);(case jD=>repeat (first|exact (Kd.dB mM.out HB.out)|(with_reducible refine Kd.fJ ?_ _)|(with_reducible refine Kd.fH ?_ _)|(with_reducible refine Kd.gG ?_)));rintro e w49 ⟨rfl,hb⟩;refine ⟨_,rfl,?_⟩;have dA:=ah.mk (aQ (g:=gy) (o:=.cells #[.slice bF aU.length bD,.string aX,.string aZ,.slice bG aI.length bC] 25 (0,0)) (by (with_reducible repeat (first|refine af ?_ _|refine ai ?_|refine ag ?_ _));exact dM.out) hb);have dC:=ah.mk (aT (by repeat (first|(with_reducible first|exact HB.out|apply ak|apply ae|apply aj|refine au ?_ jI.out)|exact HB.out)) hb);clear dM;clear HB;have dM:=dA;have HB:=dC;clear dA dC;(try clear hb);(try clear hb2);(try clear hk);(try clear hi)))
    go_ret2
    exact ⟨by first|rfl|(simp [bY,bW] <;> rfl)|(simp [*,bY,bW] <;> rfl),by repeat (first|(with_reducible first|exact HB.out|apply ak|apply ae|apply aj|refine au ?_ jI.out)|exact HB.out)⟩
def sN.f (a0:ByteArray):Option (Bool):=if (a0.size:Int)≤30 then ((jm.f a0 (⟨#[97,98,99,100,101,102,103,104,105,106,107,108,109,110,111,112,113,114,115,116,117,118,119,120,121,122,48,49,50,51,52,53,54,55,56,57,45]⟩:ByteArray)).bind fun t142=>(some (t142.toList == ([]:List UInt8)))) else (some false)
set_option maxHeartbeats 8000000 in
set_option maxRecDepth 100000 in
theorem sN.calls (a0:ByteArray) (r:Bool) (w:World) (h:sN.f a0=some r) :
    Calls Tryd.prog 31 #[.string a0] w fun e w'=>e=.returned (.bool r)∧Below w.heap.size w w':=by
  have HB:=ah.mk (Below.refl w.heap.size w)
  have H:(if (a0.size:Int)≤30 then ((jm.f a0 (⟨#[97,98,99,100,101,102,103,104,105,106,107,108,109,110,111,112,113,114,115,116,117,118,119,120,121,122,48,49,50,51,52,53,54,55,56,57,45]⟩:ByteArray)).bind fun t142=>(some (t142.toList == ([]:List UInt8)))) else (some false))=some r:=h
  clear h
  by_cases c2:(a0.size:Int)≤30
  · rw [if_pos c2] at H
    have JQ:decide ((a0.size:Int)≤30)=true:=decide_eq_true c2
    have JP:decide (a0.size≤30)=true:=decide_eq_true (by omega)
    clear c2
    replace H:=Option.bind_eq_some_iff.mp H
    obtain ⟨t142,F8,H⟩:=H
    replace H:(some (t142.toList == ([]:List UInt8)))=some r:=H
    have A3:=ah.mk F8
    clear F8
    obtain rfl:=Option.some.inj H
    go_enter Tryd.func31,Tryd.ntmps31
    go_wp2_with (first|(go_at_call 35;(with_reducible refine (jm.calls a0 (⟨#[97,98,99,100,101,102,103,104,105,106,107,108,109,110,111,112,113,114,115,116,117,118,119,120,121,122,48,49,50,51,52,53,54,55,56,57,45]⟩:ByteArray) t142 _ A3.out).mono ?_);rintro e w4 ⟨rfl,hb⟩;have dA:=ah.mk (aT (by repeat (first|(with_reducible first|exact HB.out|apply ak|apply ae|apply aj)|exact HB.out)) hb);clear HB;have HB:=dA;clear dA;(try clear hb);(try clear hb2);(try clear hk);(try clear hi)))
    go_ret
    exact ⟨by first|rfl|(simp [bY,bW] <;> rfl)|(simp [*,bY,bW] <;> rfl),by repeat (first|(with_reducible first|exact HB.out|apply ak|apply ae|apply aj)|exact HB.out)⟩
  · rw [if_neg c2] at H
    have JQ:decide ((a0.size:Int)≤30)=false:=decide_eq_false c2
    have JP:decide (a0.size≤30)=false:=decide_eq_false (by omega)
    clear c2
    obtain rfl:=Option.some.inj H
    go_enter Tryd.func31,Tryd.ntmps31
    go_wp2
    go_ret
    exact ⟨by first|rfl|(simp [bY,bW] <;> rfl)|(simp [*,bY,bW] <;> rfl),by repeat (first|(with_reducible first|exact HB.out|apply ak|apply ae|apply aj)|exact HB.out)⟩
end Go.Proofs.YtkclndkbccbhaaaDoor.P
end
