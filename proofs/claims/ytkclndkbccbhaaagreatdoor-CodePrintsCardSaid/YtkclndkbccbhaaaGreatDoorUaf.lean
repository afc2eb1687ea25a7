/- Parts of the proof of CodePrints: what the functions that it reaches compute, and plain facts about that. -/
import Derived.Test.YtkclndkbccbhaaaGreatDoorUac
import Derived.Test.YtkclndkbccbhaaaGreatDoorUad
import Derived.Test.YtkclndkbccbhaaaGreatDoorUae
set_option linter.unusedVariables false
set_option linter.unusedSimpArgs false
section
namespace Go.Proofs.YtkclndkbccbhaaaGreatDoor.P
open Go.RowKit Go.Proofs.ag.bJ Go.Proofs.ag.eX Go.Proofs.ag.gp
attribute [local go_sem] kM kK lT lS jE jD kL kJ
mutual
def bI.l0:Nat→List (List ByteArray)→List ByteArray→Int→Int→List ByteArray→ByteArray→ByteArray→List (jZ)→Option (ByteArray × Int)
  | 0,_,_,_,_,_,_,_,_=>none
  | k+1,x4,Yx,x14,x15,Rq,Jt,Js,DR=>if x15 < x14 then (if 0≤x15 then (if x15 < (Yx.length:Int) then (if x4.length < 5864062014805 then (bI.l0 k (x4++[(([(⟨#[116,121,112,101]⟩:ByteArray),gI ByteArray.empty Yx x15]:List ByteArray))]) Yx x14 (wrap64 (x15+1)) Rq Jt Js DR) else (none)) else (none)) else (none)) else ((mJ.f Jt).bind fun t119=>((mJ.f Js).bind fun t123=>((some (([(([(⟨#[108,111,99,97,108,115]⟩:ByteArray),t119]:List ByteArray)),(([(⟨#[103,108,111,98,97,108,115]⟩:ByteArray),t123]:List ByteArray))]:List (List ByteArray)):List (List ByteArray))).bind fun tX=>(if x4.length+tX.length < 5864062014805 then (bI.l1 k (x4++tX) DR (DR.length:Int) 0) else (none)))))
def bI.l1:Nat→List (List ByteArray)→List (jZ)→Int→Int→Option (ByteArray × Int)
  | 0,_,_,_,_=>none
  | k+1,x4,WC,x38,x39=>if x39 < x38 then (if 0≤x39 then (if x39 < (WC.length:Int) then ((oL.f ((aZ WC x39).f0) ((aZ WC x39).f1) ((aZ WC x39).f2) ((aZ WC x39).f3) ((aZ WC x39).f4)).bind fun t135=>(if x4.length < 5864062014805 then (bI.l1 k (x4++[t135]) WC x38 (wrap64 (x39+1))) else (none))) else (none)) else (none)) else ((mi.f x4).bind fun t141=>(some (t141,0)))
end
def bI.f (k:Nat) (bD:List ByteArray) (aY:ByteArray) (aX:ByteArray) (aW:List (jZ)):Option (ByteArray × Int):=(dX.f k bD aY aX aW).bind fun t111=>(if t111=true then (bI.l0 k ([]:List (List ByteArray)) bD (bD.length:Int) 0 bD aY aX aW) else (some ((⟨#[]⟩:ByteArray),2)))
theorem bI.gY:∀ k,(∀ y0 y1 y2 y3 y4 y5 y6 y7,dH (bI.l0 k y0 y1 y2 y3 y4 y5 y6 y7) (bI.l0 (k+1) y0 y1 y2 y3 y4 y5 y6 y7))∧(∀ y0 y1 y2 y3,dH (bI.l1 k y0 y1 y2 y3) (bI.l1 (k+1) y0 y1 y2 y3))
  | 0=>⟨fun _ _ _ _ _ _ _ _ r h=>by simp [bI.l0] at h,fun _ _ _ _ r h=>by simp [bI.l1] at h⟩
  | k+1=>by
    obtain ⟨jK,ih1⟩:=bI.gY k
    refine ⟨?_,?_⟩
    · intro y0 y1 y2 y3 y4 y5 y6 y7
      unfold bI.l0
      repeat' first
      | (with_reducible exact jK _ _ _ _ _ _ _ _)
      | (with_reducible exact ih1 _ _ _ _)
      | (with_reducible exact dX.mono _ _ _ _ _)
      | (with_reducible exact dH.refl _)
      | (with_reducible exact dH.none _)
      | (with_reducible refine dH.ite ?_ ?_)
      | (with_reducible refine dH.bind ?_ (fun _=>?_))
      | exact jK _ _ _ _ _ _ _ _
      | exact ih1 _ _ _ _
      | exact dX.mono _ _ _ _ _
      | exact dH.none _
      | refine dH.ite ?_ ?_
      | refine dH.bind ?_ (fun _=>?_)
    · intro y0 y1 y2 y3
      unfold bI.l1
      repeat' first
      | (with_reducible exact jK _ _ _ _ _ _ _ _)
      | (with_reducible exact ih1 _ _ _ _)
      | (with_reducible exact dX.mono _ _ _ _ _)
      | (with_reducible exact dH.refl _)
      | (with_reducible exact dH.none _)
      | (with_reducible refine dH.ite ?_ ?_)
      | (with_reducible refine dH.bind ?_ (fun _=>?_))
      | exact jK _ _ _ _ _ _ _ _
      | exact ih1 _ _ _ _
      | exact dX.mono _ _ _ _ _
      | exact dH.none _
      | refine dH.ite ?_ ?_
      | refine dH.bind ?_ (fun _=>?_)
theorem bI.mono:∀ a0 a1 a2 a3 k,dH (bI.f k a0 a1 a2 a3) (bI.f (k+1) a0 a1 a2 a3):=by
  intro a0 a1 a2 a3 k
  obtain ⟨jK,ih1⟩:=bI.gY k
  unfold bI.f
  repeat' first
      | (with_reducible exact jK _ _ _ _ _ _ _ _)
      | (with_reducible exact ih1 _ _ _ _)
      | (with_reducible exact dX.mono _ _ _ _ _)
      | (with_reducible exact dH.refl _)
      | (with_reducible exact dH.none _)
      | (with_reducible refine dH.ite ?_ ?_)
      | (with_reducible refine dH.bind ?_ (fun _=>?_))
      | exact jK _ _ _ _ _ _ _ _
      | exact ih1 _ _ _ _
      | exact dX.mono _ _ _ _ _
      | exact dH.none _
      | refine dH.ite ?_ ?_
      | refine dH.bind ?_ (fun _=>?_)
def bI.T9:Bool × List (List Nat × List Nat):=(true,[([],[]),([],[]),([1],[1]),([2],[2]),([3],[3]),([],[]),([5],[5]),([6,3],[6]),([7],[7]),([4,8],[4,8]),([0,9,7],[0,9]),([10,10,0,1,2,3,4,5,6,7,8,9,10],[0,10])])
def bI.B9:List Nat:=[0,0,2,6,14,0,32,110,238,510,1023,2047]
theorem bI.aeU:pg .any (opsOf Tryz.f9 9)=bI.T9:=by kernel_rfl
theorem bI.Zh:oD bI.T9.2 bI.B9=true:=by kernel_rfl
set_option maxHeartbeats 8000000 in
set_option maxRecDepth 100000 in
theorem bI.calls (k:Nat) (dO:Option Addr) (dK:Nat) (bD:List ByteArray) (aY:ByteArray) (aX:ByteArray) (dV:Option Addr) (dJ:Nat) (aW:List (jZ)) (r1:ByteArray) (r2:Int) (w:World) (qG:Kd.C Kd.string w dO bD.length bD) (qJ:bD.length≤dK) (qF:Kd.C k27 w dV aW.length aW) (qI:aW.length≤dJ) (jM:Kd.C tu w tC lJ.length lJ) (h:bI.f k bD aY aX aW=some (r1,r2)) :
    Calls Tryz.prog 9 #[.agg #[.slice dO bD.length dK,.string aY,.string aX,.slice dV aW.length dJ]] w fun e w'=>e=.returned (.tuple #[.string r1,.int .i64 r2])∧Below w.heap.size w w':=by
  have Nw:=Tryz.underlying25
  have BR:=Tryz.underlying27
  have kZ:=ae.mk qG
  have qj:=ae.mk qJ
  clear qG qJ
  have ny:=ae.mk qF
  have qi:=ae.mk qI
  clear qF qI
  have ry:=ae.mk jM
  clear jM
  have HB:=ae.mk (Below.refl w.heap.size w)
  have H:((dX.f k bD aY aX aW).bind fun t111=>(if t111=true then (bI.l0 k ([]:List (List ByteArray)) bD (bD.length:Int) 0 bD aY aX aW) else (some ((⟨#[]⟩:ByteArray),2))))=some (r1,r2):=h
  clear h
  replace H:=Option.bind_eq_some_iff.mp H
  obtain ⟨t111,Ce,H⟩:=H
  replace H:(if t111=true then (bI.l0 k ([]:List (List ByteArray)) bD (bD.length:Int) 0 bD aY aX aW) else (some ((⟨#[]⟩:ByteArray),2)))=some (r1,r2):=H
  have A2:=ae.mk Ce
  clear Ce
  by_cases c3:t111=true
  · subst c3
    have H1:(bI.l0 k ([]:List (List ByteArray)) bD (bD.length:Int) 0 bD aY aX aW)=some (r1,r2):=by rw [if_pos rfl] at H;exact H
    clear H
    have H:=H1
    clear H1
    have H':=ae.mk H
    clear H
    go_enter Tryz.func9,Tryz.ntmps9
    go_wp2_with (first|((with_reducible refine eQ (N:=1) rfl ?_);refine fF ?hg (N:=1) ?hd (cs:=#[.slice dO bD.length dK,.string aY,.string aX,.slice dV aW.length dJ]) (t:=25) ?hr ?_;(case hd=>rfl);(case hg=>rfl);(case hr=>first|(go_simp;done)|(go_simp;rfl));intro fU hg w4 hbox hb;have di:=ae.mk (aQ (by repeat (first|(with_reducible first|exact HB.out|apply aj|apply af|apply ai)|exact HB.out)) hb);have dm:=ae.mk (hbox);have dE:=ae.mk ((by rw [hg];exact (bn (by repeat (first|(with_reducible first|exact HB.out|apply aj|apply af|apply ai)|exact HB.out))):w.heap.size≤fU));have gq:=ae.mk ((by rw [hg];exact (bn (by repeat (first|(with_reducible first|exact HB.out|apply aj|apply af|apply ai)|exact HB.out))):w.heap.size≤fU));clear HB;have HB:=di;have bZ:=dm;have aah:=dE;have jk:=gq;clear di dm dE gq;clear hb hbox hg;have Bf:w4.cell? ⟨fU,0,none⟩=some (.slice dO bD.length dK):=(ah bZ.out 0).trans rfl;have Be:w4.cell? ⟨fU,1,none⟩=some (.string aY):=(ah bZ.out 1).trans rfl;have Bd:w4.cell? ⟨fU,2,none⟩=some (.string aX):=(ah bZ.out 2).trans rfl;have Bc:w4.cell? ⟨fU,3,none⟩=some (.slice dV aW.length dJ):=(ah bZ.out 3).trans rfl;have Ba:=ax bZ.out 0;have AZ:=ax bZ.out 1;have AY:=ax bZ.out 2;have AX:=ax bZ.out 3)|((with_reducible refine bU (f:=18) rfl ?_);refine gy (some 10) rfl rfl Tryz.func18 (by kernel_rfl) rfl #[.agg #[.slice dO bD.length dK,.string aY,.string aX,.slice dV aW.length dJ]] rfl (by (try simp only [List.map_toArray,List.map_cons,List.map_nil]);first|done|rfl|(simp only [List.length_drop,List.length_take];rfl)) ?_;(with_reducible refine (dX.calls k _ _ bD aY aX _ _ aW true _ ?fD ?jO ?lF ?lD ?oq A2.out).mono ?_);(case fD=>repeat (first|exact (Kd.dF kZ.out HB.out)|(with_reducible refine Kd.ed ?_ _)|(with_reducible refine Kd.dZ ?_ _)|(with_reducible refine Kd.fO ?_)));(case jO=>exact qj.out);(case lF=>repeat (first|exact (Kd.dF ny.out HB.out)|(with_reducible refine Kd.ed ?_ _)|(with_reducible refine Kd.dZ ?_ _)|(with_reducible refine Kd.fO ?_)));(case lD=>exact qi.out);(case oq=>repeat (first|exact (Kd.dF ry.out HB.out)|(with_reducible refine Kd.ed ?_ _)|(with_reducible refine Kd.dZ ?_ _)|(with_reducible refine Kd.fO ?_)));rintro e w6 ⟨rfl,hb⟩;refine ⟨_,rfl,?_⟩;have di:=ae.mk (aV (g:=fU) (o:=.cells #[.slice dO bD.length dK,.string aY,.string aX,.slice dV aW.length dJ] 25 (0,0)) (by (with_reducible repeat (first|refine au ?_ _|refine ay ?_|refine ak ?_ _));exact bZ.out) hb);have dm:=ae.mk (aQ (by repeat (first|(with_reducible first|exact HB.out|apply aj|apply af|apply ai|refine az ?_ jk.out)|exact HB.out)) hb);clear bZ;clear HB;have bZ:=di;have HB:=dm;clear di dm;(try clear hb);(try clear hb2);(try clear hk);(try clear hi);have PQ:w6.cell? ⟨fU,0,none⟩=some (.slice dO bD.length dK):=(ah bZ.out 0).trans rfl;have PO:w6.cell? ⟨fU,1,none⟩=some (.string aY):=(ah bZ.out 1).trans rfl;have PN:w6.cell? ⟨fU,2,none⟩=some (.string aX):=(ah bZ.out 2).trans rfl;have PM:w6.cell? ⟨fU,3,none⟩=some (.slice dV aW.length dJ):=(ah bZ.out 3).trans rfl;have PE:=ax bZ.out 0;have PD:=ax bZ.out 1;have Pz:=ax bZ.out 2;have Py:=ax bZ.out 3))
    go_loopg [4,15] k (fun kq v4 v15 w'=>∃ (fK:List (List ByteArray)) (oh:Int),v15=.int .i64 oh∧ae (bI.l0 kq fK bD (bD.length:Int) oh bD aY aX aW=some (r1,r2))∧ae (kq≤k)∧ae (Kd.N (Kd.slice 9 Kd.string) 22 w' w.heap.size (fun k_=>k_ ≠ fU) v4 fK)∧ae (w'.heap[fU]? = some (.cells #[(.slice dO bD.length dK),.string aY,.string aX,(.slice dV aW.length dJ)] 25 (0,0)))∧ae (Below w.heap.size w w'))
    case atStart=>exact ⟨(([]:List (List ByteArray))),(0),(by first|rfl|(simp;done)|(simp [*];done)),H',⟨Nat.le_refl _⟩,⟨by first|exact Kd.Dv _ _ _ _ _|exact Kd.DD _ _ _ _ _|exact Kd.Du _ _ _ _ _|exact Kd.Dw _ _ _ _ _|exact Kd.kP _ _ _ _ _⟩,⟨by (with_reducible repeat (first|refine au ?_ _|refine ay ?_|refine ak ?_ _));exact bZ.out⟩,⟨by repeat (first|(with_reducible first|exact HB.out|apply aj|apply af|apply ai|refine az ?_ jk.out)|exact HB.out)⟩⟩
    case round =>
      clear H'
      try clear c1
      try clear p2
      try clear c3
      try clear Bf
      try clear Be
      try clear Bd
      try clear Bc
      try clear PQ
      try clear PO
      try clear PN
      try clear PM
      try clear Ba
      try clear AZ
      try clear AY
      try clear AX
      try clear PE
      try clear PD
      try clear Pz
      try clear Py
      obtain ⟨fK,oh,rfl,HA,nZ,gm,bZ,HB⟩:=hrel
      cases gk with
      | zero=>exact absurd HA.out (by simp [bI.l0])
      | succ k1 =>
        have H:=HA.out
        clear HA
        simp only [bI.l0] at H
        by_cases c8:oh < (bD.length:Int)
        · rw [if_pos c8] at H
          have tK:decide (oh < (bD.length:Int))=true:=decide_eq_true c8
          clear c8
          by_cases c9:0≤oh
          · rw [if_pos c9] at H
            have E8:decide (0≤oh)=true:=decide_eq_true c9
            clear c9
            by_cases c10:oh < (bD.length:Int)
            · rw [if_pos c10] at H
              have nO:decide (oh < (bD.length:Int))=true:=decide_eq_true c10
              clear c10
              obtain ⟨y113,hy113⟩:∃ y_:List ByteArray,y_=(([(⟨#[116,121,112,101]⟩:ByteArray),gI ByteArray.empty bD oh]:List ByteArray)):=⟨_,rfl⟩
              replace H:(if fK.length < 5864062014805 then (bI.l0 k1 (fK++[y113]) bD (bD.length:Int) (wrap64 (oh+1)) bD aY aX aW) else (none))=some (r1,r2):=by first|(rw [hy113];with_reducible exact H)|(have nR:=(Option.bind_some _ _).symm.trans H;rw [hy113];with_reducible exact nR)|(have nR:=(Option.bind_some _ _).symm.trans H;with_reducible exact nR)|with_reducible exact H|(rw [hy113];exact H)|exact H
              have Wj:=ae.mk hy113
              clear hy113
              by_cases c11:fK.length < 5864062014805
              · rw [if_pos c11] at H
                have ZL:=ae.mk c11
                clear c11
                obtain ⟨Yw,GN⟩:∃ y_:List (List ByteArray),y_=(fK++[y113]):=⟨_,rfl⟩
                replace H:(bI.l0 k1 Yw bD (bD.length:Int) (wrap64 (oh+1)) bD aY aX aW)=some (r1,r2):=by first|(rw [GN];with_reducible exact H)|(have nR:=(Option.bind_some _ _).symm.trans H;rw [GN];with_reducible exact nR)|(have nR:=(Option.bind_some _ _).symm.trans H;with_reducible exact nR)|with_reducible exact H|(rw [GN];exact H)|exact H
                have ZB:=ae.mk GN
                clear GN
                have H':=ae.mk H
                clear H
                have Sr:0≤(oh:Int):=of_decide_eq_true (by first|(with_reducible assumption)|assumption)
                have Sl:oh < (bD.length:Int):=of_decide_eq_true (by first|(with_reducible assumption)|assumption)
                obtain ⟨QN,afM,zL⟩:=Kd.gB kZ.out oh Sr Sl
                cases afM
                replace zL:=(HB.out.cell (World.block_lt_of_cell? w _ zL)).trans zL
                replace Sr:=eq_true Sr
                replace Sl:=eq_true Sl
                go_wp2_with (first|((with_reducible refine eQ (N:=21) rfl ?_);refine Kd.QT Kd.string _ 9 ?hg (N:=21) ?hd (xs:=([(⟨#[116,121,112,101]⟩:ByteArray),gI ByteArray.empty bD oh]:List ByteArray)) (inner:=[.string (⟨#[116,121,112,101]⟩:ByteArray),.string (gI ByteArray.empty bD oh)]) (ok:=fun _=>True) (nY:=fun _=>True) ?hr ?hp (fun _ hk=>hk) trivial (Below.refl _ _) (Nat.le_refl _) (by simp) ?_;(case hd=>rfl);(case hg=>rfl);(case hr=>first|(go_simp;done)|(go_simp;rfl));(case hp=>exact (iK.one (show Kd.M Kd.string _ _ _ (⟨#[116,121,112,101]⟩:ByteArray) [.string (⟨#[116,121,112,101]⟩:ByteArray)] from rfl) (iK.one (show Kd.M Kd.string _ _ _ (gI ByteArray.empty bD oh) [.string (gI ByteArray.empty bD oh)] from rfl) (iK.none _ _))));intro aih w12 Ny hb xk kN;clear xk kN;(first|rw [← Wj.out] at Ny|(simp only [Int.reduceToNat] at Ny;rw [← Wj.out] at Ny));have di:=ae.mk (Kd.jS (by (with_reducible repeat (first|apply Kd.gV|apply Kd.gU|apply Kd.iG));exact gm.out) (Kd.jX Ny) hb);have dm:=ae.mk (Kd.iM Ny (bn (by repeat (first|(with_reducible first|exact HB.out|apply aj|apply af|apply ai|refine az ?_ jk.out)|exact HB.out))));have dE:=ae.mk (aV (g:=fU) (o:=.cells #[.slice (some QN) bD.length dK,.string aY,.string aX,.slice dV aW.length dJ] 25 (0,0)) (by (with_reducible repeat (first|refine au ?_ _|refine ay ?_|refine ak ?_ _));exact bZ.out) hb);have gq:=ae.mk (aQ (by repeat (first|(with_reducible first|exact HB.out|apply aj|apply af|apply ai|refine az ?_ jk.out)|exact HB.out)) hb);clear gm;clear bZ;clear HB;have gm:=di;have MF:=dm;have bZ:=dE;have HB:=gq;clear di dm dE gq;clear hb Ny;obtain ⟨agd,afT,afA⟩:=Kd.iW MF.out;subst afA)|((with_reducible refine kC (b:=.append) (xs:=#[.tmp 19,.tmp 22]) rfl ?_);at_builtin;refine Kd.yE (Kd.slice 9 Kd.string) (w0:=w) w.heap.size rfl (.tmp 19) (.tmp 22) 43 22 (.slice none 0 0) 24 rfl Tryz.underlying43 info22 rfl (by decide) (by omega) u4 fK y113 [.slice agd y113.length afT] (fun k_=>k_ ≠ fU) (fun k_=>((fun k_=>k_ ≠ fU)) k_∧some k_ ≠ (u4:Value).ownBlock) rfl rfl ?aP (fun _ hk=>hk) ?aF ?aO ?aB ?aS ?aL ?_;(case aP=>exact (Kd.mW (Kd.iO (Kd.fJ (ok':=(fun k_=>((fun k_=>k_ ≠ fU)) k_∧some k_ ≠ (u4:Value).ownBlock)) (Kd.iR (Kd.jR (MF.out) (Kd.mf gm.out) (by decide)) bZ.out (by decide)) (fun k_ hk=>⟨hk.2,hk.1.2⟩))).2.1 (Kd.V8 (Kd.fJ (ok':=(fun k_=>((fun k_=>k_ ≠ fU)) k_∧some k_ ≠ (u4:Value).ownBlock)) (Kd.iR (Kd.jR (MF.out) (Kd.mf gm.out) (by decide)) bZ.out (by decide)) (fun k_ hk=>⟨hk.2,hk.1.2⟩)))));(case aB=>exact (by repeat (first|(with_reducible first|exact HB.out|apply aj|apply af|apply ai|refine az ?_ jk.out)|exact HB.out)));(case aF=>exact (fun k_ hk=>Kd.uO (g:=fU) (o:=.cells #[.slice (some QN) bD.length dK,.string aY,.string aX,.slice dV aW.length dJ] 25 (0,0)) (by (with_reducible repeat (first|refine au ?_ _|refine ay ?_|refine ak ?_ _));exact bZ.out) k_ hk));(case aO=>exact (by (with_reducible repeat (first|apply Kd.gV|apply Kd.gU|apply Kd.iG));exact Kd.lq gm.out (fun _ hk=>hk.1)));(case aS=>exact (bn (by repeat (first|(with_reducible first|exact HB.out|apply aj|apply af|apply ai|refine az ?_ jk.out)|exact HB.out))));(case aL=>have:=ZL.out;omega);intro v117 MO ho hb hg hat;rw [← ZB.out] at ho;have di:=ae.mk (oQ (g:=fU) (o:=.cells #[.slice (some QN) bD.length dK,.string aY,.string aX,.slice dV aW.length dJ] 25 (0,0)) (by (with_reducible repeat (first|refine au ?_ _|refine ay ?_|refine ak ?_ _));exact bZ.out) hg (Kd.I8 gm.out bZ.out (by decide)));have dm:=ae.mk (hb);have dE:=ae.mk (ho);clear bZ;clear HB;clear gm;clear MF;have bZ:=di;have HB:=dm;have Z4:=dE;clear di dm dE;clear ho hb hg hat))
                go_roundg k1
                case measure=>have:=nZ.out;omega
                case rel=>exact ⟨(Yw),(wrap64 (oh+1)),(by first|rfl|(simp;done)|(simp [*];done)),H',⟨by have:=nZ.out;omega⟩,⟨by (with_reducible repeat (first|apply Kd.gV|apply Kd.gU|apply Kd.iG));exact Z4.out⟩,⟨by (with_reducible repeat (first|refine au ?_ _|refine ay ?_|refine ak ?_ _));exact bZ.out⟩,⟨by repeat (first|(with_reducible first|exact HB.out|apply aj|apply af|apply ai|refine az ?_ jk.out)|exact HB.out)⟩⟩
              · rw [if_neg c11] at H
                exact absurd H (by simp)
            · rw [if_neg c10] at H
              exact absurd H (by simp)
          · rw [if_neg c9] at H
            exact absurd H (by simp)
        · rw [if_neg c8] at H
          have tK:decide (oh < (bD.length:Int))=false:=decide_eq_false c8
          clear c8
          replace H:=Option.bind_eq_some_iff.mp H
          obtain ⟨t119,BJ,H⟩:=H
          replace H:((mJ.f aX).bind fun t123=>((some (([(([(⟨#[108,111,99,97,108,115]⟩:ByteArray),t119]:List ByteArray)),(([(⟨#[103,108,111,98,97,108,115]⟩:ByteArray),t123]:List ByteArray))]:List (List ByteArray)):List (List ByteArray))).bind fun tX=>(if fK.length+tX.length < 5864062014805 then (bI.l1 k1 (fK++tX) aW (aW.length:Int) 0) else (none))))=some (r1,r2):=H
          have Q9:=ae.mk BJ
          clear BJ
          obtain ⟨BM,GM⟩:∃ y_:List ByteArray,y_=(([(⟨#[108,111,99,97,108,115]⟩:ByteArray),t119]:List ByteArray)):=⟨_,rfl⟩
          replace H:((mJ.f aX).bind fun t123=>((some (([BM,(([(⟨#[103,108,111,98,97,108,115]⟩:ByteArray),t123]:List ByteArray))]:List (List ByteArray)):List (List ByteArray))).bind fun tX=>(if fK.length+tX.length < 5864062014805 then (bI.l1 k1 (fK++tX) aW (aW.length:Int) 0) else (none))))=some (r1,r2):=by first|(rw [GM];with_reducible exact H)|(have nR:=(Option.bind_some _ _).symm.trans H;rw [GM];with_reducible exact nR)|(have nR:=(Option.bind_some _ _).symm.trans H;with_reducible exact nR)|with_reducible exact H|(rw [GM];exact H)|exact H
          have DC:=ae.mk GM
          clear GM
          replace H:=Option.bind_eq_some_iff.mp H
          obtain ⟨t123,aay,H⟩:=H
          replace H:((some (([BM,(([(⟨#[103,108,111,98,97,108,115]⟩:ByteArray),t123]:List ByteArray))]:List (List ByteArray)):List (List ByteArray))).bind fun tX=>(if fK.length+tX.length < 5864062014805 then (bI.l1 k1 (fK++tX) aW (aW.length:Int) 0) else (none)))=some (r1,r2):=H
          have A17:=ae.mk aay
          clear aay
          obtain ⟨FC,GL⟩:∃ y_:List ByteArray,y_=(([(⟨#[103,108,111,98,97,108,115]⟩:ByteArray),t123]:List ByteArray)):=⟨_,rfl⟩
          replace H:((some (([BM,FC]:List (List ByteArray)):List (List ByteArray))).bind fun tX=>(if fK.length+tX.length < 5864062014805 then (bI.l1 k1 (fK++tX) aW (aW.length:Int) 0) else (none)))=some (r1,r2):=by first|(rw [GL];with_reducible exact H)|(have nR:=(Option.bind_some _ _).symm.trans H;rw [GL];with_reducible exact nR)|(have nR:=(Option.bind_some _ _).symm.trans H;with_reducible exact nR)|with_reducible exact H|(rw [GL];exact H)|exact H
          have Dz:=ae.mk GL
          clear GL
          obtain ⟨tX,GK⟩:∃ y_:List (List ByteArray),y_=(([BM,FC]:List (List ByteArray))):=⟨_,rfl⟩
          replace H:(if fK.length+tX.length < 5864062014805 then (bI.l1 k1 (fK++tX) aW (aW.length:Int) 0) else (none))=some (r1,r2):=by first|(rw [GK];with_reducible exact H)|(have nR:=(Option.bind_some _ _).symm.trans H;rw [GK];with_reducible exact nR)|(have nR:=(Option.bind_some _ _).symm.trans H;with_reducible exact nR)|with_reducible exact H|(rw [GK];exact H)|exact H
          have Wi:=ae.mk GK
          clear GK
          by_cases c18:fK.length+tX.length < 5864062014805
          · rw [if_pos c18] at H
            have ZI:=ae.mk c18
            clear c18
            obtain ⟨Yv,GI⟩:∃ y_:List (List ByteArray),y_=(fK++tX):=⟨_,rfl⟩
            replace H:(bI.l1 k1 Yv aW (aW.length:Int) 0)=some (r1,r2):=by first|(rw [GI];with_reducible exact H)|(have nR:=(Option.bind_some _ _).symm.trans H;rw [GI];with_reducible exact nR)|(have nR:=(Option.bind_some _ _).symm.trans H;with_reducible exact nR)|with_reducible exact H|(rw [GI];exact H)|exact H
            have ZA:=ae.mk GI
            clear GI
            have H':=ae.mk H
            clear H
            obtain ⟨qZ,qV,XQ⟩:=Kd.xe gm.out
            subst XQ
            try go_wp2
            have di:=ae.mk (Kd.iG gm.out)
            have dm:=ae.mk (ay bZ.out)
            have dE:=ae.mk (ai HB.out)
            clear gm
            clear bZ
            clear HB
            have gm:=di
            have bZ:=dm
            have HB:=dE
            clear di dm dE
            refine nM (n:=12) (S:=fun w'=>w'.cell? ⟨fU,0,none⟩=some (.slice dO bD.length dK)∧w'.cell? ⟨fU,1,none⟩=some (.string aY)∧w'.cell? ⟨fU,2,none⟩=some (.string aX)∧w'.cell? ⟨fU,3,none⟩=some (.slice dV aW.length dJ)) (ds:=[]) #[false,false,false,false,false,false,false,false,false,false,false,false] (by kernel_rfl) rfl rfl ⟨(ah bZ.out 0).trans rfl,(ah bZ.out 1).trans rfl,(ah bZ.out 2).trans rfl,(ah bZ.out 3).trans rfl⟩ (fun hHeld=>?_);refine je bI.aeU bI.Zh (fun dD lK=>?_)
            generalize wr.drew=WG at gm bZ HB hHeld ⊢
            refine bu (i:=0) (N:=some 25) (v:=?_) (a':=?_) #[true,false,false,false,false,false,false,false,false,false,false,false] rfl rfl (aN dD.out (by kernel_rfl)) (fun _ _ _ h=>h) (Or.inl ⟨by rfl,?_⟩) ?_ ?_
            rotate_left
            · intro w'
              go_simp
              with_reducible rfl
            rotate_left
            · simp only [Act.put,List.setIfInBounds_toArray,List.set_cons_zero,List.set_cons_succ,aI,aJ]
              rfl
            refine bu (i:=1) (N:=some 26) (v:=?_) (a':=?_) #[true,true,false,false,false,false,false,false,false,false,false,false] rfl rfl (aN dD.out (by kernel_rfl)) (fun _ _ _ h=>h) (Or.inl ⟨by rfl,?_⟩) ?_ ?_
            rotate_left
            · intro w'
              go_simp
              with_reducible rfl
            rotate_left
            · simp only [Act.put,List.setIfInBounds_toArray,List.set_cons_zero,List.set_cons_succ,aI,aJ]
              rfl
            refine bu (i:=5) (N:=some 30) (v:=?_) (a':=?_) #[true,true,false,false,false,true,false,false,false,false,false,false] rfl rfl (aN dD.out (by kernel_rfl)) (fun _ _ _ h=>h) (Or.inl ⟨by rfl,?_⟩) ?_ ?_
            rotate_left
            · intro w'
              go_simp
              with_reducible rfl
            rotate_left
            · simp only [Act.put,List.setIfInBounds_toArray,List.set_cons_zero,List.set_cons_succ,aI,aJ]
              rfl
            refine gQ (i:=2) (N:=some 27) (v:=?_) (a':=?_) #[true,true,true,false,false,true,false,false,false,false,false,false] rfl rfl (dw dD.out lK.out (by kernel_rfl)) (fun _ _ _ h=>h) (Or.inl ⟨by rfl,?_⟩) hHeld ?_ ?_
            rotate_left
            · rintro w' ⟨s0,s1,s2,s3⟩
              go_simp
              with_reducible rfl
            rotate_left
            · simp only [Act.put,List.setIfInBounds_toArray,List.set_cons_zero,List.set_cons_succ,aI,aJ]
              rfl
            refine gQ (i:=6) (N:=some 31) (v:=?_) (a':=?_) #[true,true,true,false,false,true,true,false,false,false,false,false] rfl rfl (dw dD.out lK.out (by kernel_rfl)) (fun _ _ _ h=>h) (Or.inl ⟨by rfl,?_⟩) hHeld ?_ ?_
            rotate_left
            · rintro w' ⟨s0,s1,s2,s3⟩
              go_simp
              with_reducible rfl
            rotate_left
            · simp only [Act.put,List.setIfInBounds_toArray,List.set_cons_zero,List.set_cons_succ,aI,aJ]
              rfl
            refine mD (i:=3) (N:=some 28) #[true,true,true,true,false,true,true,false,false,false,false,false] rfl rfl (iD dD.out (by kernel_rfl)) (by decide) (fun K hK=>?_)
            refine mG Tryz.func19 (by kernel_rfl) rfl #[.string aY] (by rfl) rfl rfl (by (try simp only [List.map_toArray,List.map_cons,List.map_nil]);first|done|rfl|(simp only [List.length_drop,List.length_take];rfl)) ?_
            with_reducible refine (mJ.calls aY t119 _ Q9.out).mono ?_
            rintro e w' ⟨rfl,⟨nd,rfl⟩⟩
            refine ⟨_,rfl,?_⟩
            refine hK.out _ _ ⟨(ah bZ.out 0).trans rfl,(ah bZ.out 1).trans rfl,(ah bZ.out 2).trans rfl,(ah bZ.out 3).trans rfl⟩ (fun hHeld=>?_)
            clear hK K
            refine gX (a':=?_) ?_ ?_
            rotate_left
            · show Act.put _ (some 28) _=_
              simp only [Act.put,List.setIfInBounds_toArray,List.set_cons_zero,List.set_cons_succ,aI,aJ]
              rfl
            refine Gq (σ:=Value × Value) 3 #[true,true,true,true,true,true,true,true,true,false,false,false] (fun s_=>[(29,s_.1),(32,.string t123),(33,s_.2)]) (fun s_ w'=>(w'.cell? ⟨fU,0,none⟩=some (.slice dO bD.length dK)∧w'.cell? ⟨fU,1,none⟩=some (.string aY)∧w'.cell? ⟨fU,2,none⟩=some (.string aX)∧w'.cell? ⟨fU,3,none⟩=some (.slice dV aW.length dJ))∧(Kd.R Kd.string 9 w' w.heap.size (fun k_=>some k_ ≠ (s_.2:Value).ownBlock) s_.1 BM)∧(Kd.R Kd.string 9 w' w.heap.size (fun k_=>some k_ ≠ (s_.1:Value).ownBlock) s_.2 FC)∧(Kd.N (Kd.slice 9 Kd.string) 22 w' w.heap.size (fun k_=>some k_ ≠ (s_.1:Value).ownBlock∧some k_ ≠ (s_.2:Value).ownBlock∧k_ ≠ fU) (.slice qZ fK.length qV) fK)∧(w'.heap[fU]? = some (.cells #[.slice dO bD.length dK,.string aY,.string aX,.slice dV aW.length dJ] 25 (0,0)))∧(Below w.heap.size w w')) ?_ ?_
            rotate_left
            · intro rq
              refine Ia (i:=4) (j:=7) (Ni:=some 29) (Nj:=some 32) #[true,true,true,true,true,true,true,false,false,false,false,false] #[true,true,true,true,false,true,true,true,false,false,false,false] rfl rfl rfl rfl (xG dD.out (by kernel_rfl)) (by decide) (by decide) (fun K hK=>?_) (fun K hK=>?_)
              · skip
                refine Kd.jW Kd.string _ 9 ?hg (N:=29) ?hd (xs:=([(⟨#[108,111,99,97,108,115]⟩:ByteArray),t119]:List ByteArray)) (inner:=[.string (⟨#[108,111,99,97,108,115]⟩:ByteArray),.string t119]) (ok:=fun _=>True) (nY:=fun _=>True) ?hr ?hp (fun _ hk=>hk) trivial (Below.refl _ _) (Nat.le_refl _) (by simp) ?_;(case hd=>rfl);(case hg=>rfl);(case hr=>first|(go_simp;done)|(go_simp;rfl));(case hp=>exact (iK.one (show Kd.M Kd.string _ _ _ (⟨#[108,111,99,97,108,115]⟩:ByteArray) [.string (⟨#[108,111,99,97,108,115]⟩:ByteArray)] from rfl) (iK.one (show Kd.M Kd.string _ _ _ t119 [.string t119] from rfl) (iK.none _ _))))
                intro DW VF mF hb xk kN
                clear xk kN
                (first|rw [← DC.out] at mF|(simp only [Int.reduceToNat] at mF;rw [← DC.out] at mF))
                have di:=ae.mk (Kd.jS (by (with_reducible repeat (first|apply Kd.gV|apply Kd.gU|apply Kd.iG));exact gm.out) (Kd.jX mF) hb)
                have dm:=ae.mk (Kd.iM mF (bn (by repeat (first|(with_reducible first|exact HB.out|apply aj|apply af|apply ai|refine az ?_ jk.out)|exact HB.out))))
                have dE:=ae.mk (aV (g:=fU) (o:=.cells #[.slice dO bD.length dK,.string aY,.string aX,.slice dV aW.length dJ] 25 (0,0)) (by (with_reducible repeat (first|refine au ?_ _|refine ay ?_|refine ak ?_ _));exact bZ.out) hb)
                have gq:=ae.mk (aQ (by repeat (first|(with_reducible first|exact HB.out|apply aj|apply af|apply ai|refine az ?_ jk.out)|exact HB.out)) hb)
                clear gm
                clear bZ
                clear HB
                have gm:=di
                have qw:=dm
                have bZ:=dE
                have HB:=gq
                clear di dm dE gq
                clear hb mF
                refine hK.out _ _ ⟨(ah bZ.out 0).trans rfl,(ah bZ.out 1).trans rfl,(ah bZ.out 2).trans rfl,(ah bZ.out 3).trans rfl⟩ (fun hHeld=>?_)
                clear hK K
                refine gX (a':=?_) ?_ ?_
                rotate_left
                · show Act.put _ (some 29) _=_
                  simp only [Act.put,List.setIfInBounds_toArray,List.set_cons_zero,List.set_cons_succ,aI,aJ]
                  rfl
                refine mD (i:=7) (N:=some 32) #[true,true,true,true,true,true,true,true,false,false,false,false] rfl rfl (iD dD.out (by kernel_rfl)) (by decide) (fun K hK=>?_)
                refine mG Tryz.func19 (by kernel_rfl) rfl #[.string aX] (by rfl) rfl rfl (by (try simp only [List.map_toArray,List.map_cons,List.map_nil]);first|done|rfl|(simp only [List.length_drop,List.length_take];rfl)) ?_
                with_reducible refine (mJ.calls aX t123 _ A17.out).mono ?_
                rintro e w' ⟨rfl,⟨nd,rfl⟩⟩
                refine ⟨_,rfl,?_⟩
                refine hK.out _ _ ⟨(ah bZ.out 0).trans rfl,(ah bZ.out 1).trans rfl,(ah bZ.out 2).trans rfl,(ah bZ.out 3).trans rfl⟩ (fun hHeld=>?_)
                clear hK K
                refine gX (a':=?_) ?_ ?_
                rotate_left
                · show Act.put _ (some 32) _=_
                  simp only [Act.put,List.setIfInBounds_toArray,List.set_cons_zero,List.set_cons_succ,aI,aJ]
                  rfl
                refine mD (i:=8) (N:=some 33) #[true,true,true,true,true,true,true,true,true,false,false,false] rfl rfl (iD dD.out (by kernel_rfl)) (by decide) (fun K hK=>?_)
                refine Kd.jW Kd.string _ 9 ?hg (N:=33) ?hd (xs:=([(⟨#[103,108,111,98,97,108,115]⟩:ByteArray),t123]:List ByteArray)) (inner:=[.string (⟨#[103,108,111,98,97,108,115]⟩:ByteArray),.string t123]) (ok:=fun _=>True) (nY:=fun _=>True) ?hr ?hp (fun _ hk=>hk) trivial (Below.refl _ _) (Nat.le_refl _) (by simp) ?_;(case hd=>rfl);(case hg=>rfl);(case hr=>first|(go_simp;done)|(go_simp;rfl));(case hp=>exact (iK.one (show Kd.M Kd.string _ _ _ (⟨#[103,108,111,98,97,108,115]⟩:ByteArray) [.string (⟨#[103,108,111,98,97,108,115]⟩:ByteArray)] from rfl) (iK.one (show Kd.M Kd.string _ _ _ t123 [.string t123] from rfl) (iK.none _ _))))
                intro DV zI kX hb xk kN
                clear xk kN
                (first|rw [← Dz.out] at kX|(simp only [Int.reduceToNat] at kX;rw [← Dz.out] at kX))
                have di:=ae.mk (Kd.jS (by (with_reducible repeat (first|apply Kd.gV|apply Kd.gU|apply Kd.iG));exact gm.out) (Kd.jX kX) hb)
                have dm:=ae.mk (Kd.oz (by (with_reducible repeat (first|apply Kd.dn|apply Kd.dA|apply Kd.dQ));exact qw.out) (Kd.jX kX) hb)
                have dE:=ae.mk (Kd.iM (Kd.uT kX (Kd.yD (by (with_reducible repeat (first|apply Kd.dn|apply Kd.dA|apply Kd.dQ));exact qw.out))) (bn (by repeat (first|(with_reducible first|exact HB.out|apply aj|apply af|apply ai|refine az ?_ jk.out)|exact HB.out))))
                have gq:=ae.mk (aV (g:=fU) (o:=.cells #[.slice dO bD.length dK,.string aY,.string aX,.slice dV aW.length dJ] 25 (0,0)) (by (with_reducible repeat (first|refine au ?_ _|refine ay ?_|refine ak ?_ _));exact bZ.out) hb)
                have jC:=ae.mk (aQ (by repeat (first|(with_reducible first|exact HB.out|apply aj|apply af|apply ai|refine az ?_ jk.out)|exact HB.out)) hb)
                clear gm
                clear qw
                clear bZ
                clear HB
                have gm:=di
                have qw:=dm
                have sV:=dE
                have bZ:=gq
                have HB:=jC
                clear di dm dE gq jC
                clear hb kX
                refine hK.out _ _ ⟨(ah bZ.out 0).trans rfl,(ah bZ.out 1).trans rfl,(ah bZ.out 2).trans rfl,(ah bZ.out 3).trans rfl⟩ (fun hHeld=>?_)
                clear hK K
                refine gX (a':=?_) ?_ ?_
                rotate_left
                · show Act.put _ (some 33) _=_
                  simp only [Act.put,List.setIfInBounds_toArray,List.set_cons_zero,List.set_cons_succ,aI,aJ]
                  rfl
                exact gX (by simp only [jJ,Act.put,List.setIfInBounds_toArray,List.set_cons_zero,List.set_cons_succ]) (rq (DW,DV) _ ⟨hHeld,(by (with_reducible repeat (first|apply Kd.dn|apply Kd.dA|apply Kd.dQ));exact Kd.fJ qw.out (fun _ hk=>hk.2)),(by (with_reducible repeat (first|apply Kd.dn|apply Kd.dA|apply Kd.dQ));exact Kd.fJ sV.out (fun _ hk=>hk.2)),(by (with_reducible repeat (first|apply Kd.gV|apply Kd.gU|apply Kd.iG));exact Kd.lq gm.out (fun _ hk=>⟨hk.1.2,⟨hk.2,hk.1.1⟩⟩)),(by (with_reducible repeat (first|refine au ?_ _|refine ay ?_|refine ak ?_ _));exact bZ.out),(by repeat (first|(with_reducible first|exact HB.out|apply aj|apply af|apply ai|refine az ?_ jk.out)|exact HB.out))⟩)
              · skip
                refine mG Tryz.func19 (by kernel_rfl) rfl #[.string aX] (by rfl) rfl rfl (by (try simp only [List.map_toArray,List.map_cons,List.map_nil]);first|done|rfl|(simp only [List.length_drop,List.length_take];rfl)) ?_
                with_reducible refine (mJ.calls aX t123 _ A17.out).mono ?_
                rintro e w' ⟨rfl,⟨nd,rfl⟩⟩
                refine ⟨_,rfl,?_⟩
                refine hK.out _ _ ⟨(ah bZ.out 0).trans rfl,(ah bZ.out 1).trans rfl,(ah bZ.out 2).trans rfl,(ah bZ.out 3).trans rfl⟩ (fun hHeld=>?_)
                clear hK K
                refine gX (a':=?_) ?_ ?_
                rotate_left
                · show Act.put _ (some 32) _=_
                  simp only [Act.put,List.setIfInBounds_toArray,List.set_cons_zero,List.set_cons_succ,aI,aJ]
                  rfl
                refine Ia (i:=4) (j:=8) (Ni:=some 29) (Nj:=some 33) #[true,true,true,true,true,true,true,true,false,false,false,false] #[true,true,true,true,false,true,true,true,true,false,false,false] rfl rfl rfl rfl (xG dD.out (by kernel_rfl)) (by decide) (by decide) (fun K hK=>?_) (fun K hK=>?_)
                · skip
                  refine Kd.jW Kd.string _ 9 ?hg (N:=29) ?hd (xs:=([(⟨#[108,111,99,97,108,115]⟩:ByteArray),t119]:List ByteArray)) (inner:=[.string (⟨#[108,111,99,97,108,115]⟩:ByteArray),.string t119]) (ok:=fun _=>True) (nY:=fun _=>True) ?hr ?hp (fun _ hk=>hk) trivial (Below.refl _ _) (Nat.le_refl _) (by simp) ?_;(case hd=>rfl);(case hg=>rfl);(case hr=>first|(go_simp;done)|(go_simp;rfl));(case hp=>exact (iK.one (show Kd.M Kd.string _ _ _ (⟨#[108,111,99,97,108,115]⟩:ByteArray) [.string (⟨#[108,111,99,97,108,115]⟩:ByteArray)] from rfl) (iK.one (show Kd.M Kd.string _ _ _ t119 [.string t119] from rfl) (iK.none _ _))))
                  intro DW VF mF hb xk kN
                  clear xk kN
                  (first|rw [← DC.out] at mF|(simp only [Int.reduceToNat] at mF;rw [← DC.out] at mF))
                  have di:=ae.mk (Kd.jS (by (with_reducible repeat (first|apply Kd.gV|apply Kd.gU|apply Kd.iG));exact gm.out) (Kd.jX mF) hb)
                  have dm:=ae.mk (Kd.iM mF (bn (by repeat (first|(with_reducible first|exact HB.out|apply aj|apply af|apply ai|refine az ?_ jk.out)|exact HB.out))))
                  have dE:=ae.mk (aV (g:=fU) (o:=.cells #[.slice dO bD.length dK,.string aY,.string aX,.slice dV aW.length dJ] 25 (0,0)) (by (with_reducible repeat (first|refine au ?_ _|refine ay ?_|refine ak ?_ _));exact bZ.out) hb)
                  have gq:=ae.mk (aQ (by repeat (first|(with_reducible first|exact HB.out|apply aj|apply af|apply ai|refine az ?_ jk.out)|exact HB.out)) hb)
                  clear gm
                  clear bZ
                  clear HB
                  have gm:=di
                  have qw:=dm
                  have bZ:=dE
                  have HB:=gq
                  clear di dm dE gq
                  clear hb mF
                  refine hK.out _ _ ⟨(ah bZ.out 0).trans rfl,(ah bZ.out 1).trans rfl,(ah bZ.out 2).trans rfl,(ah bZ.out 3).trans rfl⟩ (fun hHeld=>?_)
                  clear hK K
                  refine gX (a':=?_) ?_ ?_
                  rotate_left
                  · show Act.put _ (some 29) _=_
                    simp only [Act.put,List.setIfInBounds_toArray,List.set_cons_zero,List.set_cons_succ,aI,aJ]
                    rfl
                  refine mD (i:=8) (N:=some 33) #[true,true,true,true,true,true,true,true,true,false,false,false] rfl rfl (iD dD.out (by kernel_rfl)) (by decide) (fun K hK=>?_)
                  refine Kd.jW Kd.string _ 9 ?hg (N:=33) ?hd (xs:=([(⟨#[103,108,111,98,97,108,115]⟩:ByteArray),t123]:List ByteArray)) (inner:=[.string (⟨#[103,108,111,98,97,108,115]⟩:ByteArray),.string t123]) (ok:=fun _=>True) (nY:=fun _=>True) ?hr ?hp (fun _ hk=>hk) trivial (Below.refl _ _) (Nat.le_refl _) (by simp) ?_;(case hd=>rfl);(case hg=>rfl);(case hr=>first|(go_simp;done)|(go_simp;rfl));(case hp=>exact (iK.one (show Kd.M Kd.string _ _ _ (⟨#[103,108,111,98,97,108,115]⟩:ByteArray) [.string (⟨#[103,108,111,98,97,108,115]⟩:ByteArray)] from rfl) (iK.one (show Kd.M Kd.string _ _ _ t123 [.string t123] from rfl) (iK.none _ _))))
                  intro DV zI kX hb xk kN
                  clear xk kN
                  (first|rw [← Dz.out] at kX|(simp only [Int.reduceToNat] at kX;rw [← Dz.out] at kX))
                  have di:=ae.mk (Kd.jS (by (with_reducible repeat (first|apply Kd.gV|apply Kd.gU|apply Kd.iG));exact gm.out) (Kd.jX kX) hb)
                  have dm:=ae.mk (Kd.oz (by (with_reducible repeat (first|apply Kd.dn|apply Kd.dA|apply Kd.dQ));exact qw.out) (Kd.jX kX) hb)
                  have dE:=ae.mk (Kd.iM (Kd.uT kX (Kd.yD (by (with_reducible repeat (first|apply Kd.dn|apply Kd.dA|apply Kd.dQ));exact qw.out))) (bn (by repeat (first|(with_reducible first|exact HB.out|apply aj|apply af|apply ai|refine az ?_ jk.out)|exact HB.out))))
                  have gq:=ae.mk (aV (g:=fU) (o:=.cells #[.slice dO bD.length dK,.string aY,.string aX,.slice dV aW.length dJ] 25 (0,0)) (by (with_reducible repeat (first|refine au ?_ _|refine ay ?_|refine ak ?_ _));exact bZ.out) hb)
                  have jC:=ae.mk (aQ (by repeat (first|(with_reducible first|exact HB.out|apply aj|apply af|apply ai|refine az ?_ jk.out)|exact HB.out)) hb)
                  clear gm
                  clear qw
                  clear bZ
                  clear HB
                  have gm:=di
                  have qw:=dm
                  have sV:=dE
                  have bZ:=gq
                  have HB:=jC
                  clear di dm dE gq jC
                  clear hb kX
                  refine hK.out _ _ ⟨(ah bZ.out 0).trans rfl,(ah bZ.out 1).trans rfl,(ah bZ.out 2).trans rfl,(ah bZ.out 3).trans rfl⟩ (fun hHeld=>?_)
                  clear hK K
                  refine gX (a':=?_) ?_ ?_
                  rotate_left
                  · show Act.put _ (some 33) _=_
                    simp only [Act.put,List.setIfInBounds_toArray,List.set_cons_zero,List.set_cons_succ,aI,aJ]
                    rfl
                  exact gX (by simp only [jJ,Act.put,List.setIfInBounds_toArray,List.set_cons_zero,List.set_cons_succ]) (rq (DW,DV) _ ⟨hHeld,(by (with_reducible repeat (first|apply Kd.dn|apply Kd.dA|apply Kd.dQ));exact Kd.fJ qw.out (fun _ hk=>hk.2)),(by (with_reducible repeat (first|apply Kd.dn|apply Kd.dA|apply Kd.dQ));exact Kd.fJ sV.out (fun _ hk=>hk.2)),(by (with_reducible repeat (first|apply Kd.gV|apply Kd.gU|apply Kd.iG));exact Kd.lq gm.out (fun _ hk=>⟨hk.1.2,⟨hk.2,hk.1.1⟩⟩)),(by (with_reducible repeat (first|refine au ?_ _|refine ay ?_|refine ak ?_ _));exact bZ.out),(by repeat (first|(with_reducible first|exact HB.out|apply aj|apply af|apply ai|refine az ?_ jk.out)|exact HB.out))⟩)
                · skip
                  refine Kd.jW Kd.string _ 9 ?hg (N:=33) ?hd (xs:=([(⟨#[103,108,111,98,97,108,115]⟩:ByteArray),t123]:List ByteArray)) (inner:=[.string (⟨#[103,108,111,98,97,108,115]⟩:ByteArray),.string t123]) (ok:=fun _=>True) (nY:=fun _=>True) ?hr ?hp (fun _ hk=>hk) trivial (Below.refl _ _) (Nat.le_refl _) (by simp) ?_;(case hd=>rfl);(case hg=>rfl);(case hr=>first|(go_simp;done)|(go_simp;rfl));(case hp=>exact (iK.one (show Kd.M Kd.string _ _ _ (⟨#[103,108,111,98,97,108,115]⟩:ByteArray) [.string (⟨#[103,108,111,98,97,108,115]⟩:ByteArray)] from rfl) (iK.one (show Kd.M Kd.string _ _ _ t123 [.string t123] from rfl) (iK.none _ _))))
                  intro DV VF mF hb xk kN
                  clear xk kN
                  (first|rw [← Dz.out] at mF|(simp only [Int.reduceToNat] at mF;rw [← Dz.out] at mF))
                  have di:=ae.mk (Kd.jS (by (with_reducible repeat (first|apply Kd.gV|apply Kd.gU|apply Kd.iG));exact gm.out) (Kd.jX mF) hb)
                  have dm:=ae.mk (Kd.iM mF (bn (by repeat (first|(with_reducible first|exact HB.out|apply aj|apply af|apply ai|refine az ?_ jk.out)|exact HB.out))))
                  have dE:=ae.mk (aV (g:=fU) (o:=.cells #[.slice dO bD.length dK,.string aY,.string aX,.slice dV aW.length dJ] 25 (0,0)) (by (with_reducible repeat (first|refine au ?_ _|refine ay ?_|refine ak ?_ _));exact bZ.out) hb)
                  have gq:=ae.mk (aQ (by repeat (first|(with_reducible first|exact HB.out|apply aj|apply af|apply ai|refine az ?_ jk.out)|exact HB.out)) hb)
                  clear gm
                  clear bZ
                  clear HB
                  have gm:=di
                  have sV:=dm
                  have bZ:=dE
                  have HB:=gq
                  clear di dm dE gq
                  clear hb mF
                  refine hK.out _ _ ⟨(ah bZ.out 0).trans rfl,(ah bZ.out 1).trans rfl,(ah bZ.out 2).trans rfl,(ah bZ.out 3).trans rfl⟩ (fun hHeld=>?_)
                  clear hK K
                  refine gX (a':=?_) ?_ ?_
                  rotate_left
                  · show Act.put _ (some 33) _=_
                    simp only [Act.put,List.setIfInBounds_toArray,List.set_cons_zero,List.set_cons_succ,aI,aJ]
                    rfl
                  refine mD (i:=4) (N:=some 29) #[true,true,true,true,true,true,true,true,true,false,false,false] rfl rfl (iD dD.out (by kernel_rfl)) (by decide) (fun K hK=>?_)
                  refine Kd.jW Kd.string _ 9 ?hg (N:=29) ?hd (xs:=([(⟨#[108,111,99,97,108,115]⟩:ByteArray),t119]:List ByteArray)) (inner:=[.string (⟨#[108,111,99,97,108,115]⟩:ByteArray),.string t119]) (ok:=fun _=>True) (nY:=fun _=>True) ?hr ?hp (fun _ hk=>hk) trivial (Below.refl _ _) (Nat.le_refl _) (by simp) ?_;(case hd=>rfl);(case hg=>rfl);(case hr=>first|(go_simp;done)|(go_simp;rfl));(case hp=>exact (iK.one (show Kd.M Kd.string _ _ _ (⟨#[108,111,99,97,108,115]⟩:ByteArray) [.string (⟨#[108,111,99,97,108,115]⟩:ByteArray)] from rfl) (iK.one (show Kd.M Kd.string _ _ _ t119 [.string t119] from rfl) (iK.none _ _))))
                  intro DW zI kX hb xk kN
                  clear xk kN
                  (first|rw [← DC.out] at kX|(simp only [Int.reduceToNat] at kX;rw [← DC.out] at kX))
                  have di:=ae.mk (Kd.jS (by (with_reducible repeat (first|apply Kd.gV|apply Kd.gU|apply Kd.iG));exact gm.out) (Kd.jX kX) hb)
                  have dm:=ae.mk (Kd.oz (by (with_reducible repeat (first|apply Kd.dn|apply Kd.dA|apply Kd.dQ));exact sV.out) (Kd.jX kX) hb)
                  have dE:=ae.mk (Kd.iM (Kd.uT kX (Kd.yD (by (with_reducible repeat (first|apply Kd.dn|apply Kd.dA|apply Kd.dQ));exact sV.out))) (bn (by repeat (first|(with_reducible first|exact HB.out|apply aj|apply af|apply ai|refine az ?_ jk.out)|exact HB.out))))
                  have gq:=ae.mk (aV (g:=fU) (o:=.cells #[.slice dO bD.length dK,.string aY,.string aX,.slice dV aW.length dJ] 25 (0,0)) (by (with_reducible repeat (first|refine au ?_ _|refine ay ?_|refine ak ?_ _));exact bZ.out) hb)
                  have jC:=ae.mk (aQ (by repeat (first|(with_reducible first|exact HB.out|apply aj|apply af|apply ai|refine az ?_ jk.out)|exact HB.out)) hb)
                  clear gm
                  clear sV
                  clear bZ
                  clear HB
                  have gm:=di
                  have sV:=dm
                  have qw:=dE
                  have bZ:=gq
                  have HB:=jC
                  clear di dm dE gq jC
                  clear hb kX
                  refine hK.out _ _ ⟨(ah bZ.out 0).trans rfl,(ah bZ.out 1).trans rfl,(ah bZ.out 2).trans rfl,(ah bZ.out 3).trans rfl⟩ (fun hHeld=>?_)
                  clear hK K
                  refine gX (a':=?_) ?_ ?_
                  rotate_left
                  · show Act.put _ (some 29) _=_
                    simp only [Act.put,List.setIfInBounds_toArray,List.set_cons_zero,List.set_cons_succ,aI,aJ]
                    rfl
                  exact gX (by simp only [jJ,Act.put,List.setIfInBounds_toArray,List.set_cons_zero,List.set_cons_succ]) (rq (DW,DV) _ ⟨hHeld,(by (with_reducible repeat (first|apply Kd.dn|apply Kd.dA|apply Kd.dQ));exact Kd.fJ qw.out (fun _ hk=>hk.2)),(by (with_reducible repeat (first|apply Kd.dn|apply Kd.dA|apply Kd.dQ));exact Kd.fJ sV.out (fun _ hk=>hk.2)),(by (with_reducible repeat (first|apply Kd.gV|apply Kd.gU|apply Kd.iG));exact Kd.lq gm.out (fun _ hk=>⟨hk.2,⟨hk.1.2,hk.1.1⟩⟩)),(by (with_reducible repeat (first|refine au ?_ _|refine ay ?_|refine ak ?_ _));exact bZ.out),(by repeat (first|(with_reducible first|exact HB.out|apply aj|apply af|apply ai|refine az ?_ jk.out)|exact HB.out))⟩)
            rintro ⟨DW,DV⟩ rG ⟨jL,LD,LC,Lu,Lt,Ls⟩
            have di:ae (Kd.R Kd.string 9 rG w.heap.size (fun k_=>some k_ ≠ (DV:Value).ownBlock) DW BM):=⟨LD⟩
            have dm:ae (Kd.R Kd.string 9 rG w.heap.size (fun k_=>some k_ ≠ (DW:Value).ownBlock) DV FC):=⟨LC⟩
            have dE:ae (Kd.N (Kd.slice 9 Kd.string) 22 rG w.heap.size (fun k_=>some k_ ≠ (DW:Value).ownBlock∧some k_ ≠ (DV:Value).ownBlock∧k_ ≠ fU) (.slice qZ fK.length qV) fK):=⟨Lu⟩
            have gq:ae (rG.heap[fU]? = some (.cells #[.slice dO bD.length dK,.string aY,.string aX,.slice dV aW.length dJ] 25 (0,0))):=⟨Lt⟩
            have jC:ae (Below w.heap.size w rG):=⟨Ls⟩
            clear gm
            clear bZ
            clear HB
            clear LD LC Lu Lt Ls
            have qw:=di
            have sV:=dm
            have gm:=dE
            have bZ:=gq
            have HB:=jC
            clear di dm dE gq jC
            have hHeld:rG.cell? ⟨fU,0,none⟩=some (.slice dO bD.length dK)∧rG.cell? ⟨fU,1,none⟩=some (.string aY)∧rG.cell? ⟨fU,2,none⟩=some (.string aX)∧rG.cell? ⟨fU,3,none⟩=some (.slice dV aW.length dJ):=jL
            obtain ⟨H7,G9,IY⟩:=Kd.iW qw.out
            (first|subst IY|(injection IY with GY Ql GX;have Qk:=GY.symm;have Qj:=GX.symm;clear GY Ql GX;subst Qk;subst Qj))
            obtain ⟨sJ,sG,IX⟩:=Kd.iW sV.out
            (first|subst IX|(injection IX with GY Ql GX;have Qk:=GY.symm;have Qj:=GX.symm;clear GY Ql GX;subst Qk;subst Qj))
            refine gX (a':=?_) ?_ ?_
            rotate_left
            · simp only [jJ,Act.put,List.setIfInBounds_toArray,List.set_cons_zero,List.set_cons_succ]
              rfl
            refine mD (i:=9) (N:=some 34) #[true,true,true,true,true,true,true,true,true,true,false,false] rfl rfl (iD dD.out (by kernel_rfl)) (by decide) (fun K hK=>?_)
            refine Kd.BC (Kd.slice 9 Kd.string) _ 22 ?hg (N':=34) ?hd (xs:=([BM,FC]:List (List ByteArray))) (inner:=[.slice H7 BM.length G9,.slice sJ FC.length sG]) (ok:=(fun k_=>some k_ ≠ (.slice qZ fK.length qV:Value).ownBlock∧k_ ≠ fU)) (nY:=(fun k_=>some k_ ≠ (.slice qZ fK.length qV:Value).ownBlock∧k_ ≠ fU)) ?hr ?hp (fun _ hk=>hk) ((show ∀ k_,rG.heap.size≤k_→(fun k_=>some k_ ≠ (.slice qZ fK.length qV:Value).ownBlock∧k_ ≠ fU) k_ from fun k_ hk=>⟨Kd.fresh' (Kd.X6 (by (with_reducible repeat (first|apply Kd.gV|apply Kd.gU|apply Kd.iG));exact gm.out)) k_ hk,Kd.uO (g:=fU) (o:=.cells #[.slice dO bD.length dK,.string aY,.string aX,.slice dV aW.length dJ] 25 (0,0)) (by (with_reducible repeat (first|refine au ?_ _|refine ay ?_|refine ak ?_ _));exact bZ.out) k_ hk⟩) _ (Nat.le_refl _)) (Below.refl _ _) (Nat.le_refl _) (by simp) ?_;(case hd=>rfl);(case hg=>rfl);(case hr=>first|(go_simp;done)|(go_simp;rfl));(case hp=>exact (iK.one (show Kd.FK (Kd.slice 9 Kd.string) _ _ BM [.slice H7 BM.length G9] from (Kd.mW (Kd.iO (Kd.fJ (ok':=(fun k_=>some k_ ≠ (.slice qZ fK.length qV:Value).ownBlock∧k_ ≠ fU)) (Kd.iR (Kd.jR (qw.out) (Kd.mf gm.out) (by decide)) bZ.out (by decide)) (fun k_ hk=>⟨hk.1.2,hk.2⟩))).2.1 (Kd.V8 (Kd.fJ (ok':=(fun k_=>some k_ ≠ (.slice qZ fK.length qV:Value).ownBlock∧k_ ≠ fU)) (Kd.iR (Kd.jR (qw.out) (Kd.mf gm.out) (by decide)) bZ.out (by decide)) (fun k_ hk=>⟨hk.1.2,hk.2⟩))))) (iK.one (show Kd.FK (Kd.slice 9 Kd.string) _ _ FC [.slice sJ FC.length sG] from (Kd.mW (Kd.iO (Kd.fJ (ok':=(fun k_=>some k_ ≠ (.slice qZ fK.length qV:Value).ownBlock∧k_ ≠ fU)) (Kd.iR (Kd.jR (sV.out) (Kd.mf gm.out) (by decide)) bZ.out (by decide)) (fun k_ hk=>⟨hk.1.2,hk.2⟩))).2.1 (Kd.V8 (Kd.fJ (ok':=(fun k_=>some k_ ≠ (.slice qZ fK.length qV:Value).ownBlock∧k_ ≠ fU)) (Kd.iR (Kd.jR (sV.out) (Kd.mf gm.out) (by decide)) bZ.out (by decide)) (fun k_ hk=>⟨hk.1.2,hk.2⟩))))) (iK.none _ _))))
            intro aif Yj yO hb xk kN
            clear xk kN
            (first|rw [← Wi.out] at yO|(simp only [Int.reduceToNat] at yO;rw [← Wi.out] at yO))
            have di:=ae.mk (Kd.jS (by (with_reducible repeat (first|apply Kd.gV|apply Kd.gU|apply Kd.iG));exact gm.out) (Kd.QW yO) hb)
            have dm:=ae.mk (Kd.L9 yO (bn (by repeat (first|(with_reducible first|exact HB.out|apply aj|apply af|apply ai|refine az ?_ jk.out)|exact HB.out))))
            have dE:=ae.mk (aV (g:=fU) (o:=.cells #[.slice dO bD.length dK,.string aY,.string aX,.slice dV aW.length dJ] 25 (0,0)) (by (with_reducible repeat (first|refine au ?_ _|refine ay ?_|refine ak ?_ _));exact bZ.out) hb)
            have gq:=ae.mk (aQ (by repeat (first|(with_reducible first|exact HB.out|apply aj|apply af|apply ai|refine az ?_ jk.out)|exact HB.out)) hb)
            clear gm
            clear bZ
            clear HB
            clear qw
            clear sV
            have gm:=di
            have Hz:=dm
            have bZ:=dE
            have HB:=gq
            clear di dm dE gq
            clear hb yO
            obtain ⟨agb,afR,Qq⟩:=Kd.xe Hz.out
            (first|subst Qq|(injection Qq with GY Ql GX;have Qk:=GY.symm;have Qj:=GX.symm;clear GY Ql GX;subst Qk;subst Qj))
            refine hK.out _ _ ⟨(ah bZ.out 0).trans rfl,(ah bZ.out 1).trans rfl,(ah bZ.out 2).trans rfl,(ah bZ.out 3).trans rfl⟩ (fun hHeld=>?_)
            clear hK K
            refine gX (a':=?_) ?_ ?_
            rotate_left
            · show Act.put _ (some 34) _=_
              simp only [Act.put,List.setIfInBounds_toArray,List.set_cons_zero,List.set_cons_succ,aI,aJ]
              rfl
            refine mD (i:=10) (N:=some 35) #[true,true,true,true,true,true,true,true,true,true,true,false] rfl rfl (iD dD.out (by kernel_rfl)) (by decide) (fun K hK=>?_)
            refine Kd.sD (Kd.slice 9 Kd.string) (w0:=w) w.heap.size (by rfl) (.tmp 25) (.tmp 34) 43 22 (.slice none 0 0) 24 rfl Tryz.underlying43 info22 rfl (by decide) (by omega) (.slice qZ fK.length qV) fK tX _ _ _ (fun k_=>k_ ≠ fU) (fun k_=>((fun k_=>k_ ≠ fU)) k_∧some k_ ≠ (.slice qZ fK.length qV:Value).ownBlock) rfl rfl ?aO ?aR (fun _ hk=>hk) ?aF ?aB ?aS ?aL ?_
            (case aR=>exact (by skip;exact Kd.N_F (Kd.lq (ok':=(fun k_=>((fun k_=>k_ ≠ fU)) k_∧some k_ ≠ (.slice qZ fK.length qV:Value).ownBlock)) (Hz.out) (fun k_ hk=>⟨hk.2,hk.1⟩))))
            (case aB=>exact (by repeat (first|(with_reducible first|exact HB.out|apply aj|apply af|apply ai|refine az ?_ jk.out)|exact HB.out)))
            (case aF=>exact (fun k_ hk=>Kd.uO (g:=fU) (o:=.cells #[.slice dO bD.length dK,.string aY,.string aX,.slice dV aW.length dJ] 25 (0,0)) (by (with_reducible repeat (first|refine au ?_ _|refine ay ?_|refine ak ?_ _));exact bZ.out) k_ hk))
            (case aO=>exact (by (with_reducible repeat (first|apply Kd.gV|apply Kd.gU|apply Kd.iG));exact Kd.lq gm.out (fun _ hk=>hk.1.2.2)))
            (case aS=>exact (bn (by repeat (first|(with_reducible first|exact HB.out|apply aj|apply af|apply ai|refine az ?_ jk.out)|exact HB.out))))
            (case aL=>have:=ZI.out;omega)
            intro v131 Yi ho hb hg hat
            rw [← ZA.out] at ho
            have di:=ae.mk (oQ (g:=fU) (o:=.cells #[.slice dO bD.length dK,.string aY,.string aX,.slice dV aW.length dJ] 25 (0,0)) (by (with_reducible repeat (first|refine au ?_ _|refine ay ?_|refine ak ?_ _));exact bZ.out) hg (Kd.I8 gm.out bZ.out (by decide)))
            have dm:=ae.mk (Kd.Hw (ok:=(fun k_=>k_ ≠ fU)) (by (with_reducible repeat (first|apply Kd.gV|apply Kd.gU|apply Kd.iG));exact Kd.lq Hz.out (fun _ hk=>⟨hk.2,hk.1⟩)) hg hat)
            have dE:=ae.mk (hb)
            have gq:=ae.mk (ho)
            clear bZ
            clear Hz
            clear HB
            clear gm
            have bZ:=di
            have Hz:=dm
            have HB:=dE
            have ZZ:=gq
            clear di dm dE gq
            clear ho hb hg hat
            refine hK.out _ _ ⟨(ah bZ.out 0).trans rfl,(ah bZ.out 1).trans rfl,(ah bZ.out 2).trans rfl,(ah bZ.out 3).trans rfl⟩ (fun hHeld=>?_)
            clear hK K
            refine gX (a':=?_) ?_ ?_
            rotate_left
            · show Act.put _ (some 35) _=_
              simp only [Act.put,List.setIfInBounds_toArray,List.set_cons_zero,List.set_cons_succ,aI,aJ]
              rfl
            refine bu (i:=11) (N:=some 4) (v:=?_) (a':=?_) #[true,true,true,true,true,true,true,true,true,true,true,true] rfl rfl (aN dD.out (by kernel_rfl)) (fun _ _ _ h=>h) (Or.inl ⟨by rfl,?_⟩) ?_ ?_
            rotate_left
            · intro w'
              go_simp
              with_reducible rfl
            rotate_left
            · simp only [Act.put,List.setIfInBounds_toArray,List.set_cons_zero,List.set_cons_succ,aI,aJ]
              rfl
            refine qL (lG dD.out (by kernel_rfl)) ?_
            have EO:Yi.cell? ⟨fU,0,none⟩=some (.slice dO bD.length dK):=(ah bZ.out 0).trans rfl
            have EN:Yi.cell? ⟨fU,1,none⟩=some (.string aY):=(ah bZ.out 1).trans rfl
            have EM:Yi.cell? ⟨fU,2,none⟩=some (.string aX):=(ah bZ.out 2).trans rfl
            have EL:Yi.cell? ⟨fU,3,none⟩=some (.slice dV aW.length dJ):=(ah bZ.out 3).trans rfl
            have EC:=ax bZ.out 0
            have Ez:=ax bZ.out 1
            have Ey:=ax bZ.out 2
            have Ew:=ax bZ.out 3
            try go_wp2
            go_loopg [4,39] k1 (fun kq v4 v39 w'=>∃ (jy:List (List ByteArray)) (iI:Int),v39=.int .i64 iI∧ae (bI.l1 kq jy aW (aW.length:Int) iI=some (r1,r2))∧ae (kq≤k1)∧ae (Kd.N (Kd.slice 9 Kd.string) 22 w' w.heap.size (fun k_=>k_ ≠ fU) v4 jy)∧ae (w'.heap[fU]? = some (.cells #[(.slice dO bD.length dK),.string aY,.string aX,(.slice dV aW.length dJ)] 25 (0,0)))∧ae (Below w.heap.size w w'))
            case atStart=>exact ⟨(Yv),(0),(by first|rfl|(simp;done)|(simp [*];done)),H',⟨Nat.le_refl _⟩,⟨by (with_reducible repeat (first|apply Kd.gV|apply Kd.gU|apply Kd.iG));exact ZZ.out⟩,⟨by (with_reducible repeat (first|refine au ?_ _|refine ay ?_|refine ak ?_ _));exact bZ.out⟩,⟨by repeat (first|(with_reducible first|exact HB.out|apply aj|apply af|apply ai|refine az ?_ jk.out)|exact HB.out)⟩⟩
            case round =>
              clear H'
              try clear c1
              try clear p1
              try clear q1
              try clear hx1
              try clear p2
              try clear c3
              try clear p6
              try clear c8
              try clear tK
              try clear c9
              try clear E8
              try clear c10
              try clear nO
              try clear c11
              try clear p11
              try clear q11
              try clear ais
              try clear c18
              try clear c19
              try clear EO
              try clear EN
              try clear EM
              try clear EL
              try clear Bf
              try clear Be
              try clear Bd
              try clear Bc
              try clear PQ
              try clear PO
              try clear PN
              try clear PM
              try clear EC
              try clear Ez
              try clear Ey
              try clear Ew
              try clear Ba
              try clear AZ
              try clear AY
              try clear AX
              try clear PE
              try clear PD
              try clear Pz
              try clear Py
              try clear zL
              try clear Sr
              try clear p2
              try clear Sl
              obtain ⟨jy,iI,rfl,HA,xB,gm,bZ,HB⟩:=hrel
              cases gk with
              | zero=>exact absurd HA.out (by simp [bI.l1])
              | succ k2 =>
                have H:=HA.out
                clear HA
                simp only [bI.l1] at H
                by_cases Qz:iI < (aW.length:Int)
                · rw [if_pos Qz] at H
                  have VZ:decide (iI < (aW.length:Int))=true:=decide_eq_true Qz
                  clear Qz
                  by_cases c34:0≤iI
                  · rw [if_pos c34] at H
                    have aho:decide (0≤iI)=true:=decide_eq_true c34
                    clear c34
                    by_cases Vp:iI < (aW.length:Int)
                    · rw [if_pos Vp] at H
                      have ahn:decide (iI < (aW.length:Int))=true:=decide_eq_true Vp
                      clear Vp
                      replace H:=Option.bind_eq_some_iff.mp H
                      obtain ⟨t135,aaq,H⟩:=H
                      replace H:(if jy.length < 5864062014805 then (bI.l1 k2 (jy++[t135]) aW (aW.length:Int) (wrap64 (iI+1))) else (none))=some (r1,r2):=H
                      have A36:=ae.mk aaq
                      clear aaq
                      by_cases c37:jy.length < 5864062014805
                      · rw [if_pos c37] at H
                        have ZE:=ae.mk c37
                        clear c37
                        obtain ⟨Yu,GH⟩:∃ y_:List (List ByteArray),y_=(jy++[t135]):=⟨_,rfl⟩
                        replace H:(bI.l1 k2 Yu aW (aW.length:Int) (wrap64 (iI+1)))=some (r1,r2):=by first|(rw [GH];with_reducible exact H)|(have nR:=(Option.bind_some _ _).symm.trans H;rw [GH];with_reducible exact nR)|(have nR:=(Option.bind_some _ _).symm.trans H;with_reducible exact nR)|with_reducible exact H|(rw [GH];exact H)|exact H
                        have Zz:=ae.mk GH
                        clear GH
                        have H':=ae.mk H
                        clear H
                        have Xj:0≤(iI:Int):=of_decide_eq_true (by first|(with_reducible assumption)|assumption)
                        have W9:iI < (aW.length:Int):=of_decide_eq_true (by first|(with_reducible assumption)|assumption)
                        obtain ⟨Dt,afL,Eo,En,Em,Ej,Ei⟩:=wz ny.out iI Xj W9
                        cases afL
                        replace Eo:=(HB.out.cell (World.block_lt_of_cell? w _ Eo)).trans Eo
                        replace En:=(HB.out.cell (World.block_lt_of_cell? w _ En)).trans En
                        replace Em:=(HB.out.cell (World.block_lt_of_cell? w _ Em)).trans Em
                        replace Ej:=(HB.out.cell (World.block_lt_of_cell? w _ Ej)).trans Ej
                        replace Ei:=(HB.out.cell (World.block_lt_of_cell? w _ Ei)).trans Ei
                        replace Xj:=eq_true Xj
                        replace W9:=eq_true W9
                        go_wp2_with (first|((with_reducible refine eQ (N:=8) rfl ?_);refine fF ?hg (N:=8) ?hd (cs:=#[.int .u8 0,.int .u8 0,.int .u8 0,.int .u8 0,.int .i64 0]) (t:=27) ?hr ?_;(case hd=>rfl);(case hg=>rfl);(case hr=>first|(go_simp;done)|(go_simp;rfl));intro nN hg Rh hbox hb;have di:=ae.mk (Kd.xg (Kd.QV (by (with_reducible repeat (first|apply Kd.gV|apply Kd.gU|apply Kd.iG));exact gm.out) nN (Nat.le_of_eq hg.symm)) hb);have dm:=ae.mk (aV (g:=fU) (o:=.cells #[.slice dO bD.length dK,.string aY,.string aX,.slice (some Dt) aW.length dJ] 25 (0,0)) (by (with_reducible repeat (first|refine au ?_ _|refine ay ?_|refine ak ?_ _));exact bZ.out) hb);have dE:=ae.mk (aQ (by repeat (first|(with_reducible first|exact HB.out|apply aj|apply af|apply ai|refine az ?_ jk.out)|exact HB.out)) hb);have gq:=ae.mk (hbox);have jC:=ae.mk ((by rw [hg];exact (bn (by repeat (first|(with_reducible first|exact HB.out|apply aj|apply af|apply ai|refine az ?_ jk.out)|exact HB.out))):w.heap.size≤nN));have lN:=ae.mk ((by rw [hg];exact (bn (by repeat (first|(with_reducible first|exact HB.out|apply aj|apply af|apply ai|refine az ?_ jk.out)|exact HB.out))):w.heap.size≤nN));have nC:=ae.mk ((by rw [hg];exact Nat.ne_of_lt (gZ (g:=fU) (o:=.cells #[.slice dO bD.length dK,.string aY,.string aX,.slice (some Dt) aW.length dJ] 25 (0,0)) (by (with_reducible repeat (first|refine au ?_ _|refine ay ?_|refine ak ?_ _));exact bZ.out)):fU ≠ nN));have uX:=ae.mk ((by rw [hg];exact Nat.ne_of_gt (gZ (g:=fU) (o:=.cells #[.slice dO bD.length dK,.string aY,.string aX,.slice (some Dt) aW.length dJ] 25 (0,0)) (by (with_reducible repeat (first|refine au ?_ _|refine ay ?_|refine ak ?_ _));exact bZ.out)):nN ≠ fU));clear gm;clear bZ;clear HB;have gm:=di;have bZ:=dm;have HB:=dE;have oW:=gq;have ahN:=jC;have DF:=lN;have rM:=nC;have Oc:=uX;clear di dm dE gq jC lN nC uX;clear hb hbox hg;have agV:=Oc.out;have agE:=rM.out;have ad7:Rh.cell? ⟨nN,0,none⟩=some (.int .u8 0):=(ah oW.out 0).trans rfl;have ad6:Rh.cell? ⟨nN,1,none⟩=some (.int .u8 0):=(ah oW.out 1).trans rfl;have ad5:Rh.cell? ⟨nN,2,none⟩=some (.int .u8 0):=(ah oW.out 2).trans rfl;have ad4:Rh.cell? ⟨nN,3,none⟩=some (.int .u8 0):=(ah oW.out 3).trans rfl;have ad2:Rh.cell? ⟨nN,4,none⟩=some (.int .i64 0):=(ah oW.out 4).trans rfl;have acF:=ax oW.out 0;have acE:=ax oW.out 1;have acD:=ax oW.out 2;have acC:=ax oW.out 3;have acB:=ax oW.out 4)|((with_reducible refine bU (f:=20) rfl ?_);refine gy (some 45) rfl rfl Tryz.func20 (by kernel_rfl) rfl #[.agg #[.int .u8 ((aZ aW iI).f0),.int .u8 ((aZ aW iI).f1),.int .u8 ((aZ aW iI).f2),.int .u8 ((aZ aW iI).f3),.int .i64 ((aZ aW iI).f4)]] rfl (by (try simp only [List.map_toArray,List.map_cons,List.map_nil]);first|done|rfl|(simp only [List.length_drop,List.length_take];rfl)) ?_;(with_reducible refine (oL.calls ((aZ aW iI).f0) ((aZ aW iI).f1) ((aZ aW iI).f2) ((aZ aW iI).f3) ((aZ aW iI).f4) t135 _ ?fD A36.out).mono ?_);(case fD=>exact Kd.dF ry.out (by repeat (first|(with_reducible first|exact HB.out|apply aj|apply af|apply ai|refine az ?_ jk.out|refine az ?_ DF.out)|exact HB.out)));rintro e Yz ⟨aie,rfl,ho0,hb⟩;refine ⟨_,rfl,?_⟩;have di:=ae.mk (Kd.jS (by (with_reducible repeat (first|apply Kd.gV|apply Kd.gU|apply Kd.iG));exact (Kd.lq (Kd.Hu (p:=⟨nN,4,none⟩) (Kd.Hu (p:=⟨nN,3,none⟩) (Kd.Hu (p:=⟨nN,2,none⟩) (Kd.Hu (p:=⟨nN,1,none⟩) (Kd.Hu (p:=⟨nN,0,none⟩) (Kd.lq gm.out (fun k_ hk=>(⟨hk,hk.2⟩:_∧k_ ≠ nN))) (fun _ hk=>hk.2) (.int .u8 ((aZ aW iI).f0))) (fun _ hk=>hk.2) (.int .u8 ((aZ aW iI).f1))) (fun _ hk=>hk.2) (.int .u8 ((aZ aW iI).f2))) (fun _ hk=>hk.2) (.int .u8 ((aZ aW iI).f3))) (fun _ hk=>hk.2) (.int .i64 ((aZ aW iI).f4))) (fun _ h_=>h_.1))) (Kd.jX ho0) hb);have dm:=ae.mk (Kd.iM ho0 (bn (by repeat (first|(with_reducible first|exact HB.out|apply aj|apply af|apply ai|refine az ?_ jk.out|refine az ?_ DF.out)|exact HB.out))));have dE:=ae.mk (aV (g:=fU) (o:=.cells #[.slice dO bD.length dK,.string aY,.string aX,.slice (some Dt) aW.length dJ] 25 (0,0)) (by (with_reducible repeat (first|refine au ?_ _|refine ay ?_|refine ak ?_ _));refine fC ?_ rM.out _;(with_reducible repeat (first|refine au ?_ _|refine ay ?_|refine ak ?_ _));refine fC ?_ rM.out _;(with_reducible repeat (first|refine au ?_ _|refine ay ?_|refine ak ?_ _));refine fC ?_ rM.out _;(with_reducible repeat (first|refine au ?_ _|refine ay ?_|refine ak ?_ _));refine fC ?_ rM.out _;(with_reducible repeat (first|refine au ?_ _|refine ay ?_|refine ak ?_ _));refine fC ?_ rM.out _;(with_reducible repeat (first|refine au ?_ _|refine ay ?_|refine ak ?_ _));exact bZ.out) hb);have gq:=ae.mk (aV (g:=nN) (o:=.cells #[.int .u8 ((aZ aW iI).f0),.int .u8 ((aZ aW iI).f1),.int .u8 ((aZ aW iI).f2),.int .u8 ((aZ aW iI).f3),.int .i64 ((aZ aW iI).f4)] 27 (0,0)) (by (with_reducible repeat (first|refine au ?_ _|refine ay ?_|refine ak ?_ _));refine dB (cs:=#[.int .u8 ((aZ aW iI).f0),.int .u8 ((aZ aW iI).f1),.int .u8 ((aZ aW iI).f2),.int .u8 ((aZ aW iI).f3),.int .i64 0]) ?_ 4 _ rfl;(with_reducible repeat (first|refine au ?_ _|refine ay ?_|refine ak ?_ _));refine dB (cs:=#[.int .u8 ((aZ aW iI).f0),.int .u8 ((aZ aW iI).f1),.int .u8 ((aZ aW iI).f2),.int .u8 0,.int .i64 0]) ?_ 3 _ rfl;(with_reducible repeat (first|refine au ?_ _|refine ay ?_|refine ak ?_ _));refine dB (cs:=#[.int .u8 ((aZ aW iI).f0),.int .u8 ((aZ aW iI).f1),.int .u8 0,.int .u8 0,.int .i64 0]) ?_ 2 _ rfl;(with_reducible repeat (first|refine au ?_ _|refine ay ?_|refine ak ?_ _));refine dB (cs:=#[.int .u8 ((aZ aW iI).f0),.int .u8 0,.int .u8 0,.int .u8 0,.int .i64 0]) ?_ 1 _ rfl;(with_reducible repeat (first|refine au ?_ _|refine ay ?_|refine ak ?_ _));refine dB (cs:=#[.int .u8 0,.int .u8 0,.int .u8 0,.int .u8 0,.int .i64 0]) ?_ 0 _ rfl;(with_reducible repeat (first|refine au ?_ _|refine ay ?_|refine ak ?_ _));exact oW.out) hb);have jC:=ae.mk (aQ (by repeat (first|(with_reducible first|exact HB.out|apply aj|apply af|apply ai|refine az ?_ jk.out|refine az ?_ DF.out)|exact HB.out)) hb);clear gm;clear bZ;clear oW;clear HB;have gm:=di;have MC:=dm;have bZ:=dE;have oW:=gq;have HB:=jC;clear di dm dE gq jC;(try clear hb);(try clear hb2);(try clear hk);(try clear hi);(try clear ho0);obtain ⟨af8,afO,afs⟩:=Kd.iW MC.out;subst afs)|((with_reducible refine kC (b:=.append) (xs:=#[.tmp 43,.tmp 46]) rfl ?_);at_builtin;refine Kd.yE (Kd.slice 9 Kd.string) (w0:=w) w.heap.size rfl (.tmp 43) (.tmp 46) 43 22 (.slice none 0 0) 24 rfl Tryz.underlying43 info22 rfl (by decide) (by omega) u4 jy t135 [.slice af8 t135.length afO] (fun k_=>k_ ≠ fU∧k_ ≠ nN) (fun k_=>((fun k_=>k_ ≠ fU∧k_ ≠ nN)) k_∧some k_ ≠ (u4:Value).ownBlock) rfl rfl ?aP (fun _ hk=>hk) ?aF ?aO ?aB ?aS ?aL ?_;(case aP=>exact (Kd.mW (Kd.iO (Kd.fJ (ok':=(fun k_=>((fun k_=>k_ ≠ fU∧k_ ≠ nN)) k_∧some k_ ≠ (u4:Value).ownBlock)) (Kd.iR (Kd.iR (Kd.jR (MC.out) (Kd.mf gm.out) (by decide)) bZ.out (by decide)) oW.out (by decide)) (fun k_ hk=>⟨⟨hk.1.2,hk.2⟩,hk.1.1.2⟩))).2.1 (Kd.V8 (Kd.fJ (ok':=(fun k_=>((fun k_=>k_ ≠ fU∧k_ ≠ nN)) k_∧some k_ ≠ (u4:Value).ownBlock)) (Kd.iR (Kd.iR (Kd.jR (MC.out) (Kd.mf gm.out) (by decide)) bZ.out (by decide)) oW.out (by decide)) (fun k_ hk=>⟨⟨hk.1.2,hk.2⟩,hk.1.1.2⟩)))));(case aB=>exact (by repeat (first|(with_reducible first|exact HB.out|apply aj|apply af|apply ai|refine az ?_ jk.out|refine az ?_ DF.out)|exact HB.out)));(case aF=>exact (fun k_ hk=>⟨Kd.uO (g:=fU) (o:=.cells #[.slice dO bD.length dK,.string aY,.string aX,.slice (some Dt) aW.length dJ] 25 (0,0)) (by (with_reducible repeat (first|refine au ?_ _|refine ay ?_|refine ak ?_ _));exact bZ.out) k_ hk,Kd.uO (g:=nN) (o:=.cells #[.int .u8 ((aZ aW iI).f0),.int .u8 ((aZ aW iI).f1),.int .u8 ((aZ aW iI).f2),.int .u8 ((aZ aW iI).f3),.int .i64 ((aZ aW iI).f4)] 27 (0,0)) (by (with_reducible repeat (first|refine au ?_ _|refine ay ?_|refine ak ?_ _));exact oW.out) k_ hk⟩));(case aO=>exact (by (with_reducible repeat (first|apply Kd.gV|apply Kd.gU|apply Kd.iG));exact Kd.lq gm.out (fun _ hk=>⟨hk.1.1,hk.1.2⟩)));(case aS=>exact (bn (by repeat (first|(with_reducible first|exact HB.out|apply aj|apply af|apply ai|refine az ?_ jk.out|refine az ?_ DF.out)|exact HB.out))));(case aL=>have:=ZE.out;omega);intro v139 w42 ho hb hg hat;rw [← Zz.out] at ho;have di:=ae.mk (oQ (g:=fU) (o:=.cells #[.slice dO bD.length dK,.string aY,.string aX,.slice (some Dt) aW.length dJ] 25 (0,0)) (by (with_reducible repeat (first|refine au ?_ _|refine ay ?_|refine ak ?_ _));exact bZ.out) hg (Kd.I8 gm.out bZ.out (by decide)));have dm:=ae.mk (oQ (g:=nN) (o:=.cells #[.int .u8 ((aZ aW iI).f0),.int .u8 ((aZ aW iI).f1),.int .u8 ((aZ aW iI).f2),.int .u8 ((aZ aW iI).f3),.int .i64 ((aZ aW iI).f4)] 27 (0,0)) (by (with_reducible repeat (first|refine au ?_ _|refine ay ?_|refine ak ?_ _));exact oW.out) hg (Kd.I8 gm.out oW.out (by decide)));have dE:=ae.mk (hb);have gq:=ae.mk (ho);clear bZ;clear oW;clear HB;clear gm;clear MC;have bZ:=di;have oW:=dm;have HB:=dE;have ZY:=gq;clear di dm dE gq;clear ho hb hg hat))
                        go_roundg k2
                        case measure=>have:=nZ.out;have:=xB.out;omega
                        case rel=>exact ⟨(Yu),(wrap64 (iI+1)),(by first|rfl|(simp;done)|(simp [*];done)),H',⟨by have:=nZ.out;have:=xB.out;omega⟩,⟨by (with_reducible repeat (first|apply Kd.gV|apply Kd.gU|apply Kd.iG));exact Kd.lq ZY.out (fun _ hk=>hk.1)⟩,⟨by (with_reducible repeat (first|refine au ?_ _|refine ay ?_|refine ak ?_ _));exact bZ.out⟩,⟨by repeat (first|(with_reducible first|exact HB.out|apply aj|apply af|apply ai|refine az ?_ jk.out|refine az ?_ DF.out)|exact HB.out)⟩⟩
                      · rw [if_neg c37] at H
                        exact absurd H (by simp)
                    · rw [if_neg Vp] at H
                      exact absurd H (by simp)
                  · rw [if_neg c34] at H
                    exact absurd H (by simp)
                · rw [if_neg Qz] at H
                  have VZ:decide (iI < (aW.length:Int))=false:=decide_eq_false Qz
                  clear Qz
                  replace H:=Option.bind_eq_some_iff.mp H
                  obtain ⟨t141,aao,H⟩:=H
                  replace H:(some (t141,0))=some (r1,r2):=H
                  have A44:=ae.mk aao
                  clear aao
                  simp only [Option.some.injEq,Prod.mk.injEq] at H
                  obtain ⟨rfl,rfl⟩:=H
                  obtain ⟨af7,afN,afr⟩:=Kd.xe gm.out
                  subst afr
                  go_wp2_with (first|((with_reducible refine bU (f:=21) rfl ?_);refine gy (some 50) rfl rfl Tryz.func21 (by kernel_rfl) rfl #[.slice af7 jy.length afN] rfl (by (try simp only [List.map_toArray,List.map_cons,List.map_nil]);first|done|rfl|(simp only [List.length_drop,List.length_take];rfl)) ?_;(with_reducible refine (mi.calls _ _ jy t141 _ ?fD ?jO A44.out).mono ?_);(case fD=>repeat (first|exact (Kd.wF gm.out).2.2|(with_reducible refine Kd.ed ?_ _)|(with_reducible refine Kd.dZ ?_ _)|(with_reducible refine Kd.fO ?_)));(case jO=>exact (Kd.wF gm.out).2.1);rintro e Yy ⟨rfl,hb⟩;refine ⟨_,rfl,?_⟩;have di:=ae.mk (Kd.xg (by (with_reducible repeat (first|apply Kd.gV|apply Kd.gU|apply Kd.iG));exact gm.out) hb);have dm:=ae.mk (aV (g:=fU) (o:=.cells #[.slice dO bD.length dK,.string aY,.string aX,.slice dV aW.length dJ] 25 (0,0)) (by (with_reducible repeat (first|refine au ?_ _|refine ay ?_|refine ak ?_ _));exact bZ.out) hb);have dE:=ae.mk (aQ (by repeat (first|(with_reducible first|exact HB.out|apply aj|apply af|apply ai|refine az ?_ jk.out)|exact HB.out)) hb);clear gm;clear bZ;clear HB;have gm:=di;have bZ:=dm;have HB:=dE;clear di dm dE;(try clear hb);(try clear hb2);(try clear hk);(try clear hi)))
                  go_ret2
                  exact ⟨by first|rfl|(simp [bH,bG] <;> rfl)|(simp [*,bH,bG] <;> rfl),by repeat (first|(with_reducible first|exact HB.out|apply aj|apply af|apply ai|refine az ?_ jk.out)|exact HB.out)⟩
          · rw [if_neg c18] at H
            exact absurd H (by simp)
  · replace c3:=Bool.eq_false_iff.mpr c3
    subst c3
    have H1:(some ((⟨#[]⟩:ByteArray),2))=some (r1,r2):=by rw [if_neg (show ¬ (false=true) by decide)] at H;exact H
    clear H
    have H:=H1
    clear H1
    simp only [Option.some.injEq,Prod.mk.injEq] at H
    obtain ⟨rfl,rfl⟩:=H
    go_enter Tryz.func9,Tryz.ntmps9
    go_wp2_with (first|((with_reducible refine eQ (N:=1) rfl ?_);refine fF ?hg (N:=1) ?hd (cs:=#[.slice dO bD.length dK,.string aY,.string aX,.slice dV aW.length dJ]) (t:=25) ?hr ?_;(case hd=>rfl);(case hg=>rfl);(case hr=>first|(go_simp;done)|(go_simp;rfl));intro fU hg w47 hbox hb;have di:=ae.mk (aQ (by repeat (first|(with_reducible first|exact HB.out|apply aj|apply af|apply ai)|exact HB.out)) hb);have dm:=ae.mk (hbox);have dE:=ae.mk ((by rw [hg];exact (bn (by repeat (first|(with_reducible first|exact HB.out|apply aj|apply af|apply ai)|exact HB.out))):w.heap.size≤fU));have gq:=ae.mk ((by rw [hg];exact (bn (by repeat (first|(with_reducible first|exact HB.out|apply aj|apply af|apply ai)|exact HB.out))):w.heap.size≤fU));clear HB;have HB:=di;have bZ:=dm;have aah:=dE;have jk:=gq;clear di dm dE gq;clear hb hbox hg;have adI:w47.cell? ⟨fU,0,none⟩=some (.slice dO bD.length dK):=(ah bZ.out 0).trans rfl;have adH:w47.cell? ⟨fU,1,none⟩=some (.string aY):=(ah bZ.out 1).trans rfl;have adG:w47.cell? ⟨fU,2,none⟩=some (.string aX):=(ah bZ.out 2).trans rfl;have adF:w47.cell? ⟨fU,3,none⟩=some (.slice dV aW.length dJ):=(ah bZ.out 3).trans rfl;have acg:=ax bZ.out 0;have acf:=ax bZ.out 1;have ace:=ax bZ.out 2;have acd:=ax bZ.out 3)|((with_reducible refine bU (f:=18) rfl ?_);refine gy (some 10) rfl rfl Tryz.func18 (by kernel_rfl) rfl #[.agg #[.slice dO bD.length dK,.string aY,.string aX,.slice dV aW.length dJ]] rfl (by (try simp only [List.map_toArray,List.map_cons,List.map_nil]);first|done|rfl|(simp only [List.length_drop,List.length_take];rfl)) ?_;(with_reducible refine (dX.calls k _ _ bD aY aX _ _ aW false _ ?fD ?jO ?lF ?lD ?oq A2.out).mono ?_);(case fD=>repeat (first|exact (Kd.dF kZ.out HB.out)|(with_reducible refine Kd.ed ?_ _)|(with_reducible refine Kd.dZ ?_ _)|(with_reducible refine Kd.fO ?_)));(case jO=>exact qj.out);(case lF=>repeat (first|exact (Kd.dF ny.out HB.out)|(with_reducible refine Kd.ed ?_ _)|(with_reducible refine Kd.dZ ?_ _)|(with_reducible refine Kd.fO ?_)));(case lD=>exact qi.out);(case oq=>repeat (first|exact (Kd.dF ry.out HB.out)|(with_reducible refine Kd.ed ?_ _)|(with_reducible refine Kd.dZ ?_ _)|(with_reducible refine Kd.fO ?_)));rintro e w49 ⟨rfl,hb⟩;refine ⟨_,rfl,?_⟩;have di:=ae.mk (aV (g:=fU) (o:=.cells #[.slice dO bD.length dK,.string aY,.string aX,.slice dV aW.length dJ] 25 (0,0)) (by (with_reducible repeat (first|refine au ?_ _|refine ay ?_|refine ak ?_ _));exact bZ.out) hb);have dm:=ae.mk (aQ (by repeat (first|(with_reducible first|exact HB.out|apply aj|apply af|apply ai|refine az ?_ jk.out)|exact HB.out)) hb);clear bZ;clear HB;have bZ:=di;have HB:=dm;clear di dm;(try clear hb);(try clear hb2);(try clear hk);(try clear hi)))
    go_ret2
    exact ⟨by first|rfl|(simp [bH,bG] <;> rfl)|(simp [*,bH,bG] <;> rfl),by repeat (first|(with_reducible first|exact HB.out|apply aj|apply af|apply ai|refine az ?_ jk.out)|exact HB.out)⟩
def vJ.f (a0:ByteArray):Option (Bool):=if (a0.size:Int)≤30 then ((jc.f a0 (⟨#[97,98,99,100,101,102,103,104,105,106,107,108,109,110,111,112,113,114,115,116,117,118,119,120,121,122,48,49,50,51,52,53,54,55,56,57,45]⟩:ByteArray)).bind fun t142=>(some (t142.toList == ([]:List UInt8)))) else (some false)
set_option maxHeartbeats 8000000 in
set_option maxRecDepth 100000 in
theorem vJ.calls (a0:ByteArray) (r:Bool) (w:World) (h:vJ.f a0=some r) :
    Calls Tryz.prog 51 #[.string a0] w fun e w'=>e=.returned (.bool r)∧Below w.heap.size w w':=by
  have HB:=ae.mk (Below.refl w.heap.size w)
  have H:(if (a0.size:Int)≤30 then ((jc.f a0 (⟨#[97,98,99,100,101,102,103,104,105,106,107,108,109,110,111,112,113,114,115,116,117,118,119,120,121,122,48,49,50,51,52,53,54,55,56,57,45]⟩:ByteArray)).bind fun t142=>(some (t142.toList == ([]:List UInt8)))) else (some false))=some r:=h
  clear h
  by_cases c2:(a0.size:Int)≤30
  · rw [if_pos c2] at H
    have sH:decide ((a0.size:Int)≤30)=true:=decide_eq_true c2
    have xO:decide (a0.size≤30)=true:=decide_eq_true (by omega)
    clear c2
    replace H:=Option.bind_eq_some_iff.mp H
    obtain ⟨t142,DI,H⟩:=H
    replace H:(some (t142.toList == ([]:List UInt8)))=some r:=H
    have A3:=ae.mk DI
    clear DI
    obtain rfl:=Option.some.inj H
    go_enter Tryz.func51,Tryz.ntmps51
    go_wp2_with (first|(go_at_call 54;(with_reducible refine (jc.calls a0 (⟨#[97,98,99,100,101,102,103,104,105,106,107,108,109,110,111,112,113,114,115,116,117,118,119,120,121,122,48,49,50,51,52,53,54,55,56,57,45]⟩:ByteArray) t142 _ A3.out).mono ?_);rintro e w4 ⟨rfl,hb⟩;have di:=ae.mk (aQ (by repeat (first|(with_reducible first|exact HB.out|apply aj|apply af|apply ai)|exact HB.out)) hb);clear HB;have HB:=di;clear di;(try clear hb);(try clear hb2);(try clear hk);(try clear hi)))
    go_ret
    exact ⟨by first|rfl|(simp [bH,bG] <;> rfl)|(simp [*,bH,bG] <;> rfl),by repeat (first|(with_reducible first|exact HB.out|apply aj|apply af|apply ai)|exact HB.out)⟩
  · rw [if_neg c2] at H
    have sH:decide ((a0.size:Int)≤30)=false:=decide_eq_false c2
    have xO:decide (a0.size≤30)=false:=decide_eq_false (by omega)
    clear c2
    obtain rfl:=Option.some.inj H
    go_enter Tryz.func51,Tryz.ntmps51
    go_wp2
    go_ret
    exact ⟨by first|rfl|(simp [bH,bG] <;> rfl)|(simp [*,bH,bG] <;> rfl),by repeat (first|(with_reducible first|exact HB.out|apply aj|apply af|apply ai)|exact HB.out)⟩
end Go.Proofs.YtkclndkbccbhaaaGreatDoor.P
end
