/- Parts of the proof of CodeBack: what the functions that it reaches compute, and plain facts about that. -/
import Derived.Test.YtkclndkbccbhaaaDoorVac
import Derived.Test.YtkclndkbccbhaaaDoorVad
import Derived.Test.YtkclndkbccbhaaaDoorVae
set_option linter.unusedVariables false
set_option linter.unusedSimpArgs false
section
namespace Go.Proofs.YtkclndkbccbhaaaDoor.P
open Go.RowKit Go.Proofs.ay.bY Go.Proofs.ay.fJ Go.Proofs.ay.gG
attribute [local go_sem] nS nP pR pO mi mg nR nO
mutual
def aY.l0:Nat→List (List ByteArray)→List ByteArray→Int→Int→List ByteArray→ByteArray→ByteArray→List (iZ)→Option (ByteArray × Int)
  | 0,_,_,_,_,_,_,_,_=>none
  | k+1,x4,x13,x14,x15,PU,Iw,Iu,BO=>if x15 < x14 then (if 0≤x15 then (if x15 < (x13.length:Int) then (if x4.length < 5864062014805 then (aY.l0 k (x4++[(([(⟨#[116,121,112,101]⟩:ByteArray),iD ByteArray.empty x13 x15]:List ByteArray))]) x13 x14 (wrap64 (x15+1)) PU Iw Iu BO) else (none)) else (none)) else (none)) else ((jX.f Iw).bind fun t119=>((jX.f Iu).bind fun t123=>((some (([(([(⟨#[108,111,99,97,108,115]⟩:ByteArray),t119]:List ByteArray)),(([(⟨#[103,108,111,98,97,108,115]⟩:ByteArray),t123]:List ByteArray))]:List (List ByteArray)):List (List ByteArray))).bind fun qA=>(if x4.length+qA.length < 5864062014805 then (aY.l1 k (x4++qA) BO (BO.length:Int) 0) else (none)))))
def aY.l1:Nat→List (List ByteArray)→List (iZ)→Int→Int→Option (ByteArray × Int)
  | 0,_,_,_,_=>none
  | k+1,x4,Va,x38,x39=>if x39 < x38 then (if 0≤x39 then (if x39 < (Va.length:Int) then ((l7.f ((aN Va x39).f0) ((aN Va x39).f1) ((aN Va x39).f2) ((aN Va x39).f3) ((aN Va x39).f4)).bind fun t135=>(if x4.length < 5864062014805 then (aY.l1 k (x4++[t135]) Va x38 (wrap64 (x39+1))) else (none))) else (none)) else (none)) else ((jW.f x4).bind fun t141=>(some (t141,0)))
end
def aY.f (k:Nat) (bn:List ByteArray) (bF:ByteArray) (bD:ByteArray) (aU:List (iZ)):Option (ByteArray × Int):=(dR.f k bn bF bD aU).bind fun t111=>(if t111=true then (aY.l0 k ([]:List (List ByteArray)) bn (bn.length:Int) 0 bn bF bD aU) else (some ((⟨#[]⟩:ByteArray),2)))
theorem aY.kZ:∀ k,(∀ y0 y1 y2 y3 y4 y5 y6 y7,gQ (aY.l0 k y0 y1 y2 y3 y4 y5 y6 y7) (aY.l0 (k+1) y0 y1 y2 y3 y4 y5 y6 y7))∧(∀ y0 y1 y2 y3,gQ (aY.l1 k y0 y1 y2 y3) (aY.l1 (k+1) y0 y1 y2 y3))
  | 0=>⟨fun _ _ _ _ _ _ _ _ r h=>by simp [aY.l0] at h,fun _ _ _ _ r h=>by simp [aY.l1] at h⟩
  | k+1=>by
    obtain ⟨o8,ih1⟩:=aY.kZ k
    refine ⟨?_,?_⟩
    · intro y0 y1 y2 y3 y4 y5 y6 y7
      unfold aY.l0
      repeat' first
      | (with_reducible exact o8 _ _ _ _ _ _ _ _)
      | (with_reducible exact ih1 _ _ _ _)
      | (with_reducible exact dR.mono _ _ _ _ _)
      | (with_reducible exact gQ.refl _)
      | (with_reducible exact gQ.none _)
      | (with_reducible refine gQ.ite ?_ ?_)
      | (with_reducible refine gQ.bind ?_ (fun _=>?_))
      | exact o8 _ _ _ _ _ _ _ _
      | exact ih1 _ _ _ _
      | exact dR.mono _ _ _ _ _
      | exact gQ.none _
      | refine gQ.ite ?_ ?_
      | refine gQ.bind ?_ (fun _=>?_)
    · intro y0 y1 y2 y3
      unfold aY.l1
      repeat' first
      | (with_reducible exact o8 _ _ _ _ _ _ _ _)
      | (with_reducible exact ih1 _ _ _ _)
      | (with_reducible exact dR.mono _ _ _ _ _)
      | (with_reducible exact gQ.refl _)
      | (with_reducible exact gQ.none _)
      | (with_reducible refine gQ.ite ?_ ?_)
      | (with_reducible refine gQ.bind ?_ (fun _=>?_))
      | exact o8 _ _ _ _ _ _ _ _
      | exact ih1 _ _ _ _
      | exact dR.mono _ _ _ _ _
      | exact gQ.none _
      | refine gQ.ite ?_ ?_
      | refine gQ.bind ?_ (fun _=>?_)
theorem aY.mono:∀ a0 a1 a2 a3 k,gQ (aY.f k a0 a1 a2 a3) (aY.f (k+1) a0 a1 a2 a3):=by
  intro a0 a1 a2 a3 k
  obtain ⟨o8,ih1⟩:=aY.kZ k
  unfold aY.f
  repeat' first
      | (with_reducible exact o8 _ _ _ _ _ _ _ _)
      | (with_reducible exact ih1 _ _ _ _)
      | (with_reducible exact dR.mono _ _ _ _ _)
      | (with_reducible exact gQ.refl _)
      | (with_reducible exact gQ.none _)
      | (with_reducible refine gQ.ite ?_ ?_)
      | (with_reducible refine gQ.bind ?_ (fun _=>?_))
      | exact o8 _ _ _ _ _ _ _ _
      | exact ih1 _ _ _ _
      | exact dR.mono _ _ _ _ _
      | exact gQ.none _
      | refine gQ.ite ?_ ?_
      | refine gQ.bind ?_ (fun _=>?_)
def aY.T9:Bool × List (List Nat × List Nat):=(true,[([],[]),([],[]),([1],[1]),([2],[2]),([3],[3]),([],[]),([5],[5]),([6,3],[6]),([7],[7]),([4,8],[4,8]),([0,9,7],[0,9]),([10,10,0,1,2,3,4,5,6,7,8,9,10],[0,10])])
def aY.B9:List Nat:=[0,0,2,6,14,0,32,110,238,510,1023,2047]
theorem aY.ae4:nZ .any (opsOf Tryd.f8 9)=aY.T9:=by kernel_rfl
theorem aY.Zq:pG aY.T9.2 aY.B9=true:=by kernel_rfl
set_option maxHeartbeats 8000000 in
set_option maxRecDepth 100000 in
theorem aY.calls (k:Nat) (dN:Option Addr) (dM:Nat) (bn:List ByteArray) (bF:ByteArray) (bD:ByteArray) (dV:Option Addr) (dL:Nat) (aU:List (iZ)) (r1:ByteArray) (r2:Int) (w:World) (pX:Kd.C Kd.string w dN bn.length bn) (qc:bn.length≤dM) (pW:Kd.C sG w dV aU.length aU) (pY:aU.length≤dL) (jC:Kd.C sQ w sS kX.length kX) (h:aY.f k bn bF bD aU=some (r1,r2)) :
    Calls Tryd.prog 8 #[.agg #[.slice dN bn.length dM,.string bF,.string bD,.slice dV aU.length dL]] w fun e w'=>e=.returned (.tuple #[.string r1,.int .i64 r2])∧Below w.heap.size w w':=by
  have Nc:=Tryd.underlying25
  have Vy:=Tryd.underlying35
  have kF:=af.mk pX
  have ny:=af.mk qc
  clear pX qc
  have kU:=af.mk pW
  have ni:=af.mk pY
  clear pW pY
  have lu:=af.mk jC
  clear jC
  have HB:=af.mk (Below.refl w.heap.size w)
  have H:((dR.f k bn bF bD aU).bind fun t111=>(if t111=true then (aY.l0 k ([]:List (List ByteArray)) bn (bn.length:Int) 0 bn bF bD aU) else (some ((⟨#[]⟩:ByteArray),2))))=some (r1,r2):=h
  clear h
  replace H:=Option.bind_eq_some_iff.mp H
  obtain ⟨t111,A20,H⟩:=H
  replace H:(if t111=true then (aY.l0 k ([]:List (List ByteArray)) bn (bn.length:Int) 0 bn bF bD aU) else (some ((⟨#[]⟩:ByteArray),2)))=some (r1,r2):=H
  have A2:=af.mk A20
  clear A20
  by_cases c3:t111=true
  · subst c3
    have H1:(aY.l0 k ([]:List (List ByteArray)) bn (bn.length:Int) 0 bn bF bD aU)=some (r1,r2):=by rw [if_pos rfl] at H;exact H
    clear H
    have H:=H1
    clear H1
    have H':=af.mk H
    clear H
    go_enter Tryd.func8,Tryd.ntmps8
    go_wp2_with (first|((with_reducible refine dX (N:=1) rfl ?_);refine eG ?hg (N:=1) ?hd (cs:=#[.slice dN bn.length dM,.string bF,.string bD,.slice dV aU.length dL]) (t:=25) ?hr ?_;(case hd=>rfl);(case hg=>rfl);(case hr=>first|(go_simp;done)|(go_simp;rfl));intro fE hg w4 hbox hb;have dE:=af.mk (aI (by repeat (first|(with_reducible first|exact HB.out|apply ah|apply ae|apply ag)|exact HB.out)) hb);have dG:=af.mk (hbox);have dH:=af.mk ((by rw [hg];exact (aC (by repeat (first|(with_reducible first|exact HB.out|apply ah|apply ae|apply ag)|exact HB.out))):w.heap.size≤fE));have eX:=af.mk ((by rw [hg];exact (aC (by repeat (first|(with_reducible first|exact HB.out|apply ah|apply ae|apply ag)|exact HB.out))):w.heap.size≤fE));clear HB;have HB:=dE;have cu:=dG;have aae:=dH;have iW:=eX;clear dE dG dH eX;clear hb hbox hg;have NS:w4.cell? ⟨fE,0,none⟩=some (.slice dN bn.length dM):=(ax cu.out 0).trans rfl;have NR:w4.cell? ⟨fE,1,none⟩=some (.string bF):=(ax cu.out 1).trans rfl;have NQ:w4.cell? ⟨fE,2,none⟩=some (.string bD):=(ax cu.out 2).trans rfl;have NP:w4.cell? ⟨fE,3,none⟩=some (.slice dV aU.length dL):=(ax cu.out 3).trans rfl;have Nw:=ai cu.out 0;have Nv:=ai cu.out 1;have Nu:=ai cu.out 2;have Ns:=ai cu.out 3)|((with_reducible refine bG (f:=12) rfl ?_);refine eP (some 10) rfl rfl Tryd.func12 (by kernel_rfl) rfl #[.agg #[.slice dN bn.length dM,.string bF,.string bD,.slice dV aU.length dL]] rfl (by (try simp only [List.map_toArray,List.map_cons,List.map_nil]);first|done|rfl|(simp only [List.length_drop,List.length_take];rfl)) ?_;(with_reducible refine (dR.calls k _ _ bn bF bD _ _ aU true _ ?di ?fZ ?gq ?gp ?gI A2.out).mono ?_);(case di=>repeat (first|exact (Kd.bP kF.out HB.out)|(with_reducible refine Kd.cZ ?_ _)|(with_reducible refine Kd.cO ?_ _)|(with_reducible refine Kd.dK ?_)));(case fZ=>exact ny.out);(case gq=>repeat (first|exact (Kd.bP kU.out HB.out)|(with_reducible refine Kd.cZ ?_ _)|(with_reducible refine Kd.cO ?_ _)|(with_reducible refine Kd.dK ?_)));(case gp=>exact ni.out);(case gI=>repeat (first|exact (Kd.bP lu.out HB.out)|(with_reducible refine Kd.cZ ?_ _)|(with_reducible refine Kd.cO ?_ _)|(with_reducible refine Kd.dK ?_)));rintro e w6 ⟨rfl,hb⟩;refine ⟨_,rfl,?_⟩;have dE:=af.mk (aQ (g:=fE) (o:=.cells #[.slice dN bn.length dM,.string bF,.string bD,.slice dV aU.length dL] 25 (0,0)) (by (with_reducible repeat (first|refine ak ?_ _|refine az ?_|refine au ?_ _));exact cu.out) hb);have dG:=af.mk (aI (by repeat (first|(with_reducible first|exact HB.out|apply ah|apply ae|apply ag|refine aj ?_ iW.out)|exact HB.out)) hb);clear cu;clear HB;have cu:=dE;have HB:=dG;clear dE dG;(try clear hb);(try clear hb2);(try clear hk);(try clear hi);have NM:w6.cell? ⟨fE,0,none⟩=some (.slice dN bn.length dM):=(ax cu.out 0).trans rfl;have NL:w6.cell? ⟨fE,1,none⟩=some (.string bF):=(ax cu.out 1).trans rfl;have NK:w6.cell? ⟨fE,2,none⟩=some (.string bD):=(ax cu.out 2).trans rfl;have NJ:w6.cell? ⟨fE,3,none⟩=some (.slice dV aU.length dL):=(ax cu.out 3).trans rfl;have Nr:=ai cu.out 0;have Nq:=ai cu.out 1;have Np:=ai cu.out 2;have Nl:=ai cu.out 3))
    go_loopg [4,15] k (fun kq v4 v15 w'=>∃ (kW:List (List ByteArray)) (lJ:Int),v15=.int .i64 lJ∧af (aY.l0 kq kW bn (bn.length:Int) lJ bn bF bD aU=some (r1,r2))∧af (kq≤k)∧af (Kd.N (Kd.slice 9 Kd.string) 22 w' w.heap.size (fun k_=>k_ ≠ fE) v4 kW)∧af (w'.heap[fE]? = some (.cells #[(.slice dN bn.length dM),.string bF,.string bD,(.slice dV aU.length dL)] 25 (0,0)))∧af (Below w.heap.size w w'))
    case atStart=>exact ⟨(([]:List (List ByteArray))),(0),(by first|rfl|(simp;done)|(simp [*];done)),H',⟨Nat.le_refl _⟩,⟨by first|exact Kd.Gv _ _ _ _ _|exact Kd.Gx _ _ _ _ _|exact Kd.Gt _ _ _ _ _|exact Kd.Gw _ _ _ _ _|exact Kd.jH _ _ _ _ _⟩,⟨by (with_reducible repeat (first|refine ak ?_ _|refine az ?_|refine au ?_ _));exact cu.out⟩,⟨by repeat (first|(with_reducible first|exact HB.out|apply ah|apply ae|apply ag|refine aj ?_ iW.out)|exact HB.out)⟩⟩
    case round =>
      clear H'
      try clear c1
      try clear p2
      try clear c3
      try clear NS
      try clear NR
      try clear NQ
      try clear NP
      try clear NM
      try clear NL
      try clear NK
      try clear NJ
      try clear Nw
      try clear Nv
      try clear Nu
      try clear Ns
      try clear Nr
      try clear Nq
      try clear Np
      try clear Nl
      obtain ⟨kW,lJ,rfl,HA,AA,iQ,cu,HB⟩:=hrel
      cases gk with
      | zero=>exact absurd HA.out (by simp [aY.l0])
      | succ k1 =>
        have H:=HA.out
        clear HA
        simp only [aY.l0] at H
        by_cases c8:lJ < (bn.length:Int)
        · rw [if_pos c8] at H
          have zS:decide (lJ < (bn.length:Int))=true:=decide_eq_true c8
          clear c8
          by_cases c9:0≤lJ
          · rw [if_pos c9] at H
            have VR:decide (0≤lJ)=true:=decide_eq_true c9
            clear c9
            by_cases c10:lJ < (bn.length:Int)
            · rw [if_pos c10] at H
              have O1:decide (lJ < (bn.length:Int))=true:=decide_eq_true c10
              clear c10
              obtain ⟨y113,hy113⟩:∃ y_:List ByteArray,y_=(([(⟨#[116,121,112,101]⟩:ByteArray),iD ByteArray.empty bn lJ]:List ByteArray)):=⟨_,rfl⟩
              replace H:(if kW.length < 5864062014805 then (aY.l0 k1 (kW++[y113]) bn (bn.length:Int) (wrap64 (lJ+1)) bn bF bD aU) else (none))=some (r1,r2):=by first|(rw [hy113];with_reducible exact H)|(have tX:=(Option.bind_some _ _).symm.trans H;rw [hy113];with_reducible exact tX)|(have tX:=(Option.bind_some _ _).symm.trans H;with_reducible exact tX)|with_reducible exact H|(rw [hy113];exact H)|exact H
              have U2:=af.mk hy113
              clear hy113
              by_cases c11:kW.length < 5864062014805
              · rw [if_pos c11] at H
                have ZN:=af.mk c11
                clear c11
                obtain ⟨WB,FX⟩:∃ y_:List (List ByteArray),y_=(kW++[y113]):=⟨_,rfl⟩
                replace H:(aY.l0 k1 WB bn (bn.length:Int) (wrap64 (lJ+1)) bn bF bD aU)=some (r1,r2):=by first|(rw [FX];with_reducible exact H)|(have tX:=(Option.bind_some _ _).symm.trans H;rw [FX];with_reducible exact tX)|(have tX:=(Option.bind_some _ _).symm.trans H;with_reducible exact tX)|with_reducible exact H|(rw [FX];exact H)|exact H
                have ZG:=af.mk FX
                clear FX
                have H':=af.mk H
                clear H
                have Qw:0≤(lJ:Int):=of_decide_eq_true (by first|(with_reducible assumption)|assumption)
                have Qu:lJ < (bn.length:Int):=of_decide_eq_true (by first|(with_reducible assumption)|assumption)
                obtain ⟨O7,af6,yx⟩:=Kd.ik kF.out lJ Qw Qu
                cases af6
                replace yx:=(HB.out.cell (World.block_lt_of_cell? w _ yx)).trans yx
                replace Qw:=eq_true Qw
                replace Qu:=eq_true Qu
                go_wp2_with (first|((with_reducible refine dX (N:=21) rfl ?_);refine Kd.Zz Kd.string _ 9 ?hg (N:=21) ?hd (xs:=([(⟨#[116,121,112,101]⟩:ByteArray),iD ByteArray.empty bn lJ]:List ByteArray)) (inner:=[.string (⟨#[116,121,112,101]⟩:ByteArray),.string (iD ByteArray.empty bn lJ)]) (ok:=fun _=>True) (nM:=fun _=>True) ?hr ?hp (fun _ hk=>hk) trivial (Below.refl _ _) (Nat.le_refl _) (by simp) ?_;(case hd=>rfl);(case hg=>rfl);(case hr=>first|(go_simp;done)|(go_simp;rfl));(case hp=>exact (ji.one (show Kd.M Kd.string _ _ _ (⟨#[116,121,112,101]⟩:ByteArray) [.string (⟨#[116,121,112,101]⟩:ByteArray)] from rfl) (ji.one (show Kd.M Kd.string _ _ _ (iD ByteArray.empty bn lJ) [.string (iD ByteArray.empty bn lJ)] from rfl) (ji.none _ _))));intro aiv w12 Ky hb H5 oU;clear H5 oU;(first|rw [← U2.out] at Ky|(simp only [Int.reduceToNat] at Ky;rw [← U2.out] at Ky));have dE:=af.mk (Kd.mY (by (with_reducible repeat (first|apply Kd.jl|apply Kd.jk|apply Kd.jK));exact iQ.out) (Kd.iM Ky) hb);have dG:=af.mk (Kd.dS Ky (aC (by repeat (first|(with_reducible first|exact HB.out|apply ah|apply ae|apply ag|refine aj ?_ iW.out)|exact HB.out))));have dH:=af.mk (aQ (g:=fE) (o:=.cells #[.slice (some O7) bn.length dM,.string bF,.string bD,.slice dV aU.length dL] 25 (0,0)) (by (with_reducible repeat (first|refine ak ?_ _|refine az ?_|refine au ?_ _));exact cu.out) hb);have eX:=af.mk (aI (by repeat (first|(with_reducible first|exact HB.out|apply ah|apply ae|apply ag|refine aj ?_ iW.out)|exact HB.out)) hb);clear iQ;clear cu;clear HB;have iQ:=dE;have JQ:=dG;have cu:=dH;have HB:=eX;clear dE dG dH eX;clear hb Ky;obtain ⟨agq,af9,af1⟩:=Kd.dP JQ.out;subst af1)|((with_reducible refine jR (b:=.append) (xs:=#[.tmp 19,.tmp 22]) rfl ?_);at_builtin;refine Kd.Gz (Kd.slice 9 Kd.string) (w0:=w) w.heap.size rfl (.tmp 19) (.tmp 22) 37 22 (.slice none 0 0) 24 rfl Tryd.underlying37 info22 rfl (by decide) (by omega) u4 kW y113 [.slice agq y113.length af9] (fun k_=>k_ ≠ fE) (fun k_=>((fun k_=>k_ ≠ fE)) k_∧some k_ ≠ (u4:Value).ownBlock) rfl rfl ?aP (fun _ hk=>hk) ?aF ?aO ?aB ?aS ?aL ?_;(case aP=>exact (Kd.ql (Kd.df (Kd.dC (ok':=(fun k_=>((fun k_=>k_ ≠ fE)) k_∧some k_ ≠ (u4:Value).ownBlock)) (Kd.dI (Kd.lN (JQ.out) (Kd.qh iQ.out) (by decide)) cu.out (by decide)) (fun k_ hk=>⟨hk.2,hk.1.2⟩))).2.1 (Kd.R_F (Kd.dC (ok':=(fun k_=>((fun k_=>k_ ≠ fE)) k_∧some k_ ≠ (u4:Value).ownBlock)) (Kd.dI (Kd.lN (JQ.out) (Kd.qh iQ.out) (by decide)) cu.out (by decide)) (fun k_ hk=>⟨hk.2,hk.1.2⟩)))));(case aB=>exact (by repeat (first|(with_reducible first|exact HB.out|apply ah|apply ae|apply ag|refine aj ?_ iW.out)|exact HB.out)));(case aF=>exact (fun k_ hk=>Kd.zM (g:=fE) (o:=.cells #[.slice (some O7) bn.length dM,.string bF,.string bD,.slice dV aU.length dL] 25 (0,0)) (by (with_reducible repeat (first|refine ak ?_ _|refine az ?_|refine au ?_ _));exact cu.out) k_ hk));(case aO=>exact (by (with_reducible repeat (first|apply Kd.jl|apply Kd.jk|apply Kd.jK));exact Kd.mX iQ.out (fun _ hk=>hk.1)));(case aS=>exact (aC (by repeat (first|(with_reducible first|exact HB.out|apply ah|apply ae|apply ag|refine aj ?_ iW.out)|exact HB.out))));(case aL=>have:=ZN.out;omega);intro v117 WO ho hb hg hat;rw [← ZG.out] at ho;have dE:=af.mk (uG (g:=fE) (o:=.cells #[.slice (some O7) bn.length dM,.string bF,.string bD,.slice dV aU.length dL] 25 (0,0)) (by (with_reducible repeat (first|refine ak ?_ _|refine az ?_|refine au ?_ _));exact cu.out) hg (Kd.Ur iQ.out cu.out (by decide)));have dG:=af.mk (hb);have dH:=af.mk (ho);clear cu;clear HB;clear iQ;clear JQ;have cu:=dE;have HB:=dG;have ZY:=dH;clear dE dG dH;clear ho hb hg hat))
                go_roundg k1
                case measure=>have:=AA.out;omega
                case rel=>exact ⟨(WB),(wrap64 (lJ+1)),(by first|rfl|(simp;done)|(simp [*];done)),H',⟨by have:=AA.out;omega⟩,⟨by (with_reducible repeat (first|apply Kd.jl|apply Kd.jk|apply Kd.jK));exact ZY.out⟩,⟨by (with_reducible repeat (first|refine ak ?_ _|refine az ?_|refine au ?_ _));exact cu.out⟩,⟨by repeat (first|(with_reducible first|exact HB.out|apply ah|apply ae|apply ag|refine aj ?_ iW.out)|exact HB.out)⟩⟩
              · rw [if_neg c11] at H
                exact absurd H (by simp)
            · rw [if_neg c10] at H
              exact absurd H (by simp)
          · rw [if_neg c9] at H
            exact absurd H (by simp)
        · rw [if_neg c8] at H
          have zS:decide (lJ < (bn.length:Int))=false:=decide_eq_false c8
          clear c8
          replace H:=Option.bind_eq_some_iff.mp H
          obtain ⟨t119,PO,H⟩:=H
          replace H:((jX.f bD).bind fun t123=>((some (([(([(⟨#[108,111,99,97,108,115]⟩:ByteArray),t119]:List ByteArray)),(([(⟨#[103,108,111,98,97,108,115]⟩:ByteArray),t123]:List ByteArray))]:List (List ByteArray)):List (List ByteArray))).bind fun qA=>(if kW.length+qA.length < 5864062014805 then (aY.l1 k1 (kW++qA) aU (aU.length:Int) 0) else (none))))=some (r1,r2):=H
          have A16:=af.mk PO
          clear PO
          obtain ⟨Ai,FW⟩:∃ y_:List ByteArray,y_=(([(⟨#[108,111,99,97,108,115]⟩:ByteArray),t119]:List ByteArray)):=⟨_,rfl⟩
          replace H:((jX.f bD).bind fun t123=>((some (([Ai,(([(⟨#[103,108,111,98,97,108,115]⟩:ByteArray),t123]:List ByteArray))]:List (List ByteArray)):List (List ByteArray))).bind fun qA=>(if kW.length+qA.length < 5864062014805 then (aY.l1 k1 (kW++qA) aU (aU.length:Int) 0) else (none))))=some (r1,r2):=by first|(rw [FW];with_reducible exact H)|(have tX:=(Option.bind_some _ _).symm.trans H;rw [FW];with_reducible exact tX)|(have tX:=(Option.bind_some _ _).symm.trans H;with_reducible exact tX)|with_reducible exact H|(rw [FW];exact H)|exact H
          have BH:=af.mk FW
          clear FW
          replace H:=Option.bind_eq_some_iff.mp H
          obtain ⟨t123,aaw,H⟩:=H
          replace H:((some (([Ai,(([(⟨#[103,108,111,98,97,108,115]⟩:ByteArray),t123]:List ByteArray))]:List (List ByteArray)):List (List ByteArray))).bind fun qA=>(if kW.length+qA.length < 5864062014805 then (aY.l1 k1 (kW++qA) aU (aU.length:Int) 0) else (none)))=some (r1,r2):=H
          have A17:=af.mk aaw
          clear aaw
          obtain ⟨EO,FV⟩:∃ y_:List ByteArray,y_=(([(⟨#[103,108,111,98,97,108,115]⟩:ByteArray),t123]:List ByteArray)):=⟨_,rfl⟩
          replace H:((some (([Ai,EO]:List (List ByteArray)):List (List ByteArray))).bind fun qA=>(if kW.length+qA.length < 5864062014805 then (aY.l1 k1 (kW++qA) aU (aU.length:Int) 0) else (none)))=some (r1,r2):=by first|(rw [FV];with_reducible exact H)|(have tX:=(Option.bind_some _ _).symm.trans H;rw [FV];with_reducible exact tX)|(have tX:=(Option.bind_some _ _).symm.trans H;with_reducible exact tX)|with_reducible exact H|(rw [FV];exact H)|exact H
          have BG:=af.mk FV
          clear FV
          obtain ⟨qA,FU⟩:∃ y_:List (List ByteArray),y_=(([Ai,EO]:List (List ByteArray))):=⟨_,rfl⟩
          replace H:(if kW.length+qA.length < 5864062014805 then (aY.l1 k1 (kW++qA) aU (aU.length:Int) 0) else (none))=some (r1,r2):=by first|(rw [FU];with_reducible exact H)|(have tX:=(Option.bind_some _ _).symm.trans H;rw [FU];with_reducible exact tX)|(have tX:=(Option.bind_some _ _).symm.trans H;with_reducible exact tX)|with_reducible exact H|(rw [FU];exact H)|exact H
          have U1:=af.mk FU
          clear FU
          by_cases c18:kW.length+qA.length < 5864062014805
          · rw [if_pos c18] at H
            have ZM:=af.mk c18
            clear c18
            obtain ⟨WA,FT⟩:∃ y_:List (List ByteArray),y_=(kW++qA):=⟨_,rfl⟩
            replace H:(aY.l1 k1 WA aU (aU.length:Int) 0)=some (r1,r2):=by first|(rw [FT];with_reducible exact H)|(have tX:=(Option.bind_some _ _).symm.trans H;rw [FT];with_reducible exact tX)|(have tX:=(Option.bind_some _ _).symm.trans H;with_reducible exact tX)|with_reducible exact H|(rw [FT];exact H)|exact H
            have ZF:=af.mk FT
            clear FT
            have H':=af.mk H
            clear H
            obtain ⟨yt,yl,afZ⟩:=Kd.EI iQ.out
            subst afZ
            try go_wp2
            have dE:=af.mk (Kd.jK iQ.out)
            have dG:=af.mk (az cu.out)
            have dH:=af.mk (ag HB.out)
            clear iQ
            clear cu
            clear HB
            have iQ:=dE
            have cu:=dG
            have HB:=dH
            clear dE dG dH
            refine qR (n:=12) (S:=fun w'=>w'.cell? ⟨fE,0,none⟩=some (.slice dN bn.length dM)∧w'.cell? ⟨fE,1,none⟩=some (.string bF)∧w'.cell? ⟨fE,2,none⟩=some (.string bD)∧w'.cell? ⟨fE,3,none⟩=some (.slice dV aU.length dL)) (ds:=[]) #[false,false,false,false,false,false,false,false,false,false,false,false] (by kernel_rfl) rfl rfl ⟨(ax cu.out 0).trans rfl,(ax cu.out 1).trans rfl,(ax cu.out 2).trans rfl,(ax cu.out 3).trans rfl⟩ (fun hHeld=>?_);refine lC aY.ae4 aY.Zq (fun eU mf=>?_)
            generalize wr.drew=w20 at iQ cu HB hHeld ⊢
            refine bU (i:=0) (N:=some 25) (v:=?_) (a':=?_) #[true,false,false,false,false,false,false,false,false,false,false,false] rfl rfl (bf eU.out (by kernel_rfl)) (fun _ _ _ h=>h) (Or.inl ⟨by rfl,?_⟩) ?_ ?_
            rotate_left
            · intro w'
              go_simp
              with_reducible rfl
            rotate_left
            · simp only [Act.put,List.setIfInBounds_toArray,List.set_cons_zero,List.set_cons_succ,aX,aZ]
              rfl
            refine bU (i:=1) (N:=some 26) (v:=?_) (a':=?_) #[true,true,false,false,false,false,false,false,false,false,false,false] rfl rfl (bf eU.out (by kernel_rfl)) (fun _ _ _ h=>h) (Or.inl ⟨by rfl,?_⟩) ?_ ?_
            rotate_left
            · intro w'
              go_simp
              with_reducible rfl
            rotate_left
            · simp only [Act.put,List.setIfInBounds_toArray,List.set_cons_zero,List.set_cons_succ,aX,aZ]
              rfl
            refine bU (i:=5) (N:=some 30) (v:=?_) (a':=?_) #[true,true,false,false,false,true,false,false,false,false,false,false] rfl rfl (bf eU.out (by kernel_rfl)) (fun _ _ _ h=>h) (Or.inl ⟨by rfl,?_⟩) ?_ ?_
            rotate_left
            · intro w'
              go_simp
              with_reducible rfl
            rotate_left
            · simp only [Act.put,List.setIfInBounds_toArray,List.set_cons_zero,List.set_cons_succ,aX,aZ]
              rfl
            refine gZ (i:=2) (N:=some 27) (v:=?_) (a':=?_) #[true,true,true,false,false,true,false,false,false,false,false,false] rfl rfl (dQ eU.out mf.out (by kernel_rfl)) (fun _ _ _ h=>h) (Or.inl ⟨by rfl,?_⟩) hHeld ?_ ?_
            rotate_left
            · rintro w' ⟨s0,s1,s2,s3⟩
              go_simp
              with_reducible rfl
            rotate_left
            · simp only [Act.put,List.setIfInBounds_toArray,List.set_cons_zero,List.set_cons_succ,aX,aZ]
              rfl
            refine gZ (i:=6) (N:=some 31) (v:=?_) (a':=?_) #[true,true,true,false,false,true,true,false,false,false,false,false] rfl rfl (dQ eU.out mf.out (by kernel_rfl)) (fun _ _ _ h=>h) (Or.inl ⟨by rfl,?_⟩) hHeld ?_ ?_
            rotate_left
            · rintro w' ⟨s0,s1,s2,s3⟩
              go_simp
              with_reducible rfl
            rotate_left
            · simp only [Act.put,List.setIfInBounds_toArray,List.set_cons_zero,List.set_cons_succ,aX,aZ]
              rfl
            refine vk (i:=3) (N:=some 28) #[true,true,true,true,false,true,true,false,false,false,false,false] rfl rfl (kH eU.out (by kernel_rfl)) (by decide) (fun K hK=>?_)
            refine uV Tryd.func13 (by kernel_rfl) rfl #[.string bF] (by rfl) rfl rfl (by (try simp only [List.map_toArray,List.map_cons,List.map_nil]);first|done|rfl|(simp only [List.length_drop,List.length_take];rfl)) ?_
            with_reducible refine (jX.calls bF t119 _ A16.out).mono ?_
            rintro e w' ⟨rfl,⟨nd,rfl⟩⟩
            refine ⟨_,rfl,?_⟩
            refine hK.out _ _ ⟨(ax cu.out 0).trans rfl,(ax cu.out 1).trans rfl,(ax cu.out 2).trans rfl,(ax cu.out 3).trans rfl⟩ (fun hHeld=>?_)
            clear hK K
            refine kY (a':=?_) ?_ ?_
            rotate_left
            · show Act.put _ (some 28) _=_
              simp only [Act.put,List.setIfInBounds_toArray,List.set_cons_zero,List.set_cons_succ,aX,aZ]
              rfl
            refine WY (σ:=Value × Value) 3 #[true,true,true,true,true,true,true,true,true,false,false,false] (fun s_=>[(29,s_.1),(32,.string t123),(33,s_.2)]) (fun s_ w'=>(w'.cell? ⟨fE,0,none⟩=some (.slice dN bn.length dM)∧w'.cell? ⟨fE,1,none⟩=some (.string bF)∧w'.cell? ⟨fE,2,none⟩=some (.string bD)∧w'.cell? ⟨fE,3,none⟩=some (.slice dV aU.length dL))∧(Kd.R Kd.string 9 w' w.heap.size (fun k_=>some k_ ≠ (s_.2:Value).ownBlock) s_.1 Ai)∧(Kd.R Kd.string 9 w' w.heap.size (fun k_=>some k_ ≠ (s_.1:Value).ownBlock) s_.2 EO)∧(Kd.N (Kd.slice 9 Kd.string) 22 w' w.heap.size (fun k_=>some k_ ≠ (s_.1:Value).ownBlock∧some k_ ≠ (s_.2:Value).ownBlock∧k_ ≠ fE) (.slice yt kW.length yl) kW)∧(w'.heap[fE]? = some (.cells #[.slice dN bn.length dM,.string bF,.string bD,.slice dV aU.length dL] 25 (0,0)))∧(Below w.heap.size w w')) ?_ ?_
            rotate_left
            · intro Oo
              refine WQ (i:=4) (j:=7) (Ni:=some 29) (Nj:=some 32) #[true,true,true,true,true,true,true,false,false,false,false,false] #[true,true,true,true,false,true,true,true,false,false,false,false] rfl rfl rfl rfl (LK eU.out (by kernel_rfl)) (by decide) (by decide) (fun K hK=>?_) (fun K hK=>?_)
              · skip
                refine Kd.l9 Kd.string _ 9 ?hg (N:=29) ?hd (xs:=([(⟨#[108,111,99,97,108,115]⟩:ByteArray),t119]:List ByteArray)) (inner:=[.string (⟨#[108,111,99,97,108,115]⟩:ByteArray),.string t119]) (ok:=fun _=>True) (nM:=fun _=>True) ?hr ?hp (fun _ hk=>hk) trivial (Below.refl _ _) (Nat.le_refl _) (by simp) ?_;(case hd=>rfl);(case hg=>rfl);(case hr=>first|(go_simp;done)|(go_simp;rfl));(case hp=>exact (ji.one (show Kd.M Kd.string _ _ _ (⟨#[108,111,99,97,108,115]⟩:ByteArray) [.string (⟨#[108,111,99,97,108,115]⟩:ByteArray)] from rfl) (ji.one (show Kd.M Kd.string _ _ _ t119 [.string t119] from rfl) (ji.none _ _))))
                intro BV WM qG hb H5 oU
                clear H5 oU
                (first|rw [← BH.out] at qG|(simp only [Int.reduceToNat] at qG;rw [← BH.out] at qG))
                have dE:=af.mk (Kd.mY (by (with_reducible repeat (first|apply Kd.jl|apply Kd.jk|apply Kd.jK));exact iQ.out) (Kd.iM qG) hb)
                have dG:=af.mk (Kd.dS qG (aC (by repeat (first|(with_reducible first|exact HB.out|apply ah|apply ae|apply ag|refine aj ?_ iW.out)|exact HB.out))))
                have dH:=af.mk (aQ (g:=fE) (o:=.cells #[.slice dN bn.length dM,.string bF,.string bD,.slice dV aU.length dL] 25 (0,0)) (by (with_reducible repeat (first|refine ak ?_ _|refine az ?_|refine au ?_ _));exact cu.out) hb)
                have eX:=af.mk (aI (by repeat (first|(with_reducible first|exact HB.out|apply ah|apply ae|apply ag|refine aj ?_ iW.out)|exact HB.out)) hb)
                clear iQ
                clear cu
                clear HB
                have iQ:=dE
                have nG:=dG
                have cu:=dH
                have HB:=eX
                clear dE dG dH eX
                clear hb qG
                refine hK.out _ _ ⟨(ax cu.out 0).trans rfl,(ax cu.out 1).trans rfl,(ax cu.out 2).trans rfl,(ax cu.out 3).trans rfl⟩ (fun hHeld=>?_)
                clear hK K
                refine kY (a':=?_) ?_ ?_
                rotate_left
                · show Act.put _ (some 29) _=_
                  simp only [Act.put,List.setIfInBounds_toArray,List.set_cons_zero,List.set_cons_succ,aX,aZ]
                  rfl
                refine vk (i:=7) (N:=some 32) #[true,true,true,true,true,true,true,true,false,false,false,false] rfl rfl (kH eU.out (by kernel_rfl)) (by decide) (fun K hK=>?_)
                refine uV Tryd.func13 (by kernel_rfl) rfl #[.string bD] (by rfl) rfl rfl (by (try simp only [List.map_toArray,List.map_cons,List.map_nil]);first|done|rfl|(simp only [List.length_drop,List.length_take];rfl)) ?_
                with_reducible refine (jX.calls bD t123 _ A17.out).mono ?_
                rintro e w' ⟨rfl,⟨nd,rfl⟩⟩
                refine ⟨_,rfl,?_⟩
                refine hK.out _ _ ⟨(ax cu.out 0).trans rfl,(ax cu.out 1).trans rfl,(ax cu.out 2).trans rfl,(ax cu.out 3).trans rfl⟩ (fun hHeld=>?_)
                clear hK K
                refine kY (a':=?_) ?_ ?_
                rotate_left
                · show Act.put _ (some 32) _=_
                  simp only [Act.put,List.setIfInBounds_toArray,List.set_cons_zero,List.set_cons_succ,aX,aZ]
                  rfl
                refine vk (i:=8) (N:=some 33) #[true,true,true,true,true,true,true,true,true,false,false,false] rfl rfl (kH eU.out (by kernel_rfl)) (by decide) (fun K hK=>?_)
                refine Kd.l9 Kd.string _ 9 ?hg (N:=33) ?hd (xs:=([(⟨#[103,108,111,98,97,108,115]⟩:ByteArray),t123]:List ByteArray)) (inner:=[.string (⟨#[103,108,111,98,97,108,115]⟩:ByteArray),.string t123]) (ok:=fun _=>True) (nM:=fun _=>True) ?hr ?hp (fun _ hk=>hk) trivial (Below.refl _ _) (Nat.le_refl _) (by simp) ?_;(case hd=>rfl);(case hg=>rfl);(case hr=>first|(go_simp;done)|(go_simp;rfl));(case hp=>exact (ji.one (show Kd.M Kd.string _ _ _ (⟨#[103,108,111,98,97,108,115]⟩:ByteArray) [.string (⟨#[103,108,111,98,97,108,115]⟩:ByteArray)] from rfl) (ji.one (show Kd.M Kd.string _ _ _ t123 [.string t123] from rfl) (ji.none _ _))))
                intro BU Lp oQ hb H5 oU
                clear H5 oU
                (first|rw [← BG.out] at oQ|(simp only [Int.reduceToNat] at oQ;rw [← BG.out] at oQ))
                have dE:=af.mk (Kd.mY (by (with_reducible repeat (first|apply Kd.jl|apply Kd.jk|apply Kd.jK));exact iQ.out) (Kd.iM oQ) hb)
                have dG:=af.mk (Kd.iE (by (with_reducible repeat (first|apply Kd.aG|apply Kd.aH|apply Kd.aV));exact nG.out) (Kd.iM oQ) hb)
                have dH:=af.mk (Kd.dS (Kd.jD oQ (Kd.mW (by (with_reducible repeat (first|apply Kd.aG|apply Kd.aH|apply Kd.aV));exact nG.out))) (aC (by repeat (first|(with_reducible first|exact HB.out|apply ah|apply ae|apply ag|refine aj ?_ iW.out)|exact HB.out))))
                have eX:=af.mk (aQ (g:=fE) (o:=.cells #[.slice dN bn.length dM,.string bF,.string bD,.slice dV aU.length dL] 25 (0,0)) (by (with_reducible repeat (first|refine ak ?_ _|refine az ?_|refine au ?_ _));exact cu.out) hb)
                have gB:=af.mk (aI (by repeat (first|(with_reducible first|exact HB.out|apply ah|apply ae|apply ag|refine aj ?_ iW.out)|exact HB.out)) hb)
                clear iQ
                clear nG
                clear cu
                clear HB
                have iQ:=dE
                have nG:=dG
                have qi:=dH
                have cu:=eX
                have HB:=gB
                clear dE dG dH eX gB
                clear hb oQ
                refine hK.out _ _ ⟨(ax cu.out 0).trans rfl,(ax cu.out 1).trans rfl,(ax cu.out 2).trans rfl,(ax cu.out 3).trans rfl⟩ (fun hHeld=>?_)
                clear hK K
                refine kY (a':=?_) ?_ ?_
                rotate_left
                · show Act.put _ (some 33) _=_
                  simp only [Act.put,List.setIfInBounds_toArray,List.set_cons_zero,List.set_cons_succ,aX,aZ]
                  rfl
                exact kY (by simp only [lZ,Act.put,List.setIfInBounds_toArray,List.set_cons_zero,List.set_cons_succ]) (Oo (BV,BU) _ ⟨hHeld,(by (with_reducible repeat (first|apply Kd.aG|apply Kd.aH|apply Kd.aV));exact Kd.dC nG.out (fun _ hk=>hk.2)),(by (with_reducible repeat (first|apply Kd.aG|apply Kd.aH|apply Kd.aV));exact Kd.dC qi.out (fun _ hk=>hk.2)),(by (with_reducible repeat (first|apply Kd.jl|apply Kd.jk|apply Kd.jK));exact Kd.mX iQ.out (fun _ hk=>⟨hk.1.2,⟨hk.2,hk.1.1⟩⟩)),(by (with_reducible repeat (first|refine ak ?_ _|refine az ?_|refine au ?_ _));exact cu.out),(by repeat (first|(with_reducible first|exact HB.out|apply ah|apply ae|apply ag|refine aj ?_ iW.out)|exact HB.out))⟩)
              · skip
                refine uV Tryd.func13 (by kernel_rfl) rfl #[.string bD] (by rfl) rfl rfl (by (try simp only [List.map_toArray,List.map_cons,List.map_nil]);first|done|rfl|(simp only [List.length_drop,List.length_take];rfl)) ?_
                with_reducible refine (jX.calls bD t123 _ A17.out).mono ?_
                rintro e w' ⟨rfl,⟨nd,rfl⟩⟩
                refine ⟨_,rfl,?_⟩
                refine hK.out _ _ ⟨(ax cu.out 0).trans rfl,(ax cu.out 1).trans rfl,(ax cu.out 2).trans rfl,(ax cu.out 3).trans rfl⟩ (fun hHeld=>?_)
                clear hK K
                refine kY (a':=?_) ?_ ?_
                rotate_left
                · show Act.put _ (some 32) _=_
                  simp only [Act.put,List.setIfInBounds_toArray,List.set_cons_zero,List.set_cons_succ,aX,aZ]
                  rfl
                refine WQ (i:=4) (j:=8) (Ni:=some 29) (Nj:=some 33) #[true,true,true,true,true,true,true,true,false,false,false,false] #[true,true,true,true,false,true,true,true,true,false,false,false] rfl rfl rfl rfl (LK eU.out (by kernel_rfl)) (by decide) (by decide) (fun K hK=>?_) (fun K hK=>?_)
                · skip
                  refine Kd.l9 Kd.string _ 9 ?hg (N:=29) ?hd (xs:=([(⟨#[108,111,99,97,108,115]⟩:ByteArray),t119]:List ByteArray)) (inner:=[.string (⟨#[108,111,99,97,108,115]⟩:ByteArray),.string t119]) (ok:=fun _=>True) (nM:=fun _=>True) ?hr ?hp (fun _ hk=>hk) trivial (Below.refl _ _) (Nat.le_refl _) (by simp) ?_;(case hd=>rfl);(case hg=>rfl);(case hr=>first|(go_simp;done)|(go_simp;rfl));(case hp=>exact (ji.one (show Kd.M Kd.string _ _ _ (⟨#[108,111,99,97,108,115]⟩:ByteArray) [.string (⟨#[108,111,99,97,108,115]⟩:ByteArray)] from rfl) (ji.one (show Kd.M Kd.string _ _ _ t119 [.string t119] from rfl) (ji.none _ _))))
                  intro BV WM qG hb H5 oU
                  clear H5 oU
                  (first|rw [← BH.out] at qG|(simp only [Int.reduceToNat] at qG;rw [← BH.out] at qG))
                  have dE:=af.mk (Kd.mY (by (with_reducible repeat (first|apply Kd.jl|apply Kd.jk|apply Kd.jK));exact iQ.out) (Kd.iM qG) hb)
                  have dG:=af.mk (Kd.dS qG (aC (by repeat (first|(with_reducible first|exact HB.out|apply ah|apply ae|apply ag|refine aj ?_ iW.out)|exact HB.out))))
                  have dH:=af.mk (aQ (g:=fE) (o:=.cells #[.slice dN bn.length dM,.string bF,.string bD,.slice dV aU.length dL] 25 (0,0)) (by (with_reducible repeat (first|refine ak ?_ _|refine az ?_|refine au ?_ _));exact cu.out) hb)
                  have eX:=af.mk (aI (by repeat (first|(with_reducible first|exact HB.out|apply ah|apply ae|apply ag|refine aj ?_ iW.out)|exact HB.out)) hb)
                  clear iQ
                  clear cu
                  clear HB
                  have iQ:=dE
                  have nG:=dG
                  have cu:=dH
                  have HB:=eX
                  clear dE dG dH eX
                  clear hb qG
                  refine hK.out _ _ ⟨(ax cu.out 0).trans rfl,(ax cu.out 1).trans rfl,(ax cu.out 2).trans rfl,(ax cu.out 3).trans rfl⟩ (fun hHeld=>?_)
                  clear hK K
                  refine kY (a':=?_) ?_ ?_
                  rotate_left
                  · show Act.put _ (some 29) _=_
                    simp only [Act.put,List.setIfInBounds_toArray,List.set_cons_zero,List.set_cons_succ,aX,aZ]
                    rfl
                  refine vk (i:=8) (N:=some 33) #[true,true,true,true,true,true,true,true,true,false,false,false] rfl rfl (kH eU.out (by kernel_rfl)) (by decide) (fun K hK=>?_)
                  refine Kd.l9 Kd.string _ 9 ?hg (N:=33) ?hd (xs:=([(⟨#[103,108,111,98,97,108,115]⟩:ByteArray),t123]:List ByteArray)) (inner:=[.string (⟨#[103,108,111,98,97,108,115]⟩:ByteArray),.string t123]) (ok:=fun _=>True) (nM:=fun _=>True) ?hr ?hp (fun _ hk=>hk) trivial (Below.refl _ _) (Nat.le_refl _) (by simp) ?_;(case hd=>rfl);(case hg=>rfl);(case hr=>first|(go_simp;done)|(go_simp;rfl));(case hp=>exact (ji.one (show Kd.M Kd.string _ _ _ (⟨#[103,108,111,98,97,108,115]⟩:ByteArray) [.string (⟨#[103,108,111,98,97,108,115]⟩:ByteArray)] from rfl) (ji.one (show Kd.M Kd.string _ _ _ t123 [.string t123] from rfl) (ji.none _ _))))
                  intro BU Lp oQ hb H5 oU
                  clear H5 oU
                  (first|rw [← BG.out] at oQ|(simp only [Int.reduceToNat] at oQ;rw [← BG.out] at oQ))
                  have dE:=af.mk (Kd.mY (by (with_reducible repeat (first|apply Kd.jl|apply Kd.jk|apply Kd.jK));exact iQ.out) (Kd.iM oQ) hb)
                  have dG:=af.mk (Kd.iE (by (with_reducible repeat (first|apply Kd.aG|apply Kd.aH|apply Kd.aV));exact nG.out) (Kd.iM oQ) hb)
                  have dH:=af.mk (Kd.dS (Kd.jD oQ (Kd.mW (by (with_reducible repeat (first|apply Kd.aG|apply Kd.aH|apply Kd.aV));exact nG.out))) (aC (by repeat (first|(with_reducible first|exact HB.out|apply ah|apply ae|apply ag|refine aj ?_ iW.out)|exact HB.out))))
                  have eX:=af.mk (aQ (g:=fE) (o:=.cells #[.slice dN bn.length dM,.string bF,.string bD,.slice dV aU.length dL] 25 (0,0)) (by (with_reducible repeat (first|refine ak ?_ _|refine az ?_|refine au ?_ _));exact cu.out) hb)
                  have gB:=af.mk (aI (by repeat (first|(with_reducible first|exact HB.out|apply ah|apply ae|apply ag|refine aj ?_ iW.out)|exact HB.out)) hb)
                  clear iQ
                  clear nG
                  clear cu
                  clear HB
                  have iQ:=dE
                  have nG:=dG
                  have qi:=dH
                  have cu:=eX
                  have HB:=gB
                  clear dE dG dH eX gB
                  clear hb oQ
                  refine hK.out _ _ ⟨(ax cu.out 0).trans rfl,(ax cu.out 1).trans rfl,(ax cu.out 2).trans rfl,(ax cu.out 3).trans rfl⟩ (fun hHeld=>?_)
                  clear hK K
                  refine kY (a':=?_) ?_ ?_
                  rotate_left
                  · show Act.put _ (some 33) _=_
                    simp only [Act.put,List.setIfInBounds_toArray,List.set_cons_zero,List.set_cons_succ,aX,aZ]
                    rfl
                  exact kY (by simp only [lZ,Act.put,List.setIfInBounds_toArray,List.set_cons_zero,List.set_cons_succ]) (Oo (BV,BU) _ ⟨hHeld,(by (with_reducible repeat (first|apply Kd.aG|apply Kd.aH|apply Kd.aV));exact Kd.dC nG.out (fun _ hk=>hk.2)),(by (with_reducible repeat (first|apply Kd.aG|apply Kd.aH|apply Kd.aV));exact Kd.dC qi.out (fun _ hk=>hk.2)),(by (with_reducible repeat (first|apply Kd.jl|apply Kd.jk|apply Kd.jK));exact Kd.mX iQ.out (fun _ hk=>⟨hk.1.2,⟨hk.2,hk.1.1⟩⟩)),(by (with_reducible repeat (first|refine ak ?_ _|refine az ?_|refine au ?_ _));exact cu.out),(by repeat (first|(with_reducible first|exact HB.out|apply ah|apply ae|apply ag|refine aj ?_ iW.out)|exact HB.out))⟩)
                · skip
                  refine Kd.l9 Kd.string _ 9 ?hg (N:=33) ?hd (xs:=([(⟨#[103,108,111,98,97,108,115]⟩:ByteArray),t123]:List ByteArray)) (inner:=[.string (⟨#[103,108,111,98,97,108,115]⟩:ByteArray),.string t123]) (ok:=fun _=>True) (nM:=fun _=>True) ?hr ?hp (fun _ hk=>hk) trivial (Below.refl _ _) (Nat.le_refl _) (by simp) ?_;(case hd=>rfl);(case hg=>rfl);(case hr=>first|(go_simp;done)|(go_simp;rfl));(case hp=>exact (ji.one (show Kd.M Kd.string _ _ _ (⟨#[103,108,111,98,97,108,115]⟩:ByteArray) [.string (⟨#[103,108,111,98,97,108,115]⟩:ByteArray)] from rfl) (ji.one (show Kd.M Kd.string _ _ _ t123 [.string t123] from rfl) (ji.none _ _))))
                  intro BU WM qG hb H5 oU
                  clear H5 oU
                  (first|rw [← BG.out] at qG|(simp only [Int.reduceToNat] at qG;rw [← BG.out] at qG))
                  have dE:=af.mk (Kd.mY (by (with_reducible repeat (first|apply Kd.jl|apply Kd.jk|apply Kd.jK));exact iQ.out) (Kd.iM qG) hb)
                  have dG:=af.mk (Kd.dS qG (aC (by repeat (first|(with_reducible first|exact HB.out|apply ah|apply ae|apply ag|refine aj ?_ iW.out)|exact HB.out))))
                  have dH:=af.mk (aQ (g:=fE) (o:=.cells #[.slice dN bn.length dM,.string bF,.string bD,.slice dV aU.length dL] 25 (0,0)) (by (with_reducible repeat (first|refine ak ?_ _|refine az ?_|refine au ?_ _));exact cu.out) hb)
                  have eX:=af.mk (aI (by repeat (first|(with_reducible first|exact HB.out|apply ah|apply ae|apply ag|refine aj ?_ iW.out)|exact HB.out)) hb)
                  clear iQ
                  clear cu
                  clear HB
                  have iQ:=dE
                  have qi:=dG
                  have cu:=dH
                  have HB:=eX
                  clear dE dG dH eX
                  clear hb qG
                  refine hK.out _ _ ⟨(ax cu.out 0).trans rfl,(ax cu.out 1).trans rfl,(ax cu.out 2).trans rfl,(ax cu.out 3).trans rfl⟩ (fun hHeld=>?_)
                  clear hK K
                  refine kY (a':=?_) ?_ ?_
                  rotate_left
                  · show Act.put _ (some 33) _=_
                    simp only [Act.put,List.setIfInBounds_toArray,List.set_cons_zero,List.set_cons_succ,aX,aZ]
                    rfl
                  refine vk (i:=4) (N:=some 29) #[true,true,true,true,true,true,true,true,true,false,false,false] rfl rfl (kH eU.out (by kernel_rfl)) (by decide) (fun K hK=>?_)
                  refine Kd.l9 Kd.string _ 9 ?hg (N:=29) ?hd (xs:=([(⟨#[108,111,99,97,108,115]⟩:ByteArray),t119]:List ByteArray)) (inner:=[.string (⟨#[108,111,99,97,108,115]⟩:ByteArray),.string t119]) (ok:=fun _=>True) (nM:=fun _=>True) ?hr ?hp (fun _ hk=>hk) trivial (Below.refl _ _) (Nat.le_refl _) (by simp) ?_;(case hd=>rfl);(case hg=>rfl);(case hr=>first|(go_simp;done)|(go_simp;rfl));(case hp=>exact (ji.one (show Kd.M Kd.string _ _ _ (⟨#[108,111,99,97,108,115]⟩:ByteArray) [.string (⟨#[108,111,99,97,108,115]⟩:ByteArray)] from rfl) (ji.one (show Kd.M Kd.string _ _ _ t119 [.string t119] from rfl) (ji.none _ _))))
                  intro BV Lp oQ hb H5 oU
                  clear H5 oU
                  (first|rw [← BH.out] at oQ|(simp only [Int.reduceToNat] at oQ;rw [← BH.out] at oQ))
                  have dE:=af.mk (Kd.mY (by (with_reducible repeat (first|apply Kd.jl|apply Kd.jk|apply Kd.jK));exact iQ.out) (Kd.iM oQ) hb)
                  have dG:=af.mk (Kd.iE (by (with_reducible repeat (first|apply Kd.aG|apply Kd.aH|apply Kd.aV));exact qi.out) (Kd.iM oQ) hb)
                  have dH:=af.mk (Kd.dS (Kd.jD oQ (Kd.mW (by (with_reducible repeat (first|apply Kd.aG|apply Kd.aH|apply Kd.aV));exact qi.out))) (aC (by repeat (first|(with_reducible first|exact HB.out|apply ah|apply ae|apply ag|refine aj ?_ iW.out)|exact HB.out))))
                  have eX:=af.mk (aQ (g:=fE) (o:=.cells #[.slice dN bn.length dM,.string bF,.string bD,.slice dV aU.length dL] 25 (0,0)) (by (with_reducible repeat (first|refine ak ?_ _|refine az ?_|refine au ?_ _));exact cu.out) hb)
                  have gB:=af.mk (aI (by repeat (first|(with_reducible first|exact HB.out|apply ah|apply ae|apply ag|refine aj ?_ iW.out)|exact HB.out)) hb)
                  clear iQ
                  clear qi
                  clear cu
                  clear HB
                  have iQ:=dE
                  have qi:=dG
                  have nG:=dH
                  have cu:=eX
                  have HB:=gB
                  clear dE dG dH eX gB
                  clear hb oQ
                  refine hK.out _ _ ⟨(ax cu.out 0).trans rfl,(ax cu.out 1).trans rfl,(ax cu.out 2).trans rfl,(ax cu.out 3).trans rfl⟩ (fun hHeld=>?_)
                  clear hK K
                  refine kY (a':=?_) ?_ ?_
                  rotate_left
                  · show Act.put _ (some 29) _=_
                    simp only [Act.put,List.setIfInBounds_toArray,List.set_cons_zero,List.set_cons_succ,aX,aZ]
                    rfl
                  exact kY (by simp only [lZ,Act.put,List.setIfInBounds_toArray,List.set_cons_zero,List.set_cons_succ]) (Oo (BV,BU) _ ⟨hHeld,(by (with_reducible repeat (first|apply Kd.aG|apply Kd.aH|apply Kd.aV));exact Kd.dC nG.out (fun _ hk=>hk.2)),(by (with_reducible repeat (first|apply Kd.aG|apply Kd.aH|apply Kd.aV));exact Kd.dC qi.out (fun _ hk=>hk.2)),(by (with_reducible repeat (first|apply Kd.jl|apply Kd.jk|apply Kd.jK));exact Kd.mX iQ.out (fun _ hk=>⟨hk.2,⟨hk.1.2,hk.1.1⟩⟩)),(by (with_reducible repeat (first|refine ak ?_ _|refine az ?_|refine au ?_ _));exact cu.out),(by repeat (first|(with_reducible first|exact HB.out|apply ah|apply ae|apply ag|refine aj ?_ iW.out)|exact HB.out))⟩)
            rintro ⟨BV,BU⟩ Lu ⟨jA,h0_,h1_,h2_,h3_,h4_⟩
            have dE:af (Kd.R Kd.string 9 Lu w.heap.size (fun k_=>some k_ ≠ (BU:Value).ownBlock) BV Ai):=⟨h0_⟩
            have dG:af (Kd.R Kd.string 9 Lu w.heap.size (fun k_=>some k_ ≠ (BV:Value).ownBlock) BU EO):=⟨h1_⟩
            have dH:af (Kd.N (Kd.slice 9 Kd.string) 22 Lu w.heap.size (fun k_=>some k_ ≠ (BV:Value).ownBlock∧some k_ ≠ (BU:Value).ownBlock∧k_ ≠ fE) (.slice yt kW.length yl) kW):=⟨h2_⟩
            have eX:af (Lu.heap[fE]? = some (.cells #[.slice dN bn.length dM,.string bF,.string bD,.slice dV aU.length dL] 25 (0,0))):=⟨h3_⟩
            have gB:af (Below w.heap.size w Lu):=⟨h4_⟩
            clear iQ
            clear cu
            clear HB
            clear h0_ h1_ h2_ h3_ h4_
            have nG:=dE
            have qi:=dG
            have iQ:=dH
            have cu:=eX
            have HB:=gB
            clear dE dG dH eX gB
            have hHeld:Lu.cell? ⟨fE,0,none⟩=some (.slice dN bn.length dM)∧Lu.cell? ⟨fE,1,none⟩=some (.string bF)∧Lu.cell? ⟨fE,2,none⟩=some (.string bD)∧Lu.cell? ⟨fE,3,none⟩=some (.slice dV aU.length dL):=jA
            obtain ⟨PN,OU,TV⟩:=Kd.dP nG.out
            (first|subst TV|(injection TV with UR YN UQ;have YM:=UR.symm;have YL:=UQ.symm;clear UR YN UQ;subst YM;subst YL))
            obtain ⟨rX,rQ,TU⟩:=Kd.dP qi.out
            (first|subst TU|(injection TU with UR YN UQ;have YM:=UR.symm;have YL:=UQ.symm;clear UR YN UQ;subst YM;subst YL))
            refine kY (a':=?_) ?_ ?_
            rotate_left
            · simp only [lZ,Act.put,List.setIfInBounds_toArray,List.set_cons_zero,List.set_cons_succ]
              rfl
            refine vk (i:=9) (N:=some 34) #[true,true,true,true,true,true,true,true,true,true,false,false] rfl rfl (kH eU.out (by kernel_rfl)) (by decide) (fun K hK=>?_)
            refine Kd.Ie (Kd.slice 9 Kd.string) _ 22 ?hg (N':=34) ?hd (xs:=([Ai,EO]:List (List ByteArray))) (inner:=[.slice PN Ai.length OU,.slice rX EO.length rQ]) (ok:=(fun k_=>some k_ ≠ (.slice yt kW.length yl:Value).ownBlock∧k_ ≠ fE)) (nM:=(fun k_=>some k_ ≠ (.slice yt kW.length yl:Value).ownBlock∧k_ ≠ fE)) ?hr ?hp (fun _ hk=>hk) ((show ∀ k_,Lu.heap.size≤k_→(fun k_=>some k_ ≠ (.slice yt kW.length yl:Value).ownBlock∧k_ ≠ fE) k_ from fun k_ hk=>⟨Kd.fresh' (Kd.ZH (by (with_reducible repeat (first|apply Kd.jl|apply Kd.jk|apply Kd.jK));exact iQ.out)) k_ hk,Kd.zM (g:=fE) (o:=.cells #[.slice dN bn.length dM,.string bF,.string bD,.slice dV aU.length dL] 25 (0,0)) (by (with_reducible repeat (first|refine ak ?_ _|refine az ?_|refine au ?_ _));exact cu.out) k_ hk⟩) _ (Nat.le_refl _)) (Below.refl _ _) (Nat.le_refl _) (by simp) ?_;(case hd=>rfl);(case hg=>rfl);(case hr=>first|(go_simp;done)|(go_simp;rfl));(case hp=>exact (ji.one (show Kd.FK (Kd.slice 9 Kd.string) _ _ Ai [.slice PN Ai.length OU] from (Kd.ql (Kd.df (Kd.dC (ok':=(fun k_=>some k_ ≠ (.slice yt kW.length yl:Value).ownBlock∧k_ ≠ fE)) (Kd.dI (Kd.lN (nG.out) (Kd.qh iQ.out) (by decide)) cu.out (by decide)) (fun k_ hk=>⟨hk.1.2,hk.2⟩))).2.1 (Kd.R_F (Kd.dC (ok':=(fun k_=>some k_ ≠ (.slice yt kW.length yl:Value).ownBlock∧k_ ≠ fE)) (Kd.dI (Kd.lN (nG.out) (Kd.qh iQ.out) (by decide)) cu.out (by decide)) (fun k_ hk=>⟨hk.1.2,hk.2⟩))))) (ji.one (show Kd.FK (Kd.slice 9 Kd.string) _ _ EO [.slice rX EO.length rQ] from (Kd.ql (Kd.df (Kd.dC (ok':=(fun k_=>some k_ ≠ (.slice yt kW.length yl:Value).ownBlock∧k_ ≠ fE)) (Kd.dI (Kd.lN (qi.out) (Kd.qh iQ.out) (by decide)) cu.out (by decide)) (fun k_ hk=>⟨hk.1.2,hk.2⟩))).2.1 (Kd.R_F (Kd.dC (ok':=(fun k_=>some k_ ≠ (.slice yt kW.length yl:Value).ownBlock∧k_ ≠ fE)) (Kd.dI (Kd.lN (qi.out) (Kd.qh iQ.out) (by decide)) cu.out (by decide)) (fun k_ hk=>⟨hk.1.2,hk.2⟩))))) (ji.none _ _))))
            intro aiu w28 Kw hb H5 oU
            clear H5 oU
            (first|rw [← U1.out] at Kw|(simp only [Int.reduceToNat] at Kw;rw [← U1.out] at Kw))
            have dE:=af.mk (Kd.mY (by (with_reducible repeat (first|apply Kd.jl|apply Kd.jk|apply Kd.jK));exact iQ.out) (Kd.V5 Kw) hb)
            have dG:=af.mk (Kd.Us Kw (aC (by repeat (first|(with_reducible first|exact HB.out|apply ah|apply ae|apply ag|refine aj ?_ iW.out)|exact HB.out))))
            have dH:=af.mk (aQ (g:=fE) (o:=.cells #[.slice dN bn.length dM,.string bF,.string bD,.slice dV aU.length dL] 25 (0,0)) (by (with_reducible repeat (first|refine ak ?_ _|refine az ?_|refine au ?_ _));exact cu.out) hb)
            have eX:=af.mk (aI (by repeat (first|(with_reducible first|exact HB.out|apply ah|apply ae|apply ag|refine aj ?_ iW.out)|exact HB.out)) hb)
            clear iQ
            clear cu
            clear HB
            clear nG
            clear qi
            have iQ:=dE
            have GG:=dG
            have cu:=dH
            have HB:=eX
            clear dE dG dH eX
            clear hb Kw
            obtain ⟨ai7,aiS,YP⟩:=Kd.EI GG.out
            (first|subst YP|(injection YP with UR YN UQ;have YM:=UR.symm;have YL:=UQ.symm;clear UR YN UQ;subst YM;subst YL))
            refine hK.out _ _ ⟨(ax cu.out 0).trans rfl,(ax cu.out 1).trans rfl,(ax cu.out 2).trans rfl,(ax cu.out 3).trans rfl⟩ (fun hHeld=>?_)
            clear hK K
            refine kY (a':=?_) ?_ ?_
            rotate_left
            · show Act.put _ (some 34) _=_
              simp only [Act.put,List.setIfInBounds_toArray,List.set_cons_zero,List.set_cons_succ,aX,aZ]
              rfl
            refine vk (i:=10) (N:=some 35) #[true,true,true,true,true,true,true,true,true,true,true,false] rfl rfl (kH eU.out (by kernel_rfl)) (by decide) (fun K hK=>?_)
            refine Kd.vM (Kd.slice 9 Kd.string) (w0:=w) w.heap.size (by rfl) (.tmp 25) (.tmp 34) 37 22 (.slice none 0 0) 24 rfl Tryd.underlying37 info22 rfl (by decide) (by omega) (.slice yt kW.length yl) kW qA _ _ _ (fun k_=>k_ ≠ fE) (fun k_=>((fun k_=>k_ ≠ fE)) k_∧some k_ ≠ (.slice yt kW.length yl:Value).ownBlock) rfl rfl ?aO ?aR (fun _ hk=>hk) ?aF ?aB ?aS ?aL ?_
            (case aR=>exact (by skip;exact Kd.N_F (Kd.mX (ok':=(fun k_=>((fun k_=>k_ ≠ fE)) k_∧some k_ ≠ (.slice yt kW.length yl:Value).ownBlock)) (GG.out) (fun k_ hk=>⟨hk.2,hk.1⟩))))
            (case aB=>exact (by repeat (first|(with_reducible first|exact HB.out|apply ah|apply ae|apply ag|refine aj ?_ iW.out)|exact HB.out)))
            (case aF=>exact (fun k_ hk=>Kd.zM (g:=fE) (o:=.cells #[.slice dN bn.length dM,.string bF,.string bD,.slice dV aU.length dL] 25 (0,0)) (by (with_reducible repeat (first|refine ak ?_ _|refine az ?_|refine au ?_ _));exact cu.out) k_ hk))
            (case aO=>exact (by (with_reducible repeat (first|apply Kd.jl|apply Kd.jk|apply Kd.jK));exact Kd.mX iQ.out (fun _ hk=>hk.1.2.2)))
            (case aS=>exact (aC (by repeat (first|(with_reducible first|exact HB.out|apply ah|apply ae|apply ag|refine aj ?_ iW.out)|exact HB.out))))
            (case aL=>have:=ZM.out;omega)
            intro v131 WL ho hb hg hat
            rw [← ZF.out] at ho
            have dE:=af.mk (uG (g:=fE) (o:=.cells #[.slice dN bn.length dM,.string bF,.string bD,.slice dV aU.length dL] 25 (0,0)) (by (with_reducible repeat (first|refine ak ?_ _|refine az ?_|refine au ?_ _));exact cu.out) hg (Kd.Ur iQ.out cu.out (by decide)))
            have dG:=af.mk (Kd.Pq (ok:=(fun k_=>k_ ≠ fE)) (by (with_reducible repeat (first|apply Kd.jl|apply Kd.jk|apply Kd.jK));exact Kd.mX GG.out (fun _ hk=>⟨hk.2,hk.1⟩)) hg hat)
            have dH:=af.mk (hb)
            have eX:=af.mk (ho)
            clear cu
            clear GG
            clear HB
            clear iQ
            have cu:=dE
            have GG:=dG
            have HB:=dH
            have ZX:=eX
            clear dE dG dH eX
            clear ho hb hg hat
            refine hK.out _ _ ⟨(ax cu.out 0).trans rfl,(ax cu.out 1).trans rfl,(ax cu.out 2).trans rfl,(ax cu.out 3).trans rfl⟩ (fun hHeld=>?_)
            clear hK K
            refine kY (a':=?_) ?_ ?_
            rotate_left
            · show Act.put _ (some 35) _=_
              simp only [Act.put,List.setIfInBounds_toArray,List.set_cons_zero,List.set_cons_succ,aX,aZ]
              rfl
            refine bU (i:=11) (N:=some 4) (v:=?_) (a':=?_) #[true,true,true,true,true,true,true,true,true,true,true,true] rfl rfl (bf eU.out (by kernel_rfl)) (fun _ _ _ h=>h) (Or.inl ⟨by rfl,?_⟩) ?_ ?_
            rotate_left
            · intro w'
              go_simp
              with_reducible rfl
            rotate_left
            · simp only [Act.put,List.setIfInBounds_toArray,List.set_cons_zero,List.set_cons_succ,aX,aZ]
              rfl
            refine wR (oG eU.out (by kernel_rfl)) ?_
            have DV:WL.cell? ⟨fE,0,none⟩=some (.slice dN bn.length dM):=(ax cu.out 0).trans rfl
            have DU:WL.cell? ⟨fE,1,none⟩=some (.string bF):=(ax cu.out 1).trans rfl
            have DT:WL.cell? ⟨fE,2,none⟩=some (.string bD):=(ax cu.out 2).trans rfl
            have DR:WL.cell? ⟨fE,3,none⟩=some (.slice dV aU.length dL):=(ax cu.out 3).trans rfl
            have Dc:=ai cu.out 0
            have C9:=ai cu.out 1
            have CZ:=ai cu.out 2
            have CY:=ai cu.out 3
            try go_wp2
            go_loopg [4,39] k1 (fun kq v4 v39 w'=>∃ (Aj:List (List ByteArray)) (gU:Int),v39=.int .i64 gU∧af (aY.l1 kq Aj aU (aU.length:Int) gU=some (r1,r2))∧af (kq≤k1)∧af (Kd.N (Kd.slice 9 Kd.string) 22 w' w.heap.size (fun k_=>k_ ≠ fE) v4 Aj)∧af (w'.heap[fE]? = some (.cells #[(.slice dN bn.length dM),.string bF,.string bD,(.slice dV aU.length dL)] 25 (0,0)))∧af (Below w.heap.size w w'))
            case atStart=>exact ⟨(WA),(0),(by first|rfl|(simp;done)|(simp [*];done)),H',⟨Nat.le_refl _⟩,⟨by (with_reducible repeat (first|apply Kd.jl|apply Kd.jk|apply Kd.jK));exact ZX.out⟩,⟨by (with_reducible repeat (first|refine ak ?_ _|refine az ?_|refine au ?_ _));exact cu.out⟩,⟨by repeat (first|(with_reducible first|exact HB.out|apply ah|apply ae|apply ag|refine aj ?_ iW.out)|exact HB.out)⟩⟩
            case round =>
              clear H'
              try clear c1
              try clear p1
              try clear q1
              try clear hx1
              try clear p2
              try clear c3
              try clear p6
              try clear c8
              try clear zS
              try clear c9
              try clear VR
              try clear c10
              try clear O1
              try clear c11
              try clear p11
              try clear q11
              try clear aiB
              try clear c12
              try clear c13
              try clear c18
              try clear DV
              try clear DU
              try clear DT
              try clear DR
              try clear NS
              try clear NR
              try clear NQ
              try clear NP
              try clear NM
              try clear NL
              try clear NK
              try clear NJ
              try clear Dc
              try clear C9
              try clear CZ
              try clear CY
              try clear Nw
              try clear Nv
              try clear Nu
              try clear Ns
              try clear Nr
              try clear Nq
              try clear Np
              try clear Nl
              try clear yx
              try clear Qw
              try clear p2
              try clear Qu
              obtain ⟨Aj,gU,rfl,HA,EK,iQ,cu,HB⟩:=hrel
              cases gk with
              | zero=>exact absurd HA.out (by simp [aY.l1])
              | succ k2 =>
                have H:=HA.out
                clear HA
                simp only [aY.l1] at H
                by_cases Wu:gU < (aU.length:Int)
                · rw [if_pos Wu] at H
                  have Y9:decide (gU < (aU.length:Int))=true:=decide_eq_true Wu
                  clear Wu
                  by_cases c34:0≤gU
                  · rw [if_pos c34] at H
                    have UW:decide (0≤gU)=true:=decide_eq_true c34
                    clear c34
                    by_cases Ug:gU < (aU.length:Int)
                    · rw [if_pos Ug] at H
                      have Y8:decide (gU < (aU.length:Int))=true:=decide_eq_true Ug
                      clear Ug
                      replace H:=Option.bind_eq_some_iff.mp H
                      obtain ⟨t135,aal,H⟩:=H
                      replace H:(if Aj.length < 5864062014805 then (aY.l1 k2 (Aj++[t135]) aU (aU.length:Int) (wrap64 (gU+1))) else (none))=some (r1,r2):=H
                      have A36:=af.mk aal
                      clear aal
                      by_cases c37:Aj.length < 5864062014805
                      · rw [if_pos c37] at H
                        have ZJ:=af.mk c37
                        clear c37
                        obtain ⟨Wy,FQ⟩:∃ y_:List (List ByteArray),y_=(Aj++[t135]):=⟨_,rfl⟩
                        replace H:(aY.l1 k2 Wy aU (aU.length:Int) (wrap64 (gU+1)))=some (r1,r2):=by first|(rw [FQ];with_reducible exact H)|(have tX:=(Option.bind_some _ _).symm.trans H;rw [FQ];with_reducible exact tX)|(have tX:=(Option.bind_some _ _).symm.trans H;with_reducible exact tX)|with_reducible exact H|(rw [FQ];exact H)|exact H
                        have ZE:=af.mk FQ
                        clear FQ
                        have H':=af.mk H
                        clear H
                        have Vp:0≤(gU:Int):=of_decide_eq_true (by first|(with_reducible assumption)|assumption)
                        have Vm:gU < (aU.length:Int):=of_decide_eq_true (by first|(with_reducible assumption)|assumption)
                        obtain ⟨BF,af5,CS,CQ,CP,CO,CJ⟩:=lI kU.out gU Vp Vm
                        cases af5
                        replace CS:=(HB.out.cell (World.block_lt_of_cell? w _ CS)).trans CS
                        replace CQ:=(HB.out.cell (World.block_lt_of_cell? w _ CQ)).trans CQ
                        replace CP:=(HB.out.cell (World.block_lt_of_cell? w _ CP)).trans CP
                        replace CO:=(HB.out.cell (World.block_lt_of_cell? w _ CO)).trans CO
                        replace CJ:=(HB.out.cell (World.block_lt_of_cell? w _ CJ)).trans CJ
                        replace Vp:=eq_true Vp
                        replace Vm:=eq_true Vm
                        go_wp2_with (first|((with_reducible refine dX (N:=8) rfl ?_);refine eG ?hg (N:=8) ?hd (cs:=#[.int .u8 0,.int .u8 0,.int .u8 0,.int .u8 0,.int .i64 0]) (t:=35) ?hr ?_;(case hd=>rfl);(case hg=>rfl);(case hr=>first|(go_simp;done)|(go_simp;rfl));intro lg hg GU hbox hb;have dE:=af.mk (Kd.uJ (Kd.Po (by (with_reducible repeat (first|apply Kd.jl|apply Kd.jk|apply Kd.jK));exact iQ.out) lg (Nat.le_of_eq hg.symm)) hb);have dG:=af.mk (aQ (g:=fE) (o:=.cells #[.slice dN bn.length dM,.string bF,.string bD,.slice (some BF) aU.length dL] 25 (0,0)) (by (with_reducible repeat (first|refine ak ?_ _|refine az ?_|refine au ?_ _));exact cu.out) hb);have dH:=af.mk (aI (by repeat (first|(with_reducible first|exact HB.out|apply ah|apply ae|apply ag|refine aj ?_ iW.out)|exact HB.out)) hb);have eX:=af.mk (hbox);have gB:=af.mk ((by rw [hg];exact (aC (by repeat (first|(with_reducible first|exact HB.out|apply ah|apply ae|apply ag|refine aj ?_ iW.out)|exact HB.out))):w.heap.size≤lg));have iH:=af.mk ((by rw [hg];exact (aC (by repeat (first|(with_reducible first|exact HB.out|apply ah|apply ae|apply ag|refine aj ?_ iW.out)|exact HB.out))):w.heap.size≤lg));have kL:=af.mk ((by rw [hg];exact Nat.ne_of_lt (fG (g:=fE) (o:=.cells #[.slice dN bn.length dM,.string bF,.string bD,.slice (some BF) aU.length dL] 25 (0,0)) (by (with_reducible repeat (first|refine ak ?_ _|refine az ?_|refine au ?_ _));exact cu.out)):fE ≠ lg));have oO:=af.mk ((by rw [hg];exact Nat.ne_of_gt (fG (g:=fE) (o:=.cells #[.slice dN bn.length dM,.string bF,.string bD,.slice (some BF) aU.length dL] 25 (0,0)) (by (with_reducible repeat (first|refine ak ?_ _|refine az ?_|refine au ?_ _));exact cu.out)):lg ≠ fE));clear iQ;clear cu;clear HB;have iQ:=dE;have cu:=dG;have HB:=dH;have mF:=eX;have ahW:=gB;have BI:=iH;have oI:=kL;have Ll:=oO;clear dE dG dH eX gB iH kL oO;clear hb hbox hg;have Xd:=Ll.out;have Xa:=oI.out;have SL:GU.cell? ⟨lg,0,none⟩=some (.int .u8 0):=(ax mF.out 0).trans rfl;have SK:GU.cell? ⟨lg,1,none⟩=some (.int .u8 0):=(ax mF.out 1).trans rfl;have SI:GU.cell? ⟨lg,2,none⟩=some (.int .u8 0):=(ax mF.out 2).trans rfl;have SH:GU.cell? ⟨lg,3,none⟩=some (.int .u8 0):=(ax mF.out 3).trans rfl;have aex:GU.cell? ⟨lg,4,none⟩=some (.int .i64 0):=(ax mF.out 4).trans rfl;have Q5:=ai mF.out 0;have Q4:=ai mF.out 1;have Q3:=ai mF.out 2;have QZ:=ai mF.out 3;have acu:=ai mF.out 4)|((with_reducible refine bG (f:=14) rfl ?_);refine eP (some 45) rfl rfl Tryd.func14 (by kernel_rfl) rfl #[.agg #[.int .u8 ((aN aU gU).f0),.int .u8 ((aN aU gU).f1),.int .u8 ((aN aU gU).f2),.int .u8 ((aN aU gU).f3),.int .i64 ((aN aU gU).f4)]] rfl (by (try simp only [List.map_toArray,List.map_cons,List.map_nil]);first|done|rfl|(simp only [List.length_drop,List.length_take];rfl)) ?_;(with_reducible refine (l7.calls ((aN aU gU).f0) ((aN aU gU).f1) ((aN aU gU).f2) ((aN aU gU).f3) ((aN aU gU).f4) t135 _ ?di A36.out).mono ?_);(case di=>exact Kd.bP lu.out (by repeat (first|(with_reducible first|exact HB.out|apply ah|apply ae|apply ag|refine aj ?_ iW.out|refine aj ?_ BI.out)|exact HB.out)));rintro e w41 ⟨ait,rfl,ho0,hb⟩;refine ⟨_,rfl,?_⟩;have dE:=af.mk (Kd.mY (by (with_reducible repeat (first|apply Kd.jl|apply Kd.jk|apply Kd.jK));exact (Kd.mX (Kd.Gy (p:=⟨lg,4,none⟩) (Kd.Gy (p:=⟨lg,3,none⟩) (Kd.Gy (p:=⟨lg,2,none⟩) (Kd.Gy (p:=⟨lg,1,none⟩) (Kd.Gy (p:=⟨lg,0,none⟩) (Kd.mX iQ.out (fun k_ hk=>(⟨hk,hk.2⟩:_∧k_ ≠ lg))) (fun _ hk=>hk.2) (.int .u8 ((aN aU gU).f0))) (fun _ hk=>hk.2) (.int .u8 ((aN aU gU).f1))) (fun _ hk=>hk.2) (.int .u8 ((aN aU gU).f2))) (fun _ hk=>hk.2) (.int .u8 ((aN aU gU).f3))) (fun _ hk=>hk.2) (.int .i64 ((aN aU gU).f4))) (fun _ h_=>h_.1))) (Kd.iM ho0) hb);have dG:=af.mk (Kd.dS ho0 (aC (by repeat (first|(with_reducible first|exact HB.out|apply ah|apply ae|apply ag|refine aj ?_ iW.out|refine aj ?_ BI.out)|exact HB.out))));have dH:=af.mk (aQ (g:=fE) (o:=.cells #[.slice dN bn.length dM,.string bF,.string bD,.slice (some BF) aU.length dL] 25 (0,0)) (by (with_reducible repeat (first|refine ak ?_ _|refine az ?_|refine au ?_ _));refine fD ?_ oI.out _;(with_reducible repeat (first|refine ak ?_ _|refine az ?_|refine au ?_ _));refine fD ?_ oI.out _;(with_reducible repeat (first|refine ak ?_ _|refine az ?_|refine au ?_ _));refine fD ?_ oI.out _;(with_reducible repeat (first|refine ak ?_ _|refine az ?_|refine au ?_ _));refine fD ?_ oI.out _;(with_reducible repeat (first|refine ak ?_ _|refine az ?_|refine au ?_ _));refine fD ?_ oI.out _;(with_reducible repeat (first|refine ak ?_ _|refine az ?_|refine au ?_ _));exact cu.out) hb);have eX:=af.mk (aQ (g:=lg) (o:=.cells #[.int .u8 ((aN aU gU).f0),.int .u8 ((aN aU gU).f1),.int .u8 ((aN aU gU).f2),.int .u8 ((aN aU gU).f3),.int .i64 ((aN aU gU).f4)] 35 (0,0)) (by (with_reducible repeat (first|refine ak ?_ _|refine az ?_|refine au ?_ _));refine dF (cs:=#[.int .u8 ((aN aU gU).f0),.int .u8 ((aN aU gU).f1),.int .u8 ((aN aU gU).f2),.int .u8 ((aN aU gU).f3),.int .i64 0]) ?_ 4 _ rfl;(with_reducible repeat (first|refine ak ?_ _|refine az ?_|refine au ?_ _));refine dF (cs:=#[.int .u8 ((aN aU gU).f0),.int .u8 ((aN aU gU).f1),.int .u8 ((aN aU gU).f2),.int .u8 0,.int .i64 0]) ?_ 3 _ rfl;(with_reducible repeat (first|refine ak ?_ _|refine az ?_|refine au ?_ _));refine dF (cs:=#[.int .u8 ((aN aU gU).f0),.int .u8 ((aN aU gU).f1),.int .u8 0,.int .u8 0,.int .i64 0]) ?_ 2 _ rfl;(with_reducible repeat (first|refine ak ?_ _|refine az ?_|refine au ?_ _));refine dF (cs:=#[.int .u8 ((aN aU gU).f0),.int .u8 0,.int .u8 0,.int .u8 0,.int .i64 0]) ?_ 1 _ rfl;(with_reducible repeat (first|refine ak ?_ _|refine az ?_|refine au ?_ _));refine dF (cs:=#[.int .u8 0,.int .u8 0,.int .u8 0,.int .u8 0,.int .i64 0]) ?_ 0 _ rfl;(with_reducible repeat (first|refine ak ?_ _|refine az ?_|refine au ?_ _));exact mF.out) hb);have gB:=af.mk (aI (by repeat (first|(with_reducible first|exact HB.out|apply ah|apply ae|apply ag|refine aj ?_ iW.out|refine aj ?_ BI.out)|exact HB.out)) hb);clear iQ;clear cu;clear mF;clear HB;have iQ:=dE;have JP:=dG;have cu:=dH;have mF:=eX;have HB:=gB;clear dE dG dH eX gB;(try clear hb);(try clear hb2);(try clear hk);(try clear hi);(try clear ho0);obtain ⟨agp,af8,afR⟩:=Kd.dP JP.out;subst afR)|((with_reducible refine jR (b:=.append) (xs:=#[.tmp 43,.tmp 46]) rfl ?_);at_builtin;refine Kd.Gz (Kd.slice 9 Kd.string) (w0:=w) w.heap.size rfl (.tmp 43) (.tmp 46) 37 22 (.slice none 0 0) 24 rfl Tryd.underlying37 info22 rfl (by decide) (by omega) u4 Aj t135 [.slice agp t135.length af8] (fun k_=>k_ ≠ fE∧k_ ≠ lg) (fun k_=>((fun k_=>k_ ≠ fE∧k_ ≠ lg)) k_∧some k_ ≠ (u4:Value).ownBlock) rfl rfl ?aP (fun _ hk=>hk) ?aF ?aO ?aB ?aS ?aL ?_;(case aP=>exact (Kd.ql (Kd.df (Kd.dC (ok':=(fun k_=>((fun k_=>k_ ≠ fE∧k_ ≠ lg)) k_∧some k_ ≠ (u4:Value).ownBlock)) (Kd.dI (Kd.dI (Kd.lN (JP.out) (Kd.qh iQ.out) (by decide)) cu.out (by decide)) mF.out (by decide)) (fun k_ hk=>⟨⟨hk.1.2,hk.2⟩,hk.1.1.2⟩))).2.1 (Kd.R_F (Kd.dC (ok':=(fun k_=>((fun k_=>k_ ≠ fE∧k_ ≠ lg)) k_∧some k_ ≠ (u4:Value).ownBlock)) (Kd.dI (Kd.dI (Kd.lN (JP.out) (Kd.qh iQ.out) (by decide)) cu.out (by decide)) mF.out (by decide)) (fun k_ hk=>⟨⟨hk.1.2,hk.2⟩,hk.1.1.2⟩)))));(case aB=>exact (by repeat (first|(with_reducible first|exact HB.out|apply ah|apply ae|apply ag|refine aj ?_ iW.out|refine aj ?_ BI.out)|exact HB.out)));(case aF=>exact (fun k_ hk=>⟨Kd.zM (g:=fE) (o:=.cells #[.slice dN bn.length dM,.string bF,.string bD,.slice (some BF) aU.length dL] 25 (0,0)) (by (with_reducible repeat (first|refine ak ?_ _|refine az ?_|refine au ?_ _));exact cu.out) k_ hk,Kd.zM (g:=lg) (o:=.cells #[.int .u8 ((aN aU gU).f0),.int .u8 ((aN aU gU).f1),.int .u8 ((aN aU gU).f2),.int .u8 ((aN aU gU).f3),.int .i64 ((aN aU gU).f4)] 35 (0,0)) (by (with_reducible repeat (first|refine ak ?_ _|refine az ?_|refine au ?_ _));exact mF.out) k_ hk⟩));(case aO=>exact (by (with_reducible repeat (first|apply Kd.jl|apply Kd.jk|apply Kd.jK));exact Kd.mX iQ.out (fun _ hk=>⟨hk.1.1,hk.1.2⟩)));(case aS=>exact (aC (by repeat (first|(with_reducible first|exact HB.out|apply ah|apply ae|apply ag|refine aj ?_ iW.out|refine aj ?_ BI.out)|exact HB.out))));(case aL=>have:=ZJ.out;omega);intro v139 w42 ho hb hg hat;rw [← ZE.out] at ho;have dE:=af.mk (uG (g:=fE) (o:=.cells #[.slice dN bn.length dM,.string bF,.string bD,.slice (some BF) aU.length dL] 25 (0,0)) (by (with_reducible repeat (first|refine ak ?_ _|refine az ?_|refine au ?_ _));exact cu.out) hg (Kd.Ur iQ.out cu.out (by decide)));have dG:=af.mk (uG (g:=lg) (o:=.cells #[.int .u8 ((aN aU gU).f0),.int .u8 ((aN aU gU).f1),.int .u8 ((aN aU gU).f2),.int .u8 ((aN aU gU).f3),.int .i64 ((aN aU gU).f4)] 35 (0,0)) (by (with_reducible repeat (first|refine ak ?_ _|refine az ?_|refine au ?_ _));exact mF.out) hg (Kd.Ur iQ.out mF.out (by decide)));have dH:=af.mk (hb);have eX:=af.mk (ho);clear cu;clear mF;clear HB;clear iQ;clear JP;have cu:=dE;have mF:=dG;have HB:=dH;have ZW:=eX;clear dE dG dH eX;clear ho hb hg hat))
                        go_roundg k2
                        case measure=>have:=AA.out;have:=EK.out;omega
                        case rel=>exact ⟨(Wy),(wrap64 (gU+1)),(by first|rfl|(simp;done)|(simp [*];done)),H',⟨by have:=AA.out;have:=EK.out;omega⟩,⟨by (with_reducible repeat (first|apply Kd.jl|apply Kd.jk|apply Kd.jK));exact Kd.mX ZW.out (fun _ hk=>hk.1)⟩,⟨by (with_reducible repeat (first|refine ak ?_ _|refine az ?_|refine au ?_ _));exact cu.out⟩,⟨by repeat (first|(with_reducible first|exact HB.out|apply ah|apply ae|apply ag|refine aj ?_ iW.out|refine aj ?_ BI.out)|exact HB.out)⟩⟩
                      · rw [if_neg c37] at H
                        exact absurd H (by simp)
                    · rw [if_neg Ug] at H
                      exact absurd H (by simp)
                  · rw [if_neg c34] at H
                    exact absurd H (by simp)
                · rw [if_neg Wu] at H
                  have Y9:decide (gU < (aU.length:Int))=false:=decide_eq_false Wu
                  clear Wu
                  replace H:=Option.bind_eq_some_iff.mp H
                  obtain ⟨t141,aak,H⟩:=H
                  replace H:(some (t141,0))=some (r1,r2):=H
                  have A44:=af.mk aak
                  clear aak
                  simp only [Option.some.injEq,Prod.mk.injEq] at H
                  obtain ⟨rfl,rfl⟩:=H
                  obtain ⟨agn,af7,afQ⟩:=Kd.EI iQ.out
                  subst afQ
                  go_wp2_with (first|((with_reducible refine bG (f:=15) rfl ?_);refine eP (some 50) rfl rfl Tryd.func15 (by kernel_rfl) rfl #[.slice agn Aj.length af7] rfl (by (try simp only [List.map_toArray,List.map_cons,List.map_nil]);first|done|rfl|(simp only [List.length_drop,List.length_take];rfl)) ?_;(with_reducible refine (jW.calls _ _ Aj t141 _ ?di ?fZ A44.out).mono ?_);(case di=>repeat (first|exact (Kd.zV iQ.out).2.2|(with_reducible refine Kd.cZ ?_ _)|(with_reducible refine Kd.cO ?_ _)|(with_reducible refine Kd.dK ?_)));(case fZ=>exact (Kd.zV iQ.out).2.1);rintro e WI ⟨rfl,hb⟩;refine ⟨_,rfl,?_⟩;have dE:=af.mk (Kd.uJ (by (with_reducible repeat (first|apply Kd.jl|apply Kd.jk|apply Kd.jK));exact iQ.out) hb);have dG:=af.mk (aQ (g:=fE) (o:=.cells #[.slice dN bn.length dM,.string bF,.string bD,.slice dV aU.length dL] 25 (0,0)) (by (with_reducible repeat (first|refine ak ?_ _|refine az ?_|refine au ?_ _));exact cu.out) hb);have dH:=af.mk (aI (by repeat (first|(with_reducible first|exact HB.out|apply ah|apply ae|apply ag|refine aj ?_ iW.out)|exact HB.out)) hb);clear iQ;clear cu;clear HB;have iQ:=dE;have cu:=dG;have HB:=dH;clear dE dG dH;(try clear hb);(try clear hb2);(try clear hk);(try clear hi)))
                  go_ret2
                  exact ⟨by first|rfl|(simp [bT,bQ] <;> rfl)|(simp [*,bT,bQ] <;> rfl),by repeat (first|(with_reducible first|exact HB.out|apply ah|apply ae|apply ag|refine aj ?_ iW.out)|exact HB.out)⟩
          · rw [if_neg c18] at H
            exact absurd H (by simp)
  · replace c3:=Bool.eq_false_iff.mpr c3
    subst c3
    have H1:(some ((⟨#[]⟩:ByteArray),2))=some (r1,r2):=by rw [if_neg (show ¬ (false=true) by decide)] at H;exact H
    clear H
    have H:=H1
    clear H1
    simp only [Option.some.injEq,Prod.mk.injEq] at H
    obtain ⟨rfl,rfl⟩:=H
    go_enter Tryd.func8,Tryd.ntmps8
    go_wp2_with (first|((with_reducible refine dX (N:=1) rfl ?_);refine eG ?hg (N:=1) ?hd (cs:=#[.slice dN bn.length dM,.string bF,.string bD,.slice dV aU.length dL]) (t:=25) ?hr ?_;(case hd=>rfl);(case hg=>rfl);(case hr=>first|(go_simp;done)|(go_simp;rfl));intro fE hg WH hbox hb;have dE:=af.mk (aI (by repeat (first|(with_reducible first|exact HB.out|apply ah|apply ae|apply ag)|exact HB.out)) hb);have dG:=af.mk (hbox);have dH:=af.mk ((by rw [hg];exact (aC (by repeat (first|(with_reducible first|exact HB.out|apply ah|apply ae|apply ag)|exact HB.out))):w.heap.size≤fE));have eX:=af.mk ((by rw [hg];exact (aC (by repeat (first|(with_reducible first|exact HB.out|apply ah|apply ae|apply ag)|exact HB.out))):w.heap.size≤fE));clear HB;have HB:=dE;have cu:=dG;have aae:=dH;have iW:=eX;clear dE dG dH eX;clear hb hbox hg;have Sr:WH.cell? ⟨fE,0,none⟩=some (.slice dN bn.length dM):=(ax cu.out 0).trans rfl;have Sm:WH.cell? ⟨fE,1,none⟩=some (.string bF):=(ax cu.out 1).trans rfl;have Sl:WH.cell? ⟨fE,2,none⟩=some (.string bD):=(ax cu.out 2).trans rfl;have Sj:WH.cell? ⟨fE,3,none⟩=some (.slice dV aU.length dL):=(ax cu.out 3).trans rfl;have QQ:=ai cu.out 0;have QP:=ai cu.out 1;have QO:=ai cu.out 2;have QN:=ai cu.out 3)|((with_reducible refine bG (f:=12) rfl ?_);refine eP (some 10) rfl rfl Tryd.func12 (by kernel_rfl) rfl #[.agg #[.slice dN bn.length dM,.string bF,.string bD,.slice dV aU.length dL]] rfl (by (try simp only [List.map_toArray,List.map_cons,List.map_nil]);first|done|rfl|(simp only [List.length_drop,List.length_take];rfl)) ?_;(with_reducible refine (dR.calls k _ _ bn bF bD _ _ aU false _ ?di ?fZ ?gq ?gp ?gI A2.out).mono ?_);(case di=>repeat (first|exact (Kd.bP kF.out HB.out)|(with_reducible refine Kd.cZ ?_ _)|(with_reducible refine Kd.cO ?_ _)|(with_reducible refine Kd.dK ?_)));(case fZ=>exact ny.out);(case gq=>repeat (first|exact (Kd.bP kU.out HB.out)|(with_reducible refine Kd.cZ ?_ _)|(with_reducible refine Kd.cO ?_ _)|(with_reducible refine Kd.dK ?_)));(case gp=>exact ni.out);(case gI=>repeat (first|exact (Kd.bP lu.out HB.out)|(with_reducible refine Kd.cZ ?_ _)|(with_reducible refine Kd.cO ?_ _)|(with_reducible refine Kd.dK ?_)));rintro e w49 ⟨rfl,hb⟩;refine ⟨_,rfl,?_⟩;have dE:=af.mk (aQ (g:=fE) (o:=.cells #[.slice dN bn.length dM,.string bF,.string bD,.slice dV aU.length dL] 25 (0,0)) (by (with_reducible repeat (first|refine ak ?_ _|refine az ?_|refine au ?_ _));exact cu.out) hb);have dG:=af.mk (aI (by repeat (first|(with_reducible first|exact HB.out|apply ah|apply ae|apply ag|refine aj ?_ iW.out)|exact HB.out)) hb);clear cu;clear HB;have cu:=dE;have HB:=dG;clear dE dG;(try clear hb);(try clear hb2);(try clear hk);(try clear hi)))
    go_ret2
    exact ⟨by first|rfl|(simp [bT,bQ] <;> rfl)|(simp [*,bT,bQ] <;> rfl),by repeat (first|(with_reducible first|exact HB.out|apply ah|apply ae|apply ag|refine aj ?_ iW.out)|exact HB.out)⟩
def oK.f (a0:ByteArray):Option (Bool):=if (a0.size:Int)≤30 then ((iL.f a0 (⟨#[97,98,99,100,101,102,103,104,105,106,107,108,109,110,111,112,113,114,115,116,117,118,119,120,121,122,48,49,50,51,52,53,54,55,56,57,45]⟩:ByteArray)).bind fun t142=>(some (t142.toList == ([]:List UInt8)))) else (some false)
set_option maxHeartbeats 8000000 in
set_option maxRecDepth 100000 in
theorem oK.calls (a0:ByteArray) (r:Bool) (w:World) (h:oK.f a0=some r) :
    Calls Tryd.prog 31 #[.string a0] w fun e w'=>e=.returned (.bool r)∧Below w.heap.size w w':=by
  have HB:=af.mk (Below.refl w.heap.size w)
  have H:(if (a0.size:Int)≤30 then ((iL.f a0 (⟨#[97,98,99,100,101,102,103,104,105,106,107,108,109,110,111,112,113,114,115,116,117,118,119,120,121,122,48,49,50,51,52,53,54,55,56,57,45]⟩:ByteArray)).bind fun t142=>(some (t142.toList == ([]:List UInt8)))) else (some false))=some r:=h
  clear h
  by_cases c2:(a0.size:Int)≤30
  · rw [if_pos c2] at H
    have EC:decide ((a0.size:Int)≤30)=true:=decide_eq_true c2
    have Ez:decide (a0.size≤30)=true:=decide_eq_true (by omega)
    clear c2
    replace H:=Option.bind_eq_some_iff.mp H
    obtain ⟨t142,Ah,H⟩:=H
    replace H:(some (t142.toList == ([]:List UInt8)))=some r:=H
    have A3:=af.mk Ah
    clear Ah
    obtain rfl:=Option.some.inj H
    go_enter Tryd.func31,Tryd.ntmps31
    go_wp2_with (first|(go_at_call 35;(with_reducible refine (iL.calls a0 (⟨#[97,98,99,100,101,102,103,104,105,106,107,108,109,110,111,112,113,114,115,116,117,118,119,120,121,122,48,49,50,51,52,53,54,55,56,57,45]⟩:ByteArray) t142 _ A3.out).mono ?_);rintro e w4 ⟨rfl,hb⟩;have dE:=af.mk (aI (by repeat (first|(with_reducible first|exact HB.out|apply ah|apply ae|apply ag)|exact HB.out)) hb);clear HB;have HB:=dE;clear dE;(try clear hb);(try clear hb2);(try clear hk);(try clear hi)))
    go_ret
    exact ⟨by first|rfl|(simp [bT,bQ] <;> rfl)|(simp [*,bT,bQ] <;> rfl),by repeat (first|(with_reducible first|exact HB.out|apply ah|apply ae|apply ag)|exact HB.out)⟩
  · rw [if_neg c2] at H
    have EC:decide ((a0.size:Int)≤30)=false:=decide_eq_false c2
    have Ez:decide (a0.size≤30)=false:=decide_eq_false (by omega)
    clear c2
    obtain rfl:=Option.some.inj H
    go_enter Tryd.func31,Tryd.ntmps31
    go_wp2
    go_ret
    exact ⟨by first|rfl|(simp [bT,bQ] <;> rfl)|(simp [*,bT,bQ] <;> rfl),by repeat (first|(with_reducible first|exact HB.out|apply ah|apply ae|apply ag)|exact HB.out)⟩
end Go.Proofs.YtkclndkbccbhaaaDoor.P
end
