/- Parts of the proof of CodeParses: what the functions that it reaches compute, and plain facts about that. -/
import Derived.Test.YtkclndkbccbhaaaGreatDoorRac
import Derived.Test.YtkclndkbccbhaaaGreatDoorRad
import Derived.Test.YtkclndkbccbhaaaGreatDoorRae
set_option linter.unusedVariables false
set_option linter.unusedSimpArgs false
section
namespace Go.Proofs.YtkclndkbccbhaaaGreatDoor.P
open Go.RowKit Go.Proofs.ag.bK Go.Proofs.ag.dV Go.Proofs.ag.fE
attribute [local go_sem] lI lG ny ni jW jV lH lF
mutual
def bW.l0:Nat→List (List ByteArray)→List ByteArray→Int→Int→List ByteArray→ByteArray→ByteArray→List (jR)→Option (ByteArray × Int)
  | 0,_,_,_,_,_,_,_,_=>none
  | k+1,x4,x13,x14,x15,Tq,KL,KJ,FO=>if x15 < x14 then (if 0≤x15 then (if x15 < (x13.length:Int) then (if x4.length < 5864062014805 then (bW.l0 k (x4++[(([(⟨#[116,121,112,101]⟩:ByteArray),eF ByteArray.empty x13 x15]:List ByteArray))]) x13 x14 (wrap64 (x15+1)) Tq KL KJ FO) else (none)) else (none)) else (none)) else ((o7.f KL).bind fun t119=>((o7.f KJ).bind fun t123=>((some (([(([(⟨#[108,111,99,97,108,115]⟩:ByteArray),t119]:List ByteArray)),(([(⟨#[103,108,111,98,97,108,115]⟩:ByteArray),t123]:List ByteArray))]:List (List ByteArray)):List (List ByteArray))).bind fun uU=>(if x4.length+uU.length < 5864062014805 then (bW.l1 k (x4++uU) FO (FO.length:Int) 0) else (none)))))
def bW.l1:Nat→List (List ByteArray)→List (jR)→Int→Int→Option (ByteArray × Int)
  | 0,_,_,_,_=>none
  | k+1,x4,Y3,x38,x39=>if x39 < x38 then (if 0≤x39 then (if x39 < (Y3.length:Int) then ((uf.f ((aU Y3 x39).f0) ((aU Y3 x39).f1) ((aU Y3 x39).f2) ((aU Y3 x39).f3) ((aU Y3 x39).f4)).bind fun t135=>(if x4.length < 5864062014805 then (bW.l1 k (x4++[t135]) Y3 x38 (wrap64 (x39+1))) else (none))) else (none)) else (none)) else ((uX.f x4).bind fun t141=>(some (t141,0)))
end
def bW.f (k:Nat) (dn:List ByteArray) (bU:ByteArray) (bV:ByteArray) (bM:List (jR)):Option (ByteArray × Int):=(eY.f k dn bU bV bM).bind fun t111=>(if t111=true then (bW.l0 k ([]:List (List ByteArray)) dn (dn.length:Int) 0 dn bU bV bM) else (some ((⟨#[]⟩:ByteArray),2)))
theorem bW.iq:∀ k,(∀ y0 y1 y2 y3 y4 y5 y6 y7,dC (bW.l0 k y0 y1 y2 y3 y4 y5 y6 y7) (bW.l0 (k+1) y0 y1 y2 y3 y4 y5 y6 y7))∧(∀ y0 y1 y2 y3,dC (bW.l1 k y0 y1 y2 y3) (bW.l1 (k+1) y0 y1 y2 y3))
  | 0=>⟨fun _ _ _ _ _ _ _ _ r h=>by simp [bW.l0] at h,fun _ _ _ _ r h=>by simp [bW.l1] at h⟩
  | k+1=>by
    obtain ⟨jY,ih1⟩:=bW.iq k
    refine ⟨?_,?_⟩
    · intro y0 y1 y2 y3 y4 y5 y6 y7
      unfold bW.l0
      repeat' first
      | (with_reducible exact jY _ _ _ _ _ _ _ _)
      | (with_reducible exact ih1 _ _ _ _)
      | (with_reducible exact eY.mono _ _ _ _ _)
      | (with_reducible exact dC.refl _)
      | (with_reducible exact dC.none _)
      | (with_reducible refine dC.ite ?_ ?_)
      | (with_reducible refine dC.bind ?_ (fun _=>?_))
      | exact jY _ _ _ _ _ _ _ _
      | exact ih1 _ _ _ _
      | exact eY.mono _ _ _ _ _
      | exact dC.none _
      | refine dC.ite ?_ ?_
      | refine dC.bind ?_ (fun _=>?_)
    · intro y0 y1 y2 y3
      unfold bW.l1
      repeat' first
      | (with_reducible exact jY _ _ _ _ _ _ _ _)
      | (with_reducible exact ih1 _ _ _ _)
      | (with_reducible exact eY.mono _ _ _ _ _)
      | (with_reducible exact dC.refl _)
      | (with_reducible exact dC.none _)
      | (with_reducible refine dC.ite ?_ ?_)
      | (with_reducible refine dC.bind ?_ (fun _=>?_))
      | exact jY _ _ _ _ _ _ _ _
      | exact ih1 _ _ _ _
      | exact eY.mono _ _ _ _ _
      | exact dC.none _
      | refine dC.ite ?_ ?_
      | refine dC.bind ?_ (fun _=>?_)
theorem bW.mono:∀ a0 a1 a2 a3 k,dC (bW.f k a0 a1 a2 a3) (bW.f (k+1) a0 a1 a2 a3):=by
  intro a0 a1 a2 a3 k
  obtain ⟨jY,ih1⟩:=bW.iq k
  unfold bW.f
  repeat' first
      | (with_reducible exact jY _ _ _ _ _ _ _ _)
      | (with_reducible exact ih1 _ _ _ _)
      | (with_reducible exact eY.mono _ _ _ _ _)
      | (with_reducible exact dC.refl _)
      | (with_reducible exact dC.none _)
      | (with_reducible refine dC.ite ?_ ?_)
      | (with_reducible refine dC.bind ?_ (fun _=>?_))
      | exact jY _ _ _ _ _ _ _ _
      | exact ih1 _ _ _ _
      | exact eY.mono _ _ _ _ _
      | exact dC.none _
      | refine dC.ite ?_ ?_
      | refine dC.bind ?_ (fun _=>?_)
def bW.T9:Bool × List (List Nat × List Nat):=(true,[([],[]),([],[]),([1],[1]),([2],[2]),([3],[3]),([],[]),([5],[5]),([6,3],[6]),([7],[7]),([4,8],[4,8]),([0,9,7],[0,9]),([10,10,0,1,2,3,4,5,6,7,8,9,10],[0,10])])
def bW.B9:List Nat:=[0,0,2,6,14,0,32,110,238,510,1023,2047]
theorem bW.ajy:rJ .any (opsOf Tryz.f9 9)=bW.T9:=by kernel_rfl
theorem bW.aco:sS bW.T9.2 bW.B9=true:=by kernel_rfl
set_option maxHeartbeats 8000000 in
set_option maxRecDepth 100000 in
theorem bW.calls (k:Nat) (iR:Option Addr) (iH:Nat) (dn:List ByteArray) (bU:ByteArray) (bV:ByteArray) (jg:Option Addr) (iG:Nat) (bM:List (jR)) (r1:ByteArray) (r2:Int) (w:World) (BD:Kd.C Kd.string w iR dn.length dn) (BG:dn.length≤iH) (BC:Kd.C k27 w jg bM.length bM) (BF:bM.length≤iG) (lC:Kd.C xE w xG oL.length oL) (h:bW.f k dn bU bV bM=some (r1,r2)) :
    Calls Tryz.prog 9 #[.agg #[.slice iR dn.length iH,.string bU,.string bV,.slice jg bM.length iG]] w fun e w'=>e=.returned (.tuple #[.string r1,.int .i64 r2])∧Below w.heap.size w w':=by
  have Qq:=Tryz.underlying25
  have Oz:=Tryz.underlying27
  have yY:=ae.mk BD
  have NM:=ae.mk BG
  clear BD BG
  have Ak:=ae.mk BC
  have NL:=ae.mk BF
  clear BC BF
  have Ai:=ae.mk lC
  clear lC
  have HB:=ae.mk (Below.refl w.heap.size w)
  have H:((eY.f k dn bU bV bM).bind fun t111=>(if t111=true then (bW.l0 k ([]:List (List ByteArray)) dn (dn.length:Int) 0 dn bU bV bM) else (some ((⟨#[]⟩:ByteArray),2))))=some (r1,r2):=h
  clear h
  replace H:=Option.bind_eq_some_iff.mp H
  obtain ⟨t111,NQ,H⟩:=H
  replace H:(if t111=true then (bW.l0 k ([]:List (List ByteArray)) dn (dn.length:Int) 0 dn bU bV bM) else (some ((⟨#[]⟩:ByteArray),2)))=some (r1,r2):=H
  have A2:=ae.mk NQ
  clear NQ
  by_cases c3:t111=true
  · subst c3
    have H1:(bW.l0 k ([]:List (List ByteArray)) dn (dn.length:Int) 0 dn bU bV bM)=some (r1,r2):=by rw [if_pos rfl] at H;exact H
    clear H
    have H:=H1
    clear H1
    have H':=ae.mk H
    clear H
    go_enter Tryz.func9,Tryz.ntmps9
    go_wp2_with (first|((with_reducible refine fF (N:=1) rfl ?_);refine gu ?hg (N:=1) ?hd (cs:=#[.slice iR dn.length iH,.string bU,.string bV,.slice jg bM.length iG]) (t:=25) ?hr ?_;(case hd=>rfl);(case hg=>rfl);(case hr=>first|(go_simp;done)|(go_simp;rfl));intro fJ hg w4 hbox hb;have dG:=ae.mk (bf (by repeat (first|(with_reducible first|exact HB.out|apply au|apply af|apply aj)|exact HB.out)) hb);have dM:=ae.mk (hbox);have dW:=ae.mk ((by rw [hg];exact (aZ (by repeat (first|(with_reducible first|exact HB.out|apply au|apply af|apply aj)|exact HB.out))):w.heap.size≤fJ));have fK:=ae.mk ((by rw [hg];exact (aZ (by repeat (first|(with_reducible first|exact HB.out|apply au|apply af|apply aj)|exact HB.out))):w.heap.size≤fJ));clear HB;have HB:=dG;have bY:=dM;have ads:=dW;have jL:=fK;clear dG dM dW fK;clear hb hbox hg;have QP:w4.cell? ⟨fJ,0,none⟩=some (.slice iR dn.length iH):=(ax bY.out 0).trans rfl;have QO:w4.cell? ⟨fJ,1,none⟩=some (.string bU):=(ax bY.out 1).trans rfl;have QN:w4.cell? ⟨fJ,2,none⟩=some (.string bV):=(ax bY.out 2).trans rfl;have QM:w4.cell? ⟨fJ,3,none⟩=some (.slice jg bM.length iG):=(ax bY.out 3).trans rfl;have QD:=ay bY.out 0;have QC:=ay bY.out 1;have QB:=ay bY.out 2;have QA:=ay bY.out 3)|((with_reducible refine bQ (f:=18) rfl ?_);refine fZ (some 10) rfl rfl Tryz.func18 (by kernel_rfl) rfl #[.agg #[.slice iR dn.length iH,.string bU,.string bV,.slice jg bM.length iG]] rfl (by (try simp only [List.map_toArray,List.map_cons,List.map_nil]);first|done|rfl|(simp only [List.length_drop,List.length_take];rfl)) ?_;(with_reducible refine (eY.calls k _ _ dn bU bV _ _ bM true _ ?gV ?lD ?xJ ?xI ?xH A2.out).mono ?_);(case gV=>repeat (first|exact (Kd.gY yY.out HB.out)|(with_reducible refine Kd.gZ ?_ _)|(with_reducible refine Kd.gX ?_ _)|(with_reducible refine Kd.jb ?_)));(case lD=>exact NM.out);(case xJ=>repeat (first|exact (Kd.gY Ak.out HB.out)|(with_reducible refine Kd.gZ ?_ _)|(with_reducible refine Kd.gX ?_ _)|(with_reducible refine Kd.jb ?_)));(case xI=>exact NL.out);(case xH=>repeat (first|exact (Kd.gY Ai.out HB.out)|(with_reducible refine Kd.gZ ?_ _)|(with_reducible refine Kd.gX ?_ _)|(with_reducible refine Kd.jb ?_)));rintro e w6 ⟨rfl,hb⟩;refine ⟨_,rfl,?_⟩;have dG:=ae.mk (bH (g:=fJ) (o:=.cells #[.slice iR dn.length iH,.string bU,.string bV,.slice jg bM.length iG] 25 (0,0)) (by (with_reducible repeat (first|refine ah ?_ _|refine ak ?_|refine ai ?_ _));exact bY.out) hb);have dM:=ae.mk (bf (by repeat (first|(with_reducible first|exact HB.out|apply au|apply af|apply aj|refine az ?_ jL.out)|exact HB.out)) hb);clear bY;clear HB;have bY:=dG;have HB:=dM;clear dG dM;(try clear hb);(try clear hb2);(try clear hk);(try clear hi);have QL:w6.cell? ⟨fJ,0,none⟩=some (.slice iR dn.length iH):=(ax bY.out 0).trans rfl;have QK:w6.cell? ⟨fJ,1,none⟩=some (.string bU):=(ax bY.out 1).trans rfl;have QJ:w6.cell? ⟨fJ,2,none⟩=some (.string bV):=(ax bY.out 2).trans rfl;have QI:w6.cell? ⟨fJ,3,none⟩=some (.slice jg bM.length iG):=(ax bY.out 3).trans rfl;have Qz:=ay bY.out 0;have Qy:=ay bY.out 1;have Qx:=ay bY.out 2;have Qw:=ay bY.out 3))
    go_loopg [4,15] k (fun kq v4 v15 w'=>∃ (iT:List (List ByteArray)) (pM:Int),v15=.int .i64 pM∧ae (bW.l0 kq iT dn (dn.length:Int) pM dn bU bV bM=some (r1,r2))∧ae (kq≤k)∧ae (Kd.N (Kd.slice 9 Kd.string) 22 w' w.heap.size (fun k_=>k_ ≠ fJ) v4 iT)∧ae (w'.heap[fJ]? = some (.cells #[(.slice iR dn.length iH),.string bU,.string bV,(.slice jg bM.length iG)] 25 (0,0)))∧ae (Below w.heap.size w w'))
    case atStart=>exact ⟨(([]:List (List ByteArray))),(0),(by first|rfl|(simp;done)|(simp [*];done)),H',⟨Nat.le_refl _⟩,⟨by first|exact Kd.oU _ _ _ _ _|exact Kd.oZ _ _ _ _ _|exact Kd.oQ _ _ _ _ _|exact Kd.oW _ _ _ _ _|exact Kd.jh _ _ _ _ _⟩,⟨by (with_reducible repeat (first|refine ah ?_ _|refine ak ?_|refine ai ?_ _));exact bY.out⟩,⟨by repeat (first|(with_reducible first|exact HB.out|apply au|apply af|apply aj|refine az ?_ jL.out)|exact HB.out)⟩⟩
    case round =>
      clear H'
      try clear c1
      try clear p2
      try clear c3
      try clear QP
      try clear QO
      try clear QN
      try clear QM
      try clear QL
      try clear QK
      try clear QJ
      try clear QI
      try clear QD
      try clear QC
      try clear QB
      try clear QA
      try clear Qz
      try clear Qy
      try clear Qx
      try clear Qw
      obtain ⟨iT,pM,rfl,HA,pJ,jC,bY,HB⟩:=hrel
      cases gk with
      | zero=>exact absurd HA.out (by simp [bW.l0])
      | succ k1 =>
        have H:=HA.out
        clear HA
        simp only [bW.l0] at H
        by_cases c8:pM < (dn.length:Int)
        · rw [if_pos c8] at H
          have ry:decide (pM < (dn.length:Int))=true:=decide_eq_true c8
          clear c8
          by_cases c9:0≤pM
          · rw [if_pos c9] at H
            have EF:decide (0≤pM)=true:=decide_eq_true c9
            clear c9
            by_cases c10:pM < (dn.length:Int)
            · rw [if_pos c10] at H
              have mM:decide (pM < (dn.length:Int))=true:=decide_eq_true c10
              clear c10
              obtain ⟨y113,hy113⟩:∃ y_:List ByteArray,y_=(([(⟨#[116,121,112,101]⟩:ByteArray),eF ByteArray.empty dn pM]:List ByteArray)):=⟨_,rfl⟩
              replace H:(if iT.length < 5864062014805 then (bW.l0 k1 (iT++[y113]) dn (dn.length:Int) (wrap64 (pM+1)) dn bU bV bM) else (none))=some (r1,r2):=by first|(rw [hy113];with_reducible exact H)|(have qX:=(Option.bind_some _ _).symm.trans H;rw [hy113];with_reducible exact qX)|(have qX:=(Option.bind_some _ _).symm.trans H;with_reducible exact qX)|with_reducible exact H|(rw [hy113];exact H)|exact H
              have YK:=ae.mk hy113
              clear hy113
              by_cases c11:iT.length < 5864062014805
              · rw [if_pos c11] at H
                have ac0:=ae.mk c11
                clear c11
                obtain ⟨aa0,IG⟩:∃ y_:List (List ByteArray),y_=(iT++[y113]):=⟨_,rfl⟩
                replace H:(bW.l0 k1 aa0 dn (dn.length:Int) (wrap64 (pM+1)) dn bU bV bM)=some (r1,r2):=by first|(rw [IG];with_reducible exact H)|(have qX:=(Option.bind_some _ _).symm.trans H;rw [IG];with_reducible exact qX)|(have qX:=(Option.bind_some _ _).symm.trans H;with_reducible exact qX)|with_reducible exact H|(rw [IG];exact H)|exact H
                have acP:=ae.mk IG
                clear IG
                have H':=ae.mk H
                clear H
                have Uc:0≤(pM:Int):=of_decide_eq_true (by first|(with_reducible assumption)|assumption)
                have TZ:pM < (dn.length:Int):=of_decide_eq_true (by first|(with_reducible assumption)|assumption)
                obtain ⟨Sv,aki,CQ⟩:=Kd.fO yY.out pM Uc TZ
                cases aki
                replace CQ:=(HB.out.cell (World.block_lt_of_cell? w _ CQ)).trans CQ
                replace Uc:=eq_true Uc
                replace TZ:=eq_true TZ
                go_wp2_with (first|((with_reducible refine fF (N:=21) rfl ?_);refine Kd.acD Kd.string _ 9 ?hg (N:=21) ?hd (xs:=([(⟨#[116,121,112,101]⟩:ByteArray),eF ByteArray.empty dn pM]:List ByteArray)) (inner:=[.string (⟨#[116,121,112,101]⟩:ByteArray),.string (eF ByteArray.empty dn pM)]) (ok:=fun _=>True) (rD:=fun _=>True) ?hr ?hp (fun _ hk=>hk) trivial (Below.refl _ _) (Nat.le_refl _) (by simp) ?_;(case hd=>rfl);(case hg=>rfl);(case hr=>first|(go_simp;done)|(go_simp;rfl));(case hp=>exact (kD.one (show Kd.M Kd.string _ _ _ (⟨#[116,121,112,101]⟩:ByteArray) [.string (⟨#[116,121,112,101]⟩:ByteArray)] from rfl) (kD.one (show Kd.M Kd.string _ _ _ (eF ByteArray.empty dn pM) [.string (eF ByteArray.empty dn pM)] from rfl) (kD.none _ _))));intro amS w12 OB hb JR tX;clear JR tX;(first|rw [← YK.out] at OB|(simp only [Int.reduceToNat] at OB;rw [← YK.out] at OB));have dG:=ae.mk (Kd.qV (by (with_reducible repeat (first|apply Kd.kF|apply Kd.kE|apply Kd.lX));exact jC.out) (Kd.lW OB) hb);have dM:=ae.mk (Kd.iW OB (aZ (by repeat (first|(with_reducible first|exact HB.out|apply au|apply af|apply aj|refine az ?_ jL.out)|exact HB.out))));have dW:=ae.mk (bH (g:=fJ) (o:=.cells #[.slice (some Sv) dn.length iH,.string bU,.string bV,.slice jg bM.length iG] 25 (0,0)) (by (with_reducible repeat (first|refine ah ?_ _|refine ak ?_|refine ai ?_ _));exact bY.out) hb);have fK:=ae.mk (bf (by repeat (first|(with_reducible first|exact HB.out|apply au|apply af|apply aj|refine az ?_ jL.out)|exact HB.out)) hb);clear jC;clear bY;clear HB;have jC:=dG;have NI:=dM;have bY:=dW;have HB:=fK;clear dG dM dW fK;clear hb OB;obtain ⟨akz,akk,aj7⟩:=Kd.gI NI.out;subst aj7)|((with_reducible refine jm (b:=.append) (xs:=#[.tmp 19,.tmp 22]) rfl ?_);at_builtin;refine Kd.Jb (Kd.slice 9 Kd.string) (w0:=w) w.heap.size rfl (.tmp 19) (.tmp 22) 43 22 (.slice none 0 0) 24 rfl Tryz.underlying43 info22 rfl (by decide) (by omega) u4 iT y113 [.slice akz y113.length akk] (fun k_=>k_ ≠ fJ) (fun k_=>((fun k_=>k_ ≠ fJ)) k_∧some k_ ≠ (u4:Value).ownBlock) rfl rfl ?aP (fun _ hk=>hk) ?aF ?aO ?aB ?aS ?aL ?_;(case aP=>exact (Kd.uO (Kd.fB (Kd.dm (ok':=(fun k_=>((fun k_=>k_ ≠ fJ)) k_∧some k_ ≠ (u4:Value).ownBlock)) (Kd.dQ (Kd.oC (NI.out) (Kd.uI jC.out) (by decide)) bY.out (by decide)) (fun k_ hk=>⟨hk.2,hk.1.2⟩))).2.1 (Kd.R_F (Kd.dm (ok':=(fun k_=>((fun k_=>k_ ≠ fJ)) k_∧some k_ ≠ (u4:Value).ownBlock)) (Kd.dQ (Kd.oC (NI.out) (Kd.uI jC.out) (by decide)) bY.out (by decide)) (fun k_ hk=>⟨hk.2,hk.1.2⟩)))));(case aB=>exact (by repeat (first|(with_reducible first|exact HB.out|apply au|apply af|apply aj|refine az ?_ jL.out)|exact HB.out)));(case aF=>exact (fun k_ hk=>Kd.Bc (g:=fJ) (o:=.cells #[.slice (some Sv) dn.length iH,.string bU,.string bV,.slice jg bM.length iG] 25 (0,0)) (by (with_reducible repeat (first|refine ah ?_ _|refine ak ?_|refine ai ?_ _));exact bY.out) k_ hk));(case aO=>exact (by (with_reducible repeat (first|apply Kd.kF|apply Kd.kE|apply Kd.lX));exact Kd.qU jC.out (fun _ hk=>hk.1)));(case aS=>exact (aZ (by repeat (first|(with_reducible first|exact HB.out|apply au|apply af|apply aj|refine az ?_ jL.out)|exact HB.out))));(case aL=>have:=ac0.out;omega);intro v117 w14 ho hb hg hat;rw [← acP.out] at ho;have dG:=ae.mk (o8 (g:=fJ) (o:=.cells #[.slice (some Sv) dn.length iH,.string bU,.string bV,.slice jg bM.length iG] 25 (0,0)) (by (with_reducible repeat (first|refine ah ?_ _|refine ak ?_|refine ai ?_ _));exact bY.out) hg (Kd.XP jC.out bY.out (by decide)));have dM:=ae.mk (hb);have dW:=ae.mk (ho);clear bY;clear HB;clear jC;clear NI;have bY:=dG;have HB:=dM;have adg:=dW;clear dG dM dW;clear ho hb hg hat))
                go_roundg k1
                case measure=>have:=pJ.out;omega
                case rel=>exact ⟨(aa0),(wrap64 (pM+1)),(by first|rfl|(simp;done)|(simp [*];done)),H',⟨by have:=pJ.out;omega⟩,⟨by (with_reducible repeat (first|apply Kd.kF|apply Kd.kE|apply Kd.lX));exact adg.out⟩,⟨by (with_reducible repeat (first|refine ah ?_ _|refine ak ?_|refine ai ?_ _));exact bY.out⟩,⟨by repeat (first|(with_reducible first|exact HB.out|apply au|apply af|apply aj|refine az ?_ jL.out)|exact HB.out)⟩⟩
              · rw [if_neg c11] at H
                exact absurd H (by simp)
            · rw [if_neg c10] at H
              exact absurd H (by simp)
          · rw [if_neg c9] at H
            exact absurd H (by simp)
        · rw [if_neg c8] at H
          have ry:decide (pM < (dn.length:Int))=false:=decide_eq_false c8
          clear c8
          replace H:=Option.bind_eq_some_iff.mp H
          obtain ⟨t119,Ep,H⟩:=H
          replace H:((o7.f bV).bind fun t123=>((some (([(([(⟨#[108,111,99,97,108,115]⟩:ByteArray),t119]:List ByteArray)),(([(⟨#[103,108,111,98,97,108,115]⟩:ByteArray),t123]:List ByteArray))]:List (List ByteArray)):List (List ByteArray))).bind fun uU=>(if iT.length+uU.length < 5864062014805 then (bW.l1 k1 (iT++uU) bM (bM.length:Int) 0) else (none))))=some (r1,r2):=H
          have Tc:=ae.mk Ep
          clear Ep
          obtain ⟨Es,IE⟩:∃ y_:List ByteArray,y_=(([(⟨#[108,111,99,97,108,115]⟩:ByteArray),t119]:List ByteArray)):=⟨_,rfl⟩
          replace H:((o7.f bV).bind fun t123=>((some (([Es,(([(⟨#[103,108,111,98,97,108,115]⟩:ByteArray),t123]:List ByteArray))]:List (List ByteArray)):List (List ByteArray))).bind fun uU=>(if iT.length+uU.length < 5864062014805 then (bW.l1 k1 (iT++uU) bM (bM.length:Int) 0) else (none))))=some (r1,r2):=by first|(rw [IE];with_reducible exact H)|(have qX:=(Option.bind_some _ _).symm.trans H;rw [IE];with_reducible exact qX)|(have qX:=(Option.bind_some _ _).symm.trans H;with_reducible exact qX)|with_reducible exact H|(rw [IE];exact H)|exact H
          have FC:=ae.mk IE
          clear IE
          replace H:=Option.bind_eq_some_iff.mp H
          obtain ⟨t123,S9,H⟩:=H
          replace H:((some (([Es,(([(⟨#[103,108,111,98,97,108,115]⟩:ByteArray),t123]:List ByteArray))]:List (List ByteArray)):List (List ByteArray))).bind fun uU=>(if iT.length+uU.length < 5864062014805 then (bW.l1 k1 (iT++uU) bM (bM.length:Int) 0) else (none)))=some (r1,r2):=H
          have A17:=ae.mk S9
          clear S9
          obtain ⟨Ha,IC⟩:∃ y_:List ByteArray,y_=(([(⟨#[103,108,111,98,97,108,115]⟩:ByteArray),t123]:List ByteArray)):=⟨_,rfl⟩
          replace H:((some (([Es,Ha]:List (List ByteArray)):List (List ByteArray))).bind fun uU=>(if iT.length+uU.length < 5864062014805 then (bW.l1 k1 (iT++uU) bM (bM.length:Int) 0) else (none)))=some (r1,r2):=by first|(rw [IC];with_reducible exact H)|(have qX:=(Option.bind_some _ _).symm.trans H;rw [IC];with_reducible exact qX)|(have qX:=(Option.bind_some _ _).symm.trans H;with_reducible exact qX)|with_reducible exact H|(rw [IC];exact H)|exact H
          have FB:=ae.mk IC
          clear IC
          obtain ⟨uU,IB⟩:∃ y_:List (List ByteArray),y_=(([Es,Ha]:List (List ByteArray))):=⟨_,rfl⟩
          replace H:(if iT.length+uU.length < 5864062014805 then (bW.l1 k1 (iT++uU) bM (bM.length:Int) 0) else (none))=some (r1,r2):=by first|(rw [IB];with_reducible exact H)|(have qX:=(Option.bind_some _ _).symm.trans H;rw [IB];with_reducible exact qX)|(have qX:=(Option.bind_some _ _).symm.trans H;with_reducible exact qX)|with_reducible exact H|(rw [IB];exact H)|exact H
          have YJ:=ae.mk IB
          clear IB
          by_cases c18:iT.length+uU.length < 5864062014805
          · rw [if_pos c18] at H
            have acX:=ae.mk c18
            clear c18
            obtain ⟨aaZ,IA⟩:∃ y_:List (List ByteArray),y_=(iT++uU):=⟨_,rfl⟩
            replace H:(bW.l1 k1 aaZ bM (bM.length:Int) 0)=some (r1,r2):=by first|(rw [IA];with_reducible exact H)|(have qX:=(Option.bind_some _ _).symm.trans H;rw [IA];with_reducible exact qX)|(have qX:=(Option.bind_some _ _).symm.trans H;with_reducible exact qX)|with_reducible exact H|(rw [IA];exact H)|exact H
            have acO:=ae.mk IA
            clear IA
            have H':=ae.mk H
            clear H
            obtain ⟨rf,qP,Rz⟩:=Kd.G6 jC.out
            subst Rz
            try go_wp2
            have dG:=ae.mk (Kd.lX jC.out)
            have dM:=ae.mk (ak bY.out)
            have dW:=ae.mk (aj HB.out)
            clear jC
            clear bY
            clear HB
            have jC:=dG
            have bY:=dM
            have HB:=dW
            clear dG dM dW
            refine sD (n:=12) (S:=fun w'=>w'.cell? ⟨fJ,0,none⟩=some (.slice iR dn.length iH)∧w'.cell? ⟨fJ,1,none⟩=some (.string bU)∧w'.cell? ⟨fJ,2,none⟩=some (.string bV)∧w'.cell? ⟨fJ,3,none⟩=some (.slice jg bM.length iG)) (ds:=[]) #[false,false,false,false,false,false,false,false,false,false,false,false] (by kernel_rfl) rfl rfl ⟨(ax bY.out 0).trans rfl,(ax bY.out 1).trans rfl,(ax bY.out 2).trans rfl,(ax bY.out 3).trans rfl⟩ (fun hHeld=>?_);refine l9 bW.ajy bW.aco (fun dR oJ=>?_)
            generalize wr.drew=w20 at jC bY HB hHeld ⊢
            refine bJ (i:=0) (N:=some 25) (v:=?_) (a':=?_) #[true,false,false,false,false,false,false,false,false,false,false,false] rfl rfl (aW dR.out (by kernel_rfl)) (fun _ _ _ h=>h) (Or.inl ⟨by rfl,?_⟩) ?_ ?_
            rotate_left
            · intro w'
              go_simp
              with_reducible rfl
            rotate_left
            · simp only [Act.put,List.setIfInBounds_toArray,List.set_cons_zero,List.set_cons_succ,aN,aQ]
              rfl
            refine bJ (i:=1) (N:=some 26) (v:=?_) (a':=?_) #[true,true,false,false,false,false,false,false,false,false,false,false] rfl rfl (aW dR.out (by kernel_rfl)) (fun _ _ _ h=>h) (Or.inl ⟨by rfl,?_⟩) ?_ ?_
            rotate_left
            · intro w'
              go_simp
              with_reducible rfl
            rotate_left
            · simp only [Act.put,List.setIfInBounds_toArray,List.set_cons_zero,List.set_cons_succ,aN,aQ]
              rfl
            refine bJ (i:=5) (N:=some 30) (v:=?_) (a':=?_) #[true,true,false,false,false,true,false,false,false,false,false,false] rfl rfl (aW dR.out (by kernel_rfl)) (fun _ _ _ h=>h) (Or.inl ⟨by rfl,?_⟩) ?_ ?_
            rotate_left
            · intro w'
              go_simp
              with_reducible rfl
            rotate_left
            · simp only [Act.put,List.setIfInBounds_toArray,List.set_cons_zero,List.set_cons_succ,aN,aQ]
              rfl
            refine iK (i:=2) (N:=some 27) (v:=?_) (a':=?_) #[true,true,true,false,false,true,false,false,false,false,false,false] rfl rfl (dH dR.out oJ.out (by kernel_rfl)) (fun _ _ _ h=>h) (Or.inl ⟨by rfl,?_⟩) hHeld ?_ ?_
            rotate_left
            · rintro w' ⟨s0,s1,s2,s3⟩
              go_simp
              with_reducible rfl
            rotate_left
            · simp only [Act.put,List.setIfInBounds_toArray,List.set_cons_zero,List.set_cons_succ,aN,aQ]
              rfl
            refine iK (i:=6) (N:=some 31) (v:=?_) (a':=?_) #[true,true,true,false,false,true,true,false,false,false,false,false] rfl rfl (dH dR.out oJ.out (by kernel_rfl)) (fun _ _ _ h=>h) (Or.inl ⟨by rfl,?_⟩) hHeld ?_ ?_
            rotate_left
            · rintro w' ⟨s0,s1,s2,s3⟩
              go_simp
              with_reducible rfl
            rotate_left
            · simp only [Act.put,List.setIfInBounds_toArray,List.set_cons_zero,List.set_cons_succ,aN,aQ]
              rfl
            refine sW (i:=3) (N:=some 28) #[true,true,true,true,false,true,true,false,false,false,false,false] rfl rfl (kC dR.out (by kernel_rfl)) (by decide) (fun K hK=>?_)
            refine sO Tryz.func19 (by kernel_rfl) rfl #[.string bU] (by rfl) rfl rfl (by (try simp only [List.map_toArray,List.map_cons,List.map_nil]);first|done|rfl|(simp only [List.length_drop,List.length_take];rfl)) ?_
            with_reducible refine (o7.calls bU t119 _ Tc.out).mono ?_
            rintro e w' ⟨rfl,⟨nd,rfl⟩⟩
            refine ⟨_,rfl,?_⟩
            refine hK.out _ _ ⟨(ax bY.out 0).trans rfl,(ax bY.out 1).trans rfl,(ax bY.out 2).trans rfl,(ax bY.out 3).trans rfl⟩ (fun hHeld=>?_)
            clear hK K
            refine jB (a':=?_) ?_ ?_
            rotate_left
            · show Act.put _ (some 28) _=_
              simp only [Act.put,List.setIfInBounds_toArray,List.set_cons_zero,List.set_cons_succ,aN,aQ]
              rfl
            refine Lh (σ:=Value × Value) 3 #[true,true,true,true,true,true,true,true,true,false,false,false] (fun s_=>[(29,s_.1),(32,.string t123),(33,s_.2)]) (fun s_ w'=>(w'.cell? ⟨fJ,0,none⟩=some (.slice iR dn.length iH)∧w'.cell? ⟨fJ,1,none⟩=some (.string bU)∧w'.cell? ⟨fJ,2,none⟩=some (.string bV)∧w'.cell? ⟨fJ,3,none⟩=some (.slice jg bM.length iG))∧(Kd.R Kd.string 9 w' w.heap.size (fun k_=>some k_ ≠ (s_.2:Value).ownBlock) s_.1 Es)∧(Kd.R Kd.string 9 w' w.heap.size (fun k_=>some k_ ≠ (s_.1:Value).ownBlock) s_.2 Ha)∧(Kd.N (Kd.slice 9 Kd.string) 22 w' w.heap.size (fun k_=>some k_ ≠ (s_.1:Value).ownBlock∧some k_ ≠ (s_.2:Value).ownBlock∧k_ ≠ fJ) (.slice rf iT.length qP) iT)∧(w'.heap[fJ]? = some (.cells #[.slice iR dn.length iH,.string bU,.string bV,.slice jg bM.length iG] 25 (0,0)))∧(Below w.heap.size w w')) ?_ ?_
            rotate_left
            · intro xk
              refine Py (i:=4) (j:=7) (Ni:=some 29) (Nj:=some 32) #[true,true,true,true,true,true,true,false,false,false,false,false] #[true,true,true,true,false,true,true,true,false,false,false,false] rfl rfl rfl rfl (Dh dR.out (by kernel_rfl)) (by decide) (by decide) (fun K hK=>?_) (fun K hK=>?_)
              · skip
                refine Kd.qh Kd.string _ 9 ?hg (N:=29) ?hd (xs:=([(⟨#[108,111,99,97,108,115]⟩:ByteArray),t119]:List ByteArray)) (inner:=[.string (⟨#[108,111,99,97,108,115]⟩:ByteArray),.string t119]) (ok:=fun _=>True) (rD:=fun _=>True) ?hr ?hp (fun _ hk=>hk) trivial (Below.refl _ _) (Nat.le_refl _) (by simp) ?_;(case hd=>rfl);(case hg=>rfl);(case hr=>first|(go_simp;done)|(go_simp;rfl));(case hp=>exact (kD.one (show Kd.M Kd.string _ _ _ (⟨#[108,111,99,97,108,115]⟩:ByteArray) [.string (⟨#[108,111,99,97,108,115]⟩:ByteArray)] from rfl) (kD.one (show Kd.M Kd.string _ _ _ t119 [.string t119] from rfl) (kD.none _ _))))
                intro FU w21 vk hb JR tX
                clear JR tX
                (first|rw [← FC.out] at vk|(simp only [Int.reduceToNat] at vk;rw [← FC.out] at vk))
                have dG:=ae.mk (Kd.qV (by (with_reducible repeat (first|apply Kd.kF|apply Kd.kE|apply Kd.lX));exact jC.out) (Kd.lW vk) hb)
                have dM:=ae.mk (Kd.iW vk (aZ (by repeat (first|(with_reducible first|exact HB.out|apply au|apply af|apply aj|refine az ?_ jL.out)|exact HB.out))))
                have dW:=ae.mk (bH (g:=fJ) (o:=.cells #[.slice iR dn.length iH,.string bU,.string bV,.slice jg bM.length iG] 25 (0,0)) (by (with_reducible repeat (first|refine ah ?_ _|refine ak ?_|refine ai ?_ _));exact bY.out) hb)
                have fK:=ae.mk (bf (by repeat (first|(with_reducible first|exact HB.out|apply au|apply af|apply aj|refine az ?_ jL.out)|exact HB.out)) hb)
                clear jC
                clear bY
                clear HB
                have jC:=dG
                have rq:=dM
                have bY:=dW
                have HB:=fK
                clear dG dM dW fK
                clear hb vk
                refine hK.out _ _ ⟨(ax bY.out 0).trans rfl,(ax bY.out 1).trans rfl,(ax bY.out 2).trans rfl,(ax bY.out 3).trans rfl⟩ (fun hHeld=>?_)
                clear hK K
                refine jB (a':=?_) ?_ ?_
                rotate_left
                · show Act.put _ (some 29) _=_
                  simp only [Act.put,List.setIfInBounds_toArray,List.set_cons_zero,List.set_cons_succ,aN,aQ]
                  rfl
                refine sW (i:=7) (N:=some 32) #[true,true,true,true,true,true,true,true,false,false,false,false] rfl rfl (kC dR.out (by kernel_rfl)) (by decide) (fun K hK=>?_)
                refine sO Tryz.func19 (by kernel_rfl) rfl #[.string bV] (by rfl) rfl rfl (by (try simp only [List.map_toArray,List.map_cons,List.map_nil]);first|done|rfl|(simp only [List.length_drop,List.length_take];rfl)) ?_
                with_reducible refine (o7.calls bV t123 _ A17.out).mono ?_
                rintro e w' ⟨rfl,⟨nd,rfl⟩⟩
                refine ⟨_,rfl,?_⟩
                refine hK.out _ _ ⟨(ax bY.out 0).trans rfl,(ax bY.out 1).trans rfl,(ax bY.out 2).trans rfl,(ax bY.out 3).trans rfl⟩ (fun hHeld=>?_)
                clear hK K
                refine jB (a':=?_) ?_ ?_
                rotate_left
                · show Act.put _ (some 32) _=_
                  simp only [Act.put,List.setIfInBounds_toArray,List.set_cons_zero,List.set_cons_succ,aN,aQ]
                  rfl
                refine sW (i:=8) (N:=some 33) #[true,true,true,true,true,true,true,true,true,false,false,false] rfl rfl (kC dR.out (by kernel_rfl)) (by decide) (fun K hK=>?_)
                refine Kd.qh Kd.string _ 9 ?hg (N:=33) ?hd (xs:=([(⟨#[103,108,111,98,97,108,115]⟩:ByteArray),t123]:List ByteArray)) (inner:=[.string (⟨#[103,108,111,98,97,108,115]⟩:ByteArray),.string t123]) (ok:=fun _=>True) (rD:=fun _=>True) ?hr ?hp (fun _ hk=>hk) trivial (Below.refl _ _) (Nat.le_refl _) (by simp) ?_;(case hd=>rfl);(case hg=>rfl);(case hr=>first|(go_simp;done)|(go_simp;rfl));(case hp=>exact (kD.one (show Kd.M Kd.string _ _ _ (⟨#[103,108,111,98,97,108,115]⟩:ByteArray) [.string (⟨#[103,108,111,98,97,108,115]⟩:ByteArray)] from rfl) (kD.one (show Kd.M Kd.string _ _ _ t123 [.string t123] from rfl) (kD.none _ _))))
                intro FT Jh tV hb JR tX
                clear JR tX
                (first|rw [← FB.out] at tV|(simp only [Int.reduceToNat] at tV;rw [← FB.out] at tV))
                have dG:=ae.mk (Kd.qV (by (with_reducible repeat (first|apply Kd.kF|apply Kd.kE|apply Kd.lX));exact jC.out) (Kd.lW tV) hb)
                have dM:=ae.mk (Kd.nR (by (with_reducible repeat (first|apply Kd.aX|apply Kd.aY|apply Kd.bG));exact rq.out) (Kd.lW tV) hb)
                have dW:=ae.mk (Kd.iW (Kd.sJ tV (Kd.xX (by (with_reducible repeat (first|apply Kd.aX|apply Kd.aY|apply Kd.bG));exact rq.out))) (aZ (by repeat (first|(with_reducible first|exact HB.out|apply au|apply af|apply aj|refine az ?_ jL.out)|exact HB.out))))
                have fK:=ae.mk (bH (g:=fJ) (o:=.cells #[.slice iR dn.length iH,.string bU,.string bV,.slice jg bM.length iG] 25 (0,0)) (by (with_reducible repeat (first|refine ah ?_ _|refine ak ?_|refine ai ?_ _));exact bY.out) hb)
                have iO:=ae.mk (bf (by repeat (first|(with_reducible first|exact HB.out|apply au|apply af|apply aj|refine az ?_ jL.out)|exact HB.out)) hb)
                clear jC
                clear rq
                clear bY
                clear HB
                have jC:=dG
                have rq:=dM
                have uJ:=dW
                have bY:=fK
                have HB:=iO
                clear dG dM dW fK iO
                clear hb tV
                refine hK.out _ _ ⟨(ax bY.out 0).trans rfl,(ax bY.out 1).trans rfl,(ax bY.out 2).trans rfl,(ax bY.out 3).trans rfl⟩ (fun hHeld=>?_)
                clear hK K
                refine jB (a':=?_) ?_ ?_
                rotate_left
                · show Act.put _ (some 33) _=_
                  simp only [Act.put,List.setIfInBounds_toArray,List.set_cons_zero,List.set_cons_succ,aN,aQ]
                  rfl
                exact jB (by simp only [lK,Act.put,List.setIfInBounds_toArray,List.set_cons_zero,List.set_cons_succ]) (xk (FU,FT) _ ⟨hHeld,(by (with_reducible repeat (first|apply Kd.aX|apply Kd.aY|apply Kd.bG));exact Kd.dm rq.out (fun _ hk=>hk.2)),(by (with_reducible repeat (first|apply Kd.aX|apply Kd.aY|apply Kd.bG));exact Kd.dm uJ.out (fun _ hk=>hk.2)),(by (with_reducible repeat (first|apply Kd.kF|apply Kd.kE|apply Kd.lX));exact Kd.qU jC.out (fun _ hk=>⟨hk.1.2,⟨hk.2,hk.1.1⟩⟩)),(by (with_reducible repeat (first|refine ah ?_ _|refine ak ?_|refine ai ?_ _));exact bY.out),(by repeat (first|(with_reducible first|exact HB.out|apply au|apply af|apply aj|refine az ?_ jL.out)|exact HB.out))⟩)
              · skip
                refine sO Tryz.func19 (by kernel_rfl) rfl #[.string bV] (by rfl) rfl rfl (by (try simp only [List.map_toArray,List.map_cons,List.map_nil]);first|done|rfl|(simp only [List.length_drop,List.length_take];rfl)) ?_
                with_reducible refine (o7.calls bV t123 _ A17.out).mono ?_
                rintro e w' ⟨rfl,⟨nd,rfl⟩⟩
                refine ⟨_,rfl,?_⟩
                refine hK.out _ _ ⟨(ax bY.out 0).trans rfl,(ax bY.out 1).trans rfl,(ax bY.out 2).trans rfl,(ax bY.out 3).trans rfl⟩ (fun hHeld=>?_)
                clear hK K
                refine jB (a':=?_) ?_ ?_
                rotate_left
                · show Act.put _ (some 32) _=_
                  simp only [Act.put,List.setIfInBounds_toArray,List.set_cons_zero,List.set_cons_succ,aN,aQ]
                  rfl
                refine Py (i:=4) (j:=8) (Ni:=some 29) (Nj:=some 33) #[true,true,true,true,true,true,true,true,false,false,false,false] #[true,true,true,true,false,true,true,true,true,false,false,false] rfl rfl rfl rfl (Dh dR.out (by kernel_rfl)) (by decide) (by decide) (fun K hK=>?_) (fun K hK=>?_)
                · skip
                  refine Kd.qh Kd.string _ 9 ?hg (N:=29) ?hd (xs:=([(⟨#[108,111,99,97,108,115]⟩:ByteArray),t119]:List ByteArray)) (inner:=[.string (⟨#[108,111,99,97,108,115]⟩:ByteArray),.string t119]) (ok:=fun _=>True) (rD:=fun _=>True) ?hr ?hp (fun _ hk=>hk) trivial (Below.refl _ _) (Nat.le_refl _) (by simp) ?_;(case hd=>rfl);(case hg=>rfl);(case hr=>first|(go_simp;done)|(go_simp;rfl));(case hp=>exact (kD.one (show Kd.M Kd.string _ _ _ (⟨#[108,111,99,97,108,115]⟩:ByteArray) [.string (⟨#[108,111,99,97,108,115]⟩:ByteArray)] from rfl) (kD.one (show Kd.M Kd.string _ _ _ t119 [.string t119] from rfl) (kD.none _ _))))
                  intro FU w21 vk hb JR tX
                  clear JR tX
                  (first|rw [← FC.out] at vk|(simp only [Int.reduceToNat] at vk;rw [← FC.out] at vk))
                  have dG:=ae.mk (Kd.qV (by (with_reducible repeat (first|apply Kd.kF|apply Kd.kE|apply Kd.lX));exact jC.out) (Kd.lW vk) hb)
                  have dM:=ae.mk (Kd.iW vk (aZ (by repeat (first|(with_reducible first|exact HB.out|apply au|apply af|apply aj|refine az ?_ jL.out)|exact HB.out))))
                  have dW:=ae.mk (bH (g:=fJ) (o:=.cells #[.slice iR dn.length iH,.string bU,.string bV,.slice jg bM.length iG] 25 (0,0)) (by (with_reducible repeat (first|refine ah ?_ _|refine ak ?_|refine ai ?_ _));exact bY.out) hb)
                  have fK:=ae.mk (bf (by repeat (first|(with_reducible first|exact HB.out|apply au|apply af|apply aj|refine az ?_ jL.out)|exact HB.out)) hb)
                  clear jC
                  clear bY
                  clear HB
                  have jC:=dG
                  have rq:=dM
                  have bY:=dW
                  have HB:=fK
                  clear dG dM dW fK
                  clear hb vk
                  refine hK.out _ _ ⟨(ax bY.out 0).trans rfl,(ax bY.out 1).trans rfl,(ax bY.out 2).trans rfl,(ax bY.out 3).trans rfl⟩ (fun hHeld=>?_)
                  clear hK K
                  refine jB (a':=?_) ?_ ?_
                  rotate_left
                  · show Act.put _ (some 29) _=_
                    simp only [Act.put,List.setIfInBounds_toArray,List.set_cons_zero,List.set_cons_succ,aN,aQ]
                    rfl
                  refine sW (i:=8) (N:=some 33) #[true,true,true,true,true,true,true,true,true,false,false,false] rfl rfl (kC dR.out (by kernel_rfl)) (by decide) (fun K hK=>?_)
                  refine Kd.qh Kd.string _ 9 ?hg (N:=33) ?hd (xs:=([(⟨#[103,108,111,98,97,108,115]⟩:ByteArray),t123]:List ByteArray)) (inner:=[.string (⟨#[103,108,111,98,97,108,115]⟩:ByteArray),.string t123]) (ok:=fun _=>True) (rD:=fun _=>True) ?hr ?hp (fun _ hk=>hk) trivial (Below.refl _ _) (Nat.le_refl _) (by simp) ?_;(case hd=>rfl);(case hg=>rfl);(case hr=>first|(go_simp;done)|(go_simp;rfl));(case hp=>exact (kD.one (show Kd.M Kd.string _ _ _ (⟨#[103,108,111,98,97,108,115]⟩:ByteArray) [.string (⟨#[103,108,111,98,97,108,115]⟩:ByteArray)] from rfl) (kD.one (show Kd.M Kd.string _ _ _ t123 [.string t123] from rfl) (kD.none _ _))))
                  intro FT Jh tV hb JR tX
                  clear JR tX
                  (first|rw [← FB.out] at tV|(simp only [Int.reduceToNat] at tV;rw [← FB.out] at tV))
                  have dG:=ae.mk (Kd.qV (by (with_reducible repeat (first|apply Kd.kF|apply Kd.kE|apply Kd.lX));exact jC.out) (Kd.lW tV) hb)
                  have dM:=ae.mk (Kd.nR (by (with_reducible repeat (first|apply Kd.aX|apply Kd.aY|apply Kd.bG));exact rq.out) (Kd.lW tV) hb)
                  have dW:=ae.mk (Kd.iW (Kd.sJ tV (Kd.xX (by (with_reducible repeat (first|apply Kd.aX|apply Kd.aY|apply Kd.bG));exact rq.out))) (aZ (by repeat (first|(with_reducible first|exact HB.out|apply au|apply af|apply aj|refine az ?_ jL.out)|exact HB.out))))
                  have fK:=ae.mk (bH (g:=fJ) (o:=.cells #[.slice iR dn.length iH,.string bU,.string bV,.slice jg bM.length iG] 25 (0,0)) (by (with_reducible repeat (first|refine ah ?_ _|refine ak ?_|refine ai ?_ _));exact bY.out) hb)
                  have iO:=ae.mk (bf (by repeat (first|(with_reducible first|exact HB.out|apply au|apply af|apply aj|refine az ?_ jL.out)|exact HB.out)) hb)
                  clear jC
                  clear rq
                  clear bY
                  clear HB
                  have jC:=dG
                  have rq:=dM
                  have uJ:=dW
                  have bY:=fK
                  have HB:=iO
                  clear dG dM dW fK iO
                  clear hb tV
                  refine hK.out _ _ ⟨(ax bY.out 0).trans rfl,(ax bY.out 1).trans rfl,(ax bY.out 2).trans rfl,(ax bY.out 3).trans rfl⟩ (fun hHeld=>?_)
                  clear hK K
                  refine jB (a':=?_) ?_ ?_
                  rotate_left
                  · show Act.put _ (some 33) _=_
                    simp only [Act.put,List.setIfInBounds_toArray,List.set_cons_zero,List.set_cons_succ,aN,aQ]
                    rfl
                  exact jB (by simp only [lK,Act.put,List.setIfInBounds_toArray,List.set_cons_zero,List.set_cons_succ]) (xk (FU,FT) _ ⟨hHeld,(by (with_reducible repeat (first|apply Kd.aX|apply Kd.aY|apply Kd.bG));exact Kd.dm rq.out (fun _ hk=>hk.2)),(by (with_reducible repeat (first|apply Kd.aX|apply Kd.aY|apply Kd.bG));exact Kd.dm uJ.out (fun _ hk=>hk.2)),(by (with_reducible repeat (first|apply Kd.kF|apply Kd.kE|apply Kd.lX));exact Kd.qU jC.out (fun _ hk=>⟨hk.1.2,⟨hk.2,hk.1.1⟩⟩)),(by (with_reducible repeat (first|refine ah ?_ _|refine ak ?_|refine ai ?_ _));exact bY.out),(by repeat (first|(with_reducible first|exact HB.out|apply au|apply af|apply aj|refine az ?_ jL.out)|exact HB.out))⟩)
                · skip
                  refine Kd.qh Kd.string _ 9 ?hg (N:=33) ?hd (xs:=([(⟨#[103,108,111,98,97,108,115]⟩:ByteArray),t123]:List ByteArray)) (inner:=[.string (⟨#[103,108,111,98,97,108,115]⟩:ByteArray),.string t123]) (ok:=fun _=>True) (rD:=fun _=>True) ?hr ?hp (fun _ hk=>hk) trivial (Below.refl _ _) (Nat.le_refl _) (by simp) ?_;(case hd=>rfl);(case hg=>rfl);(case hr=>first|(go_simp;done)|(go_simp;rfl));(case hp=>exact (kD.one (show Kd.M Kd.string _ _ _ (⟨#[103,108,111,98,97,108,115]⟩:ByteArray) [.string (⟨#[103,108,111,98,97,108,115]⟩:ByteArray)] from rfl) (kD.one (show Kd.M Kd.string _ _ _ t123 [.string t123] from rfl) (kD.none _ _))))
                  intro FT w21 vk hb JR tX
                  clear JR tX
                  (first|rw [← FB.out] at vk|(simp only [Int.reduceToNat] at vk;rw [← FB.out] at vk))
                  have dG:=ae.mk (Kd.qV (by (with_reducible repeat (first|apply Kd.kF|apply Kd.kE|apply Kd.lX));exact jC.out) (Kd.lW vk) hb)
                  have dM:=ae.mk (Kd.iW vk (aZ (by repeat (first|(with_reducible first|exact HB.out|apply au|apply af|apply aj|refine az ?_ jL.out)|exact HB.out))))
                  have dW:=ae.mk (bH (g:=fJ) (o:=.cells #[.slice iR dn.length iH,.string bU,.string bV,.slice jg bM.length iG] 25 (0,0)) (by (with_reducible repeat (first|refine ah ?_ _|refine ak ?_|refine ai ?_ _));exact bY.out) hb)
                  have fK:=ae.mk (bf (by repeat (first|(with_reducible first|exact HB.out|apply au|apply af|apply aj|refine az ?_ jL.out)|exact HB.out)) hb)
                  clear jC
                  clear bY
                  clear HB
                  have jC:=dG
                  have uJ:=dM
                  have bY:=dW
                  have HB:=fK
                  clear dG dM dW fK
                  clear hb vk
                  refine hK.out _ _ ⟨(ax bY.out 0).trans rfl,(ax bY.out 1).trans rfl,(ax bY.out 2).trans rfl,(ax bY.out 3).trans rfl⟩ (fun hHeld=>?_)
                  clear hK K
                  refine jB (a':=?_) ?_ ?_
                  rotate_left
                  · show Act.put _ (some 33) _=_
                    simp only [Act.put,List.setIfInBounds_toArray,List.set_cons_zero,List.set_cons_succ,aN,aQ]
                    rfl
                  refine sW (i:=4) (N:=some 29) #[true,true,true,true,true,true,true,true,true,false,false,false] rfl rfl (kC dR.out (by kernel_rfl)) (by decide) (fun K hK=>?_)
                  refine Kd.qh Kd.string _ 9 ?hg (N:=29) ?hd (xs:=([(⟨#[108,111,99,97,108,115]⟩:ByteArray),t119]:List ByteArray)) (inner:=[.string (⟨#[108,111,99,97,108,115]⟩:ByteArray),.string t119]) (ok:=fun _=>True) (rD:=fun _=>True) ?hr ?hp (fun _ hk=>hk) trivial (Below.refl _ _) (Nat.le_refl _) (by simp) ?_;(case hd=>rfl);(case hg=>rfl);(case hr=>first|(go_simp;done)|(go_simp;rfl));(case hp=>exact (kD.one (show Kd.M Kd.string _ _ _ (⟨#[108,111,99,97,108,115]⟩:ByteArray) [.string (⟨#[108,111,99,97,108,115]⟩:ByteArray)] from rfl) (kD.one (show Kd.M Kd.string _ _ _ t119 [.string t119] from rfl) (kD.none _ _))))
                  intro FU Jh tV hb JR tX
                  clear JR tX
                  (first|rw [← FC.out] at tV|(simp only [Int.reduceToNat] at tV;rw [← FC.out] at tV))
                  have dG:=ae.mk (Kd.qV (by (with_reducible repeat (first|apply Kd.kF|apply Kd.kE|apply Kd.lX));exact jC.out) (Kd.lW tV) hb)
                  have dM:=ae.mk (Kd.nR (by (with_reducible repeat (first|apply Kd.aX|apply Kd.aY|apply Kd.bG));exact uJ.out) (Kd.lW tV) hb)
                  have dW:=ae.mk (Kd.iW (Kd.sJ tV (Kd.xX (by (with_reducible repeat (first|apply Kd.aX|apply Kd.aY|apply Kd.bG));exact uJ.out))) (aZ (by repeat (first|(with_reducible first|exact HB.out|apply au|apply af|apply aj|refine az ?_ jL.out)|exact HB.out))))
                  have fK:=ae.mk (bH (g:=fJ) (o:=.cells #[.slice iR dn.length iH,.string bU,.string bV,.slice jg bM.length iG] 25 (0,0)) (by (with_reducible repeat (first|refine ah ?_ _|refine ak ?_|refine ai ?_ _));exact bY.out) hb)
                  have iO:=ae.mk (bf (by repeat (first|(with_reducible first|exact HB.out|apply au|apply af|apply aj|refine az ?_ jL.out)|exact HB.out)) hb)
                  clear jC
                  clear uJ
                  clear bY
                  clear HB
                  have jC:=dG
                  have uJ:=dM
                  have rq:=dW
                  have bY:=fK
                  have HB:=iO
                  clear dG dM dW fK iO
                  clear hb tV
                  refine hK.out _ _ ⟨(ax bY.out 0).trans rfl,(ax bY.out 1).trans rfl,(ax bY.out 2).trans rfl,(ax bY.out 3).trans rfl⟩ (fun hHeld=>?_)
                  clear hK K
                  refine jB (a':=?_) ?_ ?_
                  rotate_left
                  · show Act.put _ (some 29) _=_
                    simp only [Act.put,List.setIfInBounds_toArray,List.set_cons_zero,List.set_cons_succ,aN,aQ]
                    rfl
                  exact jB (by simp only [lK,Act.put,List.setIfInBounds_toArray,List.set_cons_zero,List.set_cons_succ]) (xk (FU,FT) _ ⟨hHeld,(by (with_reducible repeat (first|apply Kd.aX|apply Kd.aY|apply Kd.bG));exact Kd.dm rq.out (fun _ hk=>hk.2)),(by (with_reducible repeat (first|apply Kd.aX|apply Kd.aY|apply Kd.bG));exact Kd.dm uJ.out (fun _ hk=>hk.2)),(by (with_reducible repeat (first|apply Kd.kF|apply Kd.kE|apply Kd.lX));exact Kd.qU jC.out (fun _ hk=>⟨hk.2,⟨hk.1.2,hk.1.1⟩⟩)),(by (with_reducible repeat (first|refine ah ?_ _|refine ak ?_|refine ai ?_ _));exact bY.out),(by repeat (first|(with_reducible first|exact HB.out|apply au|apply af|apply aj|refine az ?_ jL.out)|exact HB.out))⟩)
            rintro ⟨FU,FT⟩ xq ⟨kJ,Rl,Rk,Rj,Ri,Rh⟩
            have dG:ae (Kd.R Kd.string 9 xq w.heap.size (fun k_=>some k_ ≠ (FT:Value).ownBlock) FU Es):=⟨Rl⟩
            have dM:ae (Kd.R Kd.string 9 xq w.heap.size (fun k_=>some k_ ≠ (FU:Value).ownBlock) FT Ha):=⟨Rk⟩
            have dW:ae (Kd.N (Kd.slice 9 Kd.string) 22 xq w.heap.size (fun k_=>some k_ ≠ (FU:Value).ownBlock∧some k_ ≠ (FT:Value).ownBlock∧k_ ≠ fJ) (.slice rf iT.length qP) iT):=⟨Rj⟩
            have fK:ae (xq.heap[fJ]? = some (.cells #[.slice iR dn.length iH,.string bU,.string bV,.slice jg bM.length iG] 25 (0,0))):=⟨Ri⟩
            have iO:ae (Below w.heap.size w xq):=⟨Rh⟩
            clear jC
            clear bY
            clear HB
            clear Rl Rk Rj Ri Rh
            have rq:=dG
            have uJ:=dM
            have jC:=dW
            have bY:=fK
            have HB:=iO
            clear dG dM dW fK iO
            have hHeld:xq.cell? ⟨fJ,0,none⟩=some (.slice iR dn.length iH)∧xq.cell? ⟨fJ,1,none⟩=some (.string bU)∧xq.cell? ⟨fJ,2,none⟩=some (.string bV)∧xq.cell? ⟨fJ,3,none⟩=some (.slice jg bM.length iG):=kJ
            obtain ⟨SQ,RI,Xw⟩:=Kd.gI rq.out
            (first|subst Xw|(injection Xw with Yy f2_ Yx;have f4_:=Yy.symm;have f5_:=Yx.symm;clear Yy f2_ Yx;subst f4_;subst f5_))
            obtain ⟨xh,wW,Xv⟩:=Kd.gI uJ.out
            (first|subst Xv|(injection Xv with Yy f2_ Yx;have f4_:=Yy.symm;have f5_:=Yx.symm;clear Yy f2_ Yx;subst f4_;subst f5_))
            refine jB (a':=?_) ?_ ?_
            rotate_left
            · simp only [lK,Act.put,List.setIfInBounds_toArray,List.set_cons_zero,List.set_cons_succ]
              rfl
            refine sW (i:=9) (N:=some 34) #[true,true,true,true,true,true,true,true,true,true,false,false] rfl rfl (kC dR.out (by kernel_rfl)) (by decide) (fun K hK=>?_)
            refine Kd.JZ (Kd.slice 9 Kd.string) _ 22 ?hg (N':=34) ?hd (xs:=([Es,Ha]:List (List ByteArray))) (inner:=[.slice SQ Es.length RI,.slice xh Ha.length wW]) (ok:=(fun k_=>some k_ ≠ (.slice rf iT.length qP:Value).ownBlock∧k_ ≠ fJ)) (rD:=(fun k_=>some k_ ≠ (.slice rf iT.length qP:Value).ownBlock∧k_ ≠ fJ)) ?hr ?hp (fun _ hk=>hk) ((show ∀ k_,xq.heap.size≤k_→(fun k_=>some k_ ≠ (.slice rf iT.length qP:Value).ownBlock∧k_ ≠ fJ) k_ from fun k_ hk=>⟨Kd.fresh' (Kd.acQ (by (with_reducible repeat (first|apply Kd.kF|apply Kd.kE|apply Kd.lX));exact jC.out)) k_ hk,Kd.Bc (g:=fJ) (o:=.cells #[.slice iR dn.length iH,.string bU,.string bV,.slice jg bM.length iG] 25 (0,0)) (by (with_reducible repeat (first|refine ah ?_ _|refine ak ?_|refine ai ?_ _));exact bY.out) k_ hk⟩) _ (Nat.le_refl _)) (Below.refl _ _) (Nat.le_refl _) (by simp) ?_;(case hd=>rfl);(case hg=>rfl);(case hr=>first|(go_simp;done)|(go_simp;rfl));(case hp=>exact (kD.one (show Kd.FK (Kd.slice 9 Kd.string) _ _ Es [.slice SQ Es.length RI] from (Kd.uO (Kd.fB (Kd.dm (ok':=(fun k_=>some k_ ≠ (.slice rf iT.length qP:Value).ownBlock∧k_ ≠ fJ)) (Kd.dQ (Kd.oC (rq.out) (Kd.uI jC.out) (by decide)) bY.out (by decide)) (fun k_ hk=>⟨hk.1.2,hk.2⟩))).2.1 (Kd.R_F (Kd.dm (ok':=(fun k_=>some k_ ≠ (.slice rf iT.length qP:Value).ownBlock∧k_ ≠ fJ)) (Kd.dQ (Kd.oC (rq.out) (Kd.uI jC.out) (by decide)) bY.out (by decide)) (fun k_ hk=>⟨hk.1.2,hk.2⟩))))) (kD.one (show Kd.FK (Kd.slice 9 Kd.string) _ _ Ha [.slice xh Ha.length wW] from (Kd.uO (Kd.fB (Kd.dm (ok':=(fun k_=>some k_ ≠ (.slice rf iT.length qP:Value).ownBlock∧k_ ≠ fJ)) (Kd.dQ (Kd.oC (uJ.out) (Kd.uI jC.out) (by decide)) bY.out (by decide)) (fun k_ hk=>⟨hk.1.2,hk.2⟩))).2.1 (Kd.R_F (Kd.dm (ok':=(fun k_=>some k_ ≠ (.slice rf iT.length qP:Value).ownBlock∧k_ ≠ fJ)) (Kd.dQ (Kd.oC (uJ.out) (Kd.uI jC.out) (by decide)) bY.out (by decide)) (fun k_ hk=>⟨hk.1.2,hk.2⟩))))) (kD.none _ _))))
            intro amR w28 OA hb JR tX
            clear JR tX
            (first|rw [← YJ.out] at OA|(simp only [Int.reduceToNat] at OA;rw [← YJ.out] at OA))
            have dG:=ae.mk (Kd.qV (by (with_reducible repeat (first|apply Kd.kF|apply Kd.kE|apply Kd.lX));exact jC.out) (Kd.aay OA) hb)
            have dM:=ae.mk (Kd.XQ OA (aZ (by repeat (first|(with_reducible first|exact HB.out|apply au|apply af|apply aj|refine az ?_ jL.out)|exact HB.out))))
            have dW:=ae.mk (bH (g:=fJ) (o:=.cells #[.slice iR dn.length iH,.string bU,.string bV,.slice jg bM.length iG] 25 (0,0)) (by (with_reducible repeat (first|refine ah ?_ _|refine ak ?_|refine ai ?_ _));exact bY.out) hb)
            have fK:=ae.mk (bf (by repeat (first|(with_reducible first|exact HB.out|apply au|apply af|apply aj|refine az ?_ jL.out)|exact HB.out)) hb)
            clear jC
            clear bY
            clear HB
            clear rq
            clear uJ
            have jC:=dG
            have Jd:=dM
            have bY:=dW
            have HB:=fK
            clear dG dM dW fK
            clear hb OA
            obtain ⟨anQ,anB,ab5⟩:=Kd.G6 Jd.out
            (first|subst ab5|(injection ab5 with Yy f2_ Yx;have f4_:=Yy.symm;have f5_:=Yx.symm;clear Yy f2_ Yx;subst f4_;subst f5_))
            refine hK.out _ _ ⟨(ax bY.out 0).trans rfl,(ax bY.out 1).trans rfl,(ax bY.out 2).trans rfl,(ax bY.out 3).trans rfl⟩ (fun hHeld=>?_)
            clear hK K
            refine jB (a':=?_) ?_ ?_
            rotate_left
            · show Act.put _ (some 34) _=_
              simp only [Act.put,List.setIfInBounds_toArray,List.set_cons_zero,List.set_cons_succ,aN,aQ]
              rfl
            refine sW (i:=10) (N:=some 35) #[true,true,true,true,true,true,true,true,true,true,true,false] rfl rfl (kC dR.out (by kernel_rfl)) (by decide) (fun K hK=>?_)
            refine Kd.zB (Kd.slice 9 Kd.string) (w0:=w) w.heap.size (by rfl) (.tmp 25) (.tmp 34) 43 22 (.slice none 0 0) 24 rfl Tryz.underlying43 info22 rfl (by decide) (by omega) (.slice rf iT.length qP) iT uU _ _ _ (fun k_=>k_ ≠ fJ) (fun k_=>((fun k_=>k_ ≠ fJ)) k_∧some k_ ≠ (.slice rf iT.length qP:Value).ownBlock) rfl rfl ?aO ?aR (fun _ hk=>hk) ?aF ?aB ?aS ?aL ?_
            (case aR=>exact (by skip;exact Kd.N_F (Kd.qU (ok':=(fun k_=>((fun k_=>k_ ≠ fJ)) k_∧some k_ ≠ (.slice rf iT.length qP:Value).ownBlock)) (Jd.out) (fun k_ hk=>⟨hk.2,hk.1⟩))))
            (case aB=>exact (by repeat (first|(with_reducible first|exact HB.out|apply au|apply af|apply aj|refine az ?_ jL.out)|exact HB.out)))
            (case aF=>exact (fun k_ hk=>Kd.Bc (g:=fJ) (o:=.cells #[.slice iR dn.length iH,.string bU,.string bV,.slice jg bM.length iG] 25 (0,0)) (by (with_reducible repeat (first|refine ah ?_ _|refine ak ?_|refine ai ?_ _));exact bY.out) k_ hk))
            (case aO=>exact (by (with_reducible repeat (first|apply Kd.kF|apply Kd.kE|apply Kd.lX));exact Kd.qU jC.out (fun _ hk=>hk.1.2.2)))
            (case aS=>exact (aZ (by repeat (first|(with_reducible first|exact HB.out|apply au|apply af|apply aj|refine az ?_ jL.out)|exact HB.out))))
            (case aL=>have:=acX.out;omega)
            intro v131 w30 ho hb hg hat
            rw [← acO.out] at ho
            have dG:=ae.mk (o8 (g:=fJ) (o:=.cells #[.slice iR dn.length iH,.string bU,.string bV,.slice jg bM.length iG] 25 (0,0)) (by (with_reducible repeat (first|refine ah ?_ _|refine ak ?_|refine ai ?_ _));exact bY.out) hg (Kd.XP jC.out bY.out (by decide)))
            have dM:=ae.mk (Kd.SG (ok:=(fun k_=>k_ ≠ fJ)) (by (with_reducible repeat (first|apply Kd.kF|apply Kd.kE|apply Kd.lX));exact Kd.qU Jd.out (fun _ hk=>⟨hk.2,hk.1⟩)) hg hat)
            have dW:=ae.mk (hb)
            have fK:=ae.mk (ho)
            clear bY
            clear Jd
            clear HB
            clear jC
            have bY:=dG
            have Jd:=dM
            have HB:=dW
            have adf:=fK
            clear dG dM dW fK
            clear ho hb hg hat
            refine hK.out _ _ ⟨(ax bY.out 0).trans rfl,(ax bY.out 1).trans rfl,(ax bY.out 2).trans rfl,(ax bY.out 3).trans rfl⟩ (fun hHeld=>?_)
            clear hK K
            refine jB (a':=?_) ?_ ?_
            rotate_left
            · show Act.put _ (some 35) _=_
              simp only [Act.put,List.setIfInBounds_toArray,List.set_cons_zero,List.set_cons_succ,aN,aQ]
              rfl
            refine bJ (i:=11) (N:=some 4) (v:=?_) (a':=?_) #[true,true,true,true,true,true,true,true,true,true,true,true] rfl rfl (aW dR.out (by kernel_rfl)) (fun _ _ _ h=>h) (Or.inl ⟨by rfl,?_⟩) ?_ ?_
            rotate_left
            · intro w'
              go_simp
              with_reducible rfl
            rotate_left
            · simp only [Act.put,List.setIfInBounds_toArray,List.set_cons_zero,List.set_cons_succ,aN,aQ]
              rfl
            refine xm (qf dR.out (by kernel_rfl)) ?_
            have Gy:w30.cell? ⟨fJ,0,none⟩=some (.slice iR dn.length iH):=(ax bY.out 0).trans rfl
            have Gx:w30.cell? ⟨fJ,1,none⟩=some (.string bU):=(ax bY.out 1).trans rfl
            have Gw:w30.cell? ⟨fJ,2,none⟩=some (.string bV):=(ax bY.out 2).trans rfl
            have Gv:w30.cell? ⟨fJ,3,none⟩=some (.slice jg bM.length iG):=(ax bY.out 3).trans rfl
            have Gu:=ay bY.out 0
            have Gt:=ay bY.out 1
            have Gs:=ay bY.out 2
            have Gq:=ay bY.out 3
            try go_wp2
            go_loopg [4,39] k1 (fun kq v4 v39 w'=>∃ (Et:List (List ByteArray)) (iZ:Int),v39=.int .i64 iZ∧ae (bW.l1 kq Et bM (bM.length:Int) iZ=some (r1,r2))∧ae (kq≤k1)∧ae (Kd.N (Kd.slice 9 Kd.string) 22 w' w.heap.size (fun k_=>k_ ≠ fJ) v4 Et)∧ae (w'.heap[fJ]? = some (.cells #[(.slice iR dn.length iH),.string bU,.string bV,(.slice jg bM.length iG)] 25 (0,0)))∧ae (Below w.heap.size w w'))
            case atStart=>exact ⟨(aaZ),(0),(by first|rfl|(simp;done)|(simp [*];done)),H',⟨Nat.le_refl _⟩,⟨by (with_reducible repeat (first|apply Kd.kF|apply Kd.kE|apply Kd.lX));exact adf.out⟩,⟨by (with_reducible repeat (first|refine ah ?_ _|refine ak ?_|refine ai ?_ _));exact bY.out⟩,⟨by repeat (first|(with_reducible first|exact HB.out|apply au|apply af|apply aj|refine az ?_ jL.out)|exact HB.out)⟩⟩
            case round =>
              clear H'
              try clear c1
              try clear p1
              try clear q1
              try clear hx1
              try clear p2
              try clear c3
              try clear p6
              try clear c8
              try clear ry
              try clear c9
              try clear EF
              try clear c10
              try clear mM
              try clear c11
              try clear p11
              try clear q11
              try clear am1
              try clear c18
              try clear c19
              try clear Gy
              try clear Gx
              try clear Gw
              try clear Gv
              try clear QP
              try clear QO
              try clear QN
              try clear QM
              try clear QL
              try clear QK
              try clear QJ
              try clear QI
              try clear Gu
              try clear Gt
              try clear Gs
              try clear Gq
              try clear QD
              try clear QC
              try clear QB
              try clear QA
              try clear Qz
              try clear Qy
              try clear Qx
              try clear Qw
              try clear CQ
              try clear Uc
              try clear p2
              try clear TZ
              obtain ⟨Et,iZ,rfl,HA,CX,jC,bY,HB⟩:=hrel
              cases gk with
              | zero=>exact absurd HA.out (by simp [bW.l1])
              | succ k2 =>
                have H:=HA.out
                clear HA
                simp only [bW.l1] at H
                by_cases O9:iZ < (bM.length:Int)
                · rw [if_pos O9] at H
                  have RS:decide (iZ < (bM.length:Int))=true:=decide_eq_true O9
                  clear O9
                  by_cases c34:0≤iZ
                  · rw [if_pos c34] at H
                    have RQ:decide (0≤iZ)=true:=decide_eq_true c34
                    clear c34
                    by_cases XG:iZ < (bM.length:Int)
                    · rw [if_pos XG] at H
                      have acd:decide (iZ < (bM.length:Int))=true:=decide_eq_true XG
                      clear XG
                      replace H:=Option.bind_eq_some_iff.mp H
                      obtain ⟨t135,adG,H⟩:=H
                      replace H:(if Et.length < 5864062014805 then (bW.l1 k2 (Et++[t135]) bM (bM.length:Int) (wrap64 (iZ+1))) else (none))=some (r1,r2):=H
                      have A36:=ae.mk adG
                      clear adG
                      by_cases c37:Et.length < 5864062014805
                      · rw [if_pos c37] at H
                        have acS:=ae.mk c37
                        clear c37
                        obtain ⟨aaY,Iz⟩:∃ y_:List (List ByteArray),y_=(Et++[t135]):=⟨_,rfl⟩
                        replace H:(bW.l1 k2 aaY bM (bM.length:Int) (wrap64 (iZ+1)))=some (r1,r2):=by first|(rw [Iz];with_reducible exact H)|(have qX:=(Option.bind_some _ _).symm.trans H;rw [Iz];with_reducible exact qX)|(have qX:=(Option.bind_some _ _).symm.trans H;with_reducible exact qX)|with_reducible exact H|(rw [Iz];exact H)|exact H
                        have acN:=ae.mk Iz
                        clear Iz
                        have H':=ae.mk H
                        clear H
                        have Zp:0≤(iZ:Int):=of_decide_eq_true (by first|(with_reducible assumption)|assumption)
                        have Zj:iZ < (bM.length:Int):=of_decide_eq_true (by first|(with_reducible assumption)|assumption)
                        obtain ⟨Fz,akh,Gp,Gn,Gm,Gl,Gj⟩:=xe Ak.out iZ Zp Zj
                        cases akh
                        replace Gp:=(HB.out.cell (World.block_lt_of_cell? w _ Gp)).trans Gp
                        replace Gn:=(HB.out.cell (World.block_lt_of_cell? w _ Gn)).trans Gn
                        replace Gm:=(HB.out.cell (World.block_lt_of_cell? w _ Gm)).trans Gm
                        replace Gl:=(HB.out.cell (World.block_lt_of_cell? w _ Gl)).trans Gl
                        replace Gj:=(HB.out.cell (World.block_lt_of_cell? w _ Gj)).trans Gj
                        replace Zp:=eq_true Zp
                        replace Zj:=eq_true Zj
                        go_wp2_with (first|((with_reducible refine fF (N:=8) rfl ?_);refine gu ?hg (N:=8) ?hd (cs:=#[.int .u8 0,.int .u8 0,.int .u8 0,.int .u8 0,.int .i64 0]) (t:=27) ?hr ?_;(case hd=>rfl);(case hg=>rfl);(case hr=>first|(go_simp;done)|(go_simp;rfl));intro oO hg Tf hbox hb;have dG:=ae.mk (Kd.yL (Kd.SE (by (with_reducible repeat (first|apply Kd.kF|apply Kd.kE|apply Kd.lX));exact jC.out) oO (Nat.le_of_eq hg.symm)) hb);have dM:=ae.mk (bH (g:=fJ) (o:=.cells #[.slice iR dn.length iH,.string bU,.string bV,.slice (some Fz) bM.length iG] 25 (0,0)) (by (with_reducible repeat (first|refine ah ?_ _|refine ak ?_|refine ai ?_ _));exact bY.out) hb);have dW:=ae.mk (bf (by repeat (first|(with_reducible first|exact HB.out|apply au|apply af|apply aj|refine az ?_ jL.out)|exact HB.out)) hb);have fK:=ae.mk (hbox);have iO:=ae.mk ((by rw [hg];exact (aZ (by repeat (first|(with_reducible first|exact HB.out|apply au|apply af|apply aj|refine az ?_ jL.out)|exact HB.out))):w.heap.size≤oO));have jE:=ae.mk ((by rw [hg];exact (aZ (by repeat (first|(with_reducible first|exact HB.out|apply au|apply af|apply aj|refine az ?_ jL.out)|exact HB.out))):w.heap.size≤oO));have lg:=ae.mk ((by rw [hg];exact Nat.ne_of_lt (gG (g:=fJ) (o:=.cells #[.slice iR dn.length iH,.string bU,.string bV,.slice (some Fz) bM.length iG] 25 (0,0)) (by (with_reducible repeat (first|refine ah ?_ _|refine ak ?_|refine ai ?_ _));exact bY.out)):fJ ≠ oO));have pz:=ae.mk ((by rw [hg];exact Nat.ne_of_gt (gG (g:=fJ) (o:=.cells #[.slice iR dn.length iH,.string bU,.string bV,.slice (some Fz) bM.length iG] 25 (0,0)) (by (with_reducible repeat (first|refine ah ?_ _|refine ak ?_|refine ai ?_ _));exact bY.out)):oO ≠ fJ));clear jC;clear bY;clear HB;have jC:=dG;have bY:=dM;have HB:=dW;have qp:=fK;have amr:=iO;have FD:=jE;have tC:=lg;have Ph:=pz;clear dG dM dW fK iO jE lg pz;clear hb hbox hg;have alz:=Ph.out;have ak6:=tC.out;have V6:Tf.cell? ⟨oO,0,none⟩=some (.int .u8 0):=(ax qp.out 0).trans rfl;have V5:Tf.cell? ⟨oO,1,none⟩=some (.int .u8 0):=(ax qp.out 1).trans rfl;have VZ:Tf.cell? ⟨oO,2,none⟩=some (.int .u8 0):=(ax qp.out 2).trans rfl;have VY:Tf.cell? ⟨oO,3,none⟩=some (.int .u8 0):=(ax qp.out 3).trans rfl;have aiq:Tf.cell? ⟨oO,4,none⟩=some (.int .i64 0):=(ax qp.out 4).trans rfl;have UR:=ay qp.out 0;have UQ:=ay qp.out 1;have UO:=ay qp.out 2;have UN:=ay qp.out 3;have agh:=ay qp.out 4)|((with_reducible refine bQ (f:=20) rfl ?_);refine fZ (some 45) rfl rfl Tryz.func20 (by kernel_rfl) rfl #[.agg #[.int .u8 ((aU bM iZ).f0),.int .u8 ((aU bM iZ).f1),.int .u8 ((aU bM iZ).f2),.int .u8 ((aU bM iZ).f3),.int .i64 ((aU bM iZ).f4)]] rfl (by (try simp only [List.map_toArray,List.map_cons,List.map_nil]);first|done|rfl|(simp only [List.length_drop,List.length_take];rfl)) ?_;(with_reducible refine (uf.calls ((aU bM iZ).f0) ((aU bM iZ).f1) ((aU bM iZ).f2) ((aU bM iZ).f3) ((aU bM iZ).f4) t135 _ ?gV A36.out).mono ?_);(case gV=>exact Kd.gY Ai.out (by repeat (first|(with_reducible first|exact HB.out|apply au|apply af|apply aj|refine az ?_ jL.out|refine az ?_ FD.out)|exact HB.out)));rintro e w41 ⟨amQ,rfl,ho0,hb⟩;refine ⟨_,rfl,?_⟩;have dG:=ae.mk (Kd.qV (by (with_reducible repeat (first|apply Kd.kF|apply Kd.kE|apply Kd.lX));exact (Kd.qU (Kd.Ja (p:=⟨oO,4,none⟩) (Kd.Ja (p:=⟨oO,3,none⟩) (Kd.Ja (p:=⟨oO,2,none⟩) (Kd.Ja (p:=⟨oO,1,none⟩) (Kd.Ja (p:=⟨oO,0,none⟩) (Kd.qU jC.out (fun k_ hk=>(⟨hk,hk.2⟩:_∧k_ ≠ oO))) (fun _ hk=>hk.2) (.int .u8 ((aU bM iZ).f0))) (fun _ hk=>hk.2) (.int .u8 ((aU bM iZ).f1))) (fun _ hk=>hk.2) (.int .u8 ((aU bM iZ).f2))) (fun _ hk=>hk.2) (.int .u8 ((aU bM iZ).f3))) (fun _ hk=>hk.2) (.int .i64 ((aU bM iZ).f4))) (fun _ h_=>h_.1))) (Kd.lW ho0) hb);have dM:=ae.mk (Kd.iW ho0 (aZ (by repeat (first|(with_reducible first|exact HB.out|apply au|apply af|apply aj|refine az ?_ jL.out|refine az ?_ FD.out)|exact HB.out))));have dW:=ae.mk (bH (g:=fJ) (o:=.cells #[.slice iR dn.length iH,.string bU,.string bV,.slice (some Fz) bM.length iG] 25 (0,0)) (by (with_reducible repeat (first|refine ah ?_ _|refine ak ?_|refine ai ?_ _));refine di ?_ tC.out _;(with_reducible repeat (first|refine ah ?_ _|refine ak ?_|refine ai ?_ _));refine di ?_ tC.out _;(with_reducible repeat (first|refine ah ?_ _|refine ak ?_|refine ai ?_ _));refine di ?_ tC.out _;(with_reducible repeat (first|refine ah ?_ _|refine ak ?_|refine ai ?_ _));refine di ?_ tC.out _;(with_reducible repeat (first|refine ah ?_ _|refine ak ?_|refine ai ?_ _));refine di ?_ tC.out _;(with_reducible repeat (first|refine ah ?_ _|refine ak ?_|refine ai ?_ _));exact bY.out) hb);have fK:=ae.mk (bH (g:=oO) (o:=.cells #[.int .u8 ((aU bM iZ).f0),.int .u8 ((aU bM iZ).f1),.int .u8 ((aU bM iZ).f2),.int .u8 ((aU bM iZ).f3),.int .i64 ((aU bM iZ).f4)] 27 (0,0)) (by (with_reducible repeat (first|refine ah ?_ _|refine ak ?_|refine ai ?_ _));refine bu (cs:=#[.int .u8 ((aU bM iZ).f0),.int .u8 ((aU bM iZ).f1),.int .u8 ((aU bM iZ).f2),.int .u8 ((aU bM iZ).f3),.int .i64 0]) ?_ 4 _ rfl;(with_reducible repeat (first|refine ah ?_ _|refine ak ?_|refine ai ?_ _));refine bu (cs:=#[.int .u8 ((aU bM iZ).f0),.int .u8 ((aU bM iZ).f1),.int .u8 ((aU bM iZ).f2),.int .u8 0,.int .i64 0]) ?_ 3 _ rfl;(with_reducible repeat (first|refine ah ?_ _|refine ak ?_|refine ai ?_ _));refine bu (cs:=#[.int .u8 ((aU bM iZ).f0),.int .u8 ((aU bM iZ).f1),.int .u8 0,.int .u8 0,.int .i64 0]) ?_ 2 _ rfl;(with_reducible repeat (first|refine ah ?_ _|refine ak ?_|refine ai ?_ _));refine bu (cs:=#[.int .u8 ((aU bM iZ).f0),.int .u8 0,.int .u8 0,.int .u8 0,.int .i64 0]) ?_ 1 _ rfl;(with_reducible repeat (first|refine ah ?_ _|refine ak ?_|refine ai ?_ _));refine bu (cs:=#[.int .u8 0,.int .u8 0,.int .u8 0,.int .u8 0,.int .i64 0]) ?_ 0 _ rfl;(with_reducible repeat (first|refine ah ?_ _|refine ak ?_|refine ai ?_ _));exact qp.out) hb);have iO:=ae.mk (bf (by repeat (first|(with_reducible first|exact HB.out|apply au|apply af|apply aj|refine az ?_ jL.out|refine az ?_ FD.out)|exact HB.out)) hb);clear jC;clear bY;clear qp;clear HB;have jC:=dG;have NH:=dM;have bY:=dW;have qp:=fK;have HB:=iO;clear dG dM dW fK iO;(try clear hb);(try clear hb2);(try clear hk);(try clear hi);(try clear ho0);obtain ⟨aky,akj,ajW⟩:=Kd.gI NH.out;subst ajW)|((with_reducible refine jm (b:=.append) (xs:=#[.tmp 43,.tmp 46]) rfl ?_);at_builtin;refine Kd.Jb (Kd.slice 9 Kd.string) (w0:=w) w.heap.size rfl (.tmp 43) (.tmp 46) 43 22 (.slice none 0 0) 24 rfl Tryz.underlying43 info22 rfl (by decide) (by omega) u4 Et t135 [.slice aky t135.length akj] (fun k_=>k_ ≠ fJ∧k_ ≠ oO) (fun k_=>((fun k_=>k_ ≠ fJ∧k_ ≠ oO)) k_∧some k_ ≠ (u4:Value).ownBlock) rfl rfl ?aP (fun _ hk=>hk) ?aF ?aO ?aB ?aS ?aL ?_;(case aP=>exact (Kd.uO (Kd.fB (Kd.dm (ok':=(fun k_=>((fun k_=>k_ ≠ fJ∧k_ ≠ oO)) k_∧some k_ ≠ (u4:Value).ownBlock)) (Kd.dQ (Kd.dQ (Kd.oC (NH.out) (Kd.uI jC.out) (by decide)) bY.out (by decide)) qp.out (by decide)) (fun k_ hk=>⟨⟨hk.1.2,hk.2⟩,hk.1.1.2⟩))).2.1 (Kd.R_F (Kd.dm (ok':=(fun k_=>((fun k_=>k_ ≠ fJ∧k_ ≠ oO)) k_∧some k_ ≠ (u4:Value).ownBlock)) (Kd.dQ (Kd.dQ (Kd.oC (NH.out) (Kd.uI jC.out) (by decide)) bY.out (by decide)) qp.out (by decide)) (fun k_ hk=>⟨⟨hk.1.2,hk.2⟩,hk.1.1.2⟩)))));(case aB=>exact (by repeat (first|(with_reducible first|exact HB.out|apply au|apply af|apply aj|refine az ?_ jL.out|refine az ?_ FD.out)|exact HB.out)));(case aF=>exact (fun k_ hk=>⟨Kd.Bc (g:=fJ) (o:=.cells #[.slice iR dn.length iH,.string bU,.string bV,.slice (some Fz) bM.length iG] 25 (0,0)) (by (with_reducible repeat (first|refine ah ?_ _|refine ak ?_|refine ai ?_ _));exact bY.out) k_ hk,Kd.Bc (g:=oO) (o:=.cells #[.int .u8 ((aU bM iZ).f0),.int .u8 ((aU bM iZ).f1),.int .u8 ((aU bM iZ).f2),.int .u8 ((aU bM iZ).f3),.int .i64 ((aU bM iZ).f4)] 27 (0,0)) (by (with_reducible repeat (first|refine ah ?_ _|refine ak ?_|refine ai ?_ _));exact qp.out) k_ hk⟩));(case aO=>exact (by (with_reducible repeat (first|apply Kd.kF|apply Kd.kE|apply Kd.lX));exact Kd.qU jC.out (fun _ hk=>⟨hk.1.1,hk.1.2⟩)));(case aS=>exact (aZ (by repeat (first|(with_reducible first|exact HB.out|apply au|apply af|apply aj|refine az ?_ jL.out|refine az ?_ FD.out)|exact HB.out))));(case aL=>have:=acS.out;omega);intro v139 w42 ho hb hg hat;rw [← acN.out] at ho;have dG:=ae.mk (o8 (g:=fJ) (o:=.cells #[.slice iR dn.length iH,.string bU,.string bV,.slice (some Fz) bM.length iG] 25 (0,0)) (by (with_reducible repeat (first|refine ah ?_ _|refine ak ?_|refine ai ?_ _));exact bY.out) hg (Kd.XP jC.out bY.out (by decide)));have dM:=ae.mk (o8 (g:=oO) (o:=.cells #[.int .u8 ((aU bM iZ).f0),.int .u8 ((aU bM iZ).f1),.int .u8 ((aU bM iZ).f2),.int .u8 ((aU bM iZ).f3),.int .i64 ((aU bM iZ).f4)] 27 (0,0)) (by (with_reducible repeat (first|refine ah ?_ _|refine ak ?_|refine ai ?_ _));exact qp.out) hg (Kd.XP jC.out qp.out (by decide)));have dW:=ae.mk (hb);have fK:=ae.mk (ho);clear bY;clear qp;clear HB;clear jC;clear NH;have bY:=dG;have qp:=dM;have HB:=dW;have ade:=fK;clear dG dM dW fK;clear ho hb hg hat))
                        go_roundg k2
                        case measure=>have:=pJ.out;have:=CX.out;omega
                        case rel=>exact ⟨(aaY),(wrap64 (iZ+1)),(by first|rfl|(simp;done)|(simp [*];done)),H',⟨by have:=pJ.out;have:=CX.out;omega⟩,⟨by (with_reducible repeat (first|apply Kd.kF|apply Kd.kE|apply Kd.lX));exact Kd.qU ade.out (fun _ hk=>hk.1)⟩,⟨by (with_reducible repeat (first|refine ah ?_ _|refine ak ?_|refine ai ?_ _));exact bY.out⟩,⟨by repeat (first|(with_reducible first|exact HB.out|apply au|apply af|apply aj|refine az ?_ jL.out|refine az ?_ FD.out)|exact HB.out)⟩⟩
                      · rw [if_neg c37] at H
                        exact absurd H (by simp)
                    · rw [if_neg XG] at H
                      exact absurd H (by simp)
                  · rw [if_neg c34] at H
                    exact absurd H (by simp)
                · rw [if_neg O9] at H
                  have RS:decide (iZ < (bM.length:Int))=false:=decide_eq_false O9
                  clear O9
                  replace H:=Option.bind_eq_some_iff.mp H
                  obtain ⟨t141,adF,H⟩:=H
                  replace H:(some (t141,0))=some (r1,r2):=H
                  have A44:=ae.mk adF
                  clear adF
                  simp only [Option.some.injEq,Prod.mk.injEq] at H
                  obtain ⟨rfl,rfl⟩:=H
                  obtain ⟨adA,ab8,Z7⟩:=Kd.G6 jC.out
                  subst Z7
                  go_wp2_with (first|((with_reducible refine bQ (f:=21) rfl ?_);refine fZ (some 50) rfl rfl Tryz.func21 (by kernel_rfl) rfl #[.slice adA Et.length ab8] rfl (by (try simp only [List.map_toArray,List.map_cons,List.map_nil]);first|done|rfl|(simp only [List.length_drop,List.length_take];rfl)) ?_;(with_reducible refine (uX.calls _ _ Et t141 _ ?gV ?lD A44.out).mono ?_);(case gV=>repeat (first|exact (Kd.Ec jC.out).2.2|(with_reducible refine Kd.gZ ?_ _)|(with_reducible refine Kd.gX ?_ _)|(with_reducible refine Kd.jb ?_)));(case lD=>exact (Kd.Ec jC.out).2.1);rintro e Tu ⟨rfl,hb⟩;refine ⟨_,rfl,?_⟩;have dG:=ae.mk (Kd.yL (by (with_reducible repeat (first|apply Kd.kF|apply Kd.kE|apply Kd.lX));exact jC.out) hb);have dM:=ae.mk (bH (g:=fJ) (o:=.cells #[.slice iR dn.length iH,.string bU,.string bV,.slice jg bM.length iG] 25 (0,0)) (by (with_reducible repeat (first|refine ah ?_ _|refine ak ?_|refine ai ?_ _));exact bY.out) hb);have dW:=ae.mk (bf (by repeat (first|(with_reducible first|exact HB.out|apply au|apply af|apply aj|refine az ?_ jL.out)|exact HB.out)) hb);clear jC;clear bY;clear HB;have jC:=dG;have bY:=dM;have HB:=dW;clear dG dM dW;(try clear hb);(try clear hb2);(try clear hk);(try clear hi)))
                  go_ret2
                  exact ⟨by first|rfl|(simp [bF,bD] <;> rfl)|(simp [*,bF,bD] <;> rfl),by repeat (first|(with_reducible first|exact HB.out|apply au|apply af|apply aj|refine az ?_ jL.out)|exact HB.out)⟩
          · rw [if_neg c18] at H
            exact absurd H (by simp)
  · replace c3:=Bool.eq_false_iff.mpr c3
    subst c3
    have H1:(some ((⟨#[]⟩:ByteArray),2))=some (r1,r2):=by rw [if_neg (show ¬ (false=true) by decide)] at H;exact H
    clear H
    have H:=H1
    clear H1
    simp only [Option.some.injEq,Prod.mk.injEq] at H
    obtain ⟨rfl,rfl⟩:=H
    go_enter Tryz.func9,Tryz.ntmps9
    go_wp2_with (first|((with_reducible refine fF (N:=1) rfl ?_);refine gu ?hg (N:=1) ?hd (cs:=#[.slice iR dn.length iH,.string bU,.string bV,.slice jg bM.length iG]) (t:=25) ?hr ?_;(case hd=>rfl);(case hg=>rfl);(case hr=>first|(go_simp;done)|(go_simp;rfl));intro fJ hg w47 hbox hb;have dG:=ae.mk (bf (by repeat (first|(with_reducible first|exact HB.out|apply au|apply af|apply aj)|exact HB.out)) hb);have dM:=ae.mk (hbox);have dW:=ae.mk ((by rw [hg];exact (aZ (by repeat (first|(with_reducible first|exact HB.out|apply au|apply af|apply aj)|exact HB.out))):w.heap.size≤fJ));have fK:=ae.mk ((by rw [hg];exact (aZ (by repeat (first|(with_reducible first|exact HB.out|apply au|apply af|apply aj)|exact HB.out))):w.heap.size≤fJ));clear HB;have HB:=dG;have bY:=dM;have ads:=dW;have jL:=fK;clear dG dM dW fK;clear hb hbox hg;have ah6:w47.cell? ⟨fJ,0,none⟩=some (.slice iR dn.length iH):=(ax bY.out 0).trans rfl;have ah5:w47.cell? ⟨fJ,1,none⟩=some (.string bU):=(ax bY.out 1).trans rfl;have ah4:w47.cell? ⟨fJ,2,none⟩=some (.string bV):=(ax bY.out 2).trans rfl;have ah3:w47.cell? ⟨fJ,3,none⟩=some (.slice jg bM.length iG):=(ax bY.out 3).trans rfl;have afW:=ay bY.out 0;have afV:=ay bY.out 1;have afU:=ay bY.out 2;have afT:=ay bY.out 3)|((with_reducible refine bQ (f:=18) rfl ?_);refine fZ (some 10) rfl rfl Tryz.func18 (by kernel_rfl) rfl #[.agg #[.slice iR dn.length iH,.string bU,.string bV,.slice jg bM.length iG]] rfl (by (try simp only [List.map_toArray,List.map_cons,List.map_nil]);first|done|rfl|(simp only [List.length_drop,List.length_take];rfl)) ?_;(with_reducible refine (eY.calls k _ _ dn bU bV _ _ bM false _ ?gV ?lD ?xJ ?xI ?xH A2.out).mono ?_);(case gV=>repeat (first|exact (Kd.gY yY.out HB.out)|(with_reducible refine Kd.gZ ?_ _)|(with_reducible refine Kd.gX ?_ _)|(with_reducible refine Kd.jb ?_)));(case lD=>exact NM.out);(case xJ=>repeat (first|exact (Kd.gY Ak.out HB.out)|(with_reducible refine Kd.gZ ?_ _)|(with_reducible refine Kd.gX ?_ _)|(with_reducible refine Kd.jb ?_)));(case xI=>exact NL.out);(case xH=>repeat (first|exact (Kd.gY Ai.out HB.out)|(with_reducible refine Kd.gZ ?_ _)|(with_reducible refine Kd.gX ?_ _)|(with_reducible refine Kd.jb ?_)));rintro e Pm ⟨rfl,hb⟩;refine ⟨_,rfl,?_⟩;have dG:=ae.mk (bH (g:=fJ) (o:=.cells #[.slice iR dn.length iH,.string bU,.string bV,.slice jg bM.length iG] 25 (0,0)) (by (with_reducible repeat (first|refine ah ?_ _|refine ak ?_|refine ai ?_ _));exact bY.out) hb);have dM:=ae.mk (bf (by repeat (first|(with_reducible first|exact HB.out|apply au|apply af|apply aj|refine az ?_ jL.out)|exact HB.out)) hb);clear bY;clear HB;have bY:=dG;have HB:=dM;clear dG dM;(try clear hb);(try clear hb2);(try clear hk);(try clear hi)))
    go_ret2
    exact ⟨by first|rfl|(simp [bF,bD] <;> rfl)|(simp [*,bF,bD] <;> rfl),by repeat (first|(with_reducible first|exact HB.out|apply au|apply af|apply aj|refine az ?_ jL.out)|exact HB.out)⟩
def tH.f (a0:ByteArray):Option (Bool):=if (a0.size:Int)≤30 then ((jw.f a0 (⟨#[97,98,99,100,101,102,103,104,105,106,107,108,109,110,111,112,113,114,115,116,117,118,119,120,121,122,48,49,50,51,52,53,54,55,56,57,45]⟩:ByteArray)).bind fun t142=>(some (t142.toList == ([]:List UInt8)))) else (some false)
set_option maxHeartbeats 8000000 in
set_option maxRecDepth 100000 in
theorem tH.calls (a0:ByteArray) (r:Bool) (w:World) (h:tH.f a0=some r) :
    Calls Tryz.prog 51 #[.string a0] w fun e w'=>e=.returned (.bool r)∧Below w.heap.size w w':=by
  have HB:=ae.mk (Below.refl w.heap.size w)
  have H:(if (a0.size:Int)≤30 then ((jw.f a0 (⟨#[97,98,99,100,101,102,103,104,105,106,107,108,109,110,111,112,113,114,115,116,117,118,119,120,121,122,48,49,50,51,52,53,54,55,56,57,45]⟩:ByteArray)).bind fun t142=>(some (t142.toList == ([]:List UInt8)))) else (some false))=some r:=h
  clear h
  by_cases c2:(a0.size:Int)≤30
  · rw [if_pos c2] at H
    have uS:decide ((a0.size:Int)≤30)=true:=decide_eq_true c2
    have zy:decide (a0.size≤30)=true:=decide_eq_true (by omega)
    clear c2
    replace H:=Option.bind_eq_some_iff.mp H
    obtain ⟨t142,Jg,H⟩:=H
    replace H:(some (t142.toList == ([]:List UInt8)))=some r:=H
    have A3:=ae.mk Jg
    clear Jg
    obtain rfl:=Option.some.inj H
    go_enter Tryz.func51,Tryz.ntmps51
    go_wp2_with (first|(go_at_call 54;(with_reducible refine (jw.calls a0 (⟨#[97,98,99,100,101,102,103,104,105,106,107,108,109,110,111,112,113,114,115,116,117,118,119,120,121,122,48,49,50,51,52,53,54,55,56,57,45]⟩:ByteArray) t142 _ A3.out).mono ?_);rintro e w4 ⟨rfl,hb⟩;have dG:=ae.mk (bf (by repeat (first|(with_reducible first|exact HB.out|apply au|apply af|apply aj)|exact HB.out)) hb);clear HB;have HB:=dG;clear dG;(try clear hb);(try clear hb2);(try clear hk);(try clear hi)))
    go_ret
    exact ⟨by first|rfl|(simp [bF,bD] <;> rfl)|(simp [*,bF,bD] <;> rfl),by repeat (first|(with_reducible first|exact HB.out|apply au|apply af|apply aj)|exact HB.out)⟩
  · rw [if_neg c2] at H
    have uS:decide ((a0.size:Int)≤30)=false:=decide_eq_false c2
    have zy:decide (a0.size≤30)=false:=decide_eq_false (by omega)
    clear c2
    obtain rfl:=Option.some.inj H
    go_enter Tryz.func51,Tryz.ntmps51
    go_wp2
    go_ret
    exact ⟨by first|rfl|(simp [bF,bD] <;> rfl)|(simp [*,bF,bD] <;> rfl),by repeat (first|(with_reducible first|exact HB.out|apply au|apply af|apply aj)|exact HB.out)⟩
end Go.Proofs.YtkclndkbccbhaaaGreatDoor.P
end
