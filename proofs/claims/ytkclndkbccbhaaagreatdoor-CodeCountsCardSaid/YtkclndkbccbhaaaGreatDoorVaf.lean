/- Parts of the proof of CodeCounts: what the functions that it reaches compute, and plain facts about that. -/
import Derived.Test.YtkclndkbccbhaaaGreatDoorVac
import Derived.Test.YtkclndkbccbhaaaGreatDoorVad
import Derived.Test.YtkclndkbccbhaaaGreatDoorVae
set_option linter.unusedVariables false
set_option linter.unusedSimpArgs false
section
namespace Go.Proofs.YtkclndkbccbhaaaGreatDoor.P
open Go.RowKit Go.Proofs.ae.aX Go.Proofs.ae.dh Go.Proofs.ae.dI
attribute [local go_sem] iY iV jL jK iy iw iW iU
mutual
def aU.l0:Nat→List (List ByteArray)→List ByteArray→Int→Int→List ByteArray→ByteArray→ByteArray→List (iQ)→Option (ByteArray × Int)
  | 0,_,_,_,_,_,_,_,_=>none
  | k+1,x4,PD,x14,x15,JH,DC,Dz,yF=>if x15 < x14 then (if 0≤x15 then (if x15 < (PD.length:Int) then (if x4.length < 5864062014805 then (aU.l0 k (x4++[(([(⟨#[116,121,112,101]⟩:ByteArray),dZ ByteArray.empty PD x15]:List ByteArray))]) PD x14 (wrap64 (x15+1)) JH DC Dz yF) else (none)) else (none)) else (none)) else ((jv.f DC).bind fun t119=>((jv.f Dz).bind fun t123=>((some (([(([(⟨#[108,111,99,97,108,115]⟩:ByteArray),t119]:List ByteArray)),(([(⟨#[103,108,111,98,97,108,115]⟩:ByteArray),t123]:List ByteArray))]:List (List ByteArray)):List (List ByteArray))).bind fun nV=>(if x4.length+nV.length < 5864062014805 then (aU.l1 k (x4++nV) yF (yF.length:Int) 0) else (none)))))
def aU.l1:Nat→List (List ByteArray)→List (iQ)→Int→Int→Option (ByteArray × Int)
  | 0,_,_,_,_=>none
  | k+1,x4,NT,x38,x39=>if x39 < x38 then (if 0≤x39 then (if x39 < (NT.length:Int) then ((kJ.f ((aQ NT x39).f0) ((aQ NT x39).f1) ((aQ NT x39).f2) ((aQ NT x39).f3) ((aQ NT x39).f4)).bind fun t135=>(if x4.length < 5864062014805 then (aU.l1 k (x4++[t135]) NT x38 (wrap64 (x39+1))) else (none))) else (none)) else (none)) else ((jr.f x4).bind fun t141=>(some (t141,0)))
end
def aU.f (k:Nat) (bn:List ByteArray) (bD:ByteArray) (bu:ByteArray) (aV:List (iQ)):Option (ByteArray × Int):=(bV.f k bn bD bu aV).bind fun t111=>(if t111=true then (aU.l0 k ([]:List (List ByteArray)) bn (bn.length:Int) 0 bn bD bu aV) else (some ((⟨#[]⟩:ByteArray),2)))
theorem aU.dR:∀ k,(∀ y0 y1 y2 y3 y4 y5 y6 y7,bM (aU.l0 k y0 y1 y2 y3 y4 y5 y6 y7) (aU.l0 (k+1) y0 y1 y2 y3 y4 y5 y6 y7))∧(∀ y0 y1 y2 y3,bM (aU.l1 k y0 y1 y2 y3) (aU.l1 (k+1) y0 y1 y2 y3))
  | 0=>⟨fun _ _ _ _ _ _ _ _ r h=>by simp [aU.l0] at h,fun _ _ _ _ r h=>by simp [aU.l1] at h⟩
  | k+1=>by
    obtain ⟨gV,ih1⟩:=aU.dR k
    refine ⟨?_,?_⟩
    · intro y0 y1 y2 y3 y4 y5 y6 y7
      unfold aU.l0
      repeat' first
      | (with_reducible exact gV _ _ _ _ _ _ _ _)
      | (with_reducible exact ih1 _ _ _ _)
      | (with_reducible exact bV.mono _ _ _ _ _)
      | (with_reducible exact bM.refl _)
      | (with_reducible exact bM.none _)
      | (with_reducible refine bM.ite ?_ ?_)
      | (with_reducible refine bM.bind ?_ (fun _=>?_))
      | exact gV _ _ _ _ _ _ _ _
      | exact ih1 _ _ _ _
      | exact bV.mono _ _ _ _ _
      | exact bM.none _
      | refine bM.ite ?_ ?_
      | refine bM.bind ?_ (fun _=>?_)
    · intro y0 y1 y2 y3
      unfold aU.l1
      repeat' first
      | (with_reducible exact gV _ _ _ _ _ _ _ _)
      | (with_reducible exact ih1 _ _ _ _)
      | (with_reducible exact bV.mono _ _ _ _ _)
      | (with_reducible exact bM.refl _)
      | (with_reducible exact bM.none _)
      | (with_reducible refine bM.ite ?_ ?_)
      | (with_reducible refine bM.bind ?_ (fun _=>?_))
      | exact gV _ _ _ _ _ _ _ _
      | exact ih1 _ _ _ _
      | exact bV.mono _ _ _ _ _
      | exact bM.none _
      | refine bM.ite ?_ ?_
      | refine bM.bind ?_ (fun _=>?_)
theorem aU.mono:∀ a0 a1 a2 a3 k,bM (aU.f k a0 a1 a2 a3) (aU.f (k+1) a0 a1 a2 a3):=by
  intro a0 a1 a2 a3 k
  obtain ⟨gV,ih1⟩:=aU.dR k
  unfold aU.f
  repeat' first
      | (with_reducible exact gV _ _ _ _ _ _ _ _)
      | (with_reducible exact ih1 _ _ _ _)
      | (with_reducible exact bV.mono _ _ _ _ _)
      | (with_reducible exact bM.refl _)
      | (with_reducible exact bM.none _)
      | (with_reducible refine bM.ite ?_ ?_)
      | (with_reducible refine bM.bind ?_ (fun _=>?_))
      | exact gV _ _ _ _ _ _ _ _
      | exact ih1 _ _ _ _
      | exact bV.mono _ _ _ _ _
      | exact bM.none _
      | refine bM.ite ?_ ?_
      | refine bM.bind ?_ (fun _=>?_)
def aU.T9:Bool × List (List Nat × List Nat):=(true,[([],[]),([],[]),([1],[1]),([2],[2]),([3],[3]),([],[]),([5],[5]),([6,3],[6]),([7],[7]),([4,8],[4,8]),([0,9,7],[0,9]),([10,10,0,1,2,3,4,5,6,7,8,9,10],[0,10])])
def aU.B9:List Nat:=[0,0,2,6,14,0,32,110,238,510,1023,2047]
theorem aU.VB:lZ .any (opsOf Tryz.f9 9)=aU.T9:=by kernel_rfl
theorem aU.Qu:nJ aU.T9.2 aU.B9=true:=by kernel_rfl
set_option maxHeartbeats 8000000 in
set_option maxRecDepth 100000 in
theorem aU.calls (k:Nat) (dN:Option Addr) (dK:Nat) (bn:List ByteArray) (bD:ByteArray) (bu:ByteArray) (dQ:Option Addr) (dJ:Nat) (aV:List (iQ)) (r1:ByteArray) (r2:Int) (w:World) (pV:Kd.C Kd.string w dN bn.length bn) (pX:bn.length≤dK) (pU:Kd.C k27 w dQ aV.length aV) (pW:aV.length≤dJ) (iC:Kd.C pK w pM jO.length jO) (h:aU.f k bn bD bu aV=some (r1,r2)) :
    Calls Tryz.prog 9 #[.agg #[.slice dN bn.length dK,.string bD,.string bu,.slice dQ aV.length dJ]] w fun e w'=>e=.returned (.tuple #[.string r1,.int .i64 r2])∧Below w.heap.size w w':=by
  have KJ:=Tryz.underlying25
  have PY:=Tryz.underlying27
  have nH:=af.mk pV
  have ru:=af.mk pX
  clear pV pX
  have oH:=af.mk pU
  have rq:=af.mk pW
  clear pU pW
  have uo:=af.mk iC
  clear iC
  have HB:=af.mk (Below.refl w.heap.size w)
  have H:((bV.f k bn bD bu aV).bind fun t111=>(if t111=true then (aU.l0 k ([]:List (List ByteArray)) bn (bn.length:Int) 0 bn bD bu aV) else (some ((⟨#[]⟩:ByteArray),2))))=some (r1,r2):=h
  clear h
  replace H:=Option.bind_eq_some_iff.mp H
  obtain ⟨t111,NR,H⟩:=H
  replace H:(if t111=true then (aU.l0 k ([]:List (List ByteArray)) bn (bn.length:Int) 0 bn bD bu aV) else (some ((⟨#[]⟩:ByteArray),2)))=some (r1,r2):=H
  have A2:=af.mk NR
  clear NR
  by_cases c3:t111=true
  · subst c3
    have H1:(aU.l0 k ([]:List (List ByteArray)) bn (bn.length:Int) 0 bn bD bu aV)=some (r1,r2):=by rw [if_pos rfl] at H;exact H
    clear H
    have H:=H1
    clear H1
    have H':=af.mk H
    clear H
    go_enter Tryz.func9,Tryz.ntmps9
    go_wp2_with (first|((with_reducible refine eu (N:=1) rfl ?_);refine iK ?hg (N:=1) ?hd (cs:=#[.slice dN bn.length dK,.string bD,.string bu,.slice dQ aV.length dJ]) (t:=25) ?hr ?_;(case hd=>rfl);(case hg=>rfl);(case hr=>first|(go_simp;done)|(go_simp;rfl));intro dA hg w4 hbox hb;have dM:=af.mk (bf (by repeat (first|(with_reducible first|exact HB.out|apply ai|apply ag|apply ah)|exact HB.out)) hb);have dP:=af.mk (hbox);have eY:=af.mk ((by rw [hg];exact (bG (by repeat (first|(with_reducible first|exact HB.out|apply ai|apply ag|apply ah)|exact HB.out))):w.heap.size≤dA));have iD:=af.mk ((by rw [hg];exact (bG (by repeat (first|(with_reducible first|exact HB.out|apply ai|apply ag|apply ah)|exact HB.out))):w.heap.size≤dA));clear HB;have HB:=dM;have bg:=dP;have Rw:=eY;have fO:=iD;clear dM dP eY iD;clear hb hbox hg;have Ip:w4.cell? ⟨dA,0,none⟩=some (.slice dN bn.length dK):=(ak bg.out 0).trans rfl;have Io:w4.cell? ⟨dA,1,none⟩=some (.string bD):=(ak bg.out 1).trans rfl;have Il:w4.cell? ⟨dA,2,none⟩=some (.string bu):=(ak bg.out 2).trans rfl;have Ik:w4.cell? ⟨dA,3,none⟩=some (.slice dQ aV.length dJ):=(ak bg.out 3).trans rfl;have Ie:=ax bg.out 0;have Ic:=ax bg.out 1;have Ib:=ax bg.out 2;have Ia:=ax bg.out 3)|((with_reducible refine bY (f:=18) rfl ?_);refine eQ (some 10) rfl rfl Tryz.func18 (by kernel_rfl) rfl #[.agg #[.slice dN bn.length dK,.string bD,.string bu,.slice dQ aV.length dJ]] rfl (by (try simp only [List.map_toArray,List.map_cons,List.map_nil]);first|done|rfl|(simp only [List.length_drop,List.length_take];rfl)) ?_;(with_reducible refine (bV.calls k _ _ bn bD bu _ _ aV true _ ?fA ?lS ?mW ?mV ?rY A2.out).mono ?_);(case fA=>repeat (first|exact (Kd.dB nH.out HB.out)|(with_reducible refine Kd.eP ?_ _)|(with_reducible refine Kd.eH ?_ _)|(with_reducible refine Kd.gp ?_)));(case lS=>exact ru.out);(case mW=>repeat (first|exact (Kd.dB oH.out HB.out)|(with_reducible refine Kd.eP ?_ _)|(with_reducible refine Kd.eH ?_ _)|(with_reducible refine Kd.gp ?_)));(case mV=>exact rq.out);(case rY=>repeat (first|exact (Kd.dB uo.out HB.out)|(with_reducible refine Kd.eP ?_ _)|(with_reducible refine Kd.eH ?_ _)|(with_reducible refine Kd.gp ?_)));rintro e w6 ⟨rfl,hb⟩;refine ⟨_,rfl,?_⟩;have dM:=af.mk (bW (g:=dA) (o:=.cells #[.slice dN bn.length dK,.string bD,.string bu,.slice dQ aV.length dJ] 25 (0,0)) (by (with_reducible repeat (first|refine aC ?_ _|refine aK ?_|refine aG ?_ _));exact bg.out) hb);have dP:=af.mk (bf (by repeat (first|(with_reducible first|exact HB.out|apply ai|apply ag|apply ah|refine az ?_ fO.out)|exact HB.out)) hb);clear bg;clear HB;have bg:=dM;have HB:=dP;clear dM dP;(try clear hb);(try clear hb2);(try clear hk);(try clear hi);have Ij:w6.cell? ⟨dA,0,none⟩=some (.slice dN bn.length dK):=(ak bg.out 0).trans rfl;have Ii:w6.cell? ⟨dA,1,none⟩=some (.string bD):=(ak bg.out 1).trans rfl;have Ih:w6.cell? ⟨dA,2,none⟩=some (.string bu):=(ak bg.out 2).trans rfl;have Ig:w6.cell? ⟨dA,3,none⟩=some (.slice dQ aV.length dJ):=(ak bg.out 3).trans rfl;have H9:=ax bg.out 0;have H8:=ax bg.out 1;have H7:=ax bg.out 2;have H6:=ax bg.out 3))
    go_loopg [4,15] k (fun kq v4 v15 w'=>∃ (fB:List (List ByteArray)) (jW:Int),v15=.int .i64 jW∧af (aU.l0 kq fB bn (bn.length:Int) jW bn bD bu aV=some (r1,r2))∧af (kq≤k)∧af (Kd.N (Kd.slice 9 Kd.string) 22 w' w.heap.size (fun k_=>k_ ≠ dA) v4 fB)∧af (w'.heap[dA]? = some (.cells #[(.slice dN bn.length dK),.string bD,.string bu,(.slice dQ aV.length dJ)] 25 (0,0)))∧af (Below w.heap.size w w'))
    case atStart=>exact ⟨(([]:List (List ByteArray))),(0),(by first|rfl|(simp;done)|(simp [*];done)),H',⟨Nat.le_refl _⟩,⟨by first|exact Kd.sS _ _ _ _ _|exact Kd.sV _ _ _ _ _|exact Kd.sQ _ _ _ _ _|exact Kd.sU _ _ _ _ _|exact Kd.gU _ _ _ _ _⟩,⟨by (with_reducible repeat (first|refine aC ?_ _|refine aK ?_|refine aG ?_ _));exact bg.out⟩,⟨by repeat (first|(with_reducible first|exact HB.out|apply ai|apply ag|apply ah|refine az ?_ fO.out)|exact HB.out)⟩⟩
    case round =>
      clear H'
      try clear c1
      try clear p2
      try clear c3
      try clear Ip
      try clear Io
      try clear Il
      try clear Ik
      try clear Ij
      try clear Ii
      try clear Ih
      try clear Ig
      try clear Ie
      try clear Ic
      try clear Ib
      try clear Ia
      try clear H9
      try clear H8
      try clear H7
      try clear H6
      obtain ⟨fB,jW,rfl,HA,lH,fD,bg,HB⟩:=hrel
      cases gk with
      | zero=>exact absurd HA.out (by simp [aU.l0])
      | succ k1 =>
        have H:=HA.out
        clear HA
        simp only [aU.l0] at H
        by_cases c8:jW < (bn.length:Int)
        · rw [if_pos c8] at H
          have CW:decide (jW < (bn.length:Int))=true:=decide_eq_true c8
          clear c8
          by_cases c9:0≤jW
          · rw [if_pos c9] at H
            have Ja:decide (0≤jW)=true:=decide_eq_true c9
            clear c9
            by_cases c10:jW < (bn.length:Int)
            · rw [if_pos c10] at H
              have wF:decide (jW < (bn.length:Int))=true:=decide_eq_true c10
              clear c10
              obtain ⟨y113,hy113⟩:∃ y_:List ByteArray,y_=(([(⟨#[116,121,112,101]⟩:ByteArray),dZ ByteArray.empty bn jW]:List ByteArray)):=⟨_,rfl⟩
              replace H:(if fB.length < 5864062014805 then (aU.l0 k1 (fB++[y113]) bn (bn.length:Int) (wrap64 (jW+1)) bn bD bu aV) else (none))=some (r1,r2):=by first|(rw [hy113];with_reducible exact H)|(have mi:=(Option.bind_some _ _).symm.trans H;rw [hy113];with_reducible exact mi)|(have mi:=(Option.bind_some _ _).symm.trans H;with_reducible exact mi)|with_reducible exact H|(rw [hy113];exact H)|exact H
              have NH:=af.mk hy113
              clear hy113
              by_cases c11:fB.length < 5864062014805
              · rw [if_pos c11] at H
                have QU:=af.mk c11
                clear c11
                obtain ⟨Pz,AU⟩:∃ y_:List (List ByteArray),y_=(fB++[y113]):=⟨_,rfl⟩
                replace H:(aU.l0 k1 Pz bn (bn.length:Int) (wrap64 (jW+1)) bn bD bu aV)=some (r1,r2):=by first|(rw [AU];with_reducible exact H)|(have mi:=(Option.bind_some _ _).symm.trans H;rw [AU];with_reducible exact mi)|(have mi:=(Option.bind_some _ _).symm.trans H;with_reducible exact mi)|with_reducible exact H|(rw [AU];exact H)|exact H
                have QL:=af.mk AU
                clear AU
                have H':=af.mk H
                clear H
                have Kq:0≤(jW:Int):=of_decide_eq_true (by first|(with_reducible assumption)|assumption)
                have J9:jW < (bn.length:Int):=of_decide_eq_true (by first|(with_reducible assumption)|assumption)
                obtain ⟨Jn,Wu,uS⟩:=Kd.ed nH.out jW Kq J9
                cases Wu
                replace uS:=(HB.out.cell (World.block_lt_of_cell? w _ uS)).trans uS
                replace Kq:=eq_true Kq
                replace J9:=eq_true J9
                go_wp2_with (first|((with_reducible refine eu (N:=21) rfl ?_);refine Kd.QA Kd.string _ 9 ?hg (N:=21) ?hd (xs:=([(⟨#[116,121,112,101]⟩:ByteArray),dZ ByteArray.empty bn jW]:List ByteArray)) (inner:=[.string (⟨#[116,121,112,101]⟩:ByteArray),.string (dZ ByteArray.empty bn jW)]) (ok:=fun _=>True) (lM:=fun _=>True) ?hr ?hp (fun _ hk=>hk) trivial (Below.refl _ _) (Nat.le_refl _) (by simp) ?_;(case hd=>rfl);(case hg=>rfl);(case hr=>first|(go_simp;done)|(go_simp;rfl));(case hp=>exact (gy.one (show Kd.M Kd.string _ _ _ (⟨#[116,121,112,101]⟩:ByteArray) [.string (⟨#[116,121,112,101]⟩:ByteArray)] from rfl) (gy.one (show Kd.M Kd.string _ _ _ (dZ ByteArray.empty bn jW) [.string (dZ ByteArray.empty bn jW)] from rfl) (gy.none _ _))));intro Yg w12 Fv hb CO ny;clear CO ny;(first|rw [← NH.out] at Fv|(simp only [Int.reduceToNat] at Fv;rw [← NH.out] at Fv));have dM:=af.mk (Kd.lF (by (with_reducible repeat (first|apply Kd.gG|apply Kd.gB|apply Kd.iO));exact fD.out) (Kd.jS Fv) hb);have dP:=af.mk (Kd.gz Fv (bG (by repeat (first|(with_reducible first|exact HB.out|apply ai|apply ag|apply ah|refine az ?_ fO.out)|exact HB.out))));have eY:=af.mk (bW (g:=dA) (o:=.cells #[.slice (some Jn) bn.length dK,.string bD,.string bu,.slice dQ aV.length dJ] 25 (0,0)) (by (with_reducible repeat (first|refine aC ?_ _|refine aK ?_|refine aG ?_ _));exact bg.out) hb);have iD:=af.mk (bf (by repeat (first|(with_reducible first|exact HB.out|apply ai|apply ag|apply ah|refine az ?_ fO.out)|exact HB.out)) hb);clear fD;clear bg;clear HB;have fD:=dM;have EG:=dP;have bg:=eY;have HB:=iD;clear dM dP eY iD;clear hb Fv;obtain ⟨WO,WA,Wh⟩:=Kd.fJ EG.out;subst Wh)|((with_reducible refine fH (b:=.append) (xs:=#[.tmp 19,.tmp 22]) rfl ?_);at_builtin;refine Kd.BC (Kd.slice 9 Kd.string) (w0:=w) w.heap.size rfl (.tmp 19) (.tmp 22) 43 22 (.slice none 0 0) 24 rfl Tryz.underlying43 info22 rfl (by decide) (by omega) u4 fB y113 [.slice WO y113.length WA] (fun k_=>k_ ≠ dA) (fun k_=>((fun k_=>k_ ≠ dA)) k_∧some k_ ≠ (u4:Value).ownBlock) rfl rfl ?aP (fun _ hk=>hk) ?aF ?aO ?aB ?aS ?aL ?_;(case aP=>exact (Kd.nR (Kd.fZ (Kd.dH (ok':=(fun k_=>((fun k_=>k_ ≠ dA)) k_∧some k_ ≠ (u4:Value).ownBlock)) (Kd.gX (Kd.jG (EG.out) (Kd.nO fD.out) (by decide)) bg.out (by decide)) (fun k_ hk=>⟨hk.2,hk.1.2⟩))).2.1 (Kd.Vs (Kd.dH (ok':=(fun k_=>((fun k_=>k_ ≠ dA)) k_∧some k_ ≠ (u4:Value).ownBlock)) (Kd.gX (Kd.jG (EG.out) (Kd.nO fD.out) (by decide)) bg.out (by decide)) (fun k_ hk=>⟨hk.2,hk.1.2⟩)))));(case aB=>exact (by repeat (first|(with_reducible first|exact HB.out|apply ai|apply ag|apply ah|refine az ?_ fO.out)|exact HB.out)));(case aF=>exact (fun k_ hk=>Kd.wz (g:=dA) (o:=.cells #[.slice (some Jn) bn.length dK,.string bD,.string bu,.slice dQ aV.length dJ] 25 (0,0)) (by (with_reducible repeat (first|refine aC ?_ _|refine aK ?_|refine aG ?_ _));exact bg.out) k_ hk));(case aO=>exact (by (with_reducible repeat (first|apply Kd.gG|apply Kd.gB|apply Kd.iO));exact Kd.lD fD.out (fun _ hk=>hk.1)));(case aS=>exact (bG (by repeat (first|(with_reducible first|exact HB.out|apply ai|apply ag|apply ah|refine az ?_ fO.out)|exact HB.out))));(case aL=>have:=QU.out;omega);intro v117 Y6 ho hb hg hat;rw [← QL.out] at ho;have dM:=af.mk (qJ (g:=dA) (o:=.cells #[.slice (some Jn) bn.length dK,.string bD,.string bu,.slice dQ aV.length dJ] 25 (0,0)) (by (with_reducible repeat (first|refine aC ?_ _|refine aK ?_|refine aG ?_ _));exact bg.out) hg (Kd.ML fD.out bg.out (by decide)));have dP:=af.mk (hb);have eY:=af.mk (ho);clear bg;clear HB;clear fD;clear EG;have bg:=dM;have HB:=dP;have Rj:=eY;clear dM dP eY;clear ho hb hg hat))
                go_roundg k1
                case measure=>have:=lH.out;omega
                case rel=>exact ⟨(Pz),(wrap64 (jW+1)),(by first|rfl|(simp;done)|(simp [*];done)),H',⟨by have:=lH.out;omega⟩,⟨by (with_reducible repeat (first|apply Kd.gG|apply Kd.gB|apply Kd.iO));exact Rj.out⟩,⟨by (with_reducible repeat (first|refine aC ?_ _|refine aK ?_|refine aG ?_ _));exact bg.out⟩,⟨by repeat (first|(with_reducible first|exact HB.out|apply ai|apply ag|apply ah|refine az ?_ fO.out)|exact HB.out)⟩⟩
              · rw [if_neg c11] at H
                exact absurd H (by simp)
            · rw [if_neg c10] at H
              exact absurd H (by simp)
          · rw [if_neg c9] at H
            exact absurd H (by simp)
        · rw [if_neg c8] at H
          have CW:decide (jW < (bn.length:Int))=false:=decide_eq_false c8
          clear c8
          replace H:=Option.bind_eq_some_iff.mp H
          obtain ⟨t119,BJ,H⟩:=H
          replace H:((jv.f bu).bind fun t123=>((some (([(([(⟨#[108,111,99,97,108,115]⟩:ByteArray),t119]:List ByteArray)),(([(⟨#[103,108,111,98,97,108,115]⟩:ByteArray),t123]:List ByteArray))]:List (List ByteArray)):List (List ByteArray))).bind fun nV=>(if fB.length+nV.length < 5864062014805 then (aU.l1 k1 (fB++nV) aV (aV.length:Int) 0) else (none))))=some (r1,r2):=H
          have O9:=af.mk BJ
          clear BJ
          obtain ⟨wQ,AQ⟩:∃ y_:List ByteArray,y_=(([(⟨#[108,111,99,97,108,115]⟩:ByteArray),t119]:List ByteArray)):=⟨_,rfl⟩
          replace H:((jv.f bu).bind fun t123=>((some (([wQ,(([(⟨#[103,108,111,98,97,108,115]⟩:ByteArray),t123]:List ByteArray))]:List (List ByteArray)):List (List ByteArray))).bind fun nV=>(if fB.length+nV.length < 5864062014805 then (aU.l1 k1 (fB++nV) aV (aV.length:Int) 0) else (none))))=some (r1,r2):=by first|(rw [AQ];with_reducible exact H)|(have mi:=(Option.bind_some _ _).symm.trans H;rw [AQ];with_reducible exact mi)|(have mi:=(Option.bind_some _ _).symm.trans H;with_reducible exact mi)|with_reducible exact H|(rw [AQ];exact H)|exact H
          have yw:=af.mk AQ
          clear AQ
          replace H:=Option.bind_eq_some_iff.mp H
          obtain ⟨t123,RS,H⟩:=H
          replace H:((some (([wQ,(([(⟨#[103,108,111,98,97,108,115]⟩:ByteArray),t123]:List ByteArray))]:List (List ByteArray)):List (List ByteArray))).bind fun nV=>(if fB.length+nV.length < 5864062014805 then (aU.l1 k1 (fB++nV) aV (aV.length:Int) 0) else (none)))=some (r1,r2):=H
          have XW:=af.mk RS
          clear RS
          obtain ⟨zJ,AP⟩:∃ y_:List ByteArray,y_=(([(⟨#[103,108,111,98,97,108,115]⟩:ByteArray),t123]:List ByteArray)):=⟨_,rfl⟩
          replace H:((some (([wQ,zJ]:List (List ByteArray)):List (List ByteArray))).bind fun nV=>(if fB.length+nV.length < 5864062014805 then (aU.l1 k1 (fB++nV) aV (aV.length:Int) 0) else (none)))=some (r1,r2):=by first|(rw [AP];with_reducible exact H)|(have mi:=(Option.bind_some _ _).symm.trans H;rw [AP];with_reducible exact mi)|(have mi:=(Option.bind_some _ _).symm.trans H;with_reducible exact mi)|with_reducible exact H|(rw [AP];exact H)|exact H
          have yu:=af.mk AP
          clear AP
          obtain ⟨nV,AO⟩:∃ y_:List (List ByteArray),y_=(([wQ,zJ]:List (List ByteArray))):=⟨_,rfl⟩
          replace H:(if fB.length+nV.length < 5864062014805 then (aU.l1 k1 (fB++nV) aV (aV.length:Int) 0) else (none))=some (r1,r2):=by first|(rw [AO];with_reducible exact H)|(have mi:=(Option.bind_some _ _).symm.trans H;rw [AO];with_reducible exact mi)|(have mi:=(Option.bind_some _ _).symm.trans H;with_reducible exact mi)|with_reducible exact H|(rw [AO];exact H)|exact H
          have NG:=af.mk AO
          clear AO
          by_cases c18:fB.length+nV.length < 5864062014805
          · rw [if_pos c18] at H
            have QS:=af.mk c18
            clear c18
            obtain ⟨Py,AL⟩:∃ y_:List (List ByteArray),y_=(fB++nV):=⟨_,rfl⟩
            replace H:(aU.l1 k1 Py aV (aV.length:Int) 0)=some (r1,r2):=by first|(rw [AL];with_reducible exact H)|(have mi:=(Option.bind_some _ _).symm.trans H;rw [AL];with_reducible exact mi)|(have mi:=(Option.bind_some _ _).symm.trans H;with_reducible exact mi)|with_reducible exact H|(rw [AL];exact H)|exact H
            have QK:=af.mk AL
            clear AL
            have H':=af.mk H
            clear H
            obtain ⟨uq,ug,OJ⟩:=Kd.zF fD.out
            subst OJ
            try go_wp2
            have dM:=af.mk (Kd.iO fD.out)
            have dP:=af.mk (aK bg.out)
            have eY:=af.mk (ah HB.out)
            clear fD
            clear bg
            clear HB
            have fD:=dM
            have bg:=dP
            have HB:=eY
            clear dM dP eY
            refine oM (n:=12) (S:=fun w'=>w'.cell? ⟨dA,0,none⟩=some (.slice dN bn.length dK)∧w'.cell? ⟨dA,1,none⟩=some (.string bD)∧w'.cell? ⟨dA,2,none⟩=some (.string bu)∧w'.cell? ⟨dA,3,none⟩=some (.slice dQ aV.length dJ)) (ds:=[]) #[false,false,false,false,false,false,false,false,false,false,false,false] (by kernel_rfl) rfl rfl ⟨(ak bg.out 0).trans rfl,(ak bg.out 1).trans rfl,(ak bg.out 2).trans rfl,(ak bg.out 3).trans rfl⟩ (fun hHeld=>?_);refine jT aU.VB aU.Qu (fun di kL=>?_)
            generalize wr.drew=X3 at fD bg HB hHeld ⊢
            refine aY (i:=0) (N:=some 25) (v:=?_) (a':=?_) #[true,false,false,false,false,false,false,false,false,false,false,false] rfl rfl (aN di.out (by kernel_rfl)) (fun _ _ _ h=>h) (Or.inl ⟨by rfl,?_⟩) ?_ ?_
            rotate_left
            · intro w'
              go_simp
              with_reducible rfl
            rotate_left
            · simp only [Act.put,List.setIfInBounds_toArray,List.set_cons_zero,List.set_cons_succ,aH,aI]
              rfl
            refine aY (i:=1) (N:=some 26) (v:=?_) (a':=?_) #[true,true,false,false,false,false,false,false,false,false,false,false] rfl rfl (aN di.out (by kernel_rfl)) (fun _ _ _ h=>h) (Or.inl ⟨by rfl,?_⟩) ?_ ?_
            rotate_left
            · intro w'
              go_simp
              with_reducible rfl
            rotate_left
            · simp only [Act.put,List.setIfInBounds_toArray,List.set_cons_zero,List.set_cons_succ,aH,aI]
              rfl
            refine aY (i:=5) (N:=some 30) (v:=?_) (a':=?_) #[true,true,false,false,false,true,false,false,false,false,false,false] rfl rfl (aN di.out (by kernel_rfl)) (fun _ _ _ h=>h) (Or.inl ⟨by rfl,?_⟩) ?_ ?_
            rotate_left
            · intro w'
              go_simp
              with_reducible rfl
            rotate_left
            · simp only [Act.put,List.setIfInBounds_toArray,List.set_cons_zero,List.set_cons_succ,aH,aI]
              rfl
            refine dX (i:=2) (N:=some 27) (v:=?_) (a':=?_) #[true,true,true,false,false,true,false,false,false,false,false,false] rfl rfl (bU di.out kL.out (by kernel_rfl)) (fun _ _ _ h=>h) (Or.inl ⟨by rfl,?_⟩) hHeld ?_ ?_
            rotate_left
            · rintro w' ⟨s0,s1,s2,s3⟩
              go_simp
              with_reducible rfl
            rotate_left
            · simp only [Act.put,List.setIfInBounds_toArray,List.set_cons_zero,List.set_cons_succ,aH,aI]
              rfl
            refine dX (i:=6) (N:=some 31) (v:=?_) (a':=?_) #[true,true,true,false,false,true,true,false,false,false,false,false] rfl rfl (bU di.out kL.out (by kernel_rfl)) (fun _ _ _ h=>h) (Or.inl ⟨by rfl,?_⟩) hHeld ?_ ?_
            rotate_left
            · rintro w' ⟨s0,s1,s2,s3⟩
              go_simp
              with_reducible rfl
            rotate_left
            · simp only [Act.put,List.setIfInBounds_toArray,List.set_cons_zero,List.set_cons_succ,aH,aI]
              rfl
            refine rE (i:=3) (N:=some 28) #[true,true,true,true,false,true,true,false,false,false,false,false] rfl rfl (jC di.out (by kernel_rfl)) (by decide) (fun K hK=>?_)
            refine qX Tryz.func19 (by kernel_rfl) rfl #[.string bD] (by rfl) rfl rfl (by (try simp only [List.map_toArray,List.map_cons,List.map_nil]);first|done|rfl|(simp only [List.length_drop,List.length_take];rfl)) ?_
            with_reducible refine (jv.calls bD t119 _ O9.out).mono ?_
            rintro e w' ⟨rfl,⟨nd,rfl⟩⟩
            refine ⟨_,rfl,?_⟩
            refine hK.out _ _ ⟨(ak bg.out 0).trans rfl,(ak bg.out 1).trans rfl,(ak bg.out 2).trans rfl,(ak bg.out 3).trans rfl⟩ (fun hHeld=>?_)
            clear hK K
            refine jP (a':=?_) ?_ ?_
            rotate_left
            · show Act.put _ (some 28) _=_
              simp only [Act.put,List.setIfInBounds_toArray,List.set_cons_zero,List.set_cons_succ,aH,aI]
              rfl
            refine PW (σ:=Value × Value) 3 #[true,true,true,true,true,true,true,true,true,false,false,false] (fun s_=>[(29,s_.1),(32,.string t123),(33,s_.2)]) (fun s_ w'=>(w'.cell? ⟨dA,0,none⟩=some (.slice dN bn.length dK)∧w'.cell? ⟨dA,1,none⟩=some (.string bD)∧w'.cell? ⟨dA,2,none⟩=some (.string bu)∧w'.cell? ⟨dA,3,none⟩=some (.slice dQ aV.length dJ))∧(Kd.R Kd.string 9 w' w.heap.size (fun k_=>some k_ ≠ (s_.2:Value).ownBlock) s_.1 wQ)∧(Kd.R Kd.string 9 w' w.heap.size (fun k_=>some k_ ≠ (s_.1:Value).ownBlock) s_.2 zJ)∧(Kd.N (Kd.slice 9 Kd.string) 22 w' w.heap.size (fun k_=>some k_ ≠ (s_.1:Value).ownBlock∧some k_ ≠ (s_.2:Value).ownBlock∧k_ ≠ dA) (.slice uq fB.length ug) fB)∧(w'.heap[dA]? = some (.cells #[.slice dN bn.length dK,.string bD,.string bu,.slice dQ aV.length dJ] 25 (0,0)))∧(Below w.heap.size w w')) ?_ ?_
            rotate_left
            · intro II
              refine PM (i:=4) (j:=7) (Ni:=some 29) (Nj:=some 32) #[true,true,true,true,true,true,true,false,false,false,false,false] #[true,true,true,true,false,true,true,true,false,false,false,false] rfl rfl rfl rfl (Gt di.out (by kernel_rfl)) (by decide) (by decide) (fun K hK=>?_) (fun K hK=>?_)
              · skip
                refine Kd.kK Kd.string _ 9 ?hg (N:=29) ?hd (xs:=([(⟨#[108,111,99,97,108,115]⟩:ByteArray),t119]:List ByteArray)) (inner:=[.string (⟨#[108,111,99,97,108,115]⟩:ByteArray),.string t119]) (ok:=fun _=>True) (lM:=fun _=>True) ?hr ?hp (fun _ hk=>hk) trivial (Below.refl _ _) (Nat.le_refl _) (by simp) ?_;(case hd=>rfl);(case hg=>rfl);(case hr=>first|(go_simp;done)|(go_simp;rfl));(case hp=>exact (gy.one (show Kd.M Kd.string _ _ _ (⟨#[108,111,99,97,108,115]⟩:ByteArray) [.string (⟨#[108,111,99,97,108,115]⟩:ByteArray)] from rfl) (gy.one (show Kd.M Kd.string _ _ _ t119 [.string t119] from rfl) (gy.none _ _))))
                intro yH PI oh hb CO ny
                clear CO ny
                (first|rw [← yw.out] at oh|(simp only [Int.reduceToNat] at oh;rw [← yw.out] at oh))
                have dM:=af.mk (Kd.lF (by (with_reducible repeat (first|apply Kd.gG|apply Kd.gB|apply Kd.iO));exact fD.out) (Kd.jS oh) hb)
                have dP:=af.mk (Kd.gz oh (bG (by repeat (first|(with_reducible first|exact HB.out|apply ai|apply ag|apply ah|refine az ?_ fO.out)|exact HB.out))))
                have eY:=af.mk (bW (g:=dA) (o:=.cells #[.slice dN bn.length dK,.string bD,.string bu,.slice dQ aV.length dJ] 25 (0,0)) (by (with_reducible repeat (first|refine aC ?_ _|refine aK ?_|refine aG ?_ _));exact bg.out) hb)
                have iD:=af.mk (bf (by repeat (first|(with_reducible first|exact HB.out|apply ai|apply ag|apply ah|refine az ?_ fO.out)|exact HB.out)) hb)
                clear fD
                clear bg
                clear HB
                have fD:=dM
                have lK:=dP
                have bg:=eY
                have HB:=iD
                clear dM dP eY iD
                clear hb oh
                refine hK.out _ _ ⟨(ak bg.out 0).trans rfl,(ak bg.out 1).trans rfl,(ak bg.out 2).trans rfl,(ak bg.out 3).trans rfl⟩ (fun hHeld=>?_)
                clear hK K
                refine jP (a':=?_) ?_ ?_
                rotate_left
                · show Act.put _ (some 29) _=_
                  simp only [Act.put,List.setIfInBounds_toArray,List.set_cons_zero,List.set_cons_succ,aH,aI]
                  rfl
                refine rE (i:=7) (N:=some 32) #[true,true,true,true,true,true,true,true,false,false,false,false] rfl rfl (jC di.out (by kernel_rfl)) (by decide) (fun K hK=>?_)
                refine qX Tryz.func19 (by kernel_rfl) rfl #[.string bu] (by rfl) rfl rfl (by (try simp only [List.map_toArray,List.map_cons,List.map_nil]);first|done|rfl|(simp only [List.length_drop,List.length_take];rfl)) ?_
                with_reducible refine (jv.calls bu t123 _ XW.out).mono ?_
                rintro e w' ⟨rfl,⟨nd,rfl⟩⟩
                refine ⟨_,rfl,?_⟩
                refine hK.out _ _ ⟨(ak bg.out 0).trans rfl,(ak bg.out 1).trans rfl,(ak bg.out 2).trans rfl,(ak bg.out 3).trans rfl⟩ (fun hHeld=>?_)
                clear hK K
                refine jP (a':=?_) ?_ ?_
                rotate_left
                · show Act.put _ (some 32) _=_
                  simp only [Act.put,List.setIfInBounds_toArray,List.set_cons_zero,List.set_cons_succ,aH,aI]
                  rfl
                refine rE (i:=8) (N:=some 33) #[true,true,true,true,true,true,true,true,true,false,false,false] rfl rfl (jC di.out (by kernel_rfl)) (by decide) (fun K hK=>?_)
                refine Kd.kK Kd.string _ 9 ?hg (N:=33) ?hd (xs:=([(⟨#[103,108,111,98,97,108,115]⟩:ByteArray),t123]:List ByteArray)) (inner:=[.string (⟨#[103,108,111,98,97,108,115]⟩:ByteArray),.string t123]) (ok:=fun _=>True) (lM:=fun _=>True) ?hr ?hp (fun _ hk=>hk) trivial (Below.refl _ _) (Nat.le_refl _) (by simp) ?_;(case hd=>rfl);(case hg=>rfl);(case hr=>first|(go_simp;done)|(go_simp;rfl));(case hp=>exact (gy.one (show Kd.M Kd.string _ _ _ (⟨#[103,108,111,98,97,108,115]⟩:ByteArray) [.string (⟨#[103,108,111,98,97,108,115]⟩:ByteArray)] from rfl) (gy.one (show Kd.M Kd.string _ _ _ t123 [.string t123] from rfl) (gy.none _ _))))
                intro yG EM ni hb CO ny
                clear CO ny
                (first|rw [← yu.out] at ni|(simp only [Int.reduceToNat] at ni;rw [← yu.out] at ni))
                have dM:=af.mk (Kd.lF (by (with_reducible repeat (first|apply Kd.gG|apply Kd.gB|apply Kd.iO));exact fD.out) (Kd.jS ni) hb)
                have dP:=af.mk (Kd.nG (by (with_reducible repeat (first|apply Kd.bJ|apply Kd.bK|apply Kd.df));exact lK.out) (Kd.jS ni) hb)
                have eY:=af.mk (Kd.gz (Kd.ui ni (Kd.wJ (by (with_reducible repeat (first|apply Kd.bJ|apply Kd.bK|apply Kd.df));exact lK.out))) (bG (by repeat (first|(with_reducible first|exact HB.out|apply ai|apply ag|apply ah|refine az ?_ fO.out)|exact HB.out))))
                have iD:=af.mk (bW (g:=dA) (o:=.cells #[.slice dN bn.length dK,.string bD,.string bu,.slice dQ aV.length dJ] 25 (0,0)) (by (with_reducible repeat (first|refine aC ?_ _|refine aK ?_|refine aG ?_ _));exact bg.out) hb)
                have mZ:=af.mk (bf (by repeat (first|(with_reducible first|exact HB.out|apply ai|apply ag|apply ah|refine az ?_ fO.out)|exact HB.out)) hb)
                clear fD
                clear lK
                clear bg
                clear HB
                have fD:=dM
                have lK:=dP
                have nP:=eY
                have bg:=iD
                have HB:=mZ
                clear dM dP eY iD mZ
                clear hb ni
                refine hK.out _ _ ⟨(ak bg.out 0).trans rfl,(ak bg.out 1).trans rfl,(ak bg.out 2).trans rfl,(ak bg.out 3).trans rfl⟩ (fun hHeld=>?_)
                clear hK K
                refine jP (a':=?_) ?_ ?_
                rotate_left
                · show Act.put _ (some 33) _=_
                  simp only [Act.put,List.setIfInBounds_toArray,List.set_cons_zero,List.set_cons_succ,aH,aI]
                  rfl
                exact jP (by simp only [kH,Act.put,List.setIfInBounds_toArray,List.set_cons_zero,List.set_cons_succ]) (II (yH,yG) _ ⟨hHeld,(by (with_reducible repeat (first|apply Kd.bJ|apply Kd.bK|apply Kd.df));exact Kd.dH lK.out (fun _ hk=>hk.2)),(by (with_reducible repeat (first|apply Kd.bJ|apply Kd.bK|apply Kd.df));exact Kd.dH nP.out (fun _ hk=>hk.2)),(by (with_reducible repeat (first|apply Kd.gG|apply Kd.gB|apply Kd.iO));exact Kd.lD fD.out (fun _ hk=>⟨hk.1.2,⟨hk.2,hk.1.1⟩⟩)),(by (with_reducible repeat (first|refine aC ?_ _|refine aK ?_|refine aG ?_ _));exact bg.out),(by repeat (first|(with_reducible first|exact HB.out|apply ai|apply ag|apply ah|refine az ?_ fO.out)|exact HB.out))⟩)
              · skip
                refine qX Tryz.func19 (by kernel_rfl) rfl #[.string bu] (by rfl) rfl rfl (by (try simp only [List.map_toArray,List.map_cons,List.map_nil]);first|done|rfl|(simp only [List.length_drop,List.length_take];rfl)) ?_
                with_reducible refine (jv.calls bu t123 _ XW.out).mono ?_
                rintro e w' ⟨rfl,⟨nd,rfl⟩⟩
                refine ⟨_,rfl,?_⟩
                refine hK.out _ _ ⟨(ak bg.out 0).trans rfl,(ak bg.out 1).trans rfl,(ak bg.out 2).trans rfl,(ak bg.out 3).trans rfl⟩ (fun hHeld=>?_)
                clear hK K
                refine jP (a':=?_) ?_ ?_
                rotate_left
                · show Act.put _ (some 32) _=_
                  simp only [Act.put,List.setIfInBounds_toArray,List.set_cons_zero,List.set_cons_succ,aH,aI]
                  rfl
                refine PM (i:=4) (j:=8) (Ni:=some 29) (Nj:=some 33) #[true,true,true,true,true,true,true,true,false,false,false,false] #[true,true,true,true,false,true,true,true,true,false,false,false] rfl rfl rfl rfl (Gt di.out (by kernel_rfl)) (by decide) (by decide) (fun K hK=>?_) (fun K hK=>?_)
                · skip
                  refine Kd.kK Kd.string _ 9 ?hg (N:=29) ?hd (xs:=([(⟨#[108,111,99,97,108,115]⟩:ByteArray),t119]:List ByteArray)) (inner:=[.string (⟨#[108,111,99,97,108,115]⟩:ByteArray),.string t119]) (ok:=fun _=>True) (lM:=fun _=>True) ?hr ?hp (fun _ hk=>hk) trivial (Below.refl _ _) (Nat.le_refl _) (by simp) ?_;(case hd=>rfl);(case hg=>rfl);(case hr=>first|(go_simp;done)|(go_simp;rfl));(case hp=>exact (gy.one (show Kd.M Kd.string _ _ _ (⟨#[108,111,99,97,108,115]⟩:ByteArray) [.string (⟨#[108,111,99,97,108,115]⟩:ByteArray)] from rfl) (gy.one (show Kd.M Kd.string _ _ _ t119 [.string t119] from rfl) (gy.none _ _))))
                  intro yH PI oh hb CO ny
                  clear CO ny
                  (first|rw [← yw.out] at oh|(simp only [Int.reduceToNat] at oh;rw [← yw.out] at oh))
                  have dM:=af.mk (Kd.lF (by (with_reducible repeat (first|apply Kd.gG|apply Kd.gB|apply Kd.iO));exact fD.out) (Kd.jS oh) hb)
                  have dP:=af.mk (Kd.gz oh (bG (by repeat (first|(with_reducible first|exact HB.out|apply ai|apply ag|apply ah|refine az ?_ fO.out)|exact HB.out))))
                  have eY:=af.mk (bW (g:=dA) (o:=.cells #[.slice dN bn.length dK,.string bD,.string bu,.slice dQ aV.length dJ] 25 (0,0)) (by (with_reducible repeat (first|refine aC ?_ _|refine aK ?_|refine aG ?_ _));exact bg.out) hb)
                  have iD:=af.mk (bf (by repeat (first|(with_reducible first|exact HB.out|apply ai|apply ag|apply ah|refine az ?_ fO.out)|exact HB.out)) hb)
                  clear fD
                  clear bg
                  clear HB
                  have fD:=dM
                  have lK:=dP
                  have bg:=eY
                  have HB:=iD
                  clear dM dP eY iD
                  clear hb oh
                  refine hK.out _ _ ⟨(ak bg.out 0).trans rfl,(ak bg.out 1).trans rfl,(ak bg.out 2).trans rfl,(ak bg.out 3).trans rfl⟩ (fun hHeld=>?_)
                  clear hK K
                  refine jP (a':=?_) ?_ ?_
                  rotate_left
                  · show Act.put _ (some 29) _=_
                    simp only [Act.put,List.setIfInBounds_toArray,List.set_cons_zero,List.set_cons_succ,aH,aI]
                    rfl
                  refine rE (i:=8) (N:=some 33) #[true,true,true,true,true,true,true,true,true,false,false,false] rfl rfl (jC di.out (by kernel_rfl)) (by decide) (fun K hK=>?_)
                  refine Kd.kK Kd.string _ 9 ?hg (N:=33) ?hd (xs:=([(⟨#[103,108,111,98,97,108,115]⟩:ByteArray),t123]:List ByteArray)) (inner:=[.string (⟨#[103,108,111,98,97,108,115]⟩:ByteArray),.string t123]) (ok:=fun _=>True) (lM:=fun _=>True) ?hr ?hp (fun _ hk=>hk) trivial (Below.refl _ _) (Nat.le_refl _) (by simp) ?_;(case hd=>rfl);(case hg=>rfl);(case hr=>first|(go_simp;done)|(go_simp;rfl));(case hp=>exact (gy.one (show Kd.M Kd.string _ _ _ (⟨#[103,108,111,98,97,108,115]⟩:ByteArray) [.string (⟨#[103,108,111,98,97,108,115]⟩:ByteArray)] from rfl) (gy.one (show Kd.M Kd.string _ _ _ t123 [.string t123] from rfl) (gy.none _ _))))
                  intro yG EM ni hb CO ny
                  clear CO ny
                  (first|rw [← yu.out] at ni|(simp only [Int.reduceToNat] at ni;rw [← yu.out] at ni))
                  have dM:=af.mk (Kd.lF (by (with_reducible repeat (first|apply Kd.gG|apply Kd.gB|apply Kd.iO));exact fD.out) (Kd.jS ni) hb)
                  have dP:=af.mk (Kd.nG (by (with_reducible repeat (first|apply Kd.bJ|apply Kd.bK|apply Kd.df));exact lK.out) (Kd.jS ni) hb)
                  have eY:=af.mk (Kd.gz (Kd.ui ni (Kd.wJ (by (with_reducible repeat (first|apply Kd.bJ|apply Kd.bK|apply Kd.df));exact lK.out))) (bG (by repeat (first|(with_reducible first|exact HB.out|apply ai|apply ag|apply ah|refine az ?_ fO.out)|exact HB.out))))
                  have iD:=af.mk (bW (g:=dA) (o:=.cells #[.slice dN bn.length dK,.string bD,.string bu,.slice dQ aV.length dJ] 25 (0,0)) (by (with_reducible repeat (first|refine aC ?_ _|refine aK ?_|refine aG ?_ _));exact bg.out) hb)
                  have mZ:=af.mk (bf (by repeat (first|(with_reducible first|exact HB.out|apply ai|apply ag|apply ah|refine az ?_ fO.out)|exact HB.out)) hb)
                  clear fD
                  clear lK
                  clear bg
                  clear HB
                  have fD:=dM
                  have lK:=dP
                  have nP:=eY
                  have bg:=iD
                  have HB:=mZ
                  clear dM dP eY iD mZ
                  clear hb ni
                  refine hK.out _ _ ⟨(ak bg.out 0).trans rfl,(ak bg.out 1).trans rfl,(ak bg.out 2).trans rfl,(ak bg.out 3).trans rfl⟩ (fun hHeld=>?_)
                  clear hK K
                  refine jP (a':=?_) ?_ ?_
                  rotate_left
                  · show Act.put _ (some 33) _=_
                    simp only [Act.put,List.setIfInBounds_toArray,List.set_cons_zero,List.set_cons_succ,aH,aI]
                    rfl
                  exact jP (by simp only [kH,Act.put,List.setIfInBounds_toArray,List.set_cons_zero,List.set_cons_succ]) (II (yH,yG) _ ⟨hHeld,(by (with_reducible repeat (first|apply Kd.bJ|apply Kd.bK|apply Kd.df));exact Kd.dH lK.out (fun _ hk=>hk.2)),(by (with_reducible repeat (first|apply Kd.bJ|apply Kd.bK|apply Kd.df));exact Kd.dH nP.out (fun _ hk=>hk.2)),(by (with_reducible repeat (first|apply Kd.gG|apply Kd.gB|apply Kd.iO));exact Kd.lD fD.out (fun _ hk=>⟨hk.1.2,⟨hk.2,hk.1.1⟩⟩)),(by (with_reducible repeat (first|refine aC ?_ _|refine aK ?_|refine aG ?_ _));exact bg.out),(by repeat (first|(with_reducible first|exact HB.out|apply ai|apply ag|apply ah|refine az ?_ fO.out)|exact HB.out))⟩)
                · skip
                  refine Kd.kK Kd.string _ 9 ?hg (N:=33) ?hd (xs:=([(⟨#[103,108,111,98,97,108,115]⟩:ByteArray),t123]:List ByteArray)) (inner:=[.string (⟨#[103,108,111,98,97,108,115]⟩:ByteArray),.string t123]) (ok:=fun _=>True) (lM:=fun _=>True) ?hr ?hp (fun _ hk=>hk) trivial (Below.refl _ _) (Nat.le_refl _) (by simp) ?_;(case hd=>rfl);(case hg=>rfl);(case hr=>first|(go_simp;done)|(go_simp;rfl));(case hp=>exact (gy.one (show Kd.M Kd.string _ _ _ (⟨#[103,108,111,98,97,108,115]⟩:ByteArray) [.string (⟨#[103,108,111,98,97,108,115]⟩:ByteArray)] from rfl) (gy.one (show Kd.M Kd.string _ _ _ t123 [.string t123] from rfl) (gy.none _ _))))
                  intro yG PI oh hb CO ny
                  clear CO ny
                  (first|rw [← yu.out] at oh|(simp only [Int.reduceToNat] at oh;rw [← yu.out] at oh))
                  have dM:=af.mk (Kd.lF (by (with_reducible repeat (first|apply Kd.gG|apply Kd.gB|apply Kd.iO));exact fD.out) (Kd.jS oh) hb)
                  have dP:=af.mk (Kd.gz oh (bG (by repeat (first|(with_reducible first|exact HB.out|apply ai|apply ag|apply ah|refine az ?_ fO.out)|exact HB.out))))
                  have eY:=af.mk (bW (g:=dA) (o:=.cells #[.slice dN bn.length dK,.string bD,.string bu,.slice dQ aV.length dJ] 25 (0,0)) (by (with_reducible repeat (first|refine aC ?_ _|refine aK ?_|refine aG ?_ _));exact bg.out) hb)
                  have iD:=af.mk (bf (by repeat (first|(with_reducible first|exact HB.out|apply ai|apply ag|apply ah|refine az ?_ fO.out)|exact HB.out)) hb)
                  clear fD
                  clear bg
                  clear HB
                  have fD:=dM
                  have nP:=dP
                  have bg:=eY
                  have HB:=iD
                  clear dM dP eY iD
                  clear hb oh
                  refine hK.out _ _ ⟨(ak bg.out 0).trans rfl,(ak bg.out 1).trans rfl,(ak bg.out 2).trans rfl,(ak bg.out 3).trans rfl⟩ (fun hHeld=>?_)
                  clear hK K
                  refine jP (a':=?_) ?_ ?_
                  rotate_left
                  · show Act.put _ (some 33) _=_
                    simp only [Act.put,List.setIfInBounds_toArray,List.set_cons_zero,List.set_cons_succ,aH,aI]
                    rfl
                  refine rE (i:=4) (N:=some 29) #[true,true,true,true,true,true,true,true,true,false,false,false] rfl rfl (jC di.out (by kernel_rfl)) (by decide) (fun K hK=>?_)
                  refine Kd.kK Kd.string _ 9 ?hg (N:=29) ?hd (xs:=([(⟨#[108,111,99,97,108,115]⟩:ByteArray),t119]:List ByteArray)) (inner:=[.string (⟨#[108,111,99,97,108,115]⟩:ByteArray),.string t119]) (ok:=fun _=>True) (lM:=fun _=>True) ?hr ?hp (fun _ hk=>hk) trivial (Below.refl _ _) (Nat.le_refl _) (by simp) ?_;(case hd=>rfl);(case hg=>rfl);(case hr=>first|(go_simp;done)|(go_simp;rfl));(case hp=>exact (gy.one (show Kd.M Kd.string _ _ _ (⟨#[108,111,99,97,108,115]⟩:ByteArray) [.string (⟨#[108,111,99,97,108,115]⟩:ByteArray)] from rfl) (gy.one (show Kd.M Kd.string _ _ _ t119 [.string t119] from rfl) (gy.none _ _))))
                  intro yH EM ni hb CO ny
                  clear CO ny
                  (first|rw [← yw.out] at ni|(simp only [Int.reduceToNat] at ni;rw [← yw.out] at ni))
                  have dM:=af.mk (Kd.lF (by (with_reducible repeat (first|apply Kd.gG|apply Kd.gB|apply Kd.iO));exact fD.out) (Kd.jS ni) hb)
                  have dP:=af.mk (Kd.nG (by (with_reducible repeat (first|apply Kd.bJ|apply Kd.bK|apply Kd.df));exact nP.out) (Kd.jS ni) hb)
                  have eY:=af.mk (Kd.gz (Kd.ui ni (Kd.wJ (by (with_reducible repeat (first|apply Kd.bJ|apply Kd.bK|apply Kd.df));exact nP.out))) (bG (by repeat (first|(with_reducible first|exact HB.out|apply ai|apply ag|apply ah|refine az ?_ fO.out)|exact HB.out))))
                  have iD:=af.mk (bW (g:=dA) (o:=.cells #[.slice dN bn.length dK,.string bD,.string bu,.slice dQ aV.length dJ] 25 (0,0)) (by (with_reducible repeat (first|refine aC ?_ _|refine aK ?_|refine aG ?_ _));exact bg.out) hb)
                  have mZ:=af.mk (bf (by repeat (first|(with_reducible first|exact HB.out|apply ai|apply ag|apply ah|refine az ?_ fO.out)|exact HB.out)) hb)
                  clear fD
                  clear nP
                  clear bg
                  clear HB
                  have fD:=dM
                  have nP:=dP
                  have lK:=eY
                  have bg:=iD
                  have HB:=mZ
                  clear dM dP eY iD mZ
                  clear hb ni
                  refine hK.out _ _ ⟨(ak bg.out 0).trans rfl,(ak bg.out 1).trans rfl,(ak bg.out 2).trans rfl,(ak bg.out 3).trans rfl⟩ (fun hHeld=>?_)
                  clear hK K
                  refine jP (a':=?_) ?_ ?_
                  rotate_left
                  · show Act.put _ (some 29) _=_
                    simp only [Act.put,List.setIfInBounds_toArray,List.set_cons_zero,List.set_cons_succ,aH,aI]
                    rfl
                  exact jP (by simp only [kH,Act.put,List.setIfInBounds_toArray,List.set_cons_zero,List.set_cons_succ]) (II (yH,yG) _ ⟨hHeld,(by (with_reducible repeat (first|apply Kd.bJ|apply Kd.bK|apply Kd.df));exact Kd.dH lK.out (fun _ hk=>hk.2)),(by (with_reducible repeat (first|apply Kd.bJ|apply Kd.bK|apply Kd.df));exact Kd.dH nP.out (fun _ hk=>hk.2)),(by (with_reducible repeat (first|apply Kd.gG|apply Kd.gB|apply Kd.iO));exact Kd.lD fD.out (fun _ hk=>⟨hk.2,⟨hk.1.2,hk.1.1⟩⟩)),(by (with_reducible repeat (first|refine aC ?_ _|refine aK ?_|refine aG ?_ _));exact bg.out),(by repeat (first|(with_reducible first|exact HB.out|apply ai|apply ag|apply ah|refine az ?_ fO.out)|exact HB.out))⟩)
            rintro ⟨yH,yG⟩ Gn ⟨gZ,Xr,Xq,Xp,Xo,Xn⟩
            have dM:af (Kd.R Kd.string 9 Gn w.heap.size (fun k_=>some k_ ≠ (yG:Value).ownBlock) yH wQ):=⟨Xr⟩
            have dP:af (Kd.R Kd.string 9 Gn w.heap.size (fun k_=>some k_ ≠ (yH:Value).ownBlock) yG zJ):=⟨Xq⟩
            have eY:af (Kd.N (Kd.slice 9 Kd.string) 22 Gn w.heap.size (fun k_=>some k_ ≠ (yH:Value).ownBlock∧some k_ ≠ (yG:Value).ownBlock∧k_ ≠ dA) (.slice uq fB.length ug) fB):=⟨Xp⟩
            have iD:af (Gn.heap[dA]? = some (.cells #[.slice dN bn.length dK,.string bD,.string bu,.slice dQ aV.length dJ] 25 (0,0))):=⟨Xo⟩
            have mZ:af (Below w.heap.size w Gn):=⟨Xn⟩
            clear fD
            clear bg
            clear HB
            clear Xr Xq Xp Xo Xn
            have lK:=dM
            have nP:=dP
            have fD:=eY
            have bg:=iD
            have HB:=mZ
            clear dM dP eY iD mZ
            have hHeld:Gn.cell? ⟨dA,0,none⟩=some (.slice dN bn.length dK)∧Gn.cell? ⟨dA,1,none⟩=some (.string bD)∧Gn.cell? ⟨dA,2,none⟩=some (.string bu)∧Gn.cell? ⟨dA,3,none⟩=some (.slice dQ aV.length dJ):=gZ
            obtain ⟨JB,I7,LZ⟩:=Kd.fJ lK.out
            (first|subst LZ|(injection LZ with Nl Qe Nk;have Qd:=Nl.symm;have Qc:=Nk.symm;clear Nl Qe Nk;subst Qd;subst Qc))
            obtain ⟨o8,o5,LY⟩:=Kd.fJ nP.out
            (first|subst LY|(injection LY with Nl Qe Nk;have Qd:=Nl.symm;have Qc:=Nk.symm;clear Nl Qe Nk;subst Qd;subst Qc))
            refine jP (a':=?_) ?_ ?_
            rotate_left
            · simp only [kH,Act.put,List.setIfInBounds_toArray,List.set_cons_zero,List.set_cons_succ]
              rfl
            refine rE (i:=9) (N:=some 34) #[true,true,true,true,true,true,true,true,true,true,false,false] rfl rfl (jC di.out (by kernel_rfl)) (by decide) (fun K hK=>?_)
            refine Kd.CZ (Kd.slice 9 Kd.string) _ 22 ?hg (N':=34) ?hd (xs:=([wQ,zJ]:List (List ByteArray))) (inner:=[.slice JB wQ.length I7,.slice o8 zJ.length o5]) (ok:=(fun k_=>some k_ ≠ (.slice uq fB.length ug:Value).ownBlock∧k_ ≠ dA)) (lM:=(fun k_=>some k_ ≠ (.slice uq fB.length ug:Value).ownBlock∧k_ ≠ dA)) ?hr ?hp (fun _ hk=>hk) ((show ∀ k_,Gn.heap.size≤k_→(fun k_=>some k_ ≠ (.slice uq fB.length ug:Value).ownBlock∧k_ ≠ dA) k_ from fun k_ hk=>⟨Kd.fresh' (Kd.QM (by (with_reducible repeat (first|apply Kd.gG|apply Kd.gB|apply Kd.iO));exact fD.out)) k_ hk,Kd.wz (g:=dA) (o:=.cells #[.slice dN bn.length dK,.string bD,.string bu,.slice dQ aV.length dJ] 25 (0,0)) (by (with_reducible repeat (first|refine aC ?_ _|refine aK ?_|refine aG ?_ _));exact bg.out) k_ hk⟩) _ (Nat.le_refl _)) (Below.refl _ _) (Nat.le_refl _) (by simp) ?_;(case hd=>rfl);(case hg=>rfl);(case hr=>first|(go_simp;done)|(go_simp;rfl));(case hp=>exact (gy.one (show Kd.FK (Kd.slice 9 Kd.string) _ _ wQ [.slice JB wQ.length I7] from (Kd.nR (Kd.fZ (Kd.dH (ok':=(fun k_=>some k_ ≠ (.slice uq fB.length ug:Value).ownBlock∧k_ ≠ dA)) (Kd.gX (Kd.jG (lK.out) (Kd.nO fD.out) (by decide)) bg.out (by decide)) (fun k_ hk=>⟨hk.1.2,hk.2⟩))).2.1 (Kd.Vs (Kd.dH (ok':=(fun k_=>some k_ ≠ (.slice uq fB.length ug:Value).ownBlock∧k_ ≠ dA)) (Kd.gX (Kd.jG (lK.out) (Kd.nO fD.out) (by decide)) bg.out (by decide)) (fun k_ hk=>⟨hk.1.2,hk.2⟩))))) (gy.one (show Kd.FK (Kd.slice 9 Kd.string) _ _ zJ [.slice o8 zJ.length o5] from (Kd.nR (Kd.fZ (Kd.dH (ok':=(fun k_=>some k_ ≠ (.slice uq fB.length ug:Value).ownBlock∧k_ ≠ dA)) (Kd.gX (Kd.jG (nP.out) (Kd.nO fD.out) (by decide)) bg.out (by decide)) (fun k_ hk=>⟨hk.1.2,hk.2⟩))).2.1 (Kd.Vs (Kd.dH (ok':=(fun k_=>some k_ ≠ (.slice uq fB.length ug:Value).ownBlock∧k_ ≠ dA)) (Kd.gX (Kd.jG (nP.out) (Kd.nO fD.out) (by decide)) bg.out (by decide)) (fun k_ hk=>⟨hk.1.2,hk.2⟩))))) (gy.none _ _))))
            intro Yf Y5 Fq hb CO ny
            clear CO ny
            (first|rw [← NG.out] at Fq|(simp only [Int.reduceToNat] at Fq;rw [← NG.out] at Fq))
            have dM:=af.mk (Kd.lF (by (with_reducible repeat (first|apply Kd.gG|apply Kd.gB|apply Kd.iO));exact fD.out) (Kd.O1 Fq) hb)
            have dP:=af.mk (Kd.MM Fq (bG (by repeat (first|(with_reducible first|exact HB.out|apply ai|apply ag|apply ah|refine az ?_ fO.out)|exact HB.out))))
            have eY:=af.mk (bW (g:=dA) (o:=.cells #[.slice dN bn.length dK,.string bD,.string bu,.slice dQ aV.length dJ] 25 (0,0)) (by (with_reducible repeat (first|refine aC ?_ _|refine aK ?_|refine aG ?_ _));exact bg.out) hb)
            have iD:=af.mk (bf (by repeat (first|(with_reducible first|exact HB.out|apply ai|apply ag|apply ah|refine az ?_ fO.out)|exact HB.out)) hb)
            clear fD
            clear bg
            clear HB
            clear lK
            clear nP
            have fD:=dM
            have BF:=dP
            have bg:=eY
            have HB:=iD
            clear dM dP eY iD
            clear hb Fq
            obtain ⟨YR,YA,Qh⟩:=Kd.zF BF.out
            (first|subst Qh|(injection Qh with Nl Qe Nk;have Qd:=Nl.symm;have Qc:=Nk.symm;clear Nl Qe Nk;subst Qd;subst Qc))
            refine hK.out _ _ ⟨(ak bg.out 0).trans rfl,(ak bg.out 1).trans rfl,(ak bg.out 2).trans rfl,(ak bg.out 3).trans rfl⟩ (fun hHeld=>?_)
            clear hK K
            refine jP (a':=?_) ?_ ?_
            rotate_left
            · show Act.put _ (some 34) _=_
              simp only [Act.put,List.setIfInBounds_toArray,List.set_cons_zero,List.set_cons_succ,aH,aI]
              rfl
            refine rE (i:=10) (N:=some 35) #[true,true,true,true,true,true,true,true,true,true,true,false] rfl rfl (jC di.out (by kernel_rfl)) (by decide) (fun K hK=>?_)
            refine Kd.rO (Kd.slice 9 Kd.string) (w0:=w) w.heap.size (by rfl) (.tmp 25) (.tmp 34) 43 22 (.slice none 0 0) 24 rfl Tryz.underlying43 info22 rfl (by decide) (by omega) (.slice uq fB.length ug) fB nV _ _ _ (fun k_=>k_ ≠ dA) (fun k_=>((fun k_=>k_ ≠ dA)) k_∧some k_ ≠ (.slice uq fB.length ug:Value).ownBlock) rfl rfl ?aO ?aR (fun _ hk=>hk) ?aF ?aB ?aS ?aL ?_
            (case aR=>exact (by skip;exact Kd.YM (Kd.lD (ok':=(fun k_=>((fun k_=>k_ ≠ dA)) k_∧some k_ ≠ (.slice uq fB.length ug:Value).ownBlock)) (BF.out) (fun k_ hk=>⟨hk.2,hk.1⟩))))
            (case aB=>exact (by repeat (first|(with_reducible first|exact HB.out|apply ai|apply ag|apply ah|refine az ?_ fO.out)|exact HB.out)))
            (case aF=>exact (fun k_ hk=>Kd.wz (g:=dA) (o:=.cells #[.slice dN bn.length dK,.string bD,.string bu,.slice dQ aV.length dJ] 25 (0,0)) (by (with_reducible repeat (first|refine aC ?_ _|refine aK ?_|refine aG ?_ _));exact bg.out) k_ hk))
            (case aO=>exact (by (with_reducible repeat (first|apply Kd.gG|apply Kd.gB|apply Kd.iO));exact Kd.lD fD.out (fun _ hk=>hk.1.2.2)))
            (case aS=>exact (bG (by repeat (first|(with_reducible first|exact HB.out|apply ai|apply ag|apply ah|refine az ?_ fO.out)|exact HB.out))))
            (case aL=>have:=QS.out;omega)
            intro v131 JC ho hb hg hat
            rw [← QK.out] at ho
            have dM:=af.mk (qJ (g:=dA) (o:=.cells #[.slice dN bn.length dK,.string bD,.string bu,.slice dQ aV.length dJ] 25 (0,0)) (by (with_reducible repeat (first|refine aC ?_ _|refine aK ?_|refine aG ?_ _));exact bg.out) hg (Kd.ML fD.out bg.out (by decide)))
            have dP:=af.mk (Kd.Jt (ok:=(fun k_=>k_ ≠ dA)) (by (with_reducible repeat (first|apply Kd.gG|apply Kd.gB|apply Kd.iO));exact Kd.lD BF.out (fun _ hk=>⟨hk.2,hk.1⟩)) hg hat)
            have eY:=af.mk (hb)
            have iD:=af.mk (ho)
            clear bg
            clear BF
            clear HB
            clear fD
            have bg:=dM
            have BF:=dP
            have HB:=eY
            have Ri:=iD
            clear dM dP eY iD
            clear ho hb hg hat
            refine hK.out _ _ ⟨(ak bg.out 0).trans rfl,(ak bg.out 1).trans rfl,(ak bg.out 2).trans rfl,(ak bg.out 3).trans rfl⟩ (fun hHeld=>?_)
            clear hK K
            refine jP (a':=?_) ?_ ?_
            rotate_left
            · show Act.put _ (some 35) _=_
              simp only [Act.put,List.setIfInBounds_toArray,List.set_cons_zero,List.set_cons_succ,aH,aI]
              rfl
            refine aY (i:=11) (N:=some 4) (v:=?_) (a':=?_) #[true,true,true,true,true,true,true,true,true,true,true,true] rfl rfl (aN di.out (by kernel_rfl)) (fun _ _ _ h=>h) (Or.inl ⟨by rfl,?_⟩) ?_ ?_
            rotate_left
            · intro w'
              go_simp
              with_reducible rfl
            rotate_left
            · simp only [Act.put,List.setIfInBounds_toArray,List.set_cons_zero,List.set_cons_succ,aH,aI]
              rfl
            refine sG (mG di.out (by kernel_rfl)) ?_
            have Eh:JC.cell? ⟨dA,0,none⟩=some (.slice dN bn.length dK):=(ak bg.out 0).trans rfl
            have Eg:JC.cell? ⟨dA,1,none⟩=some (.string bD):=(ak bg.out 1).trans rfl
            have Ef:JC.cell? ⟨dA,2,none⟩=some (.string bu):=(ak bg.out 2).trans rfl
            have Ee:JC.cell? ⟨dA,3,none⟩=some (.slice dQ aV.length dJ):=(ak bg.out 3).trans rfl
            have D9:=ax bg.out 0
            have D8:=ax bg.out 1
            have D7:=ax bg.out 2
            have D6:=ax bg.out 3
            try go_wp2
            go_loopg [4,39] k1 (fun kq v4 v39 w'=>∃ (wR:List (List ByteArray)) (dW:Int),v39=.int .i64 dW∧af (aU.l1 kq wR aV (aV.length:Int) dW=some (r1,r2))∧af (kq≤k1)∧af (Kd.N (Kd.slice 9 Kd.string) 22 w' w.heap.size (fun k_=>k_ ≠ dA) v4 wR)∧af (w'.heap[dA]? = some (.cells #[(.slice dN bn.length dK),.string bD,.string bu,(.slice dQ aV.length dJ)] 25 (0,0)))∧af (Below w.heap.size w w'))
            case atStart=>exact ⟨(Py),(0),(by first|rfl|(simp;done)|(simp [*];done)),H',⟨Nat.le_refl _⟩,⟨by (with_reducible repeat (first|apply Kd.gG|apply Kd.gB|apply Kd.iO));exact Ri.out⟩,⟨by (with_reducible repeat (first|refine aC ?_ _|refine aK ?_|refine aG ?_ _));exact bg.out⟩,⟨by repeat (first|(with_reducible first|exact HB.out|apply ai|apply ag|apply ah|refine az ?_ fO.out)|exact HB.out)⟩⟩
            case round =>
              clear H'
              try clear c1
              try clear p1
              try clear q1
              try clear hx1
              try clear p2
              try clear c3
              try clear p6
              try clear c8
              try clear CW
              try clear c9
              try clear Ja
              try clear c10
              try clear wF
              try clear c11
              try clear p11
              try clear q11
              try clear Yl
              try clear c18
              try clear c19
              try clear Eh
              try clear Eg
              try clear Ef
              try clear Ee
              try clear Ip
              try clear Io
              try clear Il
              try clear Ik
              try clear Ij
              try clear Ii
              try clear Ih
              try clear Ig
              try clear D9
              try clear D8
              try clear D7
              try clear D6
              try clear Ie
              try clear Ic
              try clear Ib
              try clear Ia
              try clear H9
              try clear H8
              try clear H7
              try clear H6
              try clear uS
              try clear Kq
              try clear p2
              try clear J9
              obtain ⟨wR,dW,rfl,HA,EI,fD,bg,HB⟩:=hrel
              cases gk with
              | zero=>exact absurd HA.out (by simp [aU.l1])
              | succ k2 =>
                have H:=HA.out
                clear HA
                simp only [aU.l1] at H
                by_cases Pn:dW < (aV.length:Int)
                · rw [if_pos Pn] at H
                  have Qj:decide (dW < (aV.length:Int))=true:=decide_eq_true Pn
                  clear Pn
                  by_cases c34:0≤dW
                  · rw [if_pos c34] at H
                    have Xv:decide (0≤dW)=true:=decide_eq_true c34
                    clear c34
                    by_cases Vq:dW < (aV.length:Int)
                    · rw [if_pos Vq] at H
                      have Xu:decide (dW < (aV.length:Int))=true:=decide_eq_true Vq
                      clear Vq
                      replace H:=Option.bind_eq_some_iff.mp H
                      obtain ⟨t135,RH,H⟩:=H
                      replace H:(if wR.length < 5864062014805 then (aU.l1 k2 (wR++[t135]) aV (aV.length:Int) (wrap64 (dW+1))) else (none))=some (r1,r2):=H
                      have YV:=af.mk RH
                      clear RH
                      by_cases c37:wR.length < 5864062014805
                      · rw [if_pos c37] at H
                        have QN:=af.mk c37
                        clear c37
                        obtain ⟨Px,AB⟩:∃ y_:List (List ByteArray),y_=(wR++[t135]):=⟨_,rfl⟩
                        replace H:(aU.l1 k2 Px aV (aV.length:Int) (wrap64 (dW+1)))=some (r1,r2):=by first|(rw [AB];with_reducible exact H)|(have mi:=(Option.bind_some _ _).symm.trans H;rw [AB];with_reducible exact mi)|(have mi:=(Option.bind_some _ _).symm.trans H;with_reducible exact mi)|with_reducible exact H|(rw [AB];exact H)|exact H
                        have QJ:=af.mk AB
                        clear AB
                        have H':=af.mk H
                        clear H
                        have Ol:0≤(dW:Int):=of_decide_eq_true (by first|(with_reducible assumption)|assumption)
                        have Og:dW < (aV.length:Int):=of_decide_eq_true (by first|(with_reducible assumption)|assumption)
                        obtain ⟨yt,Ws,yV,yU,yT,yS,yR⟩:=wG oH.out dW Ol Og
                        cases Ws
                        replace yV:=(HB.out.cell (World.block_lt_of_cell? w _ yV)).trans yV
                        replace yU:=(HB.out.cell (World.block_lt_of_cell? w _ yU)).trans yU
                        replace yT:=(HB.out.cell (World.block_lt_of_cell? w _ yT)).trans yT
                        replace yS:=(HB.out.cell (World.block_lt_of_cell? w _ yS)).trans yS
                        replace yR:=(HB.out.cell (World.block_lt_of_cell? w _ yR)).trans yR
                        replace Ol:=eq_true Ol
                        replace Og:=eq_true Og
                        go_wp2_with (first|((with_reducible refine eu (N:=8) rfl ?_);refine iK ?hg (N:=8) ?hd (cs:=#[.int .u8 0,.int .u8 0,.int .u8 0,.int .u8 0,.int .i64 0]) (t:=27) ?hr ?_;(case hd=>rfl);(case hg=>rfl);(case hr=>first|(go_simp;done)|(go_simp;rfl));intro jQ hg Gm hbox hb;have dM:=af.mk (Kd.qN (Kd.Js (by (with_reducible repeat (first|apply Kd.gG|apply Kd.gB|apply Kd.iO));exact fD.out) jQ (Nat.le_of_eq hg.symm)) hb);have dP:=af.mk (bW (g:=dA) (o:=.cells #[.slice dN bn.length dK,.string bD,.string bu,.slice (some yt) aV.length dJ] 25 (0,0)) (by (with_reducible repeat (first|refine aC ?_ _|refine aK ?_|refine aG ?_ _));exact bg.out) hb);have eY:=af.mk (bf (by repeat (first|(with_reducible first|exact HB.out|apply ai|apply ag|apply ah|refine az ?_ fO.out)|exact HB.out)) hb);have iD:=af.mk (hbox);have mZ:=af.mk ((by rw [hg];exact (bG (by repeat (first|(with_reducible first|exact HB.out|apply ai|apply ag|apply ah|refine az ?_ fO.out)|exact HB.out))):w.heap.size≤jQ));have vP:=af.mk ((by rw [hg];exact (bG (by repeat (first|(with_reducible first|exact HB.out|apply ai|apply ag|apply ah|refine az ?_ fO.out)|exact HB.out))):w.heap.size≤jQ));have Ak:=af.mk ((by rw [hg];exact Nat.ne_of_lt (l9 (g:=dA) (o:=.cells #[.slice dN bn.length dK,.string bD,.string bu,.slice (some yt) aV.length dJ] 25 (0,0)) (by (with_reducible repeat (first|refine aC ?_ _|refine aK ?_|refine aG ?_ _));exact bg.out)):dA ≠ jQ));have PU:=af.mk ((by rw [hg];exact Nat.ne_of_gt (l9 (g:=dA) (o:=.cells #[.slice dN bn.length dK,.string bD,.string bu,.slice (some yt) aV.length dJ] 25 (0,0)) (by (with_reducible repeat (first|refine aC ?_ _|refine aK ?_|refine aG ?_ _));exact bg.out)):jQ ≠ dA));clear fD;clear bg;clear HB;have fD:=dM;have bg:=dP;have HB:=eY;have kP:=iD;have XM:=mZ;have yx:=vP;have mO:=Ak;have Gg:=PU;clear dM dP eY iD mZ vP Ak PU;clear hb hbox hg;have Xh:=Gg.out;have Xd:=mO.out;have Uz:Gm.cell? ⟨jQ,0,none⟩=some (.int .u8 0):=(ak kP.out 0).trans rfl;have Uy:Gm.cell? ⟨jQ,1,none⟩=some (.int .u8 0):=(ak kP.out 1).trans rfl;have Ux:Gm.cell? ⟨jQ,2,none⟩=some (.int .u8 0):=(ak kP.out 2).trans rfl;have Uw:Gm.cell? ⟨jQ,3,none⟩=some (.int .u8 0):=(ak kP.out 3).trans rfl;have Uu:Gm.cell? ⟨jQ,4,none⟩=some (.int .i64 0):=(ak kP.out 4).trans rfl;have SY:=ax kP.out 0;have SX:=ax kP.out 1;have SV:=ax kP.out 2;have SS:=ax kP.out 3;have SQ:=ax kP.out 4)|((with_reducible refine bY (f:=20) rfl ?_);refine eQ (some 45) rfl rfl Tryz.func20 (by kernel_rfl) rfl #[.agg #[.int .u8 ((aQ aV dW).f0),.int .u8 ((aQ aV dW).f1),.int .u8 ((aQ aV dW).f2),.int .u8 ((aQ aV dW).f3),.int .i64 ((aQ aV dW).f4)]] rfl (by (try simp only [List.map_toArray,List.map_cons,List.map_nil]);first|done|rfl|(simp only [List.length_drop,List.length_take];rfl)) ?_;(with_reducible refine (kJ.calls ((aQ aV dW).f0) ((aQ aV dW).f1) ((aQ aV dW).f2) ((aQ aV dW).f3) ((aQ aV dW).f4) t135 _ ?fA YV.out).mono ?_);(case fA=>exact Kd.dB uo.out (by repeat (first|(with_reducible first|exact HB.out|apply ai|apply ag|apply ah|refine az ?_ fO.out|refine az ?_ yx.out)|exact HB.out)));rintro e Y2 ⟨Ye,rfl,ho0,hb⟩;refine ⟨_,rfl,?_⟩;have dM:=af.mk (Kd.lF (by (with_reducible repeat (first|apply Kd.gG|apply Kd.gB|apply Kd.iO));exact (Kd.lD (Kd.BB (p:=⟨jQ,4,none⟩) (Kd.BB (p:=⟨jQ,3,none⟩) (Kd.BB (p:=⟨jQ,2,none⟩) (Kd.BB (p:=⟨jQ,1,none⟩) (Kd.BB (p:=⟨jQ,0,none⟩) (Kd.lD fD.out (fun k_ hk=>(⟨hk,hk.2⟩:_∧k_ ≠ jQ))) (fun _ hk=>hk.2) (.int .u8 ((aQ aV dW).f0))) (fun _ hk=>hk.2) (.int .u8 ((aQ aV dW).f1))) (fun _ hk=>hk.2) (.int .u8 ((aQ aV dW).f2))) (fun _ hk=>hk.2) (.int .u8 ((aQ aV dW).f3))) (fun _ hk=>hk.2) (.int .i64 ((aQ aV dW).f4))) (fun _ h_=>h_.1))) (Kd.jS ho0) hb);have dP:=af.mk (Kd.gz ho0 (bG (by repeat (first|(with_reducible first|exact HB.out|apply ai|apply ag|apply ah|refine az ?_ fO.out|refine az ?_ yx.out)|exact HB.out))));have eY:=af.mk (bW (g:=dA) (o:=.cells #[.slice dN bn.length dK,.string bD,.string bu,.slice (some yt) aV.length dJ] 25 (0,0)) (by (with_reducible repeat (first|refine aC ?_ _|refine aK ?_|refine aG ?_ _));refine fU ?_ mO.out _;(with_reducible repeat (first|refine aC ?_ _|refine aK ?_|refine aG ?_ _));refine fU ?_ mO.out _;(with_reducible repeat (first|refine aC ?_ _|refine aK ?_|refine aG ?_ _));refine fU ?_ mO.out _;(with_reducible repeat (first|refine aC ?_ _|refine aK ?_|refine aG ?_ _));refine fU ?_ mO.out _;(with_reducible repeat (first|refine aC ?_ _|refine aK ?_|refine aG ?_ _));refine fU ?_ mO.out _;(with_reducible repeat (first|refine aC ?_ _|refine aK ?_|refine aG ?_ _));exact bg.out) hb);have iD:=af.mk (bW (g:=jQ) (o:=.cells #[.int .u8 ((aQ aV dW).f0),.int .u8 ((aQ aV dW).f1),.int .u8 ((aQ aV dW).f2),.int .u8 ((aQ aV dW).f3),.int .i64 ((aQ aV dW).f4)] 27 (0,0)) (by (with_reducible repeat (first|refine aC ?_ _|refine aK ?_|refine aG ?_ _));refine eF (cs:=#[.int .u8 ((aQ aV dW).f0),.int .u8 ((aQ aV dW).f1),.int .u8 ((aQ aV dW).f2),.int .u8 ((aQ aV dW).f3),.int .i64 0]) ?_ 4 _ rfl;(with_reducible repeat (first|refine aC ?_ _|refine aK ?_|refine aG ?_ _));refine eF (cs:=#[.int .u8 ((aQ aV dW).f0),.int .u8 ((aQ aV dW).f1),.int .u8 ((aQ aV dW).f2),.int .u8 0,.int .i64 0]) ?_ 3 _ rfl;(with_reducible repeat (first|refine aC ?_ _|refine aK ?_|refine aG ?_ _));refine eF (cs:=#[.int .u8 ((aQ aV dW).f0),.int .u8 ((aQ aV dW).f1),.int .u8 0,.int .u8 0,.int .i64 0]) ?_ 2 _ rfl;(with_reducible repeat (first|refine aC ?_ _|refine aK ?_|refine aG ?_ _));refine eF (cs:=#[.int .u8 ((aQ aV dW).f0),.int .u8 0,.int .u8 0,.int .u8 0,.int .i64 0]) ?_ 1 _ rfl;(with_reducible repeat (first|refine aC ?_ _|refine aK ?_|refine aG ?_ _));refine eF (cs:=#[.int .u8 0,.int .u8 0,.int .u8 0,.int .u8 0,.int .i64 0]) ?_ 0 _ rfl;(with_reducible repeat (first|refine aC ?_ _|refine aK ?_|refine aG ?_ _));exact kP.out) hb);have mZ:=af.mk (bf (by repeat (first|(with_reducible first|exact HB.out|apply ai|apply ag|apply ah|refine az ?_ fO.out|refine az ?_ yx.out)|exact HB.out)) hb);clear fD;clear bg;clear kP;clear HB;have fD:=dM;have EF:=dP;have bg:=eY;have kP:=iD;have HB:=mZ;clear dM dP eY iD mZ;(try clear hb);(try clear hb2);(try clear hk);(try clear hi);(try clear ho0);obtain ⟨WN,Wy,V5⟩:=Kd.fJ EF.out;subst V5)|((with_reducible refine fH (b:=.append) (xs:=#[.tmp 43,.tmp 46]) rfl ?_);at_builtin;refine Kd.BC (Kd.slice 9 Kd.string) (w0:=w) w.heap.size rfl (.tmp 43) (.tmp 46) 43 22 (.slice none 0 0) 24 rfl Tryz.underlying43 info22 rfl (by decide) (by omega) u4 wR t135 [.slice WN t135.length Wy] (fun k_=>k_ ≠ dA∧k_ ≠ jQ) (fun k_=>((fun k_=>k_ ≠ dA∧k_ ≠ jQ)) k_∧some k_ ≠ (u4:Value).ownBlock) rfl rfl ?aP (fun _ hk=>hk) ?aF ?aO ?aB ?aS ?aL ?_;(case aP=>exact (Kd.nR (Kd.fZ (Kd.dH (ok':=(fun k_=>((fun k_=>k_ ≠ dA∧k_ ≠ jQ)) k_∧some k_ ≠ (u4:Value).ownBlock)) (Kd.gX (Kd.gX (Kd.jG (EF.out) (Kd.nO fD.out) (by decide)) bg.out (by decide)) kP.out (by decide)) (fun k_ hk=>⟨⟨hk.1.2,hk.2⟩,hk.1.1.2⟩))).2.1 (Kd.Vs (Kd.dH (ok':=(fun k_=>((fun k_=>k_ ≠ dA∧k_ ≠ jQ)) k_∧some k_ ≠ (u4:Value).ownBlock)) (Kd.gX (Kd.gX (Kd.jG (EF.out) (Kd.nO fD.out) (by decide)) bg.out (by decide)) kP.out (by decide)) (fun k_ hk=>⟨⟨hk.1.2,hk.2⟩,hk.1.1.2⟩)))));(case aB=>exact (by repeat (first|(with_reducible first|exact HB.out|apply ai|apply ag|apply ah|refine az ?_ fO.out|refine az ?_ yx.out)|exact HB.out)));(case aF=>exact (fun k_ hk=>⟨Kd.wz (g:=dA) (o:=.cells #[.slice dN bn.length dK,.string bD,.string bu,.slice (some yt) aV.length dJ] 25 (0,0)) (by (with_reducible repeat (first|refine aC ?_ _|refine aK ?_|refine aG ?_ _));exact bg.out) k_ hk,Kd.wz (g:=jQ) (o:=.cells #[.int .u8 ((aQ aV dW).f0),.int .u8 ((aQ aV dW).f1),.int .u8 ((aQ aV dW).f2),.int .u8 ((aQ aV dW).f3),.int .i64 ((aQ aV dW).f4)] 27 (0,0)) (by (with_reducible repeat (first|refine aC ?_ _|refine aK ?_|refine aG ?_ _));exact kP.out) k_ hk⟩));(case aO=>exact (by (with_reducible repeat (first|apply Kd.gG|apply Kd.gB|apply Kd.iO));exact Kd.lD fD.out (fun _ hk=>⟨hk.1.1,hk.1.2⟩)));(case aS=>exact (bG (by repeat (first|(with_reducible first|exact HB.out|apply ai|apply ag|apply ah|refine az ?_ fO.out|refine az ?_ yx.out)|exact HB.out))));(case aL=>have:=QN.out;omega);intro v139 X0 ho hb hg hat;rw [← QJ.out] at ho;have dM:=af.mk (qJ (g:=dA) (o:=.cells #[.slice dN bn.length dK,.string bD,.string bu,.slice (some yt) aV.length dJ] 25 (0,0)) (by (with_reducible repeat (first|refine aC ?_ _|refine aK ?_|refine aG ?_ _));exact bg.out) hg (Kd.ML fD.out bg.out (by decide)));have dP:=af.mk (qJ (g:=jQ) (o:=.cells #[.int .u8 ((aQ aV dW).f0),.int .u8 ((aQ aV dW).f1),.int .u8 ((aQ aV dW).f2),.int .u8 ((aQ aV dW).f3),.int .i64 ((aQ aV dW).f4)] 27 (0,0)) (by (with_reducible repeat (first|refine aC ?_ _|refine aK ?_|refine aG ?_ _));exact kP.out) hg (Kd.ML fD.out kP.out (by decide)));have eY:=af.mk (hb);have iD:=af.mk (ho);clear bg;clear kP;clear HB;clear fD;clear EF;have bg:=dM;have kP:=dP;have HB:=eY;have Rh:=iD;clear dM dP eY iD;clear ho hb hg hat))
                        go_roundg k2
                        case measure=>have:=lH.out;have:=EI.out;omega
                        case rel=>exact ⟨(Px),(wrap64 (dW+1)),(by first|rfl|(simp;done)|(simp [*];done)),H',⟨by have:=lH.out;have:=EI.out;omega⟩,⟨by (with_reducible repeat (first|apply Kd.gG|apply Kd.gB|apply Kd.iO));exact Kd.lD Rh.out (fun _ hk=>hk.1)⟩,⟨by (with_reducible repeat (first|refine aC ?_ _|refine aK ?_|refine aG ?_ _));exact bg.out⟩,⟨by repeat (first|(with_reducible first|exact HB.out|apply ai|apply ag|apply ah|refine az ?_ fO.out|refine az ?_ yx.out)|exact HB.out)⟩⟩
                      · rw [if_neg c37] at H
                        exact absurd H (by simp)
                    · rw [if_neg Vq] at H
                      exact absurd H (by simp)
                  · rw [if_neg c34] at H
                    exact absurd H (by simp)
                · rw [if_neg Pn] at H
                  have Qj:decide (dW < (aV.length:Int))=false:=decide_eq_false Pn
                  clear Pn
                  replace H:=Option.bind_eq_some_iff.mp H
                  obtain ⟨t141,RG,H⟩:=H
                  replace H:(some (t141,0))=some (r1,r2):=H
                  have YU:=af.mk RG
                  clear RG
                  simp only [Option.some.injEq,Prod.mk.injEq] at H
                  obtain ⟨rfl,rfl⟩:=H
                  obtain ⟨WM,Wv,VZ⟩:=Kd.zF fD.out
                  subst VZ
                  go_wp2_with (first|((with_reducible refine bY (f:=21) rfl ?_);refine eQ (some 50) rfl rfl Tryz.func21 (by kernel_rfl) rfl #[.slice WM wR.length Wv] rfl (by (try simp only [List.map_toArray,List.map_cons,List.map_nil]);first|done|rfl|(simp only [List.length_drop,List.length_take];rfl)) ?_;(with_reducible refine (jr.calls _ _ wR t141 _ ?fA ?lS YU.out).mono ?_);(case fA=>repeat (first|exact (Kd.wK fD.out).2.2|(with_reducible refine Kd.eP ?_ _)|(with_reducible refine Kd.eH ?_ _)|(with_reducible refine Kd.gp ?_)));(case lS=>exact (Kd.wK fD.out).2.1);rintro e XZ ⟨rfl,hb⟩;refine ⟨_,rfl,?_⟩;have dM:=af.mk (Kd.qN (by (with_reducible repeat (first|apply Kd.gG|apply Kd.gB|apply Kd.iO));exact fD.out) hb);have dP:=af.mk (bW (g:=dA) (o:=.cells #[.slice dN bn.length dK,.string bD,.string bu,.slice dQ aV.length dJ] 25 (0,0)) (by (with_reducible repeat (first|refine aC ?_ _|refine aK ?_|refine aG ?_ _));exact bg.out) hb);have eY:=af.mk (bf (by repeat (first|(with_reducible first|exact HB.out|apply ai|apply ag|apply ah|refine az ?_ fO.out)|exact HB.out)) hb);clear fD;clear bg;clear HB;have fD:=dM;have bg:=dP;have HB:=eY;clear dM dP eY;(try clear hb);(try clear hb2);(try clear hk);(try clear hi)))
                  go_ret2
                  exact ⟨by first|rfl|(simp [bC,bz] <;> rfl)|(simp [*,bC,bz] <;> rfl),by repeat (first|(with_reducible first|exact HB.out|apply ai|apply ag|apply ah|refine az ?_ fO.out)|exact HB.out)⟩
          · rw [if_neg c18] at H
            exact absurd H (by simp)
  · replace c3:=Bool.eq_false_iff.mpr c3
    subst c3
    have H1:(some ((⟨#[]⟩:ByteArray),2))=some (r1,r2):=by rw [if_neg (show ¬ (false=true) by decide)] at H;exact H
    clear H
    have H:=H1
    clear H1
    simp only [Option.some.injEq,Prod.mk.injEq] at H
    obtain ⟨rfl,rfl⟩:=H
    go_enter Tryz.func9,Tryz.ntmps9
    go_wp2_with (first|((with_reducible refine eu (N:=1) rfl ?_);refine iK ?hg (N:=1) ?hd (cs:=#[.slice dN bn.length dK,.string bD,.string bu,.slice dQ aV.length dJ]) (t:=25) ?hr ?_;(case hd=>rfl);(case hg=>rfl);(case hr=>first|(go_simp;done)|(go_simp;rfl));intro dA hg PE hbox hb;have dM:=af.mk (bf (by repeat (first|(with_reducible first|exact HB.out|apply ai|apply ag|apply ah)|exact HB.out)) hb);have dP:=af.mk (hbox);have eY:=af.mk ((by rw [hg];exact (bG (by repeat (first|(with_reducible first|exact HB.out|apply ai|apply ag|apply ah)|exact HB.out))):w.heap.size≤dA));have iD:=af.mk ((by rw [hg];exact (bG (by repeat (first|(with_reducible first|exact HB.out|apply ai|apply ag|apply ah)|exact HB.out))):w.heap.size≤dA));clear HB;have HB:=dM;have bg:=dP;have Rw:=eY;have fO:=iD;clear dM dP eY iD;clear hb hbox hg;have Uj:PE.cell? ⟨dA,0,none⟩=some (.slice dN bn.length dK):=(ak bg.out 0).trans rfl;have Ui:PE.cell? ⟨dA,1,none⟩=some (.string bD):=(ak bg.out 1).trans rfl;have Uh:PE.cell? ⟨dA,2,none⟩=some (.string bu):=(ak bg.out 2).trans rfl;have Ug:PE.cell? ⟨dA,3,none⟩=some (.slice dQ aV.length dJ):=(ak bg.out 3).trans rfl;have SB:=ax bg.out 0;have SA:=ax bg.out 1;have Sz:=ax bg.out 2;have Sv:=ax bg.out 3)|((with_reducible refine bY (f:=18) rfl ?_);refine eQ (some 10) rfl rfl Tryz.func18 (by kernel_rfl) rfl #[.agg #[.slice dN bn.length dK,.string bD,.string bu,.slice dQ aV.length dJ]] rfl (by (try simp only [List.map_toArray,List.map_cons,List.map_nil]);first|done|rfl|(simp only [List.length_drop,List.length_take];rfl)) ?_;(with_reducible refine (bV.calls k _ _ bn bD bu _ _ aV false _ ?fA ?lS ?mW ?mV ?rY A2.out).mono ?_);(case fA=>repeat (first|exact (Kd.dB nH.out HB.out)|(with_reducible refine Kd.eP ?_ _)|(with_reducible refine Kd.eH ?_ _)|(with_reducible refine Kd.gp ?_)));(case lS=>exact ru.out);(case mW=>repeat (first|exact (Kd.dB oH.out HB.out)|(with_reducible refine Kd.eP ?_ _)|(with_reducible refine Kd.eH ?_ _)|(with_reducible refine Kd.gp ?_)));(case mV=>exact rq.out);(case rY=>repeat (first|exact (Kd.dB uo.out HB.out)|(with_reducible refine Kd.eP ?_ _)|(with_reducible refine Kd.eH ?_ _)|(with_reducible refine Kd.gp ?_)));rintro e YZ ⟨rfl,hb⟩;refine ⟨_,rfl,?_⟩;have dM:=af.mk (bW (g:=dA) (o:=.cells #[.slice dN bn.length dK,.string bD,.string bu,.slice dQ aV.length dJ] 25 (0,0)) (by (with_reducible repeat (first|refine aC ?_ _|refine aK ?_|refine aG ?_ _));exact bg.out) hb);have dP:=af.mk (bf (by repeat (first|(with_reducible first|exact HB.out|apply ai|apply ag|apply ah|refine az ?_ fO.out)|exact HB.out)) hb);clear bg;clear HB;have bg:=dM;have HB:=dP;clear dM dP;(try clear hb);(try clear hb2);(try clear hk);(try clear hi)))
    go_ret2
    exact ⟨by first|rfl|(simp [bC,bz] <;> rfl)|(simp [*,bC,bz] <;> rfl),by repeat (first|(with_reducible first|exact HB.out|apply ai|apply ag|apply ah|refine az ?_ fO.out)|exact HB.out)⟩
def pI.f (a0:ByteArray):Option (Bool):=if (a0.size:Int)≤30 then ((fG.f a0 (⟨#[97,98,99,100,101,102,103,104,105,106,107,108,109,110,111,112,113,114,115,116,117,118,119,120,121,122,48,49,50,51,52,53,54,55,56,57,45]⟩:ByteArray)).bind fun t142=>(some (t142.toList == ([]:List UInt8)))) else (some false)
set_option maxHeartbeats 8000000 in
set_option maxRecDepth 100000 in
theorem pI.calls (a0:ByteArray) (r:Bool) (w:World) (h:pI.f a0=some r) :
    Calls Tryz.prog 51 #[.string a0] w fun e w'=>e=.returned (.bool r)∧Below w.heap.size w w':=by
  have HB:=af.mk (Below.refl w.heap.size w)
  have H:(if (a0.size:Int)≤30 then ((fG.f a0 (⟨#[97,98,99,100,101,102,103,104,105,106,107,108,109,110,111,112,113,114,115,116,117,118,119,120,121,122,48,49,50,51,52,53,54,55,56,57,45]⟩:ByteArray)).bind fun t142=>(some (t142.toList == ([]:List UInt8)))) else (some false))=some r:=h
  clear h
  by_cases c2:(a0.size:Int)≤30
  · rw [if_pos c2] at H
    have rJ:decide ((a0.size:Int)≤30)=true:=decide_eq_true c2
    have wE:decide (a0.size≤30)=true:=decide_eq_true (by omega)
    clear c2
    replace H:=Option.bind_eq_some_iff.mp H
    obtain ⟨t142,BI,H⟩:=H
    replace H:(some (t142.toList == ([]:List UInt8)))=some r:=H
    have A3:=af.mk BI
    clear BI
    obtain rfl:=Option.some.inj H
    go_enter Tryz.func51,Tryz.ntmps51
    go_wp2_with (first|(go_at_call 54;(with_reducible refine (fG.calls a0 (⟨#[97,98,99,100,101,102,103,104,105,106,107,108,109,110,111,112,113,114,115,116,117,118,119,120,121,122,48,49,50,51,52,53,54,55,56,57,45]⟩:ByteArray) t142 _ A3.out).mono ?_);rintro e w4 ⟨rfl,hb⟩;have dM:=af.mk (bf (by repeat (first|(with_reducible first|exact HB.out|apply ai|apply ag|apply ah)|exact HB.out)) hb);clear HB;have HB:=dM;clear dM;(try clear hb);(try clear hb2);(try clear hk);(try clear hi)))
    go_ret
    exact ⟨by first|rfl|(simp [bC,bz] <;> rfl)|(simp [*,bC,bz] <;> rfl),by repeat (first|(with_reducible first|exact HB.out|apply ai|apply ag|apply ah)|exact HB.out)⟩
  · rw [if_neg c2] at H
    have rJ:decide ((a0.size:Int)≤30)=false:=decide_eq_false c2
    have wE:decide (a0.size≤30)=false:=decide_eq_false (by omega)
    clear c2
    obtain rfl:=Option.some.inj H
    go_enter Tryz.func51,Tryz.ntmps51
    go_wp2
    go_ret
    exact ⟨by first|rfl|(simp [bC,bz] <;> rfl)|(simp [*,bC,bz] <;> rfl),by repeat (first|(with_reducible first|exact HB.out|apply ai|apply ag|apply ah)|exact HB.out)⟩
end Go.Proofs.YtkclndkbccbhaaaGreatDoor.P
end
