/- Parts of the proof of CodePrints: what the functions that it reaches compute, and plain facts about that. -/
import Derived.Test.YtkclndkbccbhaaaGreatDoorUac
import Derived.Test.YtkclndkbccbhaaaGreatDoorUad
import Derived.Test.YtkclndkbccbhaaaGreatDoorUam
import Derived.Test.YtkclndkbccbhaaaGreatDoorUar
set_option linter.unusedVariables false
set_option linter.unusedSimpArgs false
section
namespace Go.Proofs.YtkclndkbccbhaaaGreatDoor.P
open Go.RowKit Go.Proofs.ag.bJ Go.Proofs.ag.eX Go.Proofs.ag.gp
attribute [local go_sem] kM kK lT lS jE jD kL kJ
mutual
def aH.l0:Nat→List (List ByteArray)→Int→List ByteArray→ByteArray→ByteArray→List (jZ)→Option (ByteArray × Int)
 | 0,_,_,_,_,_,_=>none
 | k+1,x4,x5,wH,xU,xR,qA=>if x5 < (wH.length:Int) then (if 0≤x5 then (if x4.length < 5864062014805 then (aH.l0 k (x4++[(([(⟨#[116,121,112,101]⟩:ByteArray),gI ByteArray.empty wH x5]:List ByteArray))]) (wrap64 (x5+1)) wH xU xR qA) else (none)) else (none)) else ((iq.f xU).bind fun vM=>((iq.f xR).bind fun rP=>((some (([(([(⟨#[108,111,99,97,108,115]⟩:ByteArray),vM]:List ByteArray)),(([(⟨#[103,108,111,98,97,108,115]⟩:ByteArray),rP]:List ByteArray))]:List (List ByteArray)):List (List ByteArray))).bind fun tV=>(if x4.length+tV.length < 5864062014805 then (aH.l1 k (x4++tV) 0 wH xU xR qA) else (none)))))
def aH.l1:Nat→List (List ByteArray)→Int→List ByteArray→ByteArray→ByteArray→List (jZ)→Option (ByteArray × Int)
 | 0,_,_,_,_,_,_=>none
 | k+1,x4,x6,wH,xU,xR,qA=>if x6 < (qA.length:Int) then (if 0≤x6 then ((aT.f k ((aZ qA x6).f0) ((aZ qA x6).f1) ((aZ qA x6).f2) ((aZ qA x6).f3) ((aZ qA x6).f4)).bind fun Ic=>(if x4.length < 5864062014805 then (aH.l1 k (x4++[Ic]) (wrap64 (x6+1)) wH xU xR qA) else (none))) else (none)) else ((bg.f k x4).bind fun Rz=>(some (Rz,0)))
end
def aH.f (k:Nat) (bD:List ByteArray) (aY:ByteArray) (aX:ByteArray) (aW:List (jZ)):Option (ByteArray × Int):=(bf.f k bD aY aX aW).bind fun MS=>(if MS=true then (aH.l0 k ([]:List (List ByteArray)) 0 bD aY aX aW) else (some ((⟨#[]⟩:ByteArray),2)))
theorem aH.gY:∀ k,(∀ y0 y1 y2 y3 y4 y5,dH (aH.l0 k y0 y1 y2 y3 y4 y5) (aH.l0 (k+1) y0 y1 y2 y3 y4 y5))∧(∀ y0 y1 y2 y3 y4 y5,dH (aH.l1 k y0 y1 y2 y3 y4 y5) (aH.l1 (k+1) y0 y1 y2 y3 y4 y5))
 | 0=>⟨fun _ _ _ _ _ _ r h=>by simp [aH.l0] at h,fun _ _ _ _ _ _ r h=>by simp [aH.l1] at h⟩
 | k+1=>by
  obtain ⟨jK,ih1⟩:=aH.gY k
  refine ⟨?_,?_⟩
  ·
   intro y0 y1 y2 y3 y4 y5
   unfold aH.l0
   repeat' with_reducible first|apply jK|apply ih1|apply bg.mono|apply bf.mono|apply aT.mono|exact dH.refl _|exact dH.none _|refine dH.ite ?_ ?_|refine dH.bind ?_ (fun _=>?_)
  ·
   intro y0 y1 y2 y3 y4 y5
   unfold aH.l1
   repeat' with_reducible first|apply jK|apply ih1|apply bg.mono|apply bf.mono|apply aT.mono|exact dH.refl _|exact dH.none _|refine dH.ite ?_ ?_|refine dH.bind ?_ (fun _=>?_)
theorem aH.mono:∀ a0 a1 a2 a3 k,dH (aH.f k a0 a1 a2 a3) (aH.f (k+1) a0 a1 a2 a3):=by
 intro a0 a1 a2 a3 k
 obtain ⟨jK,ih1⟩:=aH.gY k
 unfold aH.f
 repeat' with_reducible first|apply jK|apply ih1|apply bg.mono|apply bf.mono|apply aT.mono|exact dH.refl _|exact dH.none _|refine dH.ite ?_ ?_|refine dH.bind ?_ (fun _=>?_)
def aH.T8:Bool × List (List Nat × List Nat):=(true,[([],[]),([],[]),([1],[1]),([2],[2]),([3],[3]),([],[]),([5],[5]),([6,3],[6]),([7],[7]),([4,8],[4,8]),([0,9,7],[0,9]),([10,10,0,1,2,3,4,5,6,7,8,9,10],[0,10])])
def aH.B8:List Nat:=[0,0,2,6,14,0,32,110,238,510,1023,2047]
theorem aH.aeV:pg .any (opsOf Tryz.f10 8)=aH.T8:=by kernel_rfl
theorem aH.Zi:oD aH.T8.2 aH.B8=true:=by kernel_rfl
set_option maxHeartbeats 8000000 in
set_option maxRecDepth 100000 in
theorem aH.calls (k:Nat) (dO:Option Addr) (dK:Nat) (bD:List ByteArray) (aY:ByteArray) (aX:ByteArray) (dV:Option Addr) (dJ:Nat) (aW:List (jZ)) (r1:ByteArray) (r2:Int) (w:World) (qG:Kd.C Kd.string w dO bD.length bD) (qJ:bD.length≤dK) (qF:Kd.C k27 w dV aW.length aW) (qI:aW.length≤dJ) (jM:Kd.C tu w tC lJ.length lJ) (h:aH.f k bD aY aX aW=some (r1,r2)) :
  Calls Tryz.prog 10 #[.agg #[.slice dO bD.length dK,.string aY,.string aX,.slice dV aW.length dJ]] w fun e w'=>e=.returned (.tuple #[.string r1,.int .i64 r2])∧Below w.heap.size w w':=by
 have Nw:=Tryz.underlying25
 have BR:=Tryz.underlying27
 have kZ:=ae.mk qG
 have qj:=ae.mk qJ
 clear qG qJ
 have ny:=ae.mk qF
 have qi:=ae.mk qI
 clear qF qI
 have ry:=ae.mk jM
 clear jM
 have HB:=ae.mk (Below.refl w.heap.size w)
 have H:((bf.f k bD aY aX aW).bind fun MS=>(if MS=true then (aH.l0 k ([]:List (List ByteArray)) 0 bD aY aX aW) else (some ((⟨#[]⟩:ByteArray),2))))=some (r1,r2):=h
 clear h
 replace H:=Option.bind_eq_some_iff.mp H
 obtain ⟨MS,Ce,H⟩:=H
 replace H:(if MS=true then (aH.l0 k ([]:List (List ByteArray)) 0 bD aY aX aW) else (some ((⟨#[]⟩:ByteArray),2)))=some (r1,r2):=H
 have A2:=ae.mk Ce
 clear Ce
 by_cases c3:MS=true
 ·
  subst c3
  have H1:(aH.l0 k ([]:List (List ByteArray)) 0 bD aY aX aW)=some (r1,r2):=by rw [if_pos rfl] at H;exact H
  clear H
  have H:=H1
  clear H1
  have H':=ae.mk H
  clear H
  go_enter Tryz.func10,Tryz.ntmps10
  go_wp2_with (first|((with_reducible refine eQ (N:=1) rfl ?_);refine fF ?hg (N:=1) ?hd (cs:=#[.slice dO bD.length dK,.string aY,.string aX,.slice dV aW.length dJ]) (t:=25) ?hr ?_;(case hd=>rfl);(case hg=>rfl);(case hr=>first|(go_simp;done)|(go_simp;rfl));intro fQ hg w4 hbox hb;have di:=ae.mk (aQ (by repeat (first|(with_reducible first|exact HB.out|apply aj|apply af|apply ai)|exact HB.out)) hb);have dm:=ae.mk (hbox);have dE:=ae.mk ((by rw [hg];exact (bn (by repeat (first|(with_reducible first|exact HB.out|apply aj|apply af|apply ai)|exact HB.out))):w.heap.size≤fQ));have gq:=dE;clear HB;have HB:=di;have bY:=dm;have aad:=dE;have ku:=gq;clear di dm dE gq;clear hb hbox hg;have Bf:w4.cell? ⟨fQ,0,none⟩=some (.slice dO bD.length dK):=(ah bY.out 0).trans rfl;have Be:w4.cell? ⟨fQ,1,none⟩=some (.string aY):=(ah bY.out 1).trans rfl;have Bd:w4.cell? ⟨fQ,2,none⟩=some (.string aX):=(ah bY.out 2).trans rfl;have Bc:w4.cell? ⟨fQ,3,none⟩=some (.slice dV aW.length dJ):=(ah bY.out 3).trans rfl;have Ba:=ax bY.out 0;have AZ:=ax bY.out 1;have AY:=ax bY.out 2;have AX:=ax bY.out 3)|((with_reducible refine bU (f:=22) rfl ?_);refine gy (some 8) rfl rfl Tryz.func22 (by kernel_rfl) rfl #[.agg #[.slice dO bD.length dK,.string aY,.string aX,.slice dV aW.length dJ]] rfl (by (try simp only [List.map_toArray,List.map_cons,List.map_nil]);first|done|rfl|(simp only [List.length_drop,List.length_take];rfl)) ?_;(with_reducible refine (bf.calls k _ _ bD aY aX _ _ aW true _ ?fD ?jO ?lF ?lD ?oq A2.out).mono ?_);(case fD=>repeat (first|exact (Kd.dF kZ.out HB.out)|(with_reducible refine Kd.ed ?_ _)|(with_reducible refine Kd.dZ ?_ _)|(with_reducible refine Kd.fO ?_)));(case jO=>exact qj.out);(case lF=>repeat (first|exact (Kd.dF ny.out HB.out)|(with_reducible refine Kd.ed ?_ _)|(with_reducible refine Kd.dZ ?_ _)|(with_reducible refine Kd.fO ?_)));(case lD=>exact qi.out);(case oq=>repeat (first|exact (Kd.dF ry.out HB.out)|(with_reducible refine Kd.ed ?_ _)|(with_reducible refine Kd.dZ ?_ _)|(with_reducible refine Kd.fO ?_)));rintro e w6 ⟨rfl,hb⟩;refine ⟨_,rfl,?_⟩;have di:=ae.mk (aV (g:=fQ) (o:=.cells #[.slice dO bD.length dK,.string aY,.string aX,.slice dV aW.length dJ] 25 (0,0)) (by (with_reducible repeat (first|refine au ?_ _|refine ay ?_|refine ak ?_ _));exact bY.out) hb);have dm:=ae.mk (aQ (by repeat (first|(with_reducible first|exact HB.out|apply aj|apply af|apply ai|refine az ?_ ku.out)|exact HB.out)) hb);clear bY;clear HB;have bY:=di;have HB:=dm;clear di dm;(try clear hb);(try clear hb2);(try clear hk);(try clear hi)))
  go_loopg [4,5] k (fun kq v4 v5 w'=>∃ (fK:List (List ByteArray)) (lh:Int),v5=.int .i64 lh∧ae (aH.l0 kq fK lh bD aY aX aW=some (r1,r2))∧ae (kq≤k)∧ae (Kd.N (Kd.slice 9 Kd.string) 22 w' w.heap.size (fun k_=>k_ ≠ fQ) v4 fK)∧ae (w'.heap[fQ]? = some (.cells #[(.slice dO bD.length dK),.string aY,.string aX,(.slice dV aW.length dJ)] 25 (0,0)))∧ae (Below w.heap.size w w'))
  case atStart=>exact ⟨(([]:List (List ByteArray))),(0),(by first|rfl|(simp;done)|(simp [*];done)),H',⟨Nat.le_refl _⟩,⟨by first|exact Kd.Dv _ _ _ _ _|exact Kd.DD _ _ _ _ _|exact Kd.Du _ _ _ _ _|exact Kd.Dw _ _ _ _ _|exact Kd.kP _ _ _ _ _⟩,⟨by (with_reducible repeat (first|refine au ?_ _|refine ay ?_|refine ak ?_ _));exact bY.out⟩,⟨by repeat (first|(with_reducible first|exact HB.out|apply aj|apply af|apply ai|refine az ?_ ku.out)|exact HB.out)⟩⟩
  case round =>
   clear H'
   obtain ⟨fK,lh,rfl,HA,nZ,gm,bY,HB⟩:=hrel
   cases gk with
   | zero=>exact absurd HA.out (by simp [aH.l0])
   | succ k1 =>
    have H:=HA.out
    clear HA
    simp only [aH.l0] at H
    by_cases c7:lh < (bD.length:Int)
    ·
     rw [if_pos c7] at H
     have nX:decide (lh < (bD.length:Int))=true:=decide_eq_true c7
     clear c7
     by_cases c8:0≤lh
     ·
      rw [if_pos c8] at H
      have tK:decide (0≤lh)=true:=decide_eq_true c8
      clear c8
      obtain ⟨Rk,Gy⟩:∃ y_:List ByteArray,y_=(([(⟨#[116,121,112,101]⟩:ByteArray),gI ByteArray.empty bD lh]:List ByteArray)):=⟨_,rfl⟩
      replace H:(if fK.length < 5864062014805 then (aH.l0 k1 (fK++[Rk]) (wrap64 (lh+1)) bD aY aX aW) else (none))=some (r1,r2):=by first|(rw [Gy];with_reducible exact H)|(have nR:=(Option.bind_some _ _).symm.trans H;rw [Gy];with_reducible exact nR)|(have nR:=(Option.bind_some _ _).symm.trans H;with_reducible exact nR)|with_reducible exact H|(rw [Gy];exact H)|exact H
      have We:=ae.mk Gy
      clear Gy
      by_cases c9:fK.length < 5864062014805
      ·
       rw [if_pos c9] at H
       have af0:=ae.mk c9
       clear c9
       obtain ⟨Yq,Gx⟩:∃ y_:List (List ByteArray),y_=(fK++[Rk]):=⟨_,rfl⟩
       replace H:(aH.l0 k1 Yq (wrap64 (lh+1)) bD aY aX aW)=some (r1,r2):=by first|(rw [Gx];with_reducible exact H)|(have nR:=(Option.bind_some _ _).symm.trans H;rw [Gx];with_reducible exact nR)|(have nR:=(Option.bind_some _ _).symm.trans H;with_reducible exact nR)|with_reducible exact H|(rw [Gx];exact H)|exact H
       have Zv:=ae.mk Gx
       clear Gx
       have H':=ae.mk H
       clear H
       have Lr:wr.cell? ⟨fQ,0,none⟩=some (.slice dO bD.length dK):=(ah bY.out 0).trans rfl
       have Lp:wr.cell? ⟨fQ,1,none⟩=some (.string aY):=(ah bY.out 1).trans rfl
       have Lm:wr.cell? ⟨fQ,2,none⟩=some (.string aX):=(ah bY.out 2).trans rfl
       have Ll:wr.cell? ⟨fQ,3,none⟩=some (.slice dV aW.length dJ):=(ah bY.out 3).trans rfl
       have KF:=ax bY.out 0
       have KE:=ax bY.out 1
       have KD:=ax bY.out 2
       have KC:=ax bY.out 3
       have Xb:0≤(lh:Int):=of_decide_eq_true (by first|(with_reducible assumption)|assumption)
       have WS:lh < (bD.length:Int):=of_decide_eq_true (by first|(with_reducible assumption)|assumption)
       obtain ⟨QK,e254,Eg⟩:=Kd.gB kZ.out lh Xb WS
       cases e254
       replace Eg:=(HB.out.cell (World.block_lt_of_cell? w _ Eg)).trans Eg
       replace Xb:=eq_true Xb
       replace WS:=eq_true WS
       go_wp2_with (first|((with_reducible refine eQ (N:=23) rfl ?_);refine Kd.QT Kd.string _ 9 ?hg (N:=23) ?hd (xs:=([(⟨#[116,121,112,101]⟩:ByteArray),gI ByteArray.empty bD lh]:List ByteArray)) (inner:=[.string (⟨#[116,121,112,101]⟩:ByteArray),.string (gI ByteArray.empty bD lh)]) (ok:=fun _=>True) (nY:=fun _=>True) ?hr ?hp (fun _ hk=>hk) trivial (Below.refl _ _) (Nat.le_refl _) (by simp) ?_;(case hd=>rfl);(case hg=>rfl);(case hr=>first|(go_simp;done)|(go_simp;rfl));(case hp=>exact (iK.one (show Kd.M Kd.string _ _ _ (⟨#[116,121,112,101]⟩:ByteArray) [.string (⟨#[116,121,112,101]⟩:ByteArray)] from rfl) (iK.one (show Kd.M Kd.string _ _ _ (gI ByteArray.empty bD lh) [.string (gI ByteArray.empty bD lh)] from rfl) (iK.none _ _))));intro ah8 w11 Nz hb xk kN;clear xk kN;(first|rw [← We.out] at Nz|(simp only [Int.reduceToNat] at Nz;rw [← We.out] at Nz));have di:=ae.mk (Kd.jS (by (with_reducible repeat (first|apply Kd.gV|apply Kd.gU|apply Kd.iG));exact gm.out) (Kd.jX Nz) hb);have dm:=ae.mk (Kd.iM Nz (bn (by repeat (first|(with_reducible first|exact HB.out|apply aj|apply af|apply ai|refine az ?_ ku.out)|exact HB.out))));have dE:=ae.mk (aV (g:=fQ) (o:=.cells #[.slice (some QK) bD.length dK,.string aY,.string aX,.slice dV aW.length dJ] 25 (0,0)) (by (with_reducible repeat (first|refine au ?_ _|refine ay ?_|refine ak ?_ _));exact bY.out) hb);have gq:=ae.mk (aQ (by repeat (first|(with_reducible first|exact HB.out|apply aj|apply af|apply ai|refine az ?_ ku.out)|exact HB.out)) hb);clear gm;clear bY;clear HB;have gm:=di;have MB:=dm;have bY:=dE;have HB:=gq;clear di dm dE gq;clear hb Nz;obtain ⟨age,afU,afB⟩:=Kd.iW MB.out;subst afB)|((with_reducible refine kC (b:=.append) (xs:=#[.tmp 17,.tmp 24]) rfl ?_);at_builtin;refine Kd.yE (Kd.slice 9 Kd.string) (w0:=w) w.heap.size rfl (.tmp 17) (.tmp 24) 43 22 (.slice none 0 0) 24 rfl Tryz.underlying43 info22 rfl (by decide) (by omega) u4 fK Rk [.slice age Rk.length afU] (fun k_=>k_ ≠ fQ) (fun k_=>((fun k_=>k_ ≠ fQ)) k_∧some k_ ≠ (u4:Value).ownBlock) rfl rfl ?aP (fun _ hk=>hk) ?aF ?aO ?aB ?aS ?aL ?_;(case aP=>exact (Kd.mW (Kd.iO (Kd.fJ (ok':=(fun k_=>((fun k_=>k_ ≠ fQ)) k_∧some k_ ≠ (u4:Value).ownBlock)) (Kd.iR (Kd.jR (MB.out) (Kd.mf gm.out) (by decide)) bY.out (by decide)) (fun k_ hk=>⟨hk.2,hk.1.2⟩))).2.1 (Kd.V8 (Kd.fJ (ok':=(fun k_=>((fun k_=>k_ ≠ fQ)) k_∧some k_ ≠ (u4:Value).ownBlock)) (Kd.iR (Kd.jR (MB.out) (Kd.mf gm.out) (by decide)) bY.out (by decide)) (fun k_ hk=>⟨hk.2,hk.1.2⟩)))));(case aB=>exact (by repeat (first|(with_reducible first|exact HB.out|apply aj|apply af|apply ai|refine az ?_ ku.out)|exact HB.out)));(case aF=>exact (fun k_ hk=>Kd.uO (g:=fQ) (o:=.cells #[.slice (some QK) bD.length dK,.string aY,.string aX,.slice dV aW.length dJ] 25 (0,0)) (by (with_reducible repeat (first|refine au ?_ _|refine ay ?_|refine ak ?_ _));exact bY.out) k_ hk));(case aO=>exact (by (with_reducible repeat (first|apply Kd.gV|apply Kd.gU|apply Kd.iG));exact Kd.lq gm.out (fun _ hk=>hk.1)));(case aS=>exact (bn (by repeat (first|(with_reducible first|exact HB.out|apply aj|apply af|apply ai|refine az ?_ ku.out)|exact HB.out))));(case aL=>have:=af0.out;omega);intro ah7 w13 ho hb hg hat;rw [← Zv.out] at ho;have di:=ae.mk (oQ (g:=fQ) (o:=.cells #[.slice (some QK) bD.length dK,.string aY,.string aX,.slice dV aW.length dJ] 25 (0,0)) (by (with_reducible repeat (first|refine au ?_ _|refine ay ?_|refine ak ?_ _));exact bY.out) hg (Kd.I8 gm.out bY.out (by decide)));have dm:=ae.mk (hb);have dE:=ae.mk (ho);clear bY;clear HB;clear gm;clear MB;have bY:=di;have HB:=dm;have ZT:=dE;clear di dm dE;clear ho hb hg hat))
       go_roundg k1
       case measure=>have:=nZ.out;omega
       case rel=>exact ⟨(Yq),(wrap64 (lh+1)),(by first|rfl|(simp;done)|(simp [*];done)),H',⟨by have:=nZ.out;omega⟩,⟨by (with_reducible repeat (first|apply Kd.gV|apply Kd.gU|apply Kd.iG));exact ZT.out⟩,⟨by (with_reducible repeat (first|refine au ?_ _|refine ay ?_|refine ak ?_ _));exact bY.out⟩,⟨by repeat (first|(with_reducible first|exact HB.out|apply aj|apply af|apply ai|refine az ?_ ku.out)|exact HB.out)⟩⟩
      ·
       rw [if_neg c9] at H
       exact absurd H (by simp)
     ·
      rw [if_neg c8] at H
      exact absurd H (by simp)
    ·
     rw [if_neg c7] at H
     have nX:decide (lh < (bD.length:Int))=false:=decide_eq_false c7
     clear c7
     replace H:=Option.bind_eq_some_iff.mp H
     obtain ⟨vM,Rf,H⟩:=H
     replace H:((iq.f aX).bind fun rP=>((some (([(([(⟨#[108,111,99,97,108,115]⟩:ByteArray),vM]:List ByteArray)),(([(⟨#[103,108,111,98,97,108,115]⟩:ByteArray),rP]:List ByteArray))]:List (List ByteArray)):List (List ByteArray))).bind fun tV=>(if fK.length+tV.length < 5864062014805 then (aH.l1 k1 (fK++tV) 0 bD aY aX aW) else (none))))=some (r1,r2):=H
     have A15:=ae.mk Rf
     clear Rf
     obtain ⟨BL,Gw⟩:∃ y_:List ByteArray,y_=(([(⟨#[108,111,99,97,108,115]⟩:ByteArray),vM]:List ByteArray)):=⟨_,rfl⟩
     replace H:((iq.f aX).bind fun rP=>((some (([BL,(([(⟨#[103,108,111,98,97,108,115]⟩:ByteArray),rP]:List ByteArray))]:List (List ByteArray)):List (List ByteArray))).bind fun tV=>(if fK.length+tV.length < 5864062014805 then (aH.l1 k1 (fK++tV) 0 bD aY aX aW) else (none))))=some (r1,r2):=by first|(rw [Gw];with_reducible exact H)|(have nR:=(Option.bind_some _ _).symm.trans H;rw [Gw];with_reducible exact nR)|(have nR:=(Option.bind_some _ _).symm.trans H;with_reducible exact nR)|with_reducible exact H|(rw [Gw];exact H)|exact H
     have Dy:=ae.mk Gw
     clear Gw
     replace H:=Option.bind_eq_some_iff.mp H
     obtain ⟨rP,BJ,H⟩:=H
     replace H:((some (([BL,(([(⟨#[103,108,111,98,97,108,115]⟩:ByteArray),rP]:List ByteArray))]:List (List ByteArray)):List (List ByteArray))).bind fun tV=>(if fK.length+tV.length < 5864062014805 then (aH.l1 k1 (fK++tV) 0 bD aY aX aW) else (none)))=some (r1,r2):=H
     have Q9:=ae.mk BJ
     clear BJ
     obtain ⟨FB,Gv⟩:∃ y_:List ByteArray,y_=(([(⟨#[103,108,111,98,97,108,115]⟩:ByteArray),rP]:List ByteArray)):=⟨_,rfl⟩
     replace H:((some (([BL,FB]:List (List ByteArray)):List (List ByteArray))).bind fun tV=>(if fK.length+tV.length < 5864062014805 then (aH.l1 k1 (fK++tV) 0 bD aY aX aW) else (none)))=some (r1,r2):=by first|(rw [Gv];with_reducible exact H)|(have nR:=(Option.bind_some _ _).symm.trans H;rw [Gv];with_reducible exact nR)|(have nR:=(Option.bind_some _ _).symm.trans H;with_reducible exact nR)|with_reducible exact H|(rw [Gv];exact H)|exact H
     have Dx:=ae.mk Gv
     clear Gv
     obtain ⟨tV,Gu⟩:∃ y_:List (List ByteArray),y_=(([BL,FB]:List (List ByteArray))):=⟨_,rfl⟩
     replace H:(if fK.length+tV.length < 5864062014805 then (aH.l1 k1 (fK++tV) 0 bD aY aX aW) else (none))=some (r1,r2):=by first|(rw [Gu];with_reducible exact H)|(have nR:=(Option.bind_some _ _).symm.trans H;rw [Gu];with_reducible exact nR)|(have nR:=(Option.bind_some _ _).symm.trans H;with_reducible exact nR)|with_reducible exact H|(rw [Gu];exact H)|exact H
     have V9:=ae.mk Gu
     clear Gu
     by_cases c17:fK.length+tV.length < 5864062014805
     ·
      rw [if_pos c17] at H
      have ZJ:=ae.mk c17
      clear c17
      obtain ⟨Yp,Gt⟩:∃ y_:List (List ByteArray),y_=(fK++tV):=⟨_,rfl⟩
      replace H:(aH.l1 k1 Yp 0 bD aY aX aW)=some (r1,r2):=by first|(rw [Gt];with_reducible exact H)|(have nR:=(Option.bind_some _ _).symm.trans H;rw [Gt];with_reducible exact nR)|(have nR:=(Option.bind_some _ _).symm.trans H;with_reducible exact nR)|with_reducible exact H|(rw [Gt];exact H)|exact H
      have Zu:=ae.mk Gt
      clear Gt
      have H':=ae.mk H
      clear H
      have UY:wr.cell? ⟨fQ,0,none⟩=some (.slice dO bD.length dK):=(ah bY.out 0).trans rfl
      have UX:wr.cell? ⟨fQ,1,none⟩=some (.string aY):=(ah bY.out 1).trans rfl
      have UW:wr.cell? ⟨fQ,2,none⟩=some (.string aX):=(ah bY.out 2).trans rfl
      have UU:wr.cell? ⟨fQ,3,none⟩=some (.slice dV aW.length dJ):=(ah bY.out 3).trans rfl
      have TW:=ax bY.out 0
      have TV:=ax bY.out 1
      have TU:=ax bY.out 2
      have TT:=ax bY.out 3
      obtain ⟨qZ,qV,XQ⟩:=Kd.xe gm.out
      subst XQ
      try go_wp2
      have di:=ae.mk (Kd.iG gm.out)
      have dm:=ae.mk (ay bY.out)
      have dE:=ae.mk (ai HB.out)
      clear gm
      clear bY
      clear HB
      have gm:=di
      have bY:=dm
      have HB:=dE
      clear di dm dE
      refine nM (n:=12) (S:=fun w'=>w'.cell? ⟨fQ,0,none⟩=some (.slice dO bD.length dK)∧w'.cell? ⟨fQ,1,none⟩=some (.string aY)∧w'.cell? ⟨fQ,2,none⟩=some (.string aX)∧w'.cell? ⟨fQ,3,none⟩=some (.slice dV aW.length dJ)) (ds:=[]) #[false,false,false,false,false,false,false,false,false,false,false,false] (by kernel_rfl) rfl rfl ⟨(ah bY.out 0).trans rfl,(ah bY.out 1).trans rfl,(ah bY.out 2).trans rfl,(ah bY.out 3).trans rfl⟩ (fun hHeld=>?_);refine je aH.aeV aH.Zi (fun dD lK=>?_)
      generalize wr.drew=WG at gm bY HB hHeld ⊢
      refine bu (i:=0) (N:=some 26) (v:=?_) (a':=?_) #[true,false,false,false,false,false,false,false,false,false,false,false] rfl rfl (aN dD.out (by kernel_rfl)) (fun _ _ _ h=>h) (Or.inl ⟨by rfl,?_⟩) ?_ ?_
      rotate_left
      ·
       intro w'
       go_simp
       with_reducible rfl
      rotate_left
      ·
       simp only [Act.put,List.setIfInBounds_toArray,List.set_cons_zero,List.set_cons_succ,aI,aJ]
       rfl
      refine bu (i:=1) (N:=some 27) (v:=?_) (a':=?_) #[true,true,false,false,false,false,false,false,false,false,false,false] rfl rfl (aN dD.out (by kernel_rfl)) (fun _ _ _ h=>h) (Or.inl ⟨by rfl,?_⟩) ?_ ?_
      rotate_left
      ·
       intro w'
       go_simp
       with_reducible rfl
      rotate_left
      ·
       simp only [Act.put,List.setIfInBounds_toArray,List.set_cons_zero,List.set_cons_succ,aI,aJ]
       rfl
      refine bu (i:=5) (N:=some 31) (v:=?_) (a':=?_) #[true,true,false,false,false,true,false,false,false,false,false,false] rfl rfl (aN dD.out (by kernel_rfl)) (fun _ _ _ h=>h) (Or.inl ⟨by rfl,?_⟩) ?_ ?_
      rotate_left
      ·
       intro w'
       go_simp
       with_reducible rfl
      rotate_left
      ·
       simp only [Act.put,List.setIfInBounds_toArray,List.set_cons_zero,List.set_cons_succ,aI,aJ]
       rfl
      refine gQ (i:=2) (N:=some 28) (v:=?_) (a':=?_) #[true,true,true,false,false,true,false,false,false,false,false,false] rfl rfl (dw dD.out lK.out (by kernel_rfl)) (fun _ _ _ h=>h) (Or.inl ⟨by rfl,?_⟩) hHeld ?_ ?_
      rotate_left
      ·
       rintro w' ⟨s0,s1,s2,s3⟩
       go_simp
       with_reducible rfl
      rotate_left
      ·
       simp only [Act.put,List.setIfInBounds_toArray,List.set_cons_zero,List.set_cons_succ,aI,aJ]
       rfl
      refine gQ (i:=6) (N:=some 32) (v:=?_) (a':=?_) #[true,true,true,false,false,true,true,false,false,false,false,false] rfl rfl (dw dD.out lK.out (by kernel_rfl)) (fun _ _ _ h=>h) (Or.inl ⟨by rfl,?_⟩) hHeld ?_ ?_
      rotate_left
      ·
       rintro w' ⟨s0,s1,s2,s3⟩
       go_simp
       with_reducible rfl
      rotate_left
      ·
       simp only [Act.put,List.setIfInBounds_toArray,List.set_cons_zero,List.set_cons_succ,aI,aJ]
       rfl
      refine mD (i:=3) (N:=some 29) #[true,true,true,true,false,true,true,false,false,false,false,false] rfl rfl (iD dD.out (by kernel_rfl)) (by decide) (fun K hK=>?_)
      refine mG Tryz.func23 (by kernel_rfl) rfl #[.string aY] (by rfl) rfl rfl (by (try simp only [List.map_toArray,List.map_cons,List.map_nil]);first|done|rfl|(simp only [List.length_drop,List.length_take];rfl)) ?_
      with_reducible refine (iq.calls aY vM _ A15.out).mono ?_
      rintro e w' ⟨rfl,⟨nd,rfl⟩⟩
      refine ⟨_,rfl,?_⟩
      refine hK.out _ _ ⟨(ah bY.out 0).trans rfl,(ah bY.out 1).trans rfl,(ah bY.out 2).trans rfl,(ah bY.out 3).trans rfl⟩ (fun hHeld=>?_)
      clear hK K
      refine gX (a':=?_) ?_ ?_
      rotate_left
      ·
       show Act.put _ (some 29) _=_
       simp only [Act.put,List.setIfInBounds_toArray,List.set_cons_zero,List.set_cons_succ,aI,aJ]
       rfl
      refine Gq (σ:=Value × Value) 3 #[true,true,true,true,true,true,true,true,true,false,false,false] (fun s_=>[(30,s_.1),(33,.string rP),(34,s_.2)]) (fun s_ w'=>(w'.cell? ⟨fQ,0,none⟩=some (.slice dO bD.length dK)∧w'.cell? ⟨fQ,1,none⟩=some (.string aY)∧w'.cell? ⟨fQ,2,none⟩=some (.string aX)∧w'.cell? ⟨fQ,3,none⟩=some (.slice dV aW.length dJ))∧(Kd.R Kd.string 9 w' w.heap.size (fun k_=>some k_ ≠ (s_.2:Value).ownBlock) s_.1 BL)∧(Kd.R Kd.string 9 w' w.heap.size (fun k_=>some k_ ≠ (s_.1:Value).ownBlock) s_.2 FB)∧(Kd.N (Kd.slice 9 Kd.string) 22 w' w.heap.size (fun k_=>some k_ ≠ (s_.1:Value).ownBlock∧some k_ ≠ (s_.2:Value).ownBlock∧k_ ≠ fQ) (.slice qZ fK.length qV) fK)∧(w'.heap[fQ]? = some (.cells #[.slice dO bD.length dK,.string aY,.string aX,.slice dV aW.length dJ] 25 (0,0)))∧(Below w.heap.size w w')) ?_ ?_
      rotate_left
      ·
       intro rq
       refine Ia (i:=4) (j:=7) (Ni:=some 30) (Nj:=some 33) #[true,true,true,true,true,true,true,false,false,false,false,false] #[true,true,true,true,false,true,true,true,false,false,false,false] rfl rfl rfl rfl (xG dD.out (by kernel_rfl)) (by decide) (by decide) (fun K hK=>?_) (fun K hK=>?_)
       ·
        skip
        refine Kd.jW Kd.string _ 9 ?hg (N:=30) ?hd (xs:=([(⟨#[108,111,99,97,108,115]⟩:ByteArray),vM]:List ByteArray)) (inner:=[.string (⟨#[108,111,99,97,108,115]⟩:ByteArray),.string vM]) (ok:=fun _=>True) (nY:=fun _=>True) ?hr ?hp (fun _ hk=>hk) trivial (Below.refl _ _) (Nat.le_refl _) (by simp) ?_;(case hd=>rfl);(case hg=>rfl);(case hr=>first|(go_simp;done)|(go_simp;rfl));(case hp=>exact (iK.one (show Kd.M Kd.string _ _ _ (⟨#[108,111,99,97,108,115]⟩:ByteArray) [.string (⟨#[108,111,99,97,108,115]⟩:ByteArray)] from rfl) (iK.one (show Kd.M Kd.string _ _ _ vM [.string vM] from rfl) (iK.none _ _))))
        intro DU VF mF hb xk kN
        clear xk kN
        (first|rw [← Dy.out] at mF|(simp only [Int.reduceToNat] at mF;rw [← Dy.out] at mF))
        have di:=ae.mk (Kd.jS (by (with_reducible repeat (first|apply Kd.gV|apply Kd.gU|apply Kd.iG));exact gm.out) (Kd.jX mF) hb)
        have dm:=ae.mk (Kd.iM mF (bn (by repeat (first|(with_reducible first|exact HB.out|apply aj|apply af|apply ai|refine az ?_ ku.out)|exact HB.out))))
        have dE:=ae.mk (aV (g:=fQ) (o:=.cells #[.slice dO bD.length dK,.string aY,.string aX,.slice dV aW.length dJ] 25 (0,0)) (by (with_reducible repeat (first|refine au ?_ _|refine ay ?_|refine ak ?_ _));exact bY.out) hb)
        have gq:=ae.mk (aQ (by repeat (first|(with_reducible first|exact HB.out|apply aj|apply af|apply ai|refine az ?_ ku.out)|exact HB.out)) hb)
        clear gm
        clear bY
        clear HB
        have gm:=di
        have qp:=dm
        have bY:=dE
        have HB:=gq
        clear di dm dE gq
        clear hb mF
        refine hK.out _ _ ⟨(ah bY.out 0).trans rfl,(ah bY.out 1).trans rfl,(ah bY.out 2).trans rfl,(ah bY.out 3).trans rfl⟩ (fun hHeld=>?_)
        clear hK K
        refine gX (a':=?_) ?_ ?_
        rotate_left
        ·
         show Act.put _ (some 30) _=_
         simp only [Act.put,List.setIfInBounds_toArray,List.set_cons_zero,List.set_cons_succ,aI,aJ]
         rfl
        refine mD (i:=7) (N:=some 33) #[true,true,true,true,true,true,true,true,false,false,false,false] rfl rfl (iD dD.out (by kernel_rfl)) (by decide) (fun K hK=>?_)
        refine mG Tryz.func23 (by kernel_rfl) rfl #[.string aX] (by rfl) rfl rfl (by (try simp only [List.map_toArray,List.map_cons,List.map_nil]);first|done|rfl|(simp only [List.length_drop,List.length_take];rfl)) ?_
        with_reducible refine (iq.calls aX rP _ Q9.out).mono ?_
        rintro e w' ⟨rfl,⟨nd,rfl⟩⟩
        refine ⟨_,rfl,?_⟩
        refine hK.out _ _ ⟨(ah bY.out 0).trans rfl,(ah bY.out 1).trans rfl,(ah bY.out 2).trans rfl,(ah bY.out 3).trans rfl⟩ (fun hHeld=>?_)
        clear hK K
        refine gX (a':=?_) ?_ ?_
        rotate_left
        ·
         show Act.put _ (some 33) _=_
         simp only [Act.put,List.setIfInBounds_toArray,List.set_cons_zero,List.set_cons_succ,aI,aJ]
         rfl
        refine mD (i:=8) (N:=some 34) #[true,true,true,true,true,true,true,true,true,false,false,false] rfl rfl (iD dD.out (by kernel_rfl)) (by decide) (fun K hK=>?_)
        refine Kd.jW Kd.string _ 9 ?hg (N:=34) ?hd (xs:=([(⟨#[103,108,111,98,97,108,115]⟩:ByteArray),rP]:List ByteArray)) (inner:=[.string (⟨#[103,108,111,98,97,108,115]⟩:ByteArray),.string rP]) (ok:=fun _=>True) (nY:=fun _=>True) ?hr ?hp (fun _ hk=>hk) trivial (Below.refl _ _) (Nat.le_refl _) (by simp) ?_;(case hd=>rfl);(case hg=>rfl);(case hr=>first|(go_simp;done)|(go_simp;rfl));(case hp=>exact (iK.one (show Kd.M Kd.string _ _ _ (⟨#[103,108,111,98,97,108,115]⟩:ByteArray) [.string (⟨#[103,108,111,98,97,108,115]⟩:ByteArray)] from rfl) (iK.one (show Kd.M Kd.string _ _ _ rP [.string rP] from rfl) (iK.none _ _))))
        intro DT zI kX hb xk kN
        clear xk kN
        (first|rw [← Dx.out] at kX|(simp only [Int.reduceToNat] at kX;rw [← Dx.out] at kX))
        have di:=ae.mk (Kd.jS (by (with_reducible repeat (first|apply Kd.gV|apply Kd.gU|apply Kd.iG));exact gm.out) (Kd.jX kX) hb)
        have dm:=ae.mk (Kd.oz (by (with_reducible repeat (first|apply Kd.dn|apply Kd.dA|apply Kd.dQ));exact qp.out) (Kd.jX kX) hb)
        have dE:=ae.mk (Kd.iM (Kd.uT kX (Kd.yD (by (with_reducible repeat (first|apply Kd.dn|apply Kd.dA|apply Kd.dQ));exact qp.out))) (bn (by repeat (first|(with_reducible first|exact HB.out|apply aj|apply af|apply ai|refine az ?_ ku.out)|exact HB.out))))
        have gq:=ae.mk (aV (g:=fQ) (o:=.cells #[.slice dO bD.length dK,.string aY,.string aX,.slice dV aW.length dJ] 25 (0,0)) (by (with_reducible repeat (first|refine au ?_ _|refine ay ?_|refine ak ?_ _));exact bY.out) hb)
        have jC:=ae.mk (aQ (by repeat (first|(with_reducible first|exact HB.out|apply aj|apply af|apply ai|refine az ?_ ku.out)|exact HB.out)) hb)
        clear gm
        clear qp
        clear bY
        clear HB
        have gm:=di
        have qp:=dm
        have sU:=dE
        have bY:=gq
        have HB:=jC
        clear di dm dE gq jC
        clear hb kX
        refine hK.out _ _ ⟨(ah bY.out 0).trans rfl,(ah bY.out 1).trans rfl,(ah bY.out 2).trans rfl,(ah bY.out 3).trans rfl⟩ (fun hHeld=>?_)
        clear hK K
        refine gX (a':=?_) ?_ ?_
        rotate_left
        ·
         show Act.put _ (some 34) _=_
         simp only [Act.put,List.setIfInBounds_toArray,List.set_cons_zero,List.set_cons_succ,aI,aJ]
         rfl
        exact gX (by simp only [jJ,Act.put,List.setIfInBounds_toArray,List.set_cons_zero,List.set_cons_succ]) (rq (DU,DT) _ ⟨hHeld,(by (with_reducible repeat (first|apply Kd.dn|apply Kd.dA|apply Kd.dQ));exact Kd.fJ qp.out (fun _ hk=>hk.2)),(by (with_reducible repeat (first|apply Kd.dn|apply Kd.dA|apply Kd.dQ));exact Kd.fJ sU.out (fun _ hk=>hk.2)),(by (with_reducible repeat (first|apply Kd.gV|apply Kd.gU|apply Kd.iG));exact Kd.lq gm.out (fun _ hk=>⟨hk.1.2,⟨hk.2,hk.1.1⟩⟩)),(by (with_reducible repeat (first|refine au ?_ _|refine ay ?_|refine ak ?_ _));exact bY.out),(by repeat (first|(with_reducible first|exact HB.out|apply aj|apply af|apply ai|refine az ?_ ku.out)|exact HB.out))⟩)
       ·
        skip
        refine mG Tryz.func23 (by kernel_rfl) rfl #[.string aX] (by rfl) rfl rfl (by (try simp only [List.map_toArray,List.map_cons,List.map_nil]);first|done|rfl|(simp only [List.length_drop,List.length_take];rfl)) ?_
        with_reducible refine (iq.calls aX rP _ Q9.out).mono ?_
        rintro e w' ⟨rfl,⟨nd,rfl⟩⟩
        refine ⟨_,rfl,?_⟩
        refine hK.out _ _ ⟨(ah bY.out 0).trans rfl,(ah bY.out 1).trans rfl,(ah bY.out 2).trans rfl,(ah bY.out 3).trans rfl⟩ (fun hHeld=>?_)
        clear hK K
        refine gX (a':=?_) ?_ ?_
        rotate_left
        ·
         show Act.put _ (some 33) _=_
         simp only [Act.put,List.setIfInBounds_toArray,List.set_cons_zero,List.set_cons_succ,aI,aJ]
         rfl
        refine Ia (i:=4) (j:=8) (Ni:=some 30) (Nj:=some 34) #[true,true,true,true,true,true,true,true,false,false,false,false] #[true,true,true,true,false,true,true,true,true,false,false,false] rfl rfl rfl rfl (xG dD.out (by kernel_rfl)) (by decide) (by decide) (fun K hK=>?_) (fun K hK=>?_)
        ·
         skip
         refine Kd.jW Kd.string _ 9 ?hg (N:=30) ?hd (xs:=([(⟨#[108,111,99,97,108,115]⟩:ByteArray),vM]:List ByteArray)) (inner:=[.string (⟨#[108,111,99,97,108,115]⟩:ByteArray),.string vM]) (ok:=fun _=>True) (nY:=fun _=>True) ?hr ?hp (fun _ hk=>hk) trivial (Below.refl _ _) (Nat.le_refl _) (by simp) ?_;(case hd=>rfl);(case hg=>rfl);(case hr=>first|(go_simp;done)|(go_simp;rfl));(case hp=>exact (iK.one (show Kd.M Kd.string _ _ _ (⟨#[108,111,99,97,108,115]⟩:ByteArray) [.string (⟨#[108,111,99,97,108,115]⟩:ByteArray)] from rfl) (iK.one (show Kd.M Kd.string _ _ _ vM [.string vM] from rfl) (iK.none _ _))))
         intro DU VF mF hb xk kN
         clear xk kN
         (first|rw [← Dy.out] at mF|(simp only [Int.reduceToNat] at mF;rw [← Dy.out] at mF))
         have di:=ae.mk (Kd.jS (by (with_reducible repeat (first|apply Kd.gV|apply Kd.gU|apply Kd.iG));exact gm.out) (Kd.jX mF) hb)
         have dm:=ae.mk (Kd.iM mF (bn (by repeat (first|(with_reducible first|exact HB.out|apply aj|apply af|apply ai|refine az ?_ ku.out)|exact HB.out))))
         have dE:=ae.mk (aV (g:=fQ) (o:=.cells #[.slice dO bD.length dK,.string aY,.string aX,.slice dV aW.length dJ] 25 (0,0)) (by (with_reducible repeat (first|refine au ?_ _|refine ay ?_|refine ak ?_ _));exact bY.out) hb)
         have gq:=ae.mk (aQ (by repeat (first|(with_reducible first|exact HB.out|apply aj|apply af|apply ai|refine az ?_ ku.out)|exact HB.out)) hb)
         clear gm
         clear bY
         clear HB
         have gm:=di
         have qp:=dm
         have bY:=dE
         have HB:=gq
         clear di dm dE gq
         clear hb mF
         refine hK.out _ _ ⟨(ah bY.out 0).trans rfl,(ah bY.out 1).trans rfl,(ah bY.out 2).trans rfl,(ah bY.out 3).trans rfl⟩ (fun hHeld=>?_)
         clear hK K
         refine gX (a':=?_) ?_ ?_
         rotate_left
         ·
          show Act.put _ (some 30) _=_
          simp only [Act.put,List.setIfInBounds_toArray,List.set_cons_zero,List.set_cons_succ,aI,aJ]
          rfl
         refine mD (i:=8) (N:=some 34) #[true,true,true,true,true,true,true,true,true,false,false,false] rfl rfl (iD dD.out (by kernel_rfl)) (by decide) (fun K hK=>?_)
         refine Kd.jW Kd.string _ 9 ?hg (N:=34) ?hd (xs:=([(⟨#[103,108,111,98,97,108,115]⟩:ByteArray),rP]:List ByteArray)) (inner:=[.string (⟨#[103,108,111,98,97,108,115]⟩:ByteArray),.string rP]) (ok:=fun _=>True) (nY:=fun _=>True) ?hr ?hp (fun _ hk=>hk) trivial (Below.refl _ _) (Nat.le_refl _) (by simp) ?_;(case hd=>rfl);(case hg=>rfl);(case hr=>first|(go_simp;done)|(go_simp;rfl));(case hp=>exact (iK.one (show Kd.M Kd.string _ _ _ (⟨#[103,108,111,98,97,108,115]⟩:ByteArray) [.string (⟨#[103,108,111,98,97,108,115]⟩:ByteArray)] from rfl) (iK.one (show Kd.M Kd.string _ _ _ rP [.string rP] from rfl) (iK.none _ _))))
         intro DT zI kX hb xk kN
         clear xk kN
         (first|rw [← Dx.out] at kX|(simp only [Int.reduceToNat] at kX;rw [← Dx.out] at kX))
         have di:=ae.mk (Kd.jS (by (with_reducible repeat (first|apply Kd.gV|apply Kd.gU|apply Kd.iG));exact gm.out) (Kd.jX kX) hb)
         have dm:=ae.mk (Kd.oz (by (with_reducible repeat (first|apply Kd.dn|apply Kd.dA|apply Kd.dQ));exact qp.out) (Kd.jX kX) hb)
         have dE:=ae.mk (Kd.iM (Kd.uT kX (Kd.yD (by (with_reducible repeat (first|apply Kd.dn|apply Kd.dA|apply Kd.dQ));exact qp.out))) (bn (by repeat (first|(with_reducible first|exact HB.out|apply aj|apply af|apply ai|refine az ?_ ku.out)|exact HB.out))))
         have gq:=ae.mk (aV (g:=fQ) (o:=.cells #[.slice dO bD.length dK,.string aY,.string aX,.slice dV aW.length dJ] 25 (0,0)) (by (with_reducible repeat (first|refine au ?_ _|refine ay ?_|refine ak ?_ _));exact bY.out) hb)
         have jC:=ae.mk (aQ (by repeat (first|(with_reducible first|exact HB.out|apply aj|apply af|apply ai|refine az ?_ ku.out)|exact HB.out)) hb)
         clear gm
         clear qp
         clear bY
         clear HB
         have gm:=di
         have qp:=dm
         have sU:=dE
         have bY:=gq
         have HB:=jC
         clear di dm dE gq jC
         clear hb kX
         refine hK.out _ _ ⟨(ah bY.out 0).trans rfl,(ah bY.out 1).trans rfl,(ah bY.out 2).trans rfl,(ah bY.out 3).trans rfl⟩ (fun hHeld=>?_)
         clear hK K
         refine gX (a':=?_) ?_ ?_
         rotate_left
         ·
          show Act.put _ (some 34) _=_
          simp only [Act.put,List.setIfInBounds_toArray,List.set_cons_zero,List.set_cons_succ,aI,aJ]
          rfl
         exact gX (by simp only [jJ,Act.put,List.setIfInBounds_toArray,List.set_cons_zero,List.set_cons_succ]) (rq (DU,DT) _ ⟨hHeld,(by (with_reducible repeat (first|apply Kd.dn|apply Kd.dA|apply Kd.dQ));exact Kd.fJ qp.out (fun _ hk=>hk.2)),(by (with_reducible repeat (first|apply Kd.dn|apply Kd.dA|apply Kd.dQ));exact Kd.fJ sU.out (fun _ hk=>hk.2)),(by (with_reducible repeat (first|apply Kd.gV|apply Kd.gU|apply Kd.iG));exact Kd.lq gm.out (fun _ hk=>⟨hk.1.2,⟨hk.2,hk.1.1⟩⟩)),(by (with_reducible repeat (first|refine au ?_ _|refine ay ?_|refine ak ?_ _));exact bY.out),(by repeat (first|(with_reducible first|exact HB.out|apply aj|apply af|apply ai|refine az ?_ ku.out)|exact HB.out))⟩)
        ·
         skip
         refine Kd.jW Kd.string _ 9 ?hg (N:=34) ?hd (xs:=([(⟨#[103,108,111,98,97,108,115]⟩:ByteArray),rP]:List ByteArray)) (inner:=[.string (⟨#[103,108,111,98,97,108,115]⟩:ByteArray),.string rP]) (ok:=fun _=>True) (nY:=fun _=>True) ?hr ?hp (fun _ hk=>hk) trivial (Below.refl _ _) (Nat.le_refl _) (by simp) ?_;(case hd=>rfl);(case hg=>rfl);(case hr=>first|(go_simp;done)|(go_simp;rfl));(case hp=>exact (iK.one (show Kd.M Kd.string _ _ _ (⟨#[103,108,111,98,97,108,115]⟩:ByteArray) [.string (⟨#[103,108,111,98,97,108,115]⟩:ByteArray)] from rfl) (iK.one (show Kd.M Kd.string _ _ _ rP [.string rP] from rfl) (iK.none _ _))))
         intro DT VF mF hb xk kN
         clear xk kN
         (first|rw [← Dx.out] at mF|(simp only [Int.reduceToNat] at mF;rw [← Dx.out] at mF))
         have di:=ae.mk (Kd.jS (by (with_reducible repeat (first|apply Kd.gV|apply Kd.gU|apply Kd.iG));exact gm.out) (Kd.jX mF) hb)
         have dm:=ae.mk (Kd.iM mF (bn (by repeat (first|(with_reducible first|exact HB.out|apply aj|apply af|apply ai|refine az ?_ ku.out)|exact HB.out))))
         have dE:=ae.mk (aV (g:=fQ) (o:=.cells #[.slice dO bD.length dK,.string aY,.string aX,.slice dV aW.length dJ] 25 (0,0)) (by (with_reducible repeat (first|refine au ?_ _|refine ay ?_|refine ak ?_ _));exact bY.out) hb)
         have gq:=ae.mk (aQ (by repeat (first|(with_reducible first|exact HB.out|apply aj|apply af|apply ai|refine az ?_ ku.out)|exact HB.out)) hb)
         clear gm
         clear bY
         clear HB
         have gm:=di
         have sU:=dm
         have bY:=dE
         have HB:=gq
         clear di dm dE gq
         clear hb mF
         refine hK.out _ _ ⟨(ah bY.out 0).trans rfl,(ah bY.out 1).trans rfl,(ah bY.out 2).trans rfl,(ah bY.out 3).trans rfl⟩ (fun hHeld=>?_)
         clear hK K
         refine gX (a':=?_) ?_ ?_
         rotate_left
         ·
          show Act.put _ (some 34) _=_
          simp only [Act.put,List.setIfInBounds_toArray,List.set_cons_zero,List.set_cons_succ,aI,aJ]
          rfl
         refine mD (i:=4) (N:=some 30) #[true,true,true,true,true,true,true,true,true,false,false,false] rfl rfl (iD dD.out (by kernel_rfl)) (by decide) (fun K hK=>?_)
         refine Kd.jW Kd.string _ 9 ?hg (N:=30) ?hd (xs:=([(⟨#[108,111,99,97,108,115]⟩:ByteArray),vM]:List ByteArray)) (inner:=[.string (⟨#[108,111,99,97,108,115]⟩:ByteArray),.string vM]) (ok:=fun _=>True) (nY:=fun _=>True) ?hr ?hp (fun _ hk=>hk) trivial (Below.refl _ _) (Nat.le_refl _) (by simp) ?_;(case hd=>rfl);(case hg=>rfl);(case hr=>first|(go_simp;done)|(go_simp;rfl));(case hp=>exact (iK.one (show Kd.M Kd.string _ _ _ (⟨#[108,111,99,97,108,115]⟩:ByteArray) [.string (⟨#[108,111,99,97,108,115]⟩:ByteArray)] from rfl) (iK.one (show Kd.M Kd.string _ _ _ vM [.string vM] from rfl) (iK.none _ _))))
         intro DU zI kX hb xk kN
         clear xk kN
         (first|rw [← Dy.out] at kX|(simp only [Int.reduceToNat] at kX;rw [← Dy.out] at kX))
         have di:=ae.mk (Kd.jS (by (with_reducible repeat (first|apply Kd.gV|apply Kd.gU|apply Kd.iG));exact gm.out) (Kd.jX kX) hb)
         have dm:=ae.mk (Kd.oz (by (with_reducible repeat (first|apply Kd.dn|apply Kd.dA|apply Kd.dQ));exact sU.out) (Kd.jX kX) hb)
         have dE:=ae.mk (Kd.iM (Kd.uT kX (Kd.yD (by (with_reducible repeat (first|apply Kd.dn|apply Kd.dA|apply Kd.dQ));exact sU.out))) (bn (by repeat (first|(with_reducible first|exact HB.out|apply aj|apply af|apply ai|refine az ?_ ku.out)|exact HB.out))))
         have gq:=ae.mk (aV (g:=fQ) (o:=.cells #[.slice dO bD.length dK,.string aY,.string aX,.slice dV aW.length dJ] 25 (0,0)) (by (with_reducible repeat (first|refine au ?_ _|refine ay ?_|refine ak ?_ _));exact bY.out) hb)
         have jC:=ae.mk (aQ (by repeat (first|(with_reducible first|exact HB.out|apply aj|apply af|apply ai|refine az ?_ ku.out)|exact HB.out)) hb)
         clear gm
         clear sU
         clear bY
         clear HB
         have gm:=di
         have sU:=dm
         have qp:=dE
         have bY:=gq
         have HB:=jC
         clear di dm dE gq jC
         clear hb kX
         refine hK.out _ _ ⟨(ah bY.out 0).trans rfl,(ah bY.out 1).trans rfl,(ah bY.out 2).trans rfl,(ah bY.out 3).trans rfl⟩ (fun hHeld=>?_)
         clear hK K
         refine gX (a':=?_) ?_ ?_
         rotate_left
         ·
          show Act.put _ (some 30) _=_
          simp only [Act.put,List.setIfInBounds_toArray,List.set_cons_zero,List.set_cons_succ,aI,aJ]
          rfl
         exact gX (by simp only [jJ,Act.put,List.setIfInBounds_toArray,List.set_cons_zero,List.set_cons_succ]) (rq (DU,DT) _ ⟨hHeld,(by (with_reducible repeat (first|apply Kd.dn|apply Kd.dA|apply Kd.dQ));exact Kd.fJ qp.out (fun _ hk=>hk.2)),(by (with_reducible repeat (first|apply Kd.dn|apply Kd.dA|apply Kd.dQ));exact Kd.fJ sU.out (fun _ hk=>hk.2)),(by (with_reducible repeat (first|apply Kd.gV|apply Kd.gU|apply Kd.iG));exact Kd.lq gm.out (fun _ hk=>⟨hk.2,⟨hk.1.2,hk.1.1⟩⟩)),(by (with_reducible repeat (first|refine au ?_ _|refine ay ?_|refine ak ?_ _));exact bY.out),(by repeat (first|(with_reducible first|exact HB.out|apply aj|apply af|apply ai|refine az ?_ ku.out)|exact HB.out))⟩)
      rintro ⟨DU,DT⟩ rG ⟨jL,LD,LC,Lu,Lt,Ls⟩
      have di:ae (Kd.R Kd.string 9 rG w.heap.size (fun k_=>some k_ ≠ (DT:Value).ownBlock) DU BL):=⟨LD⟩
      have dm:ae (Kd.R Kd.string 9 rG w.heap.size (fun k_=>some k_ ≠ (DU:Value).ownBlock) DT FB):=⟨LC⟩
      have dE:ae (Kd.N (Kd.slice 9 Kd.string) 22 rG w.heap.size (fun k_=>some k_ ≠ (DU:Value).ownBlock∧some k_ ≠ (DT:Value).ownBlock∧k_ ≠ fQ) (.slice qZ fK.length qV) fK):=⟨Lu⟩
      have gq:ae (rG.heap[fQ]? = some (.cells #[.slice dO bD.length dK,.string aY,.string aX,.slice dV aW.length dJ] 25 (0,0))):=⟨Lt⟩
      have jC:ae (Below w.heap.size w rG):=⟨Ls⟩
      clear gm
      clear bY
      clear HB
      clear LD LC Lu Lt Ls
      have qp:=di
      have sU:=dm
      have gm:=dE
      have bY:=gq
      have HB:=jC
      clear di dm dE gq jC
      have hHeld:rG.cell? ⟨fQ,0,none⟩=some (.slice dO bD.length dK)∧rG.cell? ⟨fQ,1,none⟩=some (.string aY)∧rG.cell? ⟨fQ,2,none⟩=some (.string aX)∧rG.cell? ⟨fQ,3,none⟩=some (.slice dV aW.length dJ):=jL
      obtain ⟨H7,G9,IY⟩:=Kd.iW qp.out
      (first|subst IY|(injection IY with GY Ql GX;have Qk:=GY.symm;have Qj:=GX.symm;clear GY Ql GX;subst Qk;subst Qj))
      obtain ⟨sJ,sG,IX⟩:=Kd.iW sU.out
      (first|subst IX|(injection IX with GY Ql GX;have Qk:=GY.symm;have Qj:=GX.symm;clear GY Ql GX;subst Qk;subst Qj))
      refine gX (a':=?_) ?_ ?_
      rotate_left
      ·
       simp only [jJ,Act.put,List.setIfInBounds_toArray,List.set_cons_zero,List.set_cons_succ]
       rfl
      refine mD (i:=9) (N:=some 35) #[true,true,true,true,true,true,true,true,true,true,false,false] rfl rfl (iD dD.out (by kernel_rfl)) (by decide) (fun K hK=>?_)
      refine Kd.BC (Kd.slice 9 Kd.string) _ 22 ?hg (N':=35) ?hd (xs:=([BL,FB]:List (List ByteArray))) (inner:=[.slice H7 BL.length G9,.slice sJ FB.length sG]) (ok:=(fun k_=>some k_ ≠ (.slice qZ fK.length qV:Value).ownBlock∧k_ ≠ fQ)) (nY:=(fun k_=>some k_ ≠ (.slice qZ fK.length qV:Value).ownBlock∧k_ ≠ fQ)) ?hr ?hp (fun _ hk=>hk) ((show ∀ k_,rG.heap.size≤k_→(fun k_=>some k_ ≠ (.slice qZ fK.length qV:Value).ownBlock∧k_ ≠ fQ) k_ from fun k_ hk=>⟨Kd.fresh' (Kd.X6 (by (with_reducible repeat (first|apply Kd.gV|apply Kd.gU|apply Kd.iG));exact gm.out)) k_ hk,Kd.uO (g:=fQ) (o:=.cells #[.slice dO bD.length dK,.string aY,.string aX,.slice dV aW.length dJ] 25 (0,0)) (by (with_reducible repeat (first|refine au ?_ _|refine ay ?_|refine ak ?_ _));exact bY.out) k_ hk⟩) _ (Nat.le_refl _)) (Below.refl _ _) (Nat.le_refl _) (by simp) ?_;(case hd=>rfl);(case hg=>rfl);(case hr=>first|(go_simp;done)|(go_simp;rfl));(case hp=>exact (iK.one (show Kd.FK (Kd.slice 9 Kd.string) _ _ BL [.slice H7 BL.length G9] from (Kd.mW (Kd.iO (Kd.fJ (ok':=(fun k_=>some k_ ≠ (.slice qZ fK.length qV:Value).ownBlock∧k_ ≠ fQ)) (Kd.iR (Kd.jR (qp.out) (Kd.mf gm.out) (by decide)) bY.out (by decide)) (fun k_ hk=>⟨hk.1.2,hk.2⟩))).2.1 (Kd.V8 (Kd.fJ (ok':=(fun k_=>some k_ ≠ (.slice qZ fK.length qV:Value).ownBlock∧k_ ≠ fQ)) (Kd.iR (Kd.jR (qp.out) (Kd.mf gm.out) (by decide)) bY.out (by decide)) (fun k_ hk=>⟨hk.1.2,hk.2⟩))))) (iK.one (show Kd.FK (Kd.slice 9 Kd.string) _ _ FB [.slice sJ FB.length sG] from (Kd.mW (Kd.iO (Kd.fJ (ok':=(fun k_=>some k_ ≠ (.slice qZ fK.length qV:Value).ownBlock∧k_ ≠ fQ)) (Kd.iR (Kd.jR (sU.out) (Kd.mf gm.out) (by decide)) bY.out (by decide)) (fun k_ hk=>⟨hk.1.2,hk.2⟩))).2.1 (Kd.V8 (Kd.fJ (ok':=(fun k_=>some k_ ≠ (.slice qZ fK.length qV:Value).ownBlock∧k_ ≠ fQ)) (Kd.iR (Kd.jR (sU.out) (Kd.mf gm.out) (by decide)) bY.out (by decide)) (fun k_ hk=>⟨hk.1.2,hk.2⟩))))) (iK.none _ _))))
      intro ah6 Yj yO hb xk kN
      clear xk kN
      (first|rw [← V9.out] at yO|(simp only [Int.reduceToNat] at yO;rw [← V9.out] at yO))
      have di:=ae.mk (Kd.jS (by (with_reducible repeat (first|apply Kd.gV|apply Kd.gU|apply Kd.iG));exact gm.out) (Kd.QW yO) hb)
      have dm:=ae.mk (Kd.L9 yO (bn (by repeat (first|(with_reducible first|exact HB.out|apply aj|apply af|apply ai|refine az ?_ ku.out)|exact HB.out))))
      have dE:=ae.mk (aV (g:=fQ) (o:=.cells #[.slice dO bD.length dK,.string aY,.string aX,.slice dV aW.length dJ] 25 (0,0)) (by (with_reducible repeat (first|refine au ?_ _|refine ay ?_|refine ak ?_ _));exact bY.out) hb)
      have gq:=ae.mk (aQ (by repeat (first|(with_reducible first|exact HB.out|apply aj|apply af|apply ai|refine az ?_ ku.out)|exact HB.out)) hb)
      clear gm
      clear bY
      clear HB
      clear qp
      clear sU
      have gm:=di
      have Hy:=dm
      have bY:=dE
      have HB:=gq
      clear di dm dE gq
      clear hb yO
      obtain ⟨agb,afR,Qq⟩:=Kd.xe Hy.out
      (first|subst Qq|(injection Qq with GY Ql GX;have Qk:=GY.symm;have Qj:=GX.symm;clear GY Ql GX;subst Qk;subst Qj))
      refine hK.out _ _ ⟨(ah bY.out 0).trans rfl,(ah bY.out 1).trans rfl,(ah bY.out 2).trans rfl,(ah bY.out 3).trans rfl⟩ (fun hHeld=>?_)
      clear hK K
      refine gX (a':=?_) ?_ ?_
      rotate_left
      ·
       show Act.put _ (some 35) _=_
       simp only [Act.put,List.setIfInBounds_toArray,List.set_cons_zero,List.set_cons_succ,aI,aJ]
       rfl
      refine mD (i:=10) (N:=some 36) #[true,true,true,true,true,true,true,true,true,true,true,false] rfl rfl (iD dD.out (by kernel_rfl)) (by decide) (fun K hK=>?_)
      refine Kd.sD (Kd.slice 9 Kd.string) (w0:=w) w.heap.size (by rfl) (.tmp 26) (.tmp 35) 43 22 (.slice none 0 0) 24 rfl Tryz.underlying43 info22 rfl (by decide) (by omega) (.slice qZ fK.length qV) fK tV _ _ _ (fun k_=>k_ ≠ fQ) (fun k_=>((fun k_=>k_ ≠ fQ)) k_∧some k_ ≠ (.slice qZ fK.length qV:Value).ownBlock) rfl rfl ?aO ?aR (fun _ hk=>hk) ?aF ?aB ?aS ?aL ?_
      (case aR=>exact (by skip;exact Kd.N_F (Kd.lq (ok':=(fun k_=>((fun k_=>k_ ≠ fQ)) k_∧some k_ ≠ (.slice qZ fK.length qV:Value).ownBlock)) (Hy.out) (fun k_ hk=>⟨hk.2,hk.1⟩))))
      (case aB=>exact (by repeat (first|(with_reducible first|exact HB.out|apply aj|apply af|apply ai|refine az ?_ ku.out)|exact HB.out)))
      (case aF=>exact (fun k_ hk=>Kd.uO (g:=fQ) (o:=.cells #[.slice dO bD.length dK,.string aY,.string aX,.slice dV aW.length dJ] 25 (0,0)) (by (with_reducible repeat (first|refine au ?_ _|refine ay ?_|refine ak ?_ _));exact bY.out) k_ hk))
      (case aO=>exact (by (with_reducible repeat (first|apply Kd.gV|apply Kd.gU|apply Kd.iG));exact Kd.lq gm.out (fun _ hk=>hk.1.2.2)))
      (case aS=>exact (bn (by repeat (first|(with_reducible first|exact HB.out|apply aj|apply af|apply ai|refine az ?_ ku.out)|exact HB.out))))
      (case aL=>have:=ZJ.out;omega)
      intro ah5 Yi ho hb hg hat
      rw [← Zu.out] at ho
      have di:=ae.mk (oQ (g:=fQ) (o:=.cells #[.slice dO bD.length dK,.string aY,.string aX,.slice dV aW.length dJ] 25 (0,0)) (by (with_reducible repeat (first|refine au ?_ _|refine ay ?_|refine ak ?_ _));exact bY.out) hg (Kd.I8 gm.out bY.out (by decide)))
      have dm:=ae.mk (Kd.Hw (ok:=(fun k_=>k_ ≠ fQ)) (by (with_reducible repeat (first|apply Kd.gV|apply Kd.gU|apply Kd.iG));exact Kd.lq Hy.out (fun _ hk=>⟨hk.2,hk.1⟩)) hg hat)
      have dE:=ae.mk (hb)
      have gq:=ae.mk (ho)
      clear bY
      clear Hy
      clear HB
      clear gm
      have bY:=di
      have Hy:=dm
      have HB:=dE
      have ZR:=gq
      clear di dm dE gq
      clear ho hb hg hat
      refine hK.out _ _ ⟨(ah bY.out 0).trans rfl,(ah bY.out 1).trans rfl,(ah bY.out 2).trans rfl,(ah bY.out 3).trans rfl⟩ (fun hHeld=>?_)
      clear hK K
      refine gX (a':=?_) ?_ ?_
      rotate_left
      ·
       show Act.put _ (some 36) _=_
       simp only [Act.put,List.setIfInBounds_toArray,List.set_cons_zero,List.set_cons_succ,aI,aJ]
       rfl
      refine bu (i:=11) (N:=some 4) (v:=?_) (a':=?_) #[true,true,true,true,true,true,true,true,true,true,true,true] rfl rfl (aN dD.out (by kernel_rfl)) (fun _ _ _ h=>h) (Or.inl ⟨by rfl,?_⟩) ?_ ?_
      rotate_left
      ·
       intro w'
       go_simp
       with_reducible rfl
      rotate_left
      ·
       simp only [Act.put,List.setIfInBounds_toArray,List.set_cons_zero,List.set_cons_succ,aI,aJ]
       rfl
      refine qL (lG dD.out (by kernel_rfl)) ?_
      try go_wp2
      go_loopg [4,6] k1 (fun kq v4 v6 w'=>∃ (jy:List (List ByteArray)) (oJ:Int),v6=.int .i64 oJ∧ae (aH.l1 kq jy oJ bD aY aX aW=some (r1,r2))∧ae (kq≤k1)∧ae (Kd.N (Kd.slice 9 Kd.string) 22 w' w.heap.size (fun k_=>k_ ≠ fQ) v4 jy)∧ae (w'.heap[fQ]? = some (.cells #[(.slice dO bD.length dK),.string aY,.string aX,(.slice dV aW.length dJ)] 25 (0,0)))∧ae (Below w.heap.size w w'))
      case atStart=>exact ⟨(Yp),(0),(by first|rfl|(simp;done)|(simp [*];done)),H',⟨Nat.le_refl _⟩,⟨by (with_reducible repeat (first|apply Kd.gV|apply Kd.gU|apply Kd.iG));exact ZR.out⟩,⟨by (with_reducible repeat (first|refine au ?_ _|refine ay ?_|refine ak ?_ _));exact bY.out⟩,⟨by repeat (first|(with_reducible first|exact HB.out|apply aj|apply af|apply ai|refine az ?_ ku.out)|exact HB.out)⟩⟩
      case round =>
       clear H'
       obtain ⟨jy,oJ,rfl,HA,xB,gm,bY,HB⟩:=hrel
       cases gk with
       | zero=>exact absurd HA.out (by simp [aH.l1])
       | succ k2 =>
        have H:=HA.out
        clear HA
        simp only [aH.l1] at H
        by_cases c32:oJ < (aW.length:Int)
        ·
         rw [if_pos c32] at H
         have Y4:decide (oJ < (aW.length:Int))=true:=decide_eq_true c32
         clear c32
         by_cases Qz:0≤oJ
         ·
          rw [if_pos Qz] at H
          have VZ:decide (0≤oJ)=true:=decide_eq_true Qz
          clear Qz
          replace H:=Option.bind_eq_some_iff.mp H
          obtain ⟨Ic,aar,H⟩:=H
          replace H:(if jy.length < 5864062014805 then (aH.l1 k2 (jy++[Ic]) (wrap64 (oJ+1)) bD aY aX aW) else (none))=some (r1,r2):=H
          have A34:=ae.mk aar
          clear aar
          by_cases Vp:jy.length < 5864062014805
          ·
           rw [if_pos Vp] at H
           have ZF:=ae.mk Vp
           clear Vp
           obtain ⟨Yo,Gs⟩:∃ y_:List (List ByteArray),y_=(jy++[Ic]):=⟨_,rfl⟩
           replace H:(aH.l1 k2 Yo (wrap64 (oJ+1)) bD aY aX aW)=some (r1,r2):=by first|(rw [Gs];with_reducible exact H)|(have nR:=(Option.bind_some _ _).symm.trans H;rw [Gs];with_reducible exact nR)|(have nR:=(Option.bind_some _ _).symm.trans H;with_reducible exact nR)|with_reducible exact H|(rw [Gs];exact H)|exact H
           have Zt:=ae.mk Gs
           clear Gs
           have H':=ae.mk H
           clear H
           have aej:wr.cell? ⟨fQ,0,none⟩=some (.slice dO bD.length dK):=(ah bY.out 0).trans rfl
           have aei:wr.cell? ⟨fQ,1,none⟩=some (.string aY):=(ah bY.out 1).trans rfl
           have aeh:wr.cell? ⟨fQ,2,none⟩=some (.string aX):=(ah bY.out 2).trans rfl
           have aeg:wr.cell? ⟨fQ,3,none⟩=some (.slice dV aW.length dJ):=(ah bY.out 3).trans rfl
           have acR:=ax bY.out 0
           have acQ:=ax bY.out 1
           have acP:=ax bY.out 2
           have acO:=ax bY.out 3
           have Xa:0≤(oJ:Int):=of_decide_eq_true (by first|(with_reducible assumption)|assumption)
           have WR:oJ < (aW.length:Int):=of_decide_eq_true (by first|(with_reducible assumption)|assumption)
           obtain ⟨QJ,e275,Ef,Ee,Ed,Ec,Eb⟩:=wz ny.out oJ Xa WR
           cases e275
           replace Ef:=(HB.out.cell (World.block_lt_of_cell? w _ Ef)).trans Ef
           replace Ee:=(HB.out.cell (World.block_lt_of_cell? w _ Ee)).trans Ee
           replace Ed:=(HB.out.cell (World.block_lt_of_cell? w _ Ed)).trans Ed
           replace Ec:=(HB.out.cell (World.block_lt_of_cell? w _ Ec)).trans Ec
           replace Eb:=(HB.out.cell (World.block_lt_of_cell? w _ Eb)).trans Eb
           replace Xa:=eq_true Xa
           replace WR:=eq_true WR
           go_wp2_with (first|((with_reducible refine bU (f:=24) rfl ?_);refine gy (some 50) rfl rfl Tryz.func24 (by kernel_rfl) rfl #[.agg #[.int .u8 ((aZ aW oJ).f0),.int .u8 ((aZ aW oJ).f1),.int .u8 ((aZ aW oJ).f2),.int .u8 ((aZ aW oJ).f3),.int .i64 ((aZ aW oJ).f4)]] rfl (by (try simp only [List.map_toArray,List.map_cons,List.map_nil]);first|done|rfl|(simp only [List.length_drop,List.length_take];rfl)) ?_;(with_reducible refine (aT.calls k2 ((aZ aW oJ).f0) ((aZ aW oJ).f1) ((aZ aW oJ).f2) ((aZ aW oJ).f3) ((aZ aW oJ).f4) Ic _ ?fD A34.out).mono ?_);(case fD=>repeat (first|exact (Kd.dF ry.out HB.out)|(with_reducible refine Kd.ed ?_ _)|(with_reducible refine Kd.dZ ?_ _)|(with_reducible refine Kd.fO ?_)));rintro e w37 ⟨ah4,rfl,ho0,hb⟩;refine ⟨_,rfl,?_⟩;have di:=ae.mk (Kd.jS (by (with_reducible repeat (first|apply Kd.gV|apply Kd.gU|apply Kd.iG));exact gm.out) (Kd.jX ho0) hb);have dm:=ae.mk (Kd.iM ho0 (bn (by repeat (first|(with_reducible first|exact HB.out|apply aj|apply af|apply ai|refine az ?_ ku.out)|exact HB.out))));have dE:=ae.mk (aV (g:=fQ) (o:=.cells #[.slice dO bD.length dK,.string aY,.string aX,.slice (some QJ) aW.length dJ] 25 (0,0)) (by (with_reducible repeat (first|refine au ?_ _|refine ay ?_|refine ak ?_ _));exact bY.out) hb);have gq:=ae.mk (aQ (by repeat (first|(with_reducible first|exact HB.out|apply aj|apply af|apply ai|refine az ?_ ku.out)|exact HB.out)) hb);clear gm;clear bY;clear HB;have gm:=di;have Me:=dm;have bY:=dE;have HB:=gq;clear di dm dE gq;(try clear hb);(try clear hb2);(try clear hk);(try clear hi);(try clear ho0);obtain ⟨aga,afQ,afu⟩:=Kd.iW Me.out;subst afu)|((with_reducible refine kC (b:=.append) (xs:=#[.tmp 44,.tmp 51]) rfl ?_);at_builtin;refine Kd.yE (Kd.slice 9 Kd.string) (w0:=w) w.heap.size rfl (.tmp 44) (.tmp 51) 43 22 (.slice none 0 0) 24 rfl Tryz.underlying43 info22 rfl (by decide) (by omega) u4 jy Ic [.slice aga Ic.length afQ] (fun k_=>k_ ≠ fQ) (fun k_=>((fun k_=>k_ ≠ fQ)) k_∧some k_ ≠ (u4:Value).ownBlock) rfl rfl ?aP (fun _ hk=>hk) ?aF ?aO ?aB ?aS ?aL ?_;(case aP=>exact (Kd.mW (Kd.iO (Kd.fJ (ok':=(fun k_=>((fun k_=>k_ ≠ fQ)) k_∧some k_ ≠ (u4:Value).ownBlock)) (Kd.iR (Kd.jR (Me.out) (Kd.mf gm.out) (by decide)) bY.out (by decide)) (fun k_ hk=>⟨hk.2,hk.1.2⟩))).2.1 (Kd.V8 (Kd.fJ (ok':=(fun k_=>((fun k_=>k_ ≠ fQ)) k_∧some k_ ≠ (u4:Value).ownBlock)) (Kd.iR (Kd.jR (Me.out) (Kd.mf gm.out) (by decide)) bY.out (by decide)) (fun k_ hk=>⟨hk.2,hk.1.2⟩)))));(case aB=>exact (by repeat (first|(with_reducible first|exact HB.out|apply aj|apply af|apply ai|refine az ?_ ku.out)|exact HB.out)));(case aF=>exact (fun k_ hk=>Kd.uO (g:=fQ) (o:=.cells #[.slice dO bD.length dK,.string aY,.string aX,.slice (some QJ) aW.length dJ] 25 (0,0)) (by (with_reducible repeat (first|refine au ?_ _|refine ay ?_|refine ak ?_ _));exact bY.out) k_ hk));(case aO=>exact (by (with_reducible repeat (first|apply Kd.gV|apply Kd.gU|apply Kd.iG));exact Kd.lq gm.out (fun _ hk=>hk.1)));(case aS=>exact (bn (by repeat (first|(with_reducible first|exact HB.out|apply aj|apply af|apply ai|refine az ?_ ku.out)|exact HB.out))));(case aL=>have:=ZF.out;omega);intro ah3 Rh ho hb hg hat;rw [← Zt.out] at ho;have di:=ae.mk (oQ (g:=fQ) (o:=.cells #[.slice dO bD.length dK,.string aY,.string aX,.slice (some QJ) aW.length dJ] 25 (0,0)) (by (with_reducible repeat (first|refine au ?_ _|refine ay ?_|refine ak ?_ _));exact bY.out) hg (Kd.I8 gm.out bY.out (by decide)));have dm:=ae.mk (hb);have dE:=ae.mk (ho);clear bY;clear HB;clear gm;clear Me;have bY:=di;have HB:=dm;have ZQ:=dE;clear di dm dE;clear ho hb hg hat))
           go_roundg k2
           case measure=>have:=nZ.out;have:=xB.out;omega
           case rel=>exact ⟨(Yo),(wrap64 (oJ+1)),(by first|rfl|(simp;done)|(simp [*];done)),H',⟨by have:=nZ.out;have:=xB.out;omega⟩,⟨by (with_reducible repeat (first|apply Kd.gV|apply Kd.gU|apply Kd.iG));exact ZQ.out⟩,⟨by (with_reducible repeat (first|refine au ?_ _|refine ay ?_|refine ak ?_ _));exact bY.out⟩,⟨by repeat (first|(with_reducible first|exact HB.out|apply aj|apply af|apply ai|refine az ?_ ku.out)|exact HB.out)⟩⟩
          ·
           rw [if_neg Vp] at H
           exact absurd H (by simp)
         ·
          rw [if_neg Qz] at H
          exact absurd H (by simp)
        ·
         rw [if_neg c32] at H
         have Y4:decide (oJ < (aW.length:Int))=false:=decide_eq_false c32
         clear c32
         replace H:=Option.bind_eq_some_iff.mp H
         obtain ⟨Rz,aap,H⟩:=H
         replace H:(some (Rz,0))=some (r1,r2):=H
         have A40:=ae.mk aap
         clear aap
         simp only [Option.some.injEq,Prod.mk.injEq] at H
         obtain ⟨rfl,rfl⟩:=H
         have adZ:wr.cell? ⟨fQ,0,none⟩=some (.slice dO bD.length dK):=(ah bY.out 0).trans rfl
         have adY:wr.cell? ⟨fQ,1,none⟩=some (.string aY):=(ah bY.out 1).trans rfl
         have adX:wr.cell? ⟨fQ,2,none⟩=some (.string aX):=(ah bY.out 2).trans rfl
         have adW:wr.cell? ⟨fQ,3,none⟩=some (.slice dV aW.length dJ):=(ah bY.out 3).trans rfl
         have acA:=ax bY.out 0
         have acz:=ax bY.out 1
         have acy:=ax bY.out 2
         have acx:=ax bY.out 3
         obtain ⟨af9,afP,aft⟩:=Kd.xe gm.out
         subst aft
         go_wp2_with (first|((with_reducible refine bU (f:=17) rfl ?_);refine gy (some 54) rfl rfl Tryz.func17 (by kernel_rfl) rfl #[.slice af9 jy.length afP] rfl (by (try simp only [List.map_toArray,List.map_cons,List.map_nil]);first|done|rfl|(simp only [List.length_drop,List.length_take];rfl)) ?_;(with_reducible refine (bg.calls k2 _ _ jy Rz _ ?fD ?jO A40.out).mono ?_);(case fD=>repeat (first|exact (Kd.wF gm.out).2.2|(with_reducible refine Kd.ed ?_ _)|(with_reducible refine Kd.dZ ?_ _)|(with_reducible refine Kd.fO ?_)));(case jO=>exact (Kd.wF gm.out).2.1);rintro e w' ⟨rfl,⟨nd,rfl⟩⟩;refine ⟨_,rfl,?_⟩))
         go_ret2
         exact ⟨by first|rfl|(simp [bH,bG] <;> rfl)|(simp [*,bH,bG] <;> rfl),by repeat (first|(with_reducible first|exact HB.out|apply aj|apply af|apply ai|refine az ?_ ku.out)|exact HB.out)⟩
     ·
      rw [if_neg c17] at H
      exact absurd H (by simp)
 ·
  replace c3:=Bool.eq_false_iff.mpr c3
  subst c3
  have H1:(some ((⟨#[]⟩:ByteArray),2))=some (r1,r2):=by rw [if_neg (show ¬ (false=true) by decide)] at H;exact H
  clear H
  have H:=H1
  clear H1
  simp only [Option.some.injEq,Prod.mk.injEq] at H
  obtain ⟨rfl,rfl⟩:=H
  go_enter Tryz.func10,Tryz.ntmps10
  go_wp2_with (first|((with_reducible refine eQ (N:=1) rfl ?_);refine fF ?hg (N:=1) ?hd (cs:=#[.slice dO bD.length dK,.string aY,.string aX,.slice dV aW.length dJ]) (t:=25) ?hr ?_;(case hd=>rfl);(case hg=>rfl);(case hr=>first|(go_simp;done)|(go_simp;rfl));intro fQ hg w43 hbox hb;have di:=ae.mk (aQ (by repeat (first|(with_reducible first|exact HB.out|apply aj|apply af|apply ai)|exact HB.out)) hb);have dm:=ae.mk (hbox);have dE:=ae.mk ((by rw [hg];exact (bn (by repeat (first|(with_reducible first|exact HB.out|apply aj|apply af|apply ai)|exact HB.out))):w.heap.size≤fQ));have gq:=dE;clear HB;have HB:=di;have bY:=dm;have aad:=dE;have ku:=gq;clear di dm dE gq;clear hb hbox hg;have adR:w43.cell? ⟨fQ,0,none⟩=some (.slice dO bD.length dK):=(ah bY.out 0).trans rfl;have adQ:w43.cell? ⟨fQ,1,none⟩=some (.string aY):=(ah bY.out 1).trans rfl;have adP:w43.cell? ⟨fQ,2,none⟩=some (.string aX):=(ah bY.out 2).trans rfl;have adO:w43.cell? ⟨fQ,3,none⟩=some (.slice dV aW.length dJ):=(ah bY.out 3).trans rfl;have acr:=ax bY.out 0;have acp:=ax bY.out 1;have aco:=ax bY.out 2;have acn:=ax bY.out 3)|((with_reducible refine bU (f:=22) rfl ?_);refine gy (some 8) rfl rfl Tryz.func22 (by kernel_rfl) rfl #[.agg #[.slice dO bD.length dK,.string aY,.string aX,.slice dV aW.length dJ]] rfl (by (try simp only [List.map_toArray,List.map_cons,List.map_nil]);first|done|rfl|(simp only [List.length_drop,List.length_take];rfl)) ?_;(with_reducible refine (bf.calls k _ _ bD aY aX _ _ aW false _ ?fD ?jO ?lF ?lD ?oq A2.out).mono ?_);(case fD=>repeat (first|exact (Kd.dF kZ.out HB.out)|(with_reducible refine Kd.ed ?_ _)|(with_reducible refine Kd.dZ ?_ _)|(with_reducible refine Kd.fO ?_)));(case jO=>exact qj.out);(case lF=>repeat (first|exact (Kd.dF ny.out HB.out)|(with_reducible refine Kd.ed ?_ _)|(with_reducible refine Kd.dZ ?_ _)|(with_reducible refine Kd.fO ?_)));(case lD=>exact qi.out);(case oq=>repeat (first|exact (Kd.dF ry.out HB.out)|(with_reducible refine Kd.ed ?_ _)|(with_reducible refine Kd.dZ ?_ _)|(with_reducible refine Kd.fO ?_)));rintro e w45 ⟨rfl,hb⟩;refine ⟨_,rfl,?_⟩;have di:=ae.mk (aV (g:=fQ) (o:=.cells #[.slice dO bD.length dK,.string aY,.string aX,.slice dV aW.length dJ] 25 (0,0)) (by (with_reducible repeat (first|refine au ?_ _|refine ay ?_|refine ak ?_ _));exact bY.out) hb);have dm:=ae.mk (aQ (by repeat (first|(with_reducible first|exact HB.out|apply aj|apply af|apply ai|refine az ?_ ku.out)|exact HB.out)) hb);clear bY;clear HB;have bY:=di;have HB:=dm;clear di dm;(try clear hb);(try clear hb2);(try clear hk);(try clear hi)))
  go_ret2
  exact ⟨by first|rfl|(simp [bH,bG] <;> rfl)|(simp [*,bH,bG] <;> rfl),by repeat (first|(with_reducible first|exact HB.out|apply aj|apply af|apply ai|refine az ?_ ku.out)|exact HB.out)⟩
end Go.Proofs.YtkclndkbccbhaaaGreatDoor.P
end
