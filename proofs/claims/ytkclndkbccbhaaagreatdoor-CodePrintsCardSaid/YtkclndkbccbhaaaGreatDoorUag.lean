/- Parts of the proof of CodePrints: what the functions that it reaches compute, and plain facts about that. -/
import Derived.Test.YtkclndkbccbhaaaGreatDoorUac
import Derived.Test.YtkclndkbccbhaaaGreatDoorUad
import Derived.Test.YtkclndkbccbhaaaGreatDoorUaf
import Derived.Lib.SplitLaws
import Derived.Lib.IndexMore
import Derived.Lib.SlTrimSet
import Derived.Lib.Join
set_option linter.unusedVariables false
set_option linter.unusedSimpArgs false
section
namespace Go.Proofs.YtkclndkbccbhaaaGreatDoor.P
open Go.RowKit Go.Proofs.ag.bJ Go.Proofs.ag.eX Go.Proofs.ag.gp
attribute [local go_sem] kM kK lT lS jE jD kL kJ
theorem Qp (d:Nat) (w:World) (x0 y0:Int) (x1 y1:Int) (x2 y2:Int) (x3 y3:Int) (x4 y4:Int) :
    (Op.equalIn (d+2) 27 (.agg #[.int .u8 x0,.int .u8 x1,.int .u8 x2,.int .u8 x3,.int .i64 x4]) (.agg #[.int .u8 y0,.int .u8 y1,.int .u8 y2,.int .u8 y3,.int .i64 y4])).run Tryz.prog w=.ok (x0 == y0 && (x1 == y1 && (x2 == y2 && (x3 == y3 && (x4 == y4))))) w:=by
  refine XP Tryz.underlying27 (by kernel_rfl) ?_
  refine yx (by rfl) (by go_simp;rfl) (by go_simp;rfl) (by go_simp) ?_
  refine yx (by rfl) (by go_simp;rfl) (by go_simp;rfl) (by go_simp) ?_
  refine yx (by rfl) (by go_simp;rfl) (by go_simp;rfl) (by go_simp) ?_
  refine yx (by rfl) (by go_simp;rfl) (by go_simp;rfl) (by go_simp) ?_
  exact Qo (by rfl) (by go_simp;rfl) (by go_simp;rfl) (by go_simp)
end Go.Proofs.YtkclndkbccbhaaaGreatDoor.P
end
section
namespace Go.Proofs.YtkclndkbccbhaaaGreatDoor.P
open Go.RowKit Go.Proofs.ag.bJ Go.Proofs.ag.eX Go.Proofs.ag.gp
attribute [local go_sem] kM kK lT lS jE jD kL kJ
attribute [local go_sem high] Qp
mutual
def dR.l0:Nat→List (List ByteArray)→List ByteArray→Int→Int→Option ((List (List ByteArray)) × Int × Int)
  | 0,_,_,_,_=>none
  | k+1,x5,x15,x16,x17=>if x17 < x16 then (if 0≤x17 then (if x17 < (x15.length:Int) then ((strings_Cut.f (gI ByteArray.empty x15 x17) (⟨#[35]⟩:ByteArray)).bind fun Zg=>((strings_Split.f Zg.1 (⟨#[32]⟩:ByteArray)).bind fun t150=>(dR.l1 k x5 x17 ([]:List ByteArray) x15 x16 x17 t150 (t150.length:Int) 0))) else (none)) else (none)) else (some (x5,0,0))
def dR.l1:Nat→List (List ByteArray)→Int→List ByteArray→List ByteArray→Int→Int→List ByteArray→Int→Int→Option ((List (List ByteArray)) × Int × Int)
  | 0,_,_,_,_,_,_,_,_,_=>none
  | k+1,x5,x6,x8,x15,x16,x17,x29,x30,x31=>if x31 < x30 then (if 0≤x31 then (if x31 < (x29.length:Int) then (if (gI ByteArray.empty x29 x31).toList=([]:List UInt8) then (dR.l1 k x5 x6 x8 x15 x16 x17 x29 x30 (wrap64 (x31+1))) else ((vJ.f (gI ByteArray.empty x29 x31)).bind fun t157=>(if t157=true then (if x8.length < 8796093022208 then (dR.l1 k x5 x6 (x8++[gI ByteArray.empty x29 x31]) x15 x16 x17 x29 x30 (wrap64 (x31+1))) else (none)) else (some (([]:List (List ByteArray)),wrap64 (x6+1),4))))) else (none)) else (none)) else (if (x8.length:Int) > 0 then (if x5.length < 5864062014805 then (dR.l0 k (x5++[x8]) x15 x16 (wrap64 (x17+1))) else (none)) else (dR.l0 k x5 x15 x16 (wrap64 (x17+1))))
end
def dR.f (k:Nat) (a0:ByteArray):Option ((List (List ByteArray)) × Int × Int):=if (a0.size:Int) > 20000 then (some (([]:List (List ByteArray)),0,3)) else ((strings_Split.f a0 (⟨#[10]⟩:ByteArray)).bind fun t143=>(dR.l0 k ([]:List (List ByteArray)) t143 (t143.length:Int) 0))
theorem dR.gY:∀ k,(∀ y0 y1 y2 y3,dH (dR.l0 k y0 y1 y2 y3) (dR.l0 (k+1) y0 y1 y2 y3))∧(∀ y0 y1 y2 y3 y4 y5 y6 y7 y8,dH (dR.l1 k y0 y1 y2 y3 y4 y5 y6 y7 y8) (dR.l1 (k+1) y0 y1 y2 y3 y4 y5 y6 y7 y8))
  | 0=>⟨fun _ _ _ _ r h=>by simp [dR.l0] at h,fun _ _ _ _ _ _ _ _ _ r h=>by simp [dR.l1] at h⟩
  | k+1=>by
    obtain ⟨jK,ih1⟩:=dR.gY k
    refine ⟨?_,?_⟩
    · intro y0 y1 y2 y3
      unfold dR.l0
      repeat' first
      | (with_reducible exact jK _ _ _ _)
      | (with_reducible exact ih1 _ _ _ _ _ _ _ _ _)
      | (with_reducible exact dH.refl _)
      | (with_reducible exact dH.none _)
      | (with_reducible refine dH.ite ?_ ?_)
      | (with_reducible refine dH.bind ?_ (fun _=>?_))
      | exact jK _ _ _ _
      | exact ih1 _ _ _ _ _ _ _ _ _
      | exact dH.none _
      | refine dH.ite ?_ ?_
      | refine dH.bind ?_ (fun _=>?_)
    · intro y0 y1 y2 y3 y4 y5 y6 y7 y8
      unfold dR.l1
      repeat' first
      | (with_reducible exact jK _ _ _ _)
      | (with_reducible exact ih1 _ _ _ _ _ _ _ _ _)
      | (with_reducible exact dH.refl _)
      | (with_reducible exact dH.none _)
      | (with_reducible refine dH.ite ?_ ?_)
      | (with_reducible refine dH.bind ?_ (fun _=>?_))
      | exact jK _ _ _ _
      | exact ih1 _ _ _ _ _ _ _ _ _
      | exact dH.none _
      | refine dH.ite ?_ ?_
      | refine dH.bind ?_ (fun _=>?_)
theorem dR.mono:∀ a0 k,dH (dR.f k a0) (dR.f (k+1) a0):=by
  intro a0 k
  obtain ⟨jK,ih1⟩:=dR.gY k
  unfold dR.f
  repeat' first
      | (with_reducible exact jK _ _ _ _)
      | (with_reducible exact ih1 _ _ _ _ _ _ _ _ _)
      | (with_reducible exact dH.refl _)
      | (with_reducible exact dH.none _)
      | (with_reducible refine dH.ite ?_ ?_)
      | (with_reducible refine dH.bind ?_ (fun _=>?_))
      | exact jK _ _ _ _
      | exact ih1 _ _ _ _ _ _ _ _ _
      | exact dH.none _
      | refine dH.ite ?_ ?_
      | refine dH.bind ?_ (fun _=>?_)
set_option maxHeartbeats 8000000 in
set_option maxRecDepth 100000 in
theorem dR.calls (k:Nat) (a0:ByteArray) (r1:List (List ByteArray)) (r2:Int) (r3:Int) (w:World) (jM:Kd.C tu w tC lJ.length lJ) (h:dR.f k a0=some (r1,r2,r3)) :
    Calls Tryz.prog 29 #[.string a0] w fun e w'=>∃ FI:Value,e=.returned (.tuple #[FI,.int .i64 r2,.int .i64 r3])∧Kd.S (Kd.slice 9 Kd.string) 22 w' w.heap.size (fun _=>True) FI r1∧Below w.heap.size w w':=by
  have ry:=ae.mk jM
  clear jM
  have HB:=ae.mk (Below.refl w.heap.size w)
  have H:(if (a0.size:Int) > 20000 then (some (([]:List (List ByteArray)),0,3)) else ((strings_Split.f a0 (⟨#[10]⟩:ByteArray)).bind fun t143=>(dR.l0 k ([]:List (List ByteArray)) t143 (t143.length:Int) 0)))=some (r1,r2,r3):=h
  clear h
  by_cases c2:(a0.size:Int) > 20000
  · rw [if_pos c2] at H
    have sH:decide (20000 < (a0.size:Int))=true:=decide_eq_true c2
    have xO:decide (20000 < a0.size)=true:=decide_eq_true (by omega)
    clear c2
    simp only [Option.some.injEq,Prod.mk.injEq] at H
    obtain ⟨rfl,rfl,rfl⟩:=H
    go_enter Tryz.func29,Tryz.ntmps29
    go_wp2
    go_ret3
    exact ⟨_,by first|rfl|(simp [bH,bG] <;> rfl)|(simp [*,bH,bG] <;> rfl),by first|exact Kd.Dv _ _ _ _ _|exact Kd.DD _ _ _ _ _|exact Kd.Du _ _ _ _ _|exact Kd.Dw _ _ _ _ _|exact Kd.kP _ _ _ _ _,by repeat (first|(with_reducible first|exact HB.out|apply aj|apply af|apply ai)|exact HB.out)⟩
  · rw [if_neg c2] at H
    have sH:decide (20000 < (a0.size:Int))=false:=decide_eq_false c2
    have xO:decide (20000 < a0.size)=false:=decide_eq_false (by omega)
    clear c2
    replace H:=Option.bind_eq_some_iff.mp H
    obtain ⟨t143,DI,H⟩:=H
    replace H:(dR.l0 k ([]:List (List ByteArray)) t143 (t143.length:Int) 0)=some (r1,r2,r3):=H
    have A3:=ae.mk DI
    clear DI
    have H':=ae.mk H
    clear H
    go_enter Tryz.func29,Tryz.ntmps29
    go_wp2_with (first|((with_reducible refine bU (f:=49) rfl ?_);refine gy (some 15) rfl rfl Tryz.func49 (by kernel_rfl) rfl #[.string a0,.string (⟨#[10]⟩:ByteArray)] rfl (by (try simp only [List.map_toArray,List.map_cons,List.map_nil]);first|done|rfl|(simp only [List.length_drop,List.length_take];rfl)) ?_;(with_reducible refine (strings_Split.calls a0 (⟨#[10]⟩:ByteArray) t143 _ ?fD A3.out).mono ?_);(case fD=>repeat (first|exact ry.out|(with_reducible refine Kd.ed ?_ _)|(with_reducible refine Kd.dZ ?_ _)|(with_reducible refine Kd.fO ?_)));rintro e w4 ⟨aid,rfl,ho0,hb⟩;refine ⟨_,rfl,?_⟩;have di:=ae.mk (Kd.iM ho0 (bn (by repeat (first|(with_reducible first|exact HB.out|apply aj|apply af|apply ai)|exact HB.out))));have dm:=ae.mk (aQ (by repeat (first|(with_reducible first|exact HB.out|apply aj|apply af|apply ai)|exact HB.out)) hb);clear HB;have Ws:=di;have HB:=dm;clear di dm;(try clear hb);(try clear hb2);(try clear hk);(try clear hi);(try clear ho0);obtain ⟨Ao5,Oe,eo5⟩:=Kd.iW Ws.out;subst eo5))
    go_loopg [5,17] k (fun kq v5 v17 w'=>∃ (lh:List (List ByteArray)) (kS:Int),v17=.int .i64 kS∧ae (dR.l0 kq lh t143 (t143.length:Int) kS=some (r1,r2,r3))∧ae (kq≤k)∧ae (Kd.S (Kd.slice 9 Kd.string) 22 w' w.heap.size (fun k_=>some k_ ≠ ((.slice Ao5 t143.length Oe):Value).ownBlock) v5 lh)∧ae (Kd.R Kd.string 9 w' w.heap.size (fun _=>True) (.slice Ao5 t143.length Oe) t143)∧ae (Below w.heap.size w w'))
    case atStart=>exact ⟨(([]:List (List ByteArray))),(0),(by first|rfl|(simp;done)|(simp [*];done)),H',⟨Nat.le_refl _⟩,⟨by first|exact Kd.Dv _ _ _ _ _|exact Kd.DD _ _ _ _ _|exact Kd.Du _ _ _ _ _|exact Kd.Dw _ _ _ _ _|exact Kd.kP _ _ _ _ _⟩,⟨by (with_reducible repeat (first|apply Kd.dn|apply Kd.dA|apply Kd.dQ));exact Ws.out⟩,⟨by repeat (first|(with_reducible first|exact HB.out|apply aj|apply af|apply ai)|exact HB.out)⟩⟩
    case round =>
      clear H'
      try clear c2
      try clear sH
      try clear xO
      try clear p2
      try clear c4
      obtain ⟨lh,kS,rfl,HA,nZ,lQ,lM,HB⟩:=hrel
      cases gk with
      | zero=>exact absurd HA.out (by simp [dR.l0])
      | succ k1 =>
        have H:=HA.out
        clear HA
        simp only [dR.l0] at H
        by_cases c6:kS < (t143.length:Int)
        · rw [if_pos c6] at H
          have qW:decide (kS < (t143.length:Int))=true:=decide_eq_true c6
          clear c6
          by_cases c7:0≤kS
          · rw [if_pos c7] at H
            have nX:decide (0≤kS)=true:=decide_eq_true c7
            clear c7
            by_cases c8:kS < (t143.length:Int)
            · rw [if_pos c8] at H
              have tK:decide (kS < (t143.length:Int))=true:=decide_eq_true c8
              clear c8
              replace H:=Option.bind_eq_some_iff.mp H
              obtain ⟨⟨t147,t148,t149⟩,A90,H⟩:=H
              replace H:((strings_Split.f t147 (⟨#[32]⟩:ByteArray)).bind fun t150=>(dR.l1 k1 lh kS ([]:List ByteArray) t143 (t143.length:Int) kS t150 (t150.length:Int) 0))=some (r1,r2,r3):=H
              have A9:=ae.mk A90
              clear A90
              replace H:=Option.bind_eq_some_iff.mp H
              obtain ⟨t150,H8,H⟩:=H
              replace H:(dR.l1 k1 lh kS ([]:List ByteArray) t143 (t143.length:Int) kS t150 (t150.length:Int) 0)=some (r1,r2,r3):=H
              have Rj:=ae.mk H8
              clear H8
              have H':=ae.mk H
              clear H
              have Sm:0≤(kS:Int):=of_decide_eq_true (by first|(with_reducible assumption)|assumption)
              have Sj:kS < (t143.length:Int):=of_decide_eq_true (by first|(with_reducible assumption)|assumption)
              obtain ⟨xx,afK,SK⟩:=Kd.gB (Kd.iO lM.out).2.2 kS Sm Sj
              cases afK
              replace Sm:=eq_true Sm
              replace Sj:=eq_true Sj
              go_wp2_with (first|((with_reducible refine bU (f:=50) rfl ?_);refine gy (some 24) rfl rfl Tryz.func50 (by kernel_rfl) rfl #[.string (gI ByteArray.empty t143 kS),.string (⟨#[35]⟩:ByteArray)] rfl (by (try simp only [List.map_toArray,List.map_cons,List.map_nil]);first|done|rfl|(simp only [List.length_drop,List.length_take];rfl)) ?_;(with_reducible refine (strings_Cut.calls (gI ByteArray.empty t143 kS) (⟨#[35]⟩:ByteArray) t147 t148 t149 _ ?fD A9.out).mono ?_);(case fD=>repeat (first|exact (Kd.dF ry.out HB.out)|(with_reducible refine Kd.ed ?_ _)|(with_reducible refine Kd.dZ ?_ _)|(with_reducible refine Kd.fO ?_)));rintro e w11 ⟨rfl,hb⟩;refine ⟨_,rfl,?_⟩;have di:=ae.mk (Kd.wZ (by (with_reducible repeat (first|apply Kd.nJ|apply Kd.nI|apply Kd.qf));exact lQ.out) hb);have dm:=ae.mk (Kd.iF (by (with_reducible repeat (first|apply Kd.dn|apply Kd.dA|apply Kd.dQ));exact lM.out) hb);have dE:=ae.mk (aQ (by repeat (first|(with_reducible first|exact HB.out|apply aj|apply af|apply ai)|exact HB.out)) hb);clear lQ;clear lM;clear HB;have lQ:=di;have lM:=dm;have HB:=dE;clear di dm dE;(try clear hb);(try clear hb2);(try clear hk);(try clear hi))|((with_reducible refine bU (f:=49) rfl ?_);refine gy (some 29) rfl rfl Tryz.func49 (by kernel_rfl) rfl #[.string t147,.string (⟨#[32]⟩:ByteArray)] rfl (by (try simp only [List.map_toArray,List.map_cons,List.map_nil]);first|done|rfl|(simp only [List.length_drop,List.length_take];rfl)) ?_;(with_reducible refine (strings_Split.calls t147 (⟨#[32]⟩:ByteArray) t150 _ ?fD Rj.out).mono ?_);(case fD=>repeat (first|exact (Kd.dF ry.out HB.out)|(with_reducible refine Kd.ed ?_ _)|(with_reducible refine Kd.dZ ?_ _)|(with_reducible refine Kd.fO ?_)));rintro e w12 ⟨aic,rfl,ho0,hb⟩;refine ⟨_,rfl,?_⟩;have di:=ae.mk (Kd.QQ (by (with_reducible repeat (first|apply Kd.nJ|apply Kd.nI|apply Kd.qf));exact lQ.out) (Kd.jX ho0) hb);have dm:=ae.mk (Kd.oz (by (with_reducible repeat (first|apply Kd.dn|apply Kd.dA|apply Kd.dQ));exact lM.out) (Kd.jX ho0) hb);have dE:=ae.mk (Kd.iM (Kd.uT ho0 (Kd.yD (by (with_reducible repeat (first|apply Kd.dn|apply Kd.dA|apply Kd.dQ));exact lM.out))) (bn (by repeat (first|(with_reducible first|exact HB.out|apply aj|apply af|apply ai)|exact HB.out))));have gq:=ae.mk (aQ (by repeat (first|(with_reducible first|exact HB.out|apply aj|apply af|apply ai)|exact HB.out)) hb);clear lQ;clear lM;clear HB;have lQ:=di;have lM:=dm;have Wp:=dE;have HB:=gq;clear di dm dE gq;(try clear hb);(try clear hb2);(try clear hk);(try clear hi);(try clear ho0);obtain ⟨Jc,BU,afC⟩:=Kd.iW Wp.out;subst afC))
              go_loopg [8,31] k1 (fun kq v8 v31 w'=>∃ (tY:List ByteArray) (jG:Int),v31=.int .i64 jG∧ae (dR.l1 kq lh kS tY t143 (t143.length:Int) kS t150 (t150.length:Int) jG=some (r1,r2,r3))∧ae (kq≤k1)∧ae (Kd.S (Kd.slice 9 Kd.string) 22 w' w.heap.size (fun k_=>some k_ ≠ (v8:Value).ownBlock∧some k_ ≠ ((.slice (some xx) t143.length Oe):Value).ownBlock∧some k_ ≠ ((.slice Jc t150.length BU):Value).ownBlock) u5 lh)∧ae (Kd.R Kd.string 9 w' w.heap.size (fun k_=>some k_ ≠ ((.slice (some xx) t143.length Oe):Value).ownBlock∧some k_ ≠ ((.slice Jc t150.length BU):Value).ownBlock) v8 tY)∧ae (Kd.R Kd.string 9 w' w.heap.size (fun k_=>some k_ ≠ (v8:Value).ownBlock∧some k_ ≠ ((.slice Jc t150.length BU):Value).ownBlock) (.slice (some xx) t143.length Oe) t143)∧ae (Kd.R Kd.string 9 w' w.heap.size (fun k_=>some k_ ≠ (v8:Value).ownBlock∧some k_ ≠ ((.slice (some xx) t143.length Oe):Value).ownBlock) (.slice Jc t150.length BU) t150)∧ae (Below w.heap.size w w'))
              case atStart=>exact ⟨(([]:List ByteArray)),(0),(by first|rfl|(simp;done)|(simp [*];done)),H',⟨Nat.le_refl _⟩,⟨by (with_reducible repeat (first|apply Kd.nJ|apply Kd.nI|apply Kd.qf));exact Kd.wE lQ.out (fun _ hk=>⟨(by simp [Value.ownBlock]),⟨hk.1,hk.2⟩⟩)⟩,⟨by first|exact Kd.kP _ _ _ _ _|exact Kd.DD _ _ _ _ _|exact Kd.Du _ _ _ _ _|exact Kd.Dw _ _ _ _ _|exact Kd.Dv _ _ _ _ _⟩,⟨by (with_reducible repeat (first|apply Kd.dn|apply Kd.dA|apply Kd.dQ));exact Kd.fJ lM.out (fun _ hk=>⟨(by simp [Value.ownBlock]),hk.2⟩)⟩,⟨by (with_reducible repeat (first|apply Kd.dn|apply Kd.dA|apply Kd.dQ));exact Kd.fJ Wp.out (fun _ hk=>⟨(by simp [Value.ownBlock]),hk.2⟩)⟩,⟨by repeat (first|(with_reducible first|exact HB.out|apply aj|apply af|apply ai)|exact HB.out)⟩⟩
              case round =>
                clear H'
                try clear p1
                try clear q1
                try clear hx1
                try clear c2
                try clear sH
                try clear xO
                try clear p2
                try clear c4
                try clear c5
                try clear c6
                try clear qW
                try clear c7
                try clear nX
                try clear c8
                try clear tK
                try clear SK
                try clear Sm
                try clear p2
                try clear Sj
                obtain ⟨tY,jG,rfl,HA,xB,lQ,yF,lM,qg,HB⟩:=hrel
                cases gk with
                | zero=>exact absurd HA.out (by simp [dR.l1])
                | succ k2 =>
                  have H:=HA.out
                  clear HA
                  simp only [dR.l1] at H
                  by_cases c14:jG < (t150.length:Int)
                  · rw [if_pos c14] at H
                    have yB:decide (jG < (t150.length:Int))=true:=decide_eq_true c14
                    clear c14
                    by_cases c15:0≤jG
                    · rw [if_pos c15] at H
                      have wo:decide (0≤jG)=true:=decide_eq_true c15
                      clear c15
                      by_cases c16:jG < (t150.length:Int)
                      · rw [if_pos c16] at H
                        have Ha:decide (jG < (t150.length:Int))=true:=decide_eq_true c16
                        clear c16
                        by_cases c17:(gI ByteArray.empty t150 jG).toList=([]:List UInt8)
                        · rw [if_pos c17] at H
                          have Dp:((gI ByteArray.empty t150 jG).toList == ([]:List UInt8))=true:=beq_iff_eq.mpr c17
                          have LM:((gI ByteArray.empty t150 jG).toList != ([]:List UInt8))=false:=bne_eq_false_iff_eq.mpr c17
                          clear c17
                          have H':=ae.mk H
                          clear H
                          have Ar:0≤(jG:Int):=of_decide_eq_true (by first|(with_reducible assumption)|assumption)
                          have Aj:jG < (t150.length:Int):=of_decide_eq_true (by first|(with_reducible assumption)|assumption)
                          obtain ⟨Hr,Qs,JQ⟩:=Kd.gB (Kd.iO qg.out).2.2 jG Ar Aj
                          cases Qs
                          replace Ar:=eq_true Ar
                          replace Aj:=eq_true Aj
                          go_wp2
                          go_roundg k2
                          case measure=>have:=nZ.out;have:=xB.out;omega
                          case rel=>exact ⟨(tY),(wrap64 (jG+1)),(by first|rfl|(simp;done)|(simp [*];done)),H',⟨by have:=nZ.out;have:=xB.out;omega⟩,⟨by (with_reducible repeat (first|apply Kd.nJ|apply Kd.nI|apply Kd.qf));exact lQ.out⟩,⟨by (with_reducible repeat (first|apply Kd.dn|apply Kd.dA|apply Kd.dQ));exact yF.out⟩,⟨by (with_reducible repeat (first|apply Kd.dn|apply Kd.dA|apply Kd.dQ));exact lM.out⟩,⟨by (with_reducible repeat (first|apply Kd.dn|apply Kd.dA|apply Kd.dQ));exact qg.out⟩,⟨by repeat (first|(with_reducible first|exact HB.out|apply aj|apply af|apply ai)|exact HB.out)⟩⟩
                        · rw [if_neg c17] at H
                          have Dp:((gI ByteArray.empty t150 jG).toList == ([]:List UInt8))=false:=beq_eq_false_iff_ne.mpr c17
                          have LM:((gI ByteArray.empty t150 jG).toList != ([]:List UInt8))=true:=bne_iff_ne.mpr c17
                          replace H:=Option.bind_eq_some_iff.mp H
                          obtain ⟨t157,aax,H⟩:=H
                          replace H:(if t157=true then (if tY.length < 8796093022208 then (dR.l1 k2 lh kS (tY++[gI ByteArray.empty t150 jG]) t143 (t143.length:Int) kS t150 (t150.length:Int) (wrap64 (jG+1))) else (none)) else (some (([]:List (List ByteArray)),wrap64 (kS+1),4)))=some (r1,r2,r3):=H
                          have A18:=ae.mk aax
                          clear aax
                          by_cases c19:t157=true
                          · subst c19
                            have H1:(if tY.length < 8796093022208 then (dR.l1 k2 lh kS (tY++[gI ByteArray.empty t150 jG]) t143 (t143.length:Int) kS t150 (t150.length:Int) (wrap64 (jG+1))) else (none))=some (r1,r2,r3):=by rw [if_pos rfl] at H;exact H
                            clear H
                            have H:=H1
                            clear H1
                            by_cases c20:tY.length < 8796093022208
                            · rw [if_pos c20] at H
                              have ZH:=ae.mk c20
                              clear c20
                              obtain ⟨y158,hy158⟩:∃ y_:List ByteArray,y_=(tY++[gI ByteArray.empty t150 jG]):=⟨_,rfl⟩
                              replace H:(dR.l1 k2 lh kS y158 t143 (t143.length:Int) kS t150 (t150.length:Int) (wrap64 (jG+1)))=some (r1,r2,r3):=by first|(rw [hy158];with_reducible exact H)|(have nR:=(Option.bind_some _ _).symm.trans H;rw [hy158];with_reducible exact nR)|(have nR:=(Option.bind_some _ _).symm.trans H;with_reducible exact nR)|with_reducible exact H|(rw [hy158];exact H)|exact H
                              have Zx:=ae.mk hy158
                              clear hy158
                              have H':=ae.mk H
                              clear H
                              have Ar:0≤(jG:Int):=of_decide_eq_true (by first|(with_reducible assumption)|assumption)
                              have Aj:jG < (t150.length:Int):=of_decide_eq_true (by first|(with_reducible assumption)|assumption)
                              obtain ⟨Hr,Qs,JQ⟩:=Kd.gB (Kd.iO qg.out).2.2 jG Ar Aj
                              cases Qs
                              replace Ar:=eq_true Ar
                              replace Aj:=eq_true Aj
                              go_wp2_with (first|((with_reducible refine bU (f:=51) rfl ?_);refine gy (some 40) rfl rfl Tryz.func51 (by kernel_rfl) rfl #[.string (gI ByteArray.empty t150 jG)] rfl (by (try simp only [List.map_toArray,List.map_cons,List.map_nil]);first|done|rfl|(simp only [List.length_drop,List.length_take];rfl)) ?_;(with_reducible refine (vJ.calls (gI ByteArray.empty t150 jG) true _ A18.out).mono ?_);rintro e VF ⟨rfl,hb⟩;refine ⟨_,rfl,?_⟩;have di:=ae.mk (Kd.wZ (by (with_reducible repeat (first|apply Kd.nJ|apply Kd.nI|apply Kd.qf));exact lQ.out) hb);have dm:=ae.mk (Kd.iF (by (with_reducible repeat (first|apply Kd.dn|apply Kd.dA|apply Kd.dQ));exact yF.out) hb);have dE:=ae.mk (Kd.iF (by (with_reducible repeat (first|apply Kd.dn|apply Kd.dA|apply Kd.dQ));exact lM.out) hb);have gq:=ae.mk (Kd.iF (by (with_reducible repeat (first|apply Kd.dn|apply Kd.dA|apply Kd.dQ));exact qg.out) hb);have jC:=ae.mk (aQ (by repeat (first|(with_reducible first|exact HB.out|apply aj|apply af|apply ai)|exact HB.out)) hb);clear lQ;clear yF;clear lM;clear qg;clear HB;have lQ:=di;have yF:=dm;have lM:=dE;have qg:=gq;have HB:=jC;clear di dm dE gq jC;(try clear hb);(try clear hb2);(try clear hk);(try clear hi))|((with_reducible refine kC (b:=.append) (xs:=#[.tmp 44,.tmp 46]) rfl ?_);at_builtin;refine Kd.su Kd.string (w0:=w) w.heap.size rfl (.tmp 44) (.tmp 46) 22 9 (.string ⟨#[]⟩) 16 rfl Tryz.underlying22 info9 rfl (by decide) (by omega) u8 tY (gI ByteArray.empty t150 jG) [.string (gI ByteArray.empty t150 jG)] (fun k_=>some k_ ≠ (.slice (some xx) t143.length Oe:Value).ownBlock∧some k_ ≠ (.slice (some Hr) t150.length BU:Value).ownBlock) (fun _=>False) rfl rfl ?aP (fun _ hk=>hk.elim) ?aF ?aO ?aB ?aS ?aL ?_;(case aP=>exact rfl);(case aB=>exact (by repeat (first|(with_reducible first|exact HB.out|apply aj|apply af|apply ai)|exact HB.out)));(case aF=>exact (fun k_ hk=>⟨Kd.fresh' (Kd.yD (by (with_reducible repeat (first|apply Kd.dn|apply Kd.dA|apply Kd.dQ));exact lM.out)) k_ hk,Kd.fresh' (Kd.yD (by (with_reducible repeat (first|apply Kd.dn|apply Kd.dA|apply Kd.dQ));exact qg.out)) k_ hk⟩));(case aO=>exact (by (with_reducible repeat (first|apply Kd.dn|apply Kd.dA|apply Kd.dQ));exact yF.out));(case aS=>exact (bn (by repeat (first|(with_reducible first|exact HB.out|apply aj|apply af|apply ai)|exact HB.out))));(case aL=>have:=ZH.out;omega);intro v159 Oi ho hb hg hat;rw [← Zx.out] at ho;have di:=ae.mk (Kd.Vx (ok:=(fun k_=>some k_ ≠ (.slice (some xx) t143.length Oe:Value).ownBlock∧some k_ ≠ (.slice (some Hr) t150.length BU:Value).ownBlock)) (by (with_reducible repeat (first|apply Kd.nJ|apply Kd.nI|apply Kd.qf));exact Kd.wE lQ.out (fun _ hk=>⟨⟨hk.2.1,hk.2.2⟩,hk.1⟩)) hg hat);have dm:=ae.mk (Kd.Fg (ok:=(fun k_=>some k_ ≠ (.slice (some Hr) t150.length BU:Value).ownBlock)) (by (with_reducible repeat (first|apply Kd.dn|apply Kd.dA|apply Kd.dQ));exact Kd.fJ lM.out (fun _ hk=>⟨hk.2,hk.1⟩)) hg hat);have dE:=ae.mk (Kd.Fg (ok:=(fun k_=>some k_ ≠ (.slice (some xx) t143.length Oe:Value).ownBlock)) (by (with_reducible repeat (first|apply Kd.dn|apply Kd.dA|apply Kd.dQ));exact Kd.fJ qg.out (fun _ hk=>⟨hk.2,hk.1⟩)) hg hat);have gq:=ae.mk (hb);have jC:=ae.mk (ho);clear lQ;clear lM;clear qg;clear HB;clear yF;have lQ:=di;have lM:=dm;have qg:=dE;have HB:=gq;have ZW:=jC;clear di dm dE gq jC;clear ho hb hg hat))
                              go_roundg k2
                              case measure=>have:=nZ.out;have:=xB.out;omega
                              case rel=>exact ⟨(y158),(wrap64 (jG+1)),(by first|rfl|(simp;done)|(simp [*];done)),H',⟨by have:=nZ.out;have:=xB.out;omega⟩,⟨by (with_reducible repeat (first|apply Kd.nJ|apply Kd.nI|apply Kd.qf));exact Kd.wE lQ.out (fun _ hk=>⟨hk.2,⟨hk.1.1,hk.1.2⟩⟩)⟩,⟨by (with_reducible repeat (first|apply Kd.dn|apply Kd.dA|apply Kd.dQ));exact ZW.out⟩,⟨by (with_reducible repeat (first|apply Kd.dn|apply Kd.dA|apply Kd.dQ));exact Kd.fJ lM.out (fun _ hk=>⟨hk.2,hk.1⟩)⟩,⟨by (with_reducible repeat (first|apply Kd.dn|apply Kd.dA|apply Kd.dQ));exact Kd.fJ qg.out (fun _ hk=>⟨hk.2,hk.1⟩)⟩,⟨by repeat (first|(with_reducible first|exact HB.out|apply aj|apply af|apply ai)|exact HB.out)⟩⟩
                            · rw [if_neg c20] at H
                              exact absurd H (by simp)
                          · replace c19:=Bool.eq_false_iff.mpr c19
                            subst c19
                            have H1:(some (([]:List (List ByteArray)),wrap64 (kS+1),4))=some (r1,r2,r3):=by rw [if_neg (show ¬ (false=true) by decide)] at H;exact H
                            clear H
                            have H:=H1
                            clear H1
                            simp only [Option.some.injEq,Prod.mk.injEq] at H
                            obtain ⟨rfl,rfl,rfl⟩:=H
                            have Ar:0≤(jG:Int):=of_decide_eq_true (by first|(with_reducible assumption)|assumption)
                            have Aj:jG < (t150.length:Int):=of_decide_eq_true (by first|(with_reducible assumption)|assumption)
                            obtain ⟨Hr,Qs,JQ⟩:=Kd.gB (Kd.iO qg.out).2.2 jG Ar Aj
                            cases Qs
                            replace Ar:=eq_true Ar
                            replace Aj:=eq_true Aj
                            go_wp2_with (first|((with_reducible refine bU (f:=51) rfl ?_);refine gy (some 40) rfl rfl Tryz.func51 (by kernel_rfl) rfl #[.string (gI ByteArray.empty t150 jG)] rfl (by (try simp only [List.map_toArray,List.map_cons,List.map_nil]);first|done|rfl|(simp only [List.length_drop,List.length_take];rfl)) ?_;(with_reducible refine (vJ.calls (gI ByteArray.empty t150 jG) false _ A18.out).mono ?_);rintro e zI ⟨rfl,hb⟩;refine ⟨_,rfl,?_⟩;have di:=ae.mk (Kd.wZ (by (with_reducible repeat (first|apply Kd.nJ|apply Kd.nI|apply Kd.qf));exact lQ.out) hb);have dm:=ae.mk (Kd.iF (by (with_reducible repeat (first|apply Kd.dn|apply Kd.dA|apply Kd.dQ));exact yF.out) hb);have dE:=ae.mk (Kd.iF (by (with_reducible repeat (first|apply Kd.dn|apply Kd.dA|apply Kd.dQ));exact lM.out) hb);have gq:=ae.mk (Kd.iF (by (with_reducible repeat (first|apply Kd.dn|apply Kd.dA|apply Kd.dQ));exact qg.out) hb);have jC:=ae.mk (aQ (by repeat (first|(with_reducible first|exact HB.out|apply aj|apply af|apply ai)|exact HB.out)) hb);clear lQ;clear yF;clear lM;clear qg;clear HB;have lQ:=di;have yF:=dm;have lM:=dE;have qg:=gq;have HB:=jC;clear di dm dE gq jC;(try clear hb);(try clear hb2);(try clear hk);(try clear hi)))
                            go_ret3
                            exact ⟨_,by first|rfl|(simp [bH,bG] <;> rfl)|(simp [*,bH,bG] <;> rfl),by first|exact Kd.Dv _ _ _ _ _|exact Kd.DD _ _ _ _ _|exact Kd.Du _ _ _ _ _|exact Kd.Dw _ _ _ _ _|exact Kd.kP _ _ _ _ _,by repeat (first|(with_reducible first|exact HB.out|apply aj|apply af|apply ai)|exact HB.out)⟩
                      · rw [if_neg c16] at H
                        exact absurd H (by simp)
                    · rw [if_neg c15] at H
                      exact absurd H (by simp)
                  · rw [if_neg c14] at H
                    have yB:decide (jG < (t150.length:Int))=false:=decide_eq_false c14
                    clear c14
                    by_cases c24:(tY.length:Int) > 0
                    · rw [if_pos c24] at H
                      have Y6:decide (0 < (tY.length:Int))=true:=decide_eq_true c24
                      have Y5:decide (0 < tY.length)=true:=decide_eq_true (by omega)
                      clear c24
                      by_cases c25:lh.length < 5864062014805
                      · rw [if_pos c25] at H
                        have ZG:=ae.mk c25
                        clear c25
                        obtain ⟨y153,hy153⟩:∃ y_:List (List ByteArray),y_=(lh++[tY]):=⟨_,rfl⟩
                        replace H:(dR.l0 k2 y153 t143 (t143.length:Int) (wrap64 (kS+1)))=some (r1,r2,r3):=by first|(rw [hy153];with_reducible exact H)|(have nR:=(Option.bind_some _ _).symm.trans H;rw [hy153];with_reducible exact nR)|(have nR:=(Option.bind_some _ _).symm.trans H;with_reducible exact nR)|with_reducible exact H|(rw [hy153];exact H)|exact H
                        have Zy:=ae.mk hy153
                        clear hy153
                        have H':=ae.mk H
                        clear H
                        obtain ⟨H7,G9,IY⟩:=Kd.iW yF.out
                        subst IY
                        go_wp2_with (first|((with_reducible refine kC (b:=.append) (xs:=#[.tmp 52,.tmp 54]) rfl ?_);at_builtin;refine Kd.QR (Kd.slice 9 Kd.string) (w0:=w) w.heap.size rfl (.tmp 52) (.tmp 54) 43 22 (.slice none 0 0) 24 rfl Tryz.underlying43 info22 rfl (by decide) (by omega) u5 lh tY [.slice H7 tY.length G9] (fun k_=>some k_ ≠ (.slice (some xx) t143.length Oe:Value).ownBlock∧some k_ ≠ (.slice Jc t150.length BU:Value).ownBlock) (fun k_=>some k_=(.slice H7 tY.length G9:Value).ownBlock) rfl rfl ?aP (fun k_ hk_=>((Kd.fJ (ok':=fun k_=>((fun k_=>some k_ ≠ (.slice (some xx) t143.length Oe:Value).ownBlock∧some k_ ≠ (.slice Jc t150.length BU:Value).ownBlock)) k_∧some k_ ≠ (u5:Value).ownBlock) (Kd.jR (yF.out) (Kd.zO lQ.out) (by decide)) (fun k_ hk=>⟨⟨hk.1.1,hk.1.2⟩,hk.2⟩))).1 k_ hk_.symm) ?aF ?aO ?aB ?aS ?aL ?_;(case aP=>exact Kd.ZC (Kd.fJ (Kd.L6 rfl (Kd.fJ (ok':=fun k_=>((fun k_=>some k_ ≠ (.slice (some xx) t143.length Oe:Value).ownBlock∧some k_ ≠ (.slice Jc t150.length BU:Value).ownBlock)) k_∧some k_ ≠ (u5:Value).ownBlock) (Kd.jR (yF.out) (Kd.zO lQ.out) (by decide)) (fun k_ hk=>⟨⟨hk.1.1,hk.1.2⟩,hk.2⟩))) (fun _ h_=>h_)));(case aB=>exact (by repeat (first|(with_reducible first|exact HB.out|apply aj|apply af|apply ai)|exact HB.out)));(case aF=>exact (fun k_ hk=>⟨Kd.fresh' (Kd.yD (by (with_reducible repeat (first|apply Kd.dn|apply Kd.dA|apply Kd.dQ));exact lM.out)) k_ hk,Kd.fresh' (Kd.yD (by (with_reducible repeat (first|apply Kd.dn|apply Kd.dA|apply Kd.dQ));exact qg.out)) k_ hk⟩));(case aO=>exact (by (with_reducible repeat (first|apply Kd.nJ|apply Kd.nI|apply Kd.qf));exact Kd.wE lQ.out (fun k_ hk=>⟨⟨hk.2.1,hk.2.2⟩,fun e_=>hk.1 e_⟩)));(case aS=>exact (bn (by repeat (first|(with_reducible first|exact HB.out|apply aj|apply af|apply ai)|exact HB.out))));(case aL=>have:=ZG.out;omega);intro v154 w27 ho hb hg hat;rw [← Zy.out] at ho;have di:=ae.mk (Kd.zQ (by (with_reducible repeat (first|apply Kd.dn|apply Kd.dA|apply Kd.dQ));exact lM.out) (Kd.zO (by (with_reducible repeat (first|apply Kd.nJ|apply Kd.nI|apply Kd.qf));exact lQ.out)) (by decide) hg);have dm:=ae.mk (Kd.zQ (by (with_reducible repeat (first|apply Kd.dn|apply Kd.dA|apply Kd.dQ));exact qg.out) (Kd.zO (by (with_reducible repeat (first|apply Kd.nJ|apply Kd.nI|apply Kd.qf));exact lQ.out)) (by decide) hg);have dE:=ae.mk (hb);have gq:=ae.mk (ho);clear lM;clear qg;clear HB;clear lQ;clear yF;have lM:=di;have qg:=dm;have HB:=dE;have ZX:=gq;clear di dm dE gq;clear ho hb hg hat))
                        go_roundg k2
                        case measure=>have:=nZ.out;have:=xB.out;omega
                        case rel=>exact ⟨(y153),(wrap64 (kS+1)),(by first|rfl|(simp;done)|(simp [*];done)),H',⟨by have:=nZ.out;have:=xB.out;omega⟩,⟨by (with_reducible repeat (first|apply Kd.nJ|apply Kd.nI|apply Kd.qf));exact Kd.wE ZX.out (fun _ hk=>hk.1)⟩,⟨by (with_reducible repeat (first|apply Kd.dn|apply Kd.dA|apply Kd.dQ));exact Kd.fJ lM.out (fun _ hk=>trivial)⟩,⟨by repeat (first|(with_reducible first|exact HB.out|apply aj|apply af|apply ai)|exact HB.out)⟩⟩
                      · rw [if_neg c25] at H
                        exact absurd H (by simp)
                    · rw [if_neg c24] at H
                      have Y6:decide (0 < (tY.length:Int))=false:=decide_eq_false c24
                      have Y5:decide (0 < tY.length)=false:=decide_eq_false (by omega)
                      clear c24
                      have H':=ae.mk H
                      clear H
                      obtain ⟨ai9,aiV,afv⟩:=Kd.iW yF.out
                      subst afv
                      go_wp2
                      go_roundg k2
                      case measure=>have:=nZ.out;have:=xB.out;omega
                      case rel=>exact ⟨(lh),(wrap64 (kS+1)),(by first|rfl|(simp;done)|(simp [*];done)),H',⟨by have:=nZ.out;have:=xB.out;omega⟩,⟨by (with_reducible repeat (first|apply Kd.nJ|apply Kd.nI|apply Kd.qf));exact Kd.wE lQ.out (fun _ hk=>hk.2.1)⟩,⟨by (with_reducible repeat (first|apply Kd.dn|apply Kd.dA|apply Kd.dQ));exact Kd.fJ lM.out (fun _ hk=>trivial)⟩,⟨by repeat (first|(with_reducible first|exact HB.out|apply aj|apply af|apply ai)|exact HB.out)⟩⟩
            · rw [if_neg c8] at H
              exact absurd H (by simp)
          · rw [if_neg c7] at H
            exact absurd H (by simp)
        · rw [if_neg c6] at H
          have qW:decide (kS < (t143.length:Int))=false:=decide_eq_false c6
          clear c6
          simp only [Option.some.injEq,Prod.mk.injEq] at H
          obtain ⟨rfl,rfl,rfl⟩:=H
          go_wp2
          go_ret3
          exact ⟨_,by first|rfl|(simp [bH,bG] <;> rfl)|(simp [*,bH,bG] <;> rfl),by (with_reducible repeat (first|apply Kd.nJ|apply Kd.nI|apply Kd.qf));exact Kd.wE lQ.out (fun _ hk=>trivial),by repeat (first|(with_reducible first|exact HB.out|apply aj|apply af|apply ai)|exact HB.out)⟩
def stringslite_HasSuffix.f (a0:ByteArray) (a1:ByteArray):Option (Bool):=if (a0.size:Int) ≥ (a1.size:Int) then (if 0≤(wrap64 ((a0.size:Int) - (a1.size:Int))) then (if (wrap64 ((a0.size:Int) - (a1.size:Int)))≤(a0.size:Int) then (some ((a0.extract ((wrap64 ((a0.size:Int) - (a1.size:Int))):Int).toNat a0.size).toList == a1.toList)) else (none)) else (none)) else (some false)
set_option maxHeartbeats 8000000 in
set_option maxRecDepth 100000 in
theorem stringslite_HasSuffix.calls (a0:ByteArray) (a1:ByteArray) (r:Bool) (w:World) (h:stringslite_HasSuffix.f a0 a1=some r) :
    Calls Tryz.prog 62 #[.string a0,.string a1] w fun e w'=>e=.returned (.bool r)∧bC w w':=by
  have H:(if (a0.size:Int) ≥ (a1.size:Int) then (if 0≤(wrap64 ((a0.size:Int) - (a1.size:Int))) then (if (wrap64 ((a0.size:Int) - (a1.size:Int)))≤(a0.size:Int) then (some ((a0.extract ((wrap64 ((a0.size:Int) - (a1.size:Int))):Int).toNat a0.size).toList == a1.toList)) else (none)) else (none)) else (some false))=some r:=h
  clear h
  by_cases c3:(a0.size:Int) ≥ (a1.size:Int)
  · rw [if_pos c3] at H
    have qo:decide ((a1.size:Int)≤(a0.size:Int))=true:=decide_eq_true c3
    have xN:decide (a1.size≤a0.size)=true:=decide_eq_true (Int.ofNat_le.mp c3)
    clear c3
    obtain ⟨VP,SN⟩:∃ j_:Int,(wrap64 ((a0.size:Int) - (a1.size:Int)))=j_:=⟨_,rfl⟩
    replace H:(if 0≤(VP) then (if (VP)≤(a0.size:Int) then (some ((a0.extract ((VP):Int).toNat a0.size).toList == a1.toList)) else (none)) else (none))=some r:=by first|(rw [SN] at H;exact H)|(simp only [SN] at H ⊢;exact H)
    have ag6:(IntKind.i64.wrap ((a0.size:Int) - (a1.size:Int)))=VP:=(aI _).trans SN
    by_cases c5:0≤(VP)
    · rw [if_pos c5] at H
      have xm:=eq_true c5
      have Fa:decide (0≤(VP))=true:=decide_eq_true c5
      clear c5
      by_cases c6:(VP)≤(a0.size:Int)
      · rw [if_pos c6] at H
        have qW:=eq_true c6
        have yR:decide ((VP)≤(a0.size:Int))=true:=decide_eq_true c6
        clear c6
        obtain rfl:=Option.some.inj H
        go_enter Tryz.func62,Tryz.ntmps62
        go_wp2
        go_ret
        exact ⟨by first|rfl|(simp;done)|(simp only [← SN] <;> (first|rfl|simp))|(simp [*];done),by repeat (first|exact bC.refl _|apply bC.step)⟩
      · rw [if_neg c6] at H
        exact absurd H (by simp)
    · rw [if_neg c5] at H
      exact absurd H (by simp)
  · rw [if_neg c3] at H
    have qo:decide ((a1.size:Int)≤(a0.size:Int))=false:=decide_eq_false c3
    have xN:decide (a1.size≤a0.size)=false:=decide_eq_false (fun h=>c3 (Int.ofNat_le.mpr h))
    clear c3
    obtain rfl:=Option.some.inj H
    go_enter Tryz.func62,Tryz.ntmps62
    go_wp2
    go_ret
    exact ⟨by first|rfl|(simp;done)|(simp [*];done),by repeat (first|exact bC.refl _|apply bC.step)⟩
def stringslite_TrimSuffix.f (a0:ByteArray) (a1:ByteArray):Option (ByteArray):=(stringslite_HasSuffix.f a0 a1).bind fun t161=>(if t161=true then (if 0≤(wrap64 ((a0.size:Int) - (a1.size:Int))) then (if (wrap64 ((a0.size:Int) - (a1.size:Int)))≤(a0.size:Int) then (some (a0.extract 0 ((wrap64 ((a0.size:Int) - (a1.size:Int))):Int).toNat)) else (none)) else (none)) else (some a0))
set_option maxHeartbeats 8000000 in
set_option maxRecDepth 100000 in
theorem stringslite_TrimSuffix.calls (a0:ByteArray) (a1:ByteArray) (r:ByteArray) (w:World) (h:stringslite_TrimSuffix.f a0 a1=some r) :
    Calls Tryz.prog 52 #[.string a0,.string a1] w fun e w'=>e=.returned (.string r)∧bC w w':=by
  have H:((stringslite_HasSuffix.f a0 a1).bind fun t161=>(if t161=true then (if 0≤(wrap64 ((a0.size:Int) - (a1.size:Int))) then (if (wrap64 ((a0.size:Int) - (a1.size:Int)))≤(a0.size:Int) then (some (a0.extract 0 ((wrap64 ((a0.size:Int) - (a1.size:Int))):Int).toNat)) else (none)) else (none)) else (some a0)))=some r:=h
  clear h
  replace H:=Option.bind_eq_some_iff.mp H
  obtain ⟨t161,DI,H⟩:=H
  replace H:(if t161=true then (if 0≤(wrap64 ((a0.size:Int) - (a1.size:Int))) then (if (wrap64 ((a0.size:Int) - (a1.size:Int)))≤(a0.size:Int) then (some (a0.extract 0 ((wrap64 ((a0.size:Int) - (a1.size:Int))):Int).toNat)) else (none)) else (none)) else (some a0))=some r:=H
  have A3:=ae.mk DI
  clear DI
  by_cases c4:t161=true
  · subst c4
    have H1:(if 0≤(wrap64 ((a0.size:Int) - (a1.size:Int))) then (if (wrap64 ((a0.size:Int) - (a1.size:Int)))≤(a0.size:Int) then (some (a0.extract 0 ((wrap64 ((a0.size:Int) - (a1.size:Int))):Int).toNat)) else (none)) else (none))=some r:=by rw [if_pos rfl] at H;exact H
    clear H
    have H:=H1
    clear H1
    obtain ⟨VO,Pj⟩:∃ j_:Int,(wrap64 ((a0.size:Int) - (a1.size:Int)))=j_:=⟨_,rfl⟩
    replace H:(if 0≤(VO) then (if (VO)≤(a0.size:Int) then (some (a0.extract 0 ((VO):Int).toNat)) else (none)) else (none))=some r:=by first|(rw [Pj] at H;exact H)|(simp only [Pj] at H ⊢;exact H)
    (try rw [Pj] at A3)
    have ag5:(IntKind.i64.wrap ((a0.size:Int) - (a1.size:Int)))=VO:=(aI _).trans Pj
    by_cases c6:0≤(VO)
    · rw [if_pos c6] at H
      have qW:=eq_true c6
      have yR:decide (0≤(VO))=true:=decide_eq_true c6
      clear c6
      by_cases c7:(VO)≤(a0.size:Int)
      · rw [if_pos c7] at H
        have nX:=eq_true c7
        have vY:decide ((VO)≤(a0.size:Int))=true:=decide_eq_true c7
        clear c7
        obtain rfl:=Option.some.inj H
        go_enter Tryz.func52,Tryz.ntmps52
        go_wp2_with (first|((with_reducible refine bU (f:=62) rfl ?_);refine gy (some 7) rfl rfl Tryz.func62 (by kernel_rfl) rfl #[.string a0,.string a1] rfl (by (try simp only [List.map_toArray,List.map_cons,List.map_nil]);first|done|rfl|(simp only [List.length_drop,List.length_take];rfl)) ?_;(with_reducible refine (stringslite_HasSuffix.calls a0 a1 true _ A3.out).mono ?_);rintro e w' ⟨rfl,⟨nd,rfl⟩⟩;refine ⟨_,rfl,?_⟩))
        go_ret
        exact ⟨by first|rfl|(simp;done)|(simp only [← Pj] <;> (first|rfl|simp))|(simp [*];done),by repeat (first|exact bC.refl _|apply bC.step)⟩
      · rw [if_neg c7] at H
        exact absurd H (by simp)
    · rw [if_neg c6] at H
      exact absurd H (by simp)
  · replace c4:=Bool.eq_false_iff.mpr c4
    subst c4
    have H1:(some a0)=some r:=by rw [if_neg (show ¬ (false=true) by decide)] at H;exact H
    clear H
    have H:=H1
    clear H1
    obtain rfl:=Option.some.inj H
    go_enter Tryz.func52,Tryz.ntmps52
    go_wp2_with (first|((with_reducible refine bU (f:=62) rfl ?_);refine gy (some 7) rfl rfl Tryz.func62 (by kernel_rfl) rfl #[.string a0,.string a1] rfl (by (try simp only [List.map_toArray,List.map_cons,List.map_nil]);first|done|rfl|(simp only [List.length_drop,List.length_take];rfl)) ?_;(with_reducible refine (stringslite_HasSuffix.calls a0 a1 false _ A3.out).mono ?_);rintro e w' ⟨rfl,⟨nd,rfl⟩⟩;refine ⟨_,rfl,?_⟩))
    go_ret
    exact ⟨by first|rfl|(simp;done)|(simp [*];done),by repeat (first|exact bC.refl _|apply bC.step)⟩
def strings_TrimSuffix.f (a0:ByteArray) (a1:ByteArray):Option (ByteArray):=(stringslite_TrimSuffix.f a0 a1).bind fun t162=>(some t162)
set_option maxHeartbeats 8000000 in
set_option maxRecDepth 100000 in
theorem strings_TrimSuffix.calls (a0:ByteArray) (a1:ByteArray) (r:ByteArray) (w:World) (h:strings_TrimSuffix.f a0 a1=some r) :
    Calls Tryz.prog 32 #[.string a0,.string a1] w fun e w'=>e=.returned (.string r)∧bC w w':=by
  have H:((stringslite_TrimSuffix.f a0 a1).bind fun t162=>(some t162))=some r:=h
  clear h
  replace H:=Option.bind_eq_some_iff.mp H
  obtain ⟨t162,DI,H⟩:=H
  replace H:(some t162)=some r:=H
  have A3:=ae.mk DI
  clear DI
  obtain rfl:=Option.some.inj H
  go_enter Tryz.func32,Tryz.ntmps32
  go_wp2_with (first|((with_reducible refine bU (f:=52) rfl ?_);refine gy (some 7) rfl rfl Tryz.func52 (by kernel_rfl) rfl #[.string a0,.string a1] rfl (by (try simp only [List.map_toArray,List.map_cons,List.map_nil]);first|done|rfl|(simp only [List.length_drop,List.length_take];rfl)) ?_;(with_reducible refine (stringslite_TrimSuffix.calls a0 a1 t162 _ A3.out).mono ?_);rintro e w' ⟨rfl,⟨nd,rfl⟩⟩;refine ⟨_,rfl,?_⟩))
  go_ret
  exact ⟨by first|rfl|(simp;done)|(simp [*];done),by repeat (first|exact bC.refl _|apply bC.step)⟩
end Go.Proofs.YtkclndkbccbhaaaGreatDoor.P
end
section
namespace Go.Proofs.YtkclndkbccbhaaaGreatDoor.P
open Go
theorem dropWhile_nil {p:UInt8→Bool} {l:List UInt8}:l.dropWhile p=[] ↔ ∀ x ∈ l,p x=true:=by
  induction l with
  | nil=>simp
  | cons x xs ih =>
    rw [List.dropWhile_cons]
    by_cases h:p x=true
    · rw [if_pos h,ih];simp [h]
    · rw [if_neg h];simp [h]
theorem zD {p:UInt8→Bool} {l:List UInt8} {x:UInt8} {xs:List UInt8} (h:l.dropWhile p=x :: xs):¬ p x=true:=by
  induction l with
  | nil=>cases h
  | cons y ys ih =>
    rw [List.dropWhile_cons] at h
    by_cases e:p y=true
    · rw [if_pos e] at h;exact ih h
    · rw [if_neg e] at h
      injection h with h1 h2
      subst h1
      exact e
theorem CE {l cs:List UInt8}:Lib.trimS l cs=[] ↔ ∀ x ∈ l,cs.contains x=true:=by
  unfold Lib.trimS Lib.trimLeftS Lib.trimRightS
  rw [dropWhile_nil]
  constructor
  · intro h
    cases hd:l.reverse.dropWhile (cs.contains ·) with
    | nil =>
      intro x hx
      exact dropWhile_nil.1 hd x (by simp [hx])
    | cons y ys =>
      exact absurd (h y (by rw [hd];simp)) (zD hd)
  · intro h
    have:l.reverse.dropWhile (cs.contains ·)=[]:=dropWhile_nil.2 fun x hx=>h x (by simpa using hx)
    rw [this]
    simp
def IA (b:UInt8):Bool:=decide (97≤b.toNat∧b.toNat≤122) || decide (48≤b.toNat∧b.toNat≤57) || decide (b.toNat=45)
def okw (w:List UInt8):Bool:=decide (w.length≤30) && w.all IA
def joinL (L:List (List (List UInt8))):List UInt8:=(L.map fun ws=>Lib.join ws [32]++[10]).flatten
theorem D9 (ws:List (List UInt8)):(Lib.joinTail [32] ws).length=(ws.map fun w=>w.length+1).sum:=by
  induction ws with
  | nil=>rfl
  | cons w r ih =>
    have:Lib.joinTail [32] (w :: r)=32 :: w++Lib.joinTail [32] r:=by simp [Lib.joinTail]
    rw [this]
    simp only [List.length_append,List.length_cons,List.map_cons,List.sum_cons,ih]
end Go.Proofs.YtkclndkbccbhaaaGreatDoor.P
end
section
namespace Go.Proofs.YtkclndkbccbhaaaGreatDoor.P
open Go Go.RowKit Go.Proofs.ag.bJ Go.Proofs.ag.eX Go.Proofs.ag.gp
def Bs (w:List UInt8):ByteArray:=⟨w.toArray⟩
theorem tq (s:ByteArray):Bs s.data.toList=s:=by cases s;rfl
theorem nG (w:List UInt8):(Bs w).toList=w:=by rw [ByteArray.toList_eq];rfl
theorem ig (w:List UInt8):(Bs w).size=w.length:=by simp [Bs,ByteArray.size]
theorem NW (s:ByteArray):s.data.toList.length=s.size:=(Lib.size_eq s).symm
def conv (L:List (List (List UInt8))):List (List ByteArray):=L.map (·.map Bs)
theorem oN (a:List (List (List UInt8))):(conv a).length=a.length:=by simp [conv]
theorem VK (L:List (List UInt8)) (i:Nat) (x:List UInt8) (h:L[i]? = some x):gI ByteArray.empty (L.map Bs) (i:Int)=Bs x:=by
  unfold gI
  rw [Int.toNat_natCast,List.getD_eq_getElem?_getD,List.getElem?_map,h]
  rfl
theorem Bz (w:List UInt8) (i:Nat) (c:UInt8) (h:w[i]? = some c):bt (Bs w) (i:Int)=(c.toNat:Int):=by
  obtain ⟨hl,hc⟩:=List.getElem?_eq_some_iff.1 h
  have hs:((i:Int)).toNat < (Bs w).size:=by rw [Int.toNat_natCast,ig];exact hl
  unfold bt
  rw [dif_pos hs]
  have:(Bs w)[((i:Int)).toNat]'hs=c:=by rw [← hc];rfl
  rw [this]
theorem jA (i:Nat) (h:i < 4611686018427387904):wrap64 ((i:Int)+1)=((i+1:Nat):Int):=by unfold wrap64;omega
theorem Fv (a b:List UInt8):Bs a++Bs b=Bs (a++b):=by
  have:(Bs a++Bs b).data.toList=a++b:=by
    rw [ByteArray.data_append]
    simp [Bs]
  rw [← tq (Bs a++Bs b),this]
theorem Bi (w:List UInt8) (a b:Nat):(Bs w).extract a b=Bs ((w.drop a).take (b - a)):=by
  rw [← tq ((Bs w).extract a b),Lib.extract_data]
  rfl
theorem OL (a:List (List ByteArray)) (i:Nat) (x:List ByteArray) (h:a[i]? = some x):iP a (i:Int)=x:=by
  unfold iP
  rw [Int.toNat_natCast,List.getD_eq_getElem?_getD,h]
  rfl
theorem RY (a:List ByteArray) (i:Nat) (x:ByteArray) (h:a[i]? = some x):gI ByteArray.empty a (i:Int)=x:=by
  unfold gI
  rw [Int.toNat_natCast,List.getD_eq_getElem?_getD,h]
  rfl
def Small (A:List (List (List UInt8))):Prop:=A.length≤1000000∧∀ x ∈ A,x.length≤1000000
theorem AP (L:List (List (List UInt8))):oM (conv L)=joinL L:=by
  unfold oM conv joinL
  rw [List.map_map]
  congr 1
  refine List.map_congr_left fun ws _=>?_
  show Lib.join ((ws.map Bs).map (·.data.toList)) [32]++[10]=_
  rw [List.map_map]
  congr 2
  conv=>rhs;rw [← List.map_id ws]
  exact List.map_congr_left fun x _=>rfl
theorem Xp (L:List (List (List UInt8))) (h:Small L) (hl:(joinL L).length≤1000000):mi.f (conv L)=some (Bs (joinL L)):=by
  unfold mi.f
  rw [AP,if_pos]
  · rfl
  · refine ⟨by rw [oN];have:=h.1;omega,fun x hx=>?_,by omega⟩
    obtain ⟨y,hy,rfl⟩:=List.mem_map.1 hx
    rw [List.length_map]
    have:=h.2 y hy
    omega
theorem size_data (s:ByteArray):s.size=s.data.toList.length:=(NW s).symm
def yt (c:UInt8):Bool:=decide (48≤c.toNat∧c.toNat≤57)
def nS (acc:Nat) (D:List UInt8):Nat:=D.foldl (fun a c=>a * 10+(c.toNat - 48)) acc
theorem Rx (D:List UInt8) (acc:Nat):acc≤nS acc D:=by
  induction D generalizing acc with
  | nil=>exact Nat.le_refl _
  | cons c r ih =>
    have:=ih (acc * 10+(c.toNat - 48))
    show acc≤nS (acc * 10+(c.toNat - 48)) r
    omega
theorem tZ (acc:Nat) (c:UInt8) (r:List UInt8):nS acc (c :: r)=nS (acc * 10+(c.toNat - 48)) r:=by
  unfold nS
  rw [List.foldl_cons]
theorem Cj (acc:Nat) (D:List UInt8) (c:UInt8):nS acc (D++[c])=nS acc D * 10+(c.toNat - 48):=by
  unfold nS
  rw [List.foldl_append,List.foldl_cons,List.foldl_nil]
theorem OZ (a q:Nat):a * (q * 10)=a * 10 * q:=by rw [Nat.mul_comm q 10,← Nat.mul_assoc]
theorem Ju:∀ (D:List UInt8),(∀ c ∈ D,yt c=true)→∀ acc:Nat,nS acc D < (acc+1) * 10 ^ D.length
  | [],_,acc=>by
    show acc < (acc+1) * 1
    omega
  | c :: r,h,acc=>by
    have h1:=Ju r (fun x hx=>h x (List.mem_cons_of_mem _ hx)) (acc * 10+(c.toNat - 48))
    have hc:48≤c.toNat∧c.toNat≤57:=of_decide_eq_true (h c (List.mem_cons_self ..))
    rw [tZ]
    have e:(acc+1) * 10 ^ (c :: r).length=(acc+1) * 10 * 10 ^ r.length:=by
      rw [List.length_cons,Nat.pow_succ]
      exact OZ _ _
    rw [e]
    refine Nat.lt_of_lt_of_le h1 ?_
    generalize 10 ^ r.length=q
    exact Nat.mul_le_mul_right q (by omega)
theorem Oj (D:List UInt8) (acc:Nat):acc * 10 ^ D.length≤nS acc D:=by
  induction D generalizing acc with
  | nil=>simp [nS]
  | cons c r ih =>
    rw [tZ]
    refine Nat.le_trans ?_ (ih _)
    rw [List.length_cons,Nat.pow_succ,Nat.mul_comm (10 ^ r.length) 10,← Nat.mul_assoc]
    exact Nat.mul_le_mul_right _ (by omega)
theorem Na (M:Nat) (hM:M=18446744073709551615) (D:List UInt8) (h:∀ c ∈ D,yt c=true) (acc:Nat) (ha:acc≤M):Lib.parseUintM M acc D=if nS acc D≤M then .ok (nS acc D) else .range:=by
  induction D generalizing acc with
  | nil =>
    show Lib.NumEnd.ok acc=if acc≤M then Lib.NumEnd.ok acc else Lib.NumEnd.range
    rw [if_pos ha]
  | cons c r ih =>
    have hc:=h c (by simp)
    simp only [yt,decide_eq_true_eq] at hc
    have hge:=Rx r (acc * 10+(c.toNat - 48))
    rw [tZ]
    unfold Lib.parseUintM
    rw [if_pos hc]
    by_cases h1:1844674407370955162≤acc
    · rw [if_pos h1,if_neg (by omega)]
    · rw [if_neg h1]
      by_cases h2:M < acc * 10+(c.toNat - 48)
      · rw [if_pos h2,if_neg (by omega)]
      · rw [if_neg h2]
        exact ih (fun x hx=>h x (by simp [hx])) _ (by omega)
theorem Dl:∀ b:UInt8,([48,49,50,51,52,53,54,55,56,57]:List UInt8).contains b=yt b:=by
  have h:∀ n:Fin 256,([48,49,50,51,52,53,54,55,56,57]:List UInt8).contains (UInt8.ofNat n.val)=yt (UInt8.ofNat n.val):=by decide +kernel
  intro b
  have:=h ⟨b.toNat,b.toNat_lt⟩
  simpa using this
theorem FN {D:List UInt8}:Lib.trimS D [48,49,50,51,52,53,54,55,56,57]=[] ↔ ∀ c ∈ D,yt c=true:=by
  rw [CE]
  constructor
  · intro h x hx;rw [← Dl];exact h x hx
  · intro h x hx;rw [Dl];exact h x hx
theorem uy (D:List UInt8):unsigned (45 :: D)=D:=rfl
theorem rC (w:List UInt8) (h:w.head? ≠ some 45):unsigned w=w:=by
  unfold unsigned Lib.trimPrefix Lib.hasPrefix
  cases w with
  | nil=>rfl
  | cons c r =>
    rw [if_neg]
    intro hp
    simp only [List.isPrefixOf,Bool.and_true,beq_iff_eq] at hp
    exact h (by rw [← hp];rfl)
structure Num (w D:List UInt8):Prop where
  ne:D ≠ []
  dig:∀ c ∈ D,yt c=true
  zero:D.head? = some 48→w=[48]
theorem yL (w:List UInt8):rf w=true ↔ Num w (unsigned w):=by
  unfold rf
  simp only [Bool.and_eq_true,Bool.not_eq_true',List.isEmpty_iff,List.isEmpty_eq_false_iff,Bool.and_eq_false_iff,beq_eq_false_iff_ne,Bool.not_eq_false',beq_iff_eq]
  rw [FN]
  constructor
  · rintro ⟨⟨h1,h2⟩,h3⟩
    exact ⟨h1,h2,fun h=>by rcases h3 with h3|h3;exact absurd h h3;exact h3⟩
  · rintro ⟨h1,h2,h3⟩
    refine ⟨⟨h1,h2⟩,?_⟩
    by_cases h:(unsigned w).head? = some 48
    · exact .inr (h3 h)
    · exact .inl h
def AU (neg:Bool) (u:Nat):Bool:=if neg then decide (u≤9223372036854775808) else decide (u < 9223372036854775808)
def VI (neg:Bool) (u:Nat):Int:=if neg then -(u:Int) else u
theorem Xq {c:UInt8} (h:yt c=true):c.toNat ≠ 43∧c.toNat ≠ 45:=by
  simp only [yt,decide_eq_true_eq] at h
  omega
theorem Ip (D:List UInt8) (h:∀ c ∈ D,yt c=true) (hne:D ≠ []):Lib.parseUintB 64 D=if nS 0 D≤18446744073709551615 then .ok (nS 0 D) else .range:=by
  unfold Lib.parseUintB
  rw [if_neg hne]
  exact Na _ (by decide) D h 0 (by omega)
theorem Gl (neg:Bool) (D:List UInt8) (h:∀ c ∈ D,yt c=true) (hne:D ≠ []):numOf (if neg then 45 :: D else D)=if AU neg (nS 0 D) then (VI neg (nS 0 D),0) else (0,3):=by
  have hc:=Ip D h hne
  generalize nS 0 D=u at hc ⊢
  unfold numOf
  cases neg with
  | true =>
    simp only [if_true]
    unfold Lib.parseIntB
    dsimp only
    rw [if_pos (show (45:UInt8).toNat=43 ∨ (45:UInt8).toNat=45 from Or.inr rfl),hc]
    by_cases hu:u≤18446744073709551615
    · rw [if_pos hu]
      simp only [show ((45:UInt8).toNat=45)=True from eq_true rfl,not_true_eq_false,false_and,if_false,true_and,if_true]
      by_cases h2:2 ^ (64 - 1) < u
      · rw [if_pos h2]
        have:AU true u=false:=by unfold AU;rw [if_pos rfl];exact decide_eq_false (by omega)
        rw [this]
        rfl
      · rw [if_neg h2]
        have:AU true u=true:=by unfold AU;rw [if_pos rfl];exact decide_eq_true (by omega)
        rw [this]
        rfl
    · rw [if_neg hu]
      have:AU true u=false:=by unfold AU;rw [if_pos rfl];exact decide_eq_false (by omega)
      rw [this]
      rfl
  | false =>
    simp only [Bool.false_eq_true,if_false]
    cases D with
    | nil=>exact absurd rfl hne
    | cons c r =>
      have hcd:=Xq (h c (by simp))
      unfold Lib.parseIntB
      simp only []
      rw [if_neg (by intro h;rcases h with h|h;exact hcd.1 h;exact hcd.2 h),hc]
      by_cases hu:u≤18446744073709551615
      · rw [if_pos hu]
        simp only [eq_false hcd.2,not_false_eq_true,true_and,false_and,if_false]
        by_cases h2:2 ^ (64 - 1)≤u
        · rw [if_pos h2]
          have:AU false u=false:=by unfold AU;rw [if_neg (by simp)];exact decide_eq_false (by omega)
          rw [this]
          rfl
        · rw [if_neg h2]
          have:AU false u=true:=by unfold AU;rw [if_neg (by simp)];exact decide_eq_true (by omega)
          rw [this]
          rfl
      · rw [if_neg hu]
        have:AU false u=false:=by unfold AU;rw [if_neg (by simp)];exact decide_eq_false (by omega)
        rw [this]
        rfl
theorem signed (w:List UInt8):∃ neg:Bool,w=(if neg then 45 :: unsigned w else unsigned w)∧(neg=true ↔ w.head? = some 45):=by
  cases w with
  | nil=>exact ⟨false,rfl,by simp⟩
  | cons c r =>
    by_cases e:c=45
    · subst e
      exact ⟨true,rfl,by simp⟩
    · refine ⟨false,?_,by simp [e]⟩
      rw [rC _ (by simp [e])]
      rfl
theorem Gp {c:UInt8} {r:List UInt8} (hc:yt c=true) (h48:c ≠ 48):10 ^ r.length≤nS 0 (c :: r):=by
  rw [tZ]
  have hd:48≤c.toNat∧c.toNat≤57:=of_decide_eq_true hc
  have hne:c.toNat ≠ 48:=fun h=>h48 (UInt8.toNat_inj.1 h)
  have h1:=Oj r (0 * 10+(c.toNat - 48))
  refine Nat.le_trans ?_ h1
  generalize 10 ^ r.length=q
  have:1 * q≤(0 * 10+(c.toNat - 48)) * q:=Nat.mul_le_mul_right q (by omega)
  omega
theorem VL:(10:Nat) ^ 19=10000000000000000000:=by decide
def Xm (w:List UInt8):Int × Int:=if rf w then numOf w else (0,4)
theorem G7 (d:Nat) (h:d < 10):(UInt8.ofNat (48+d)).toNat=48+d:=by
  have:(UInt8.ofNat (48+d)).toNat=(48+d) % 256:=UInt8.toNat_ofNat'
  omega
theorem yP (n:Nat):∀ u:Nat,u≤n→(∀ c ∈ Lib.decDigits u,yt c=true)∧Lib.decDigits u ≠ []∧nS 0 (Lib.decDigits u)=u∧((Lib.decDigits u).head? = some 48→u=0):=by
  induction n with
  | zero =>
    intro u hu
    obtain rfl:u=0:=by omega
    rw [Lib.decDigits_one (by omega)]
    refine ⟨by decide,by decide,?_,fun _=>rfl⟩
    decide
  | succ n ih =>
    intro u hu
    by_cases h:u < 10
    · rw [Lib.decDigits_one h]
      have hd:=G7 u h
      refine ⟨?_,by simp,?_,?_⟩
      · intro c hc
        rw [List.mem_singleton.1 hc]
        unfold yt
        rw [hd]
        exact decide_eq_true (by omega)
      · rw [tZ,hd]
        show 0 * 10+(48+u - 48)=u
        omega
      · intro hh
        simp only [List.head?_cons,Option.some.injEq] at hh
        have:=congrArg UInt8.toNat hh
        rw [hd] at this
        have h48:(48:UInt8).toNat=48:=rfl
        omega
    · have ih':=ih (u / 10) (by omega)
      rw [Lib.decDigits,dif_neg h]
      have hd:=G7 (u % 10) (by omega)
      refine ⟨?_,by simp,?_,?_⟩
      · intro c hc
        rcases List.mem_append.1 hc with hc|hc
        · exact ih'.1 c hc
        · rw [List.mem_singleton.1 hc]
          unfold yt
          rw [hd]
          exact decide_eq_true (by omega)
      · rw [Cj,ih'.2.2.1,hd]
        omega
      · intro hh
        have:(Lib.decDigits (u / 10)++[UInt8.ofNat (48+u % 10)]).head? = (Lib.decDigits (u / 10)).head?:=by
          cases hq:Lib.decDigits (u / 10) with
          | nil=>exact absurd hq ih'.2.1
          | cons a b=>rfl
        rw [this] at hh
        have:=ih'.2.2.2 hh
        omega
theorem Vk (u:Nat) (h:u≤9223372036854775808):(Lib.decDigits u).length≤20:=by
  have hp:=yP u u (Nat.le_refl _)
  cases hq:Lib.decDigits u with
  | nil=>simp
  | cons c r =>
    rw [hq] at hp
    by_cases h48:c=48
    · subst h48
      have h0:=hp.2.2.2 rfl
      subst h0
      rw [Lib.decDigits_one (by omega)] at hq
      rw [← hq]
      decide
    · have h1:=Gp (r:=r) (hp.1 c (by simp)) h48
      rw [hp.2.2.1] at h1
      rw [List.length_cons]
      rcases Nat.lt_or_ge r.length 19 with h2|h2
      · omega
      · have h3:(10:Nat) ^ 19≤10 ^ r.length:=Nat.pow_le_pow_right (by omega) h2
        rw [VL] at h3
        omega
theorem CZ (n:Int):∃ neg:Bool,Lib.itoa n=(if neg then 45 :: Lib.decDigits n.natAbs else Lib.decDigits n.natAbs)∧VI neg n.natAbs=n∧(neg=true→n < 0)∧(neg=false→0≤n):=by
  unfold Lib.itoa
  by_cases h:n < 0
  · rw [if_pos h]
    refine ⟨true,rfl,?_,fun _=>h,(fun h=>by cases h)⟩
    unfold VI
    rw [if_pos rfl]
    omega
  · rw [if_neg h]
    refine ⟨false,?_,?_,(fun h=>by cases h),fun _=>by omega⟩
    · rw [if_neg (by simp),show n.toNat=n.natAbs from by omega]
    · unfold VI
      rw [if_neg (by simp)]
      omega
theorem AQ (n:Int) (h0:-9223372036854775808≤n) (h1:n≤9223372036854775807):rf (Lib.itoa n)=true∧numOf (Lib.itoa n)=(n,0)∧(Lib.itoa n).length≤21:=by
  obtain ⟨neg,hi,hs,hn1,hn2⟩:=CZ n
  have hp:=yP n.natAbs n.natAbs (Nat.le_refl _)
  have hl:=Vk n.natAbs (by omega)
  rw [hi]
  have hhead:(Lib.decDigits n.natAbs).head? ≠ some 45:=by
    intro h
    cases hq:Lib.decDigits n.natAbs with
    | nil=>exact hp.2.1 hq
    | cons c r =>
      rw [hq] at h hp
      have:=hp.1 c (by simp)
      simp only [List.head?_cons,Option.some.injEq] at h
      subst h
      exact absurd this (by decide)
  refine ⟨?_,?_,?_⟩
  · rw [yL]
    cases neg with
    | true =>
      rw [if_pos rfl,uy]
      refine ⟨hp.2.1,hp.1,fun h=>?_⟩
      have:=hp.2.2.2 h
      have:=hn1 rfl
      omega
    | false =>
      rw [if_neg (by simp),rC _ hhead]
      refine ⟨hp.2.1,hp.1,fun h=>?_⟩
      rw [hp.2.2.2 h,Lib.decDigits_one (by omega)]
      rfl
  · rw [Gl neg _ hp.1 hp.2.1,hp.2.2.1,if_pos,hs]
    unfold AU
    cases neg with
    | true=>rw [if_pos rfl];exact decide_eq_true (by omega)
    | false=>have:=hn2 rfl;rw [if_neg (by simp)];exact decide_eq_true (by omega)
  · cases neg with
    | true=>rw [if_pos rfl,List.length_cons];omega
    | false=>rw [if_neg (by simp)];omega
def vF (x:List (List UInt8)):Nat:=(x.map fun w=>w.length+1).sum
def tot (L:List (List (List UInt8))):Nat:=(L.map fun x=>vF x+1).sum
theorem mr (w:List UInt8) (x:List (List UInt8)):vF (w :: x)=w.length+1+vF x:=by simp [vF]
theorem qC (x:List (List UInt8)) (L:List (List (List UInt8))):tot (x :: L)=vF x+1+tot L:=by simp [tot]
theorem Gm (x:List (List UInt8)):x.length≤vF x:=by
  induction x with
  | nil=>simp [vF]
  | cons w r ih=>rw [mr,List.length_cons];omega
theorem O0 {x:List (List UInt8)} {w:List UInt8} (h:w ∈ x):w.length+1≤vF x:=by
  induction x with
  | nil=>cases h
  | cons y r ih =>
    rw [mr]
    rcases List.mem_cons.1 h with rfl|h
    · omega
    · have:=ih h;omega
theorem JK (L:List (List (List UInt8))):L.length≤tot L:=by
  induction L with
  | nil=>simp [tot]
  | cons x r ih=>rw [qC,List.length_cons];omega
theorem JH {L:List (List (List UInt8))} {x:List (List UInt8)} (h:x ∈ L):vF x+1≤tot L:=by
  induction L with
  | nil=>cases h
  | cons y r ih =>
    rw [qC]
    rcases List.mem_cons.1 h with rfl|h
    · omega
    · have:=ih h;omega
theorem Gn (x:List (List UInt8)):(Lib.joinTail [32] x).length=vF x:=D9 x
theorem zl (x:List (List UInt8)):(Lib.join x [32]).length≤vF x:=by
  cases x with
  | nil=>simp [Lib.join_nil]
  | cons w r=>rw [Lib.join_cons,List.length_append,Gn,mr];omega
theorem AO (x:List (List UInt8)) (L:List (List (List UInt8))):joinL (x :: L)=Lib.join x [32]++10 :: joinL L:=by simp [joinL]
theorem Ns (L:List (List (List UInt8))):(joinL L).length≤tot L:=by
  induction L with
  | nil=>simp [joinL]
  | cons x r ih =>
    rw [AO,qC,List.length_append,List.length_cons]
    have:=zl x
    omega
theorem DX (L:List (List (List UInt8))) (i:Nat) (x:List (List UInt8)) (h:L[i]? = some x):iP (conv L) (i:Int)=x.map Bs:=by
  refine OL _ i _ ?_
  unfold conv
  rw [List.getElem?_map,h]
  rfl
end Go.Proofs.YtkclndkbccbhaaaGreatDoor.P
end
