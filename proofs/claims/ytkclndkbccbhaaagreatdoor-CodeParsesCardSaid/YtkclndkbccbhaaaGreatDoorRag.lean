/- Parts of the proof of CodeParses: what the functions that it reaches compute, and plain facts about that. -/
import Derived.Test.YtkclndkbccbhaaaGreatDoorRac
import Derived.Test.YtkclndkbccbhaaaGreatDoorRad
import Derived.Test.YtkclndkbccbhaaaGreatDoorRaf
import Derived.Lib.SplitLaws
import Derived.Lib.IndexMore
import Derived.Lib.SlTrimSet
import Derived.Lib.Join
set_option linter.unusedVariables false
set_option linter.unusedSimpArgs false
section
namespace Go.Proofs.YtkclndkbccbhaaaGreatDoor.P
open Go.RowKit Go.Proofs.ag.bK Go.Proofs.ag.dV Go.Proofs.ag.fE
attribute [local go_sem] lI lG ny ni jW jV lH lF
theorem Nk (d:Nat) (w:World) (x0 y0:Int) (x1 y1:Int) (x2 y2:Int) (x3 y3:Int) (x4 y4:Int) :
    (Op.equalIn (d+2) 27 (.agg #[.int .u8 x0,.int .u8 x1,.int .u8 x2,.int .u8 x3,.int .i64 x4]) (.agg #[.int .u8 y0,.int .u8 y1,.int .u8 y2,.int .u8 y3,.int .i64 y4])).run Tryz.prog w=.ok (x0 == y0 && (x1 == y1 && (x2 == y2 && (x3 == y3 && (x4 == y4))))) w:=by
  refine Z5 Tryz.underlying27 (by kernel_rfl) ?_
  refine Aa (by rfl) (by go_simp;rfl) (by go_simp;rfl) (by go_simp) ?_
  refine Aa (by rfl) (by go_simp;rfl) (by go_simp;rfl) (by go_simp) ?_
  refine Aa (by rfl) (by go_simp;rfl) (by go_simp;rfl) (by go_simp) ?_
  refine Aa (by rfl) (by go_simp;rfl) (by go_simp;rfl) (by go_simp) ?_
  exact Ry (by rfl) (by go_simp;rfl) (by go_simp;rfl) (by go_simp)
end Go.Proofs.YtkclndkbccbhaaaGreatDoor.P
end
section
namespace Go.Proofs.YtkclndkbccbhaaaGreatDoor.P
open Go.RowKit Go.Proofs.ag.bK Go.Proofs.ag.dV Go.Proofs.ag.fE
attribute [local go_sem] lI lG ny ni jW jV lH lF
attribute [local go_sem high] Nk
mutual
def bZ.l0:Nat→List (List ByteArray)→List ByteArray→Int→Int→Option ((List (List ByteArray)) × Int × Int)
  | 0,_,_,_,_=>none
  | k+1,x5,x15,x16,x17=>if x17 < x16 then (if 0≤x17 then (if x17 < (x15.length:Int) then ((strings_Cut.f (eF ByteArray.empty x15 x17) (⟨#[35]⟩:ByteArray)).bind fun acn=>((strings_Split.f acn.1 (⟨#[32]⟩:ByteArray)).bind fun t150=>(bZ.l1 k x5 x17 ([]:List ByteArray) x15 x16 x17 t150 (t150.length:Int) 0))) else (none)) else (none)) else (some (x5,0,0))
def bZ.l1:Nat→List (List ByteArray)→Int→List ByteArray→List ByteArray→Int→Int→List ByteArray→Int→Int→Option ((List (List ByteArray)) × Int × Int)
  | 0,_,_,_,_,_,_,_,_,_=>none
  | k+1,x5,x6,x8,x15,x16,x17,x29,x30,x31=>if x31 < x30 then (if 0≤x31 then (if x31 < (x29.length:Int) then (if (eF ByteArray.empty x29 x31).toList=([]:List UInt8) then (bZ.l1 k x5 x6 x8 x15 x16 x17 x29 x30 (wrap64 (x31+1))) else ((tH.f (eF ByteArray.empty x29 x31)).bind fun t157=>(if t157=true then (if x8.length < 8796093022208 then (bZ.l1 k x5 x6 (x8++[eF ByteArray.empty x29 x31]) x15 x16 x17 x29 x30 (wrap64 (x31+1))) else (none)) else (some (([]:List (List ByteArray)),wrap64 (x6+1),4))))) else (none)) else (none)) else (if (x8.length:Int) > 0 then (if x5.length < 5864062014805 then (bZ.l0 k (x5++[x8]) x15 x16 (wrap64 (x17+1))) else (none)) else (bZ.l0 k x5 x15 x16 (wrap64 (x17+1))))
end
def bZ.f (k:Nat) (a0:ByteArray):Option ((List (List ByteArray)) × Int × Int):=if (a0.size:Int) > 20000 then (some (([]:List (List ByteArray)),0,3)) else ((strings_Split.f a0 (⟨#[10]⟩:ByteArray)).bind fun t143=>(bZ.l0 k ([]:List (List ByteArray)) t143 (t143.length:Int) 0))
theorem bZ.iq:∀ k,(∀ y0 y1 y2 y3,dC (bZ.l0 k y0 y1 y2 y3) (bZ.l0 (k+1) y0 y1 y2 y3))∧(∀ y0 y1 y2 y3 y4 y5 y6 y7 y8,dC (bZ.l1 k y0 y1 y2 y3 y4 y5 y6 y7 y8) (bZ.l1 (k+1) y0 y1 y2 y3 y4 y5 y6 y7 y8))
  | 0=>⟨fun _ _ _ _ r h=>by simp [bZ.l0] at h,fun _ _ _ _ _ _ _ _ _ r h=>by simp [bZ.l1] at h⟩
  | k+1=>by
    obtain ⟨jY,ih1⟩:=bZ.iq k
    refine ⟨?_,?_⟩
    · intro y0 y1 y2 y3
      unfold bZ.l0
      repeat' first
      | (with_reducible exact jY _ _ _ _)
      | (with_reducible exact ih1 _ _ _ _ _ _ _ _ _)
      | (with_reducible exact dC.refl _)
      | (with_reducible exact dC.none _)
      | (with_reducible refine dC.ite ?_ ?_)
      | (with_reducible refine dC.bind ?_ (fun _=>?_))
      | exact jY _ _ _ _
      | exact ih1 _ _ _ _ _ _ _ _ _
      | exact dC.none _
      | refine dC.ite ?_ ?_
      | refine dC.bind ?_ (fun _=>?_)
    · intro y0 y1 y2 y3 y4 y5 y6 y7 y8
      unfold bZ.l1
      repeat' first
      | (with_reducible exact jY _ _ _ _)
      | (with_reducible exact ih1 _ _ _ _ _ _ _ _ _)
      | (with_reducible exact dC.refl _)
      | (with_reducible exact dC.none _)
      | (with_reducible refine dC.ite ?_ ?_)
      | (with_reducible refine dC.bind ?_ (fun _=>?_))
      | exact jY _ _ _ _
      | exact ih1 _ _ _ _ _ _ _ _ _
      | exact dC.none _
      | refine dC.ite ?_ ?_
      | refine dC.bind ?_ (fun _=>?_)
theorem bZ.mono:∀ a0 k,dC (bZ.f k a0) (bZ.f (k+1) a0):=by
  intro a0 k
  obtain ⟨jY,ih1⟩:=bZ.iq k
  unfold bZ.f
  repeat' first
      | (with_reducible exact jY _ _ _ _)
      | (with_reducible exact ih1 _ _ _ _ _ _ _ _ _)
      | (with_reducible exact dC.refl _)
      | (with_reducible exact dC.none _)
      | (with_reducible refine dC.ite ?_ ?_)
      | (with_reducible refine dC.bind ?_ (fun _=>?_))
      | exact jY _ _ _ _
      | exact ih1 _ _ _ _ _ _ _ _ _
      | exact dC.none _
      | refine dC.ite ?_ ?_
      | refine dC.bind ?_ (fun _=>?_)
set_option maxHeartbeats 8000000 in
set_option maxRecDepth 100000 in
theorem bZ.calls (k:Nat) (a0:ByteArray) (r1:List (List ByteArray)) (r2:Int) (r3:Int) (w:World) (lC:Kd.C xE w xG oL.length oL) (h:bZ.f k a0=some (r1,r2,r3)) :
    Calls Tryz.prog 29 #[.string a0] w fun e w'=>∃ Df:Value,e=.returned (.tuple #[Df,.int .i64 r2,.int .i64 r3])∧Kd.S (Kd.slice 9 Kd.string) 22 w' w.heap.size (fun _=>True) Df r1∧Below w.heap.size w w':=by
  have Ai:=ae.mk lC
  clear lC
  have HB:=ae.mk (Below.refl w.heap.size w)
  have H:(if (a0.size:Int) > 20000 then (some (([]:List (List ByteArray)),0,3)) else ((strings_Split.f a0 (⟨#[10]⟩:ByteArray)).bind fun t143=>(bZ.l0 k ([]:List (List ByteArray)) t143 (t143.length:Int) 0)))=some (r1,r2,r3):=h
  clear h
  by_cases c2:(a0.size:Int) > 20000
  · rw [if_pos c2] at H
    have uS:decide (20000 < (a0.size:Int))=true:=decide_eq_true c2
    have zy:decide (20000 < a0.size)=true:=decide_eq_true (by omega)
    clear c2
    simp only [Option.some.injEq,Prod.mk.injEq] at H
    obtain ⟨rfl,rfl,rfl⟩:=H
    go_enter Tryz.func29,Tryz.ntmps29
    go_wp2
    go_ret3
    exact ⟨_,by first|rfl|(simp [bF,bD] <;> rfl)|(simp [*,bF,bD] <;> rfl),by first|exact Kd.oU _ _ _ _ _|exact Kd.oZ _ _ _ _ _|exact Kd.oQ _ _ _ _ _|exact Kd.oW _ _ _ _ _|exact Kd.jh _ _ _ _ _,by repeat (first|(with_reducible first|exact HB.out|apply au|apply af|apply aj)|exact HB.out)⟩
  · rw [if_neg c2] at H
    have uS:decide (20000 < (a0.size:Int))=false:=decide_eq_false c2
    have zy:decide (20000 < a0.size)=false:=decide_eq_false (by omega)
    clear c2
    replace H:=Option.bind_eq_some_iff.mp H
    obtain ⟨t143,Jg,H⟩:=H
    replace H:(bZ.l0 k ([]:List (List ByteArray)) t143 (t143.length:Int) 0)=some (r1,r2,r3):=H
    have A3:=ae.mk Jg
    clear Jg
    have H':=ae.mk H
    clear H
    go_enter Tryz.func29,Tryz.ntmps29
    go_wp2_with (first|((with_reducible refine bQ (f:=49) rfl ?_);refine fZ (some 15) rfl rfl Tryz.func49 (by kernel_rfl) rfl #[.string a0,.string (⟨#[10]⟩:ByteArray)] rfl (by (try simp only [List.map_toArray,List.map_cons,List.map_nil]);first|done|rfl|(simp only [List.length_drop,List.length_take];rfl)) ?_;(with_reducible refine (strings_Split.calls a0 (⟨#[10]⟩:ByteArray) t143 _ ?gV A3.out).mono ?_);(case gV=>repeat (first|exact Ai.out|(with_reducible refine Kd.gZ ?_ _)|(with_reducible refine Kd.gX ?_ _)|(with_reducible refine Kd.jb ?_)));rintro e w4 ⟨amP,rfl,ho0,hb⟩;refine ⟨_,rfl,?_⟩;have dG:=ae.mk (Kd.iW ho0 (aZ (by repeat (first|(with_reducible first|exact HB.out|apply au|apply af|apply aj)|exact HB.out))));have dM:=ae.mk (bf (by repeat (first|(with_reducible first|exact HB.out|apply au|apply af|apply aj)|exact HB.out)) hb);clear HB;have YS:=dG;have HB:=dM;clear dG dM;(try clear hb);(try clear hb2);(try clear hk);(try clear hi);(try clear ho0);obtain ⟨Ao5,Po,eo5⟩:=Kd.gI YS.out;subst eo5))
    go_loopg [5,17] k (fun kq v5 v17 w'=>∃ (iE:List (List ByteArray)) (lM:Int),v17=.int .i64 lM∧ae (bZ.l0 kq iE t143 (t143.length:Int) lM=some (r1,r2,r3))∧ae (kq≤k)∧ae (Kd.S (Kd.slice 9 Kd.string) 22 w' w.heap.size (fun k_=>some k_ ≠ ((.slice Ao5 t143.length Po):Value).ownBlock) v5 iE)∧ae (Kd.R Kd.string 9 w' w.heap.size (fun _=>True) (.slice Ao5 t143.length Po) t143)∧ae (Below w.heap.size w w'))
    case atStart=>exact ⟨(([]:List (List ByteArray))),(0),(by first|rfl|(simp;done)|(simp [*];done)),H',⟨Nat.le_refl _⟩,⟨by first|exact Kd.oU _ _ _ _ _|exact Kd.oZ _ _ _ _ _|exact Kd.oQ _ _ _ _ _|exact Kd.oW _ _ _ _ _|exact Kd.jh _ _ _ _ _⟩,⟨by (with_reducible repeat (first|apply Kd.aX|apply Kd.aY|apply Kd.bG));exact YS.out⟩,⟨by repeat (first|(with_reducible first|exact HB.out|apply au|apply af|apply aj)|exact HB.out)⟩⟩
    case round =>
      clear H'
      try clear c2
      try clear uS
      try clear zy
      try clear p2
      try clear c4
      obtain ⟨iE,lM,rfl,HA,pJ,fG,mZ,HB⟩:=hrel
      cases gk with
      | zero=>exact absurd HA.out (by simp [bZ.l0])
      | succ k1 =>
        have H:=HA.out
        clear HA
        simp only [bZ.l0] at H
        by_cases c6:lM < (t143.length:Int)
        · rw [if_pos c6] at H
          have oP:decide (lM < (t143.length:Int))=true:=decide_eq_true c6
          clear c6
          by_cases c7:0≤lM
          · rw [if_pos c7] at H
            have qR:decide (0≤lM)=true:=decide_eq_true c7
            clear c7
            by_cases c8:lM < (t143.length:Int)
            · rw [if_pos c8] at H
              have ry:decide (lM < (t143.length:Int))=true:=decide_eq_true c8
              clear c8
              replace H:=Option.bind_eq_some_iff.mp H
              obtain ⟨⟨t147,t148,t149⟩,A90,H⟩:=H
              replace H:((strings_Split.f t147 (⟨#[32]⟩:ByteArray)).bind fun t150=>(bZ.l1 k1 iE lM ([]:List ByteArray) t143 (t143.length:Int) lM t150 (t150.length:Int) 0))=some (r1,r2,r3):=H
              have A9:=ae.mk A90
              clear A90
              replace H:=Option.bind_eq_some_iff.mp H
              obtain ⟨t150,adN,H⟩:=H
              replace H:(bZ.l1 k1 iE lM ([]:List ByteArray) t143 (t143.length:Int) lM t150 (t150.length:Int) 0)=some (r1,r2,r3):=H
              have A10:=ae.mk adN
              clear adN
              have H':=ae.mk H
              clear H
              have Ub:0≤(lM:Int):=of_decide_eq_true (by first|(with_reducible assumption)|assumption)
              have TY:lM < (t143.length:Int):=of_decide_eq_true (by first|(with_reducible assumption)|assumption)
              obtain ⟨yX,akg,Uw⟩:=Kd.fO (Kd.fB mZ.out).2.2 lM Ub TY
              cases akg
              replace Ub:=eq_true Ub
              replace TY:=eq_true TY
              go_wp2_with (first|((with_reducible refine bQ (f:=50) rfl ?_);refine fZ (some 24) rfl rfl Tryz.func50 (by kernel_rfl) rfl #[.string (eF ByteArray.empty t143 lM),.string (⟨#[35]⟩:ByteArray)] rfl (by (try simp only [List.map_toArray,List.map_cons,List.map_nil]);first|done|rfl|(simp only [List.length_drop,List.length_take];rfl)) ?_;(with_reducible refine (strings_Cut.calls (eF ByteArray.empty t143 lM) (⟨#[35]⟩:ByteArray) t147 t148 t149 _ ?gV A9.out).mono ?_);(case gV=>repeat (first|exact (Kd.gY Ai.out HB.out)|(with_reducible refine Kd.gZ ?_ _)|(with_reducible refine Kd.gX ?_ _)|(with_reducible refine Kd.jb ?_)));rintro e w11 ⟨rfl,hb⟩;refine ⟨_,rfl,?_⟩;have dG:=ae.mk (Kd.o9 (by (with_reducible repeat (first|apply Kd.gp|apply Kd.gm|apply Kd.iJ));exact fG.out) hb);have dM:=ae.mk (Kd.dD (by (with_reducible repeat (first|apply Kd.aX|apply Kd.aY|apply Kd.bG));exact mZ.out) hb);have dW:=ae.mk (bf (by repeat (first|(with_reducible first|exact HB.out|apply au|apply af|apply aj)|exact HB.out)) hb);clear fG;clear mZ;clear HB;have fG:=dG;have mZ:=dM;have HB:=dW;clear dG dM dW;(try clear hb);(try clear hb2);(try clear hk);(try clear hi))|((with_reducible refine bQ (f:=49) rfl ?_);refine fZ (some 29) rfl rfl Tryz.func49 (by kernel_rfl) rfl #[.string t147,.string (⟨#[32]⟩:ByteArray)] rfl (by (try simp only [List.map_toArray,List.map_cons,List.map_nil]);first|done|rfl|(simp only [List.length_drop,List.length_take];rfl)) ?_;(with_reducible refine (strings_Split.calls t147 (⟨#[32]⟩:ByteArray) t150 _ ?gV A10.out).mono ?_);(case gV=>repeat (first|exact (Kd.gY Ai.out HB.out)|(with_reducible refine Kd.gZ ?_ _)|(with_reducible refine Kd.gX ?_ _)|(with_reducible refine Kd.jb ?_)));rintro e w12 ⟨amO,rfl,ho0,hb⟩;refine ⟨_,rfl,?_⟩;have dG:=ae.mk (Kd.I8 (by (with_reducible repeat (first|apply Kd.gp|apply Kd.gm|apply Kd.iJ));exact fG.out) (Kd.lW ho0) hb);have dM:=ae.mk (Kd.nR (by (with_reducible repeat (first|apply Kd.aX|apply Kd.aY|apply Kd.bG));exact mZ.out) (Kd.lW ho0) hb);have dW:=ae.mk (Kd.iW (Kd.sJ ho0 (Kd.xX (by (with_reducible repeat (first|apply Kd.aX|apply Kd.aY|apply Kd.bG));exact mZ.out))) (aZ (by repeat (first|(with_reducible first|exact HB.out|apply au|apply af|apply aj)|exact HB.out))));have fK:=ae.mk (bf (by repeat (first|(with_reducible first|exact HB.out|apply au|apply af|apply aj)|exact HB.out)) hb);clear fG;clear mZ;clear HB;have fG:=dG;have mZ:=dM;have YR:=dW;have HB:=fK;clear dG dM dW fK;(try clear hb);(try clear hb2);(try clear hk);(try clear hi);(try clear ho0);obtain ⟨J7,EE,aj9⟩:=Kd.gI YR.out;subst aj9))
              go_loopg [8,31] k1 (fun kq v8 v31 w'=>∃ (uV:List ByteArray) (jZ:Int),v31=.int .i64 jZ∧ae (bZ.l1 kq iE lM uV t143 (t143.length:Int) lM t150 (t150.length:Int) jZ=some (r1,r2,r3))∧ae (kq≤k1)∧ae (Kd.S (Kd.slice 9 Kd.string) 22 w' w.heap.size (fun k_=>some k_ ≠ (v8:Value).ownBlock∧some k_ ≠ ((.slice (some yX) t143.length Po):Value).ownBlock∧some k_ ≠ ((.slice J7 t150.length EE):Value).ownBlock) u5 iE)∧ae (Kd.R Kd.string 9 w' w.heap.size (fun k_=>some k_ ≠ ((.slice (some yX) t143.length Po):Value).ownBlock∧some k_ ≠ ((.slice J7 t150.length EE):Value).ownBlock) v8 uV)∧ae (Kd.R Kd.string 9 w' w.heap.size (fun k_=>some k_ ≠ (v8:Value).ownBlock∧some k_ ≠ ((.slice J7 t150.length EE):Value).ownBlock) (.slice (some yX) t143.length Po) t143)∧ae (Kd.R Kd.string 9 w' w.heap.size (fun k_=>some k_ ≠ (v8:Value).ownBlock∧some k_ ≠ ((.slice (some yX) t143.length Po):Value).ownBlock) (.slice J7 t150.length EE) t150)∧ae (Below w.heap.size w w'))
              case atStart=>exact ⟨(([]:List ByteArray)),(0),(by first|rfl|(simp;done)|(simp [*];done)),H',⟨Nat.le_refl _⟩,⟨by (with_reducible repeat (first|apply Kd.gp|apply Kd.gm|apply Kd.iJ));exact Kd.oV fG.out (fun _ hk=>⟨(by simp [Value.ownBlock]),⟨hk.1,hk.2⟩⟩)⟩,⟨by first|exact Kd.jh _ _ _ _ _|exact Kd.oZ _ _ _ _ _|exact Kd.oQ _ _ _ _ _|exact Kd.oW _ _ _ _ _|exact Kd.oU _ _ _ _ _⟩,⟨by (with_reducible repeat (first|apply Kd.aX|apply Kd.aY|apply Kd.bG));exact Kd.dm mZ.out (fun _ hk=>⟨(by simp [Value.ownBlock]),hk.2⟩)⟩,⟨by (with_reducible repeat (first|apply Kd.aX|apply Kd.aY|apply Kd.bG));exact Kd.dm YR.out (fun _ hk=>⟨(by simp [Value.ownBlock]),hk.2⟩)⟩,⟨by repeat (first|(with_reducible first|exact HB.out|apply au|apply af|apply aj)|exact HB.out)⟩⟩
              case round =>
                clear H'
                try clear p1
                try clear q1
                try clear hx1
                try clear c2
                try clear uS
                try clear zy
                try clear p2
                try clear c4
                try clear c5
                try clear c6
                try clear oP
                try clear c7
                try clear qR
                try clear c8
                try clear ry
                try clear Uw
                try clear Ub
                try clear p2
                try clear TY
                obtain ⟨uV,jZ,rfl,HA,CX,fG,Am,mZ,qW,HB⟩:=hrel
                cases gk with
                | zero=>exact absurd HA.out (by simp [bZ.l1])
                | succ k2 =>
                  have H:=HA.out
                  clear HA
                  simp only [bZ.l1] at H
                  by_cases c14:jZ < (t150.length:Int)
                  · rw [if_pos c14] at H
                    have vH:decide (jZ < (t150.length:Int))=true:=decide_eq_true c14
                    clear c14
                    by_cases c15:0≤jZ
                    · rw [if_pos c15] at H
                      have vG:decide (0≤jZ)=true:=decide_eq_true c15
                      clear c15
                      by_cases c16:jZ < (t150.length:Int)
                      · rw [if_pos c16] at H
                        have BI:decide (jZ < (t150.length:Int))=true:=decide_eq_true c16
                        clear c16
                        by_cases c17:(eF ByteArray.empty t150 jZ).toList=([]:List UInt8)
                        · rw [if_pos c17] at H
                          have D7:((eF ByteArray.empty t150 jZ).toList == ([]:List UInt8))=true:=beq_iff_eq.mpr c17
                          have IU:((eF ByteArray.empty t150 jZ).toList != ([]:List UInt8))=false:=bne_eq_false_iff_eq.mpr c17
                          clear c17
                          have H':=ae.mk H
                          clear H
                          have DD:0≤(jZ:Int):=of_decide_eq_true (by first|(with_reducible assumption)|assumption)
                          have Dx:jZ < (t150.length:Int):=of_decide_eq_true (by first|(with_reducible assumption)|assumption)
                          obtain ⟨I5,RD,Ls⟩:=Kd.fO (Kd.fB qW.out).2.2 jZ DD Dx
                          cases RD
                          replace DD:=eq_true DD
                          replace Dx:=eq_true Dx
                          go_wp2
                          go_roundg k2
                          case measure=>have:=pJ.out;have:=CX.out;omega
                          case rel=>exact ⟨(uV),(wrap64 (jZ+1)),(by first|rfl|(simp;done)|(simp [*];done)),H',⟨by have:=pJ.out;have:=CX.out;omega⟩,⟨by (with_reducible repeat (first|apply Kd.gp|apply Kd.gm|apply Kd.iJ));exact fG.out⟩,⟨by (with_reducible repeat (first|apply Kd.aX|apply Kd.aY|apply Kd.bG));exact Am.out⟩,⟨by (with_reducible repeat (first|apply Kd.aX|apply Kd.aY|apply Kd.bG));exact mZ.out⟩,⟨by (with_reducible repeat (first|apply Kd.aX|apply Kd.aY|apply Kd.bG));exact qW.out⟩,⟨by repeat (first|(with_reducible first|exact HB.out|apply au|apply af|apply aj)|exact HB.out)⟩⟩
                        · rw [if_neg c17] at H
                          have D7:((eF ByteArray.empty t150 jZ).toList == ([]:List UInt8))=false:=beq_eq_false_iff_ne.mpr c17
                          have IU:((eF ByteArray.empty t150 jZ).toList != ([]:List UInt8))=true:=bne_iff_ne.mpr c17
                          replace H:=Option.bind_eq_some_iff.mp H
                          obtain ⟨t157,SY,H⟩:=H
                          replace H:(if t157=true then (if uV.length < 8796093022208 then (bZ.l1 k2 iE lM (uV++[eF ByteArray.empty t150 jZ]) t143 (t143.length:Int) lM t150 (t150.length:Int) (wrap64 (jZ+1))) else (none)) else (some (([]:List (List ByteArray)),wrap64 (lM+1),4)))=some (r1,r2,r3):=H
                          have A18:=ae.mk SY
                          clear SY
                          by_cases c19:t157=true
                          · subst c19
                            have H1:(if uV.length < 8796093022208 then (bZ.l1 k2 iE lM (uV++[eF ByteArray.empty t150 jZ]) t143 (t143.length:Int) lM t150 (t150.length:Int) (wrap64 (jZ+1))) else (none))=some (r1,r2,r3):=by rw [if_pos rfl] at H;exact H
                            clear H
                            have H:=H1
                            clear H1
                            by_cases c20:uV.length < 8796093022208
                            · rw [if_pos c20] at H
                              have acV:=ae.mk c20
                              clear c20
                              obtain ⟨y158,hy158⟩:∃ y_:List ByteArray,y_=(uV++[eF ByteArray.empty t150 jZ]):=⟨_,rfl⟩
                              replace H:(bZ.l1 k2 iE lM y158 t143 (t143.length:Int) lM t150 (t150.length:Int) (wrap64 (jZ+1)))=some (r1,r2,r3):=by first|(rw [hy158];with_reducible exact H)|(have qX:=(Option.bind_some _ _).symm.trans H;rw [hy158];with_reducible exact qX)|(have qX:=(Option.bind_some _ _).symm.trans H;with_reducible exact qX)|with_reducible exact H|(rw [hy158];exact H)|exact H
                              have acL:=ae.mk hy158
                              clear hy158
                              have H':=ae.mk H
                              clear H
                              have DD:0≤(jZ:Int):=of_decide_eq_true (by first|(with_reducible assumption)|assumption)
                              have Dx:jZ < (t150.length:Int):=of_decide_eq_true (by first|(with_reducible assumption)|assumption)
                              obtain ⟨I5,RD,Ls⟩:=Kd.fO (Kd.fB qW.out).2.2 jZ DD Dx
                              cases RD
                              replace DD:=eq_true DD
                              replace Dx:=eq_true Dx
                              go_wp2_with (first|((with_reducible refine bQ (f:=51) rfl ?_);refine fZ (some 40) rfl rfl Tryz.func51 (by kernel_rfl) rfl #[.string (eF ByteArray.empty t150 jZ)] rfl (by (try simp only [List.map_toArray,List.map_cons,List.map_nil]);first|done|rfl|(simp only [List.length_drop,List.length_take];rfl)) ?_;(with_reducible refine (tH.calls (eF ByteArray.empty t150 jZ) true _ A18.out).mono ?_);rintro e w21 ⟨rfl,hb⟩;refine ⟨_,rfl,?_⟩;have dG:=ae.mk (Kd.o9 (by (with_reducible repeat (first|apply Kd.gp|apply Kd.gm|apply Kd.iJ));exact fG.out) hb);have dM:=ae.mk (Kd.dD (by (with_reducible repeat (first|apply Kd.aX|apply Kd.aY|apply Kd.bG));exact Am.out) hb);have dW:=ae.mk (Kd.dD (by (with_reducible repeat (first|apply Kd.aX|apply Kd.aY|apply Kd.bG));exact mZ.out) hb);have fK:=ae.mk (Kd.dD (by (with_reducible repeat (first|apply Kd.aX|apply Kd.aY|apply Kd.bG));exact qW.out) hb);have iO:=ae.mk (bf (by repeat (first|(with_reducible first|exact HB.out|apply au|apply af|apply aj)|exact HB.out)) hb);clear fG;clear Am;clear mZ;clear qW;clear HB;have fG:=dG;have Am:=dM;have mZ:=dW;have qW:=fK;have HB:=iO;clear dG dM dW fK iO;(try clear hb);(try clear hb2);(try clear hk);(try clear hi))|((with_reducible refine jm (b:=.append) (xs:=#[.tmp 44,.tmp 46]) rfl ?_);at_builtin;refine Kd.oz Kd.string (w0:=w) w.heap.size rfl (.tmp 44) (.tmp 46) 22 9 (.string ⟨#[]⟩) 16 rfl Tryz.underlying22 info9 rfl (by decide) (by omega) u8 uV (eF ByteArray.empty t150 jZ) [.string (eF ByteArray.empty t150 jZ)] (fun k_=>some k_ ≠ (.slice (some yX) t143.length Po:Value).ownBlock∧some k_ ≠ (.slice (some I5) t150.length EE:Value).ownBlock) (fun _=>False) rfl rfl ?aP (fun _ hk=>hk.elim) ?aF ?aO ?aB ?aS ?aL ?_;(case aP=>exact rfl);(case aB=>exact (by repeat (first|(with_reducible first|exact HB.out|apply au|apply af|apply aj)|exact HB.out)));(case aF=>exact (fun k_ hk=>⟨Kd.fresh' (Kd.xX (by (with_reducible repeat (first|apply Kd.aX|apply Kd.aY|apply Kd.bG));exact mZ.out)) k_ hk,Kd.fresh' (Kd.xX (by (with_reducible repeat (first|apply Kd.aX|apply Kd.aY|apply Kd.bG));exact qW.out)) k_ hk⟩));(case aO=>exact (by (with_reducible repeat (first|apply Kd.aX|apply Kd.aY|apply Kd.bG));exact Am.out));(case aS=>exact (aZ (by repeat (first|(with_reducible first|exact HB.out|apply au|apply af|apply aj)|exact HB.out))));(case aL=>have:=acV.out;omega);intro v159 X7 ho hb hg hat;rw [← acL.out] at ho;have dG:=ae.mk (Kd.NC (ok:=(fun k_=>some k_ ≠ (.slice (some yX) t143.length Po:Value).ownBlock∧some k_ ≠ (.slice (some I5) t150.length EE:Value).ownBlock)) (by (with_reducible repeat (first|apply Kd.gp|apply Kd.gm|apply Kd.iJ));exact Kd.oV fG.out (fun _ hk=>⟨⟨hk.2.1,hk.2.2⟩,hk.1⟩)) hg hat);have dM:=ae.mk (Kd.GZ (ok:=(fun k_=>some k_ ≠ (.slice (some I5) t150.length EE:Value).ownBlock)) (by (with_reducible repeat (first|apply Kd.aX|apply Kd.aY|apply Kd.bG));exact Kd.dm mZ.out (fun _ hk=>⟨hk.2,hk.1⟩)) hg hat);have dW:=ae.mk (Kd.GZ (ok:=(fun k_=>some k_ ≠ (.slice (some yX) t143.length Po:Value).ownBlock)) (by (with_reducible repeat (first|apply Kd.aX|apply Kd.aY|apply Kd.bG));exact Kd.dm qW.out (fun _ hk=>⟨hk.2,hk.1⟩)) hg hat);have fK:=ae.mk (hb);have iO:=ae.mk (ho);clear fG;clear mZ;clear qW;clear HB;clear Am;have fG:=dG;have mZ:=dM;have qW:=dW;have HB:=fK;have ada:=iO;clear dG dM dW fK iO;clear ho hb hg hat))
                              go_roundg k2
                              case measure=>have:=pJ.out;have:=CX.out;omega
                              case rel=>exact ⟨(y158),(wrap64 (jZ+1)),(by first|rfl|(simp;done)|(simp [*];done)),H',⟨by have:=pJ.out;have:=CX.out;omega⟩,⟨by (with_reducible repeat (first|apply Kd.gp|apply Kd.gm|apply Kd.iJ));exact Kd.oV fG.out (fun _ hk=>⟨hk.2,⟨hk.1.1,hk.1.2⟩⟩)⟩,⟨by (with_reducible repeat (first|apply Kd.aX|apply Kd.aY|apply Kd.bG));exact ada.out⟩,⟨by (with_reducible repeat (first|apply Kd.aX|apply Kd.aY|apply Kd.bG));exact Kd.dm mZ.out (fun _ hk=>⟨hk.2,hk.1⟩)⟩,⟨by (with_reducible repeat (first|apply Kd.aX|apply Kd.aY|apply Kd.bG));exact Kd.dm qW.out (fun _ hk=>⟨hk.2,hk.1⟩)⟩,⟨by repeat (first|(with_reducible first|exact HB.out|apply au|apply af|apply aj)|exact HB.out)⟩⟩
                            · rw [if_neg c20] at H
                              exact absurd H (by simp)
                          · replace c19:=Bool.eq_false_iff.mpr c19
                            subst c19
                            have H1:(some (([]:List (List ByteArray)),wrap64 (lM+1),4))=some (r1,r2,r3):=by rw [if_neg (show ¬ (false=true) by decide)] at H;exact H
                            clear H
                            have H:=H1
                            clear H1
                            simp only [Option.some.injEq,Prod.mk.injEq] at H
                            obtain ⟨rfl,rfl,rfl⟩:=H
                            have DD:0≤(jZ:Int):=of_decide_eq_true (by first|(with_reducible assumption)|assumption)
                            have Dx:jZ < (t150.length:Int):=of_decide_eq_true (by first|(with_reducible assumption)|assumption)
                            obtain ⟨I5,RD,Ls⟩:=Kd.fO (Kd.fB qW.out).2.2 jZ DD Dx
                            cases RD
                            replace DD:=eq_true DD
                            replace Dx:=eq_true Dx
                            go_wp2_with (first|((with_reducible refine bQ (f:=51) rfl ?_);refine fZ (some 40) rfl rfl Tryz.func51 (by kernel_rfl) rfl #[.string (eF ByteArray.empty t150 jZ)] rfl (by (try simp only [List.map_toArray,List.map_cons,List.map_nil]);first|done|rfl|(simp only [List.length_drop,List.length_take];rfl)) ?_;(with_reducible refine (tH.calls (eF ByteArray.empty t150 jZ) false _ A18.out).mono ?_);rintro e Jh ⟨rfl,hb⟩;refine ⟨_,rfl,?_⟩;have dG:=ae.mk (Kd.o9 (by (with_reducible repeat (first|apply Kd.gp|apply Kd.gm|apply Kd.iJ));exact fG.out) hb);have dM:=ae.mk (Kd.dD (by (with_reducible repeat (first|apply Kd.aX|apply Kd.aY|apply Kd.bG));exact Am.out) hb);have dW:=ae.mk (Kd.dD (by (with_reducible repeat (first|apply Kd.aX|apply Kd.aY|apply Kd.bG));exact mZ.out) hb);have fK:=ae.mk (Kd.dD (by (with_reducible repeat (first|apply Kd.aX|apply Kd.aY|apply Kd.bG));exact qW.out) hb);have iO:=ae.mk (bf (by repeat (first|(with_reducible first|exact HB.out|apply au|apply af|apply aj)|exact HB.out)) hb);clear fG;clear Am;clear mZ;clear qW;clear HB;have fG:=dG;have Am:=dM;have mZ:=dW;have qW:=fK;have HB:=iO;clear dG dM dW fK iO;(try clear hb);(try clear hb2);(try clear hk);(try clear hi)))
                            go_ret3
                            exact ⟨_,by first|rfl|(simp [bF,bD] <;> rfl)|(simp [*,bF,bD] <;> rfl),by first|exact Kd.oU _ _ _ _ _|exact Kd.oZ _ _ _ _ _|exact Kd.oQ _ _ _ _ _|exact Kd.oW _ _ _ _ _|exact Kd.jh _ _ _ _ _,by repeat (first|(with_reducible first|exact HB.out|apply au|apply af|apply aj)|exact HB.out)⟩
                      · rw [if_neg c16] at H
                        exact absurd H (by simp)
                    · rw [if_neg c15] at H
                      exact absurd H (by simp)
                  · rw [if_neg c14] at H
                    have vH:decide (jZ < (t150.length:Int))=false:=decide_eq_false c14
                    clear c14
                    by_cases c24:(uV.length:Int) > 0
                    · rw [if_pos c24] at H
                      have YA:decide (0 < (uV.length:Int))=true:=decide_eq_true c24
                      have acg:decide (0 < uV.length)=true:=decide_eq_true (by omega)
                      clear c24
                      by_cases c25:iE.length < 5864062014805
                      · rw [if_pos c25] at H
                        have acT:=ae.mk c25
                        clear c25
                        obtain ⟨y153,hy153⟩:∃ y_:List (List ByteArray),y_=(iE++[uV]):=⟨_,rfl⟩
                        replace H:(bZ.l0 k2 y153 t143 (t143.length:Int) (wrap64 (lM+1)))=some (r1,r2,r3):=by first|(rw [hy153];with_reducible exact H)|(have qX:=(Option.bind_some _ _).symm.trans H;rw [hy153];with_reducible exact qX)|(have qX:=(Option.bind_some _ _).symm.trans H;with_reducible exact qX)|with_reducible exact H|(rw [hy153];exact H)|exact H
                        have acM:=ae.mk hy153
                        clear hy153
                        have H':=ae.mk H
                        clear H
                        obtain ⟨SQ,RI,Xw⟩:=Kd.gI Am.out
                        subst Xw
                        go_wp2_with (first|((with_reducible refine jm (b:=.append) (xs:=#[.tmp 52,.tmp 54]) rfl ?_);at_builtin;refine Kd.I9 (Kd.slice 9 Kd.string) (w0:=w) w.heap.size rfl (.tmp 52) (.tmp 54) 43 22 (.slice none 0 0) 24 rfl Tryz.underlying43 info22 rfl (by decide) (by omega) u5 iE uV [.slice SQ uV.length RI] (fun k_=>some k_ ≠ (.slice (some yX) t143.length Po:Value).ownBlock∧some k_ ≠ (.slice J7 t150.length EE:Value).ownBlock) (fun k_=>some k_=(.slice SQ uV.length RI:Value).ownBlock) rfl rfl ?aP (fun k_ hk_=>((Kd.dm (ok':=fun k_=>((fun k_=>some k_ ≠ (.slice (some yX) t143.length Po:Value).ownBlock∧some k_ ≠ (.slice J7 t150.length EE:Value).ownBlock)) k_∧some k_ ≠ (u5:Value).ownBlock) (Kd.oC (Am.out) (Kd.yK fG.out) (by decide)) (fun k_ hk=>⟨⟨hk.1.1,hk.1.2⟩,hk.2⟩))).1 k_ hk_.symm) ?aF ?aO ?aB ?aS ?aL ?_;(case aP=>exact Kd.YM (Kd.dm (Kd.GX rfl (Kd.dm (ok':=fun k_=>((fun k_=>some k_ ≠ (.slice (some yX) t143.length Po:Value).ownBlock∧some k_ ≠ (.slice J7 t150.length EE:Value).ownBlock)) k_∧some k_ ≠ (u5:Value).ownBlock) (Kd.oC (Am.out) (Kd.yK fG.out) (by decide)) (fun k_ hk=>⟨⟨hk.1.1,hk.1.2⟩,hk.2⟩))) (fun _ h_=>h_)));(case aB=>exact (by repeat (first|(with_reducible first|exact HB.out|apply au|apply af|apply aj)|exact HB.out)));(case aF=>exact (fun k_ hk=>⟨Kd.fresh' (Kd.xX (by (with_reducible repeat (first|apply Kd.aX|apply Kd.aY|apply Kd.bG));exact mZ.out)) k_ hk,Kd.fresh' (Kd.xX (by (with_reducible repeat (first|apply Kd.aX|apply Kd.aY|apply Kd.bG));exact qW.out)) k_ hk⟩));(case aO=>exact (by (with_reducible repeat (first|apply Kd.gp|apply Kd.gm|apply Kd.iJ));exact Kd.oV fG.out (fun k_ hk=>⟨⟨hk.2.1,hk.2.2⟩,fun e_=>hk.1 e_⟩)));(case aS=>exact (aZ (by repeat (first|(with_reducible first|exact HB.out|apply au|apply af|apply aj)|exact HB.out))));(case aL=>have:=acT.out;omega);intro v154 w27 ho hb hg hat;rw [← acM.out] at ho;have dG:=ae.mk (Kd.xg (by (with_reducible repeat (first|apply Kd.aX|apply Kd.aY|apply Kd.bG));exact mZ.out) (Kd.yK (by (with_reducible repeat (first|apply Kd.gp|apply Kd.gm|apply Kd.iJ));exact fG.out)) (by decide) hg);have dM:=ae.mk (Kd.xg (by (with_reducible repeat (first|apply Kd.aX|apply Kd.aY|apply Kd.bG));exact qW.out) (Kd.yK (by (with_reducible repeat (first|apply Kd.gp|apply Kd.gm|apply Kd.iJ));exact fG.out)) (by decide) hg);have dW:=ae.mk (hb);have fK:=ae.mk (ho);clear mZ;clear qW;clear HB;clear fG;clear Am;have mZ:=dG;have qW:=dM;have HB:=dW;have adb:=fK;clear dG dM dW fK;clear ho hb hg hat))
                        go_roundg k2
                        case measure=>have:=pJ.out;have:=CX.out;omega
                        case rel=>exact ⟨(y153),(wrap64 (lM+1)),(by first|rfl|(simp;done)|(simp [*];done)),H',⟨by have:=pJ.out;have:=CX.out;omega⟩,⟨by (with_reducible repeat (first|apply Kd.gp|apply Kd.gm|apply Kd.iJ));exact Kd.oV adb.out (fun _ hk=>hk.1)⟩,⟨by (with_reducible repeat (first|apply Kd.aX|apply Kd.aY|apply Kd.bG));exact Kd.dm mZ.out (fun _ hk=>trivial)⟩,⟨by repeat (first|(with_reducible first|exact HB.out|apply au|apply af|apply aj)|exact HB.out)⟩⟩
                      · rw [if_neg c25] at H
                        exact absurd H (by simp)
                    · rw [if_neg c24] at H
                      have YA:decide (0 < (uV.length:Int))=false:=decide_eq_false c24
                      have acg:decide (0 < uV.length)=false:=decide_eq_false (by omega)
                      clear c24
                      have H':=ae.mk H
                      clear H
                      obtain ⟨zD,yO,Z9⟩:=Kd.gI Am.out
                      subst Z9
                      go_wp2
                      go_roundg k2
                      case measure=>have:=pJ.out;have:=CX.out;omega
                      case rel=>exact ⟨(iE),(wrap64 (lM+1)),(by first|rfl|(simp;done)|(simp [*];done)),H',⟨by have:=pJ.out;have:=CX.out;omega⟩,⟨by (with_reducible repeat (first|apply Kd.gp|apply Kd.gm|apply Kd.iJ));exact Kd.oV fG.out (fun _ hk=>hk.2.1)⟩,⟨by (with_reducible repeat (first|apply Kd.aX|apply Kd.aY|apply Kd.bG));exact Kd.dm mZ.out (fun _ hk=>trivial)⟩,⟨by repeat (first|(with_reducible first|exact HB.out|apply au|apply af|apply aj)|exact HB.out)⟩⟩
            · rw [if_neg c8] at H
              exact absurd H (by simp)
          · rw [if_neg c7] at H
            exact absurd H (by simp)
        · rw [if_neg c6] at H
          have oP:decide (lM < (t143.length:Int))=false:=decide_eq_false c6
          clear c6
          simp only [Option.some.injEq,Prod.mk.injEq] at H
          obtain ⟨rfl,rfl,rfl⟩:=H
          go_wp2
          go_ret3
          exact ⟨_,by first|rfl|(simp [bF,bD] <;> rfl)|(simp [*,bF,bD] <;> rfl),by (with_reducible repeat (first|apply Kd.gp|apply Kd.gm|apply Kd.iJ));exact Kd.oV fG.out (fun _ hk=>trivial),by repeat (first|(with_reducible first|exact HB.out|apply au|apply af|apply aj)|exact HB.out)⟩
def stringslite_HasSuffix.f (a0:ByteArray) (a1:ByteArray):Option (Bool):=if (a0.size:Int) ≥ (a1.size:Int) then (if 0≤(wrap64 ((a0.size:Int) - (a1.size:Int))) then (if (wrap64 ((a0.size:Int) - (a1.size:Int)))≤(a0.size:Int) then (some ((a0.extract ((wrap64 ((a0.size:Int) - (a1.size:Int))):Int).toNat a0.size).toList == a1.toList)) else (none)) else (none)) else (some false)
set_option maxHeartbeats 8000000 in
set_option maxRecDepth 100000 in
theorem stringslite_HasSuffix.calls (a0:ByteArray) (a1:ByteArray) (r:Bool) (w:World) (h:stringslite_HasSuffix.f a0 a1=some r) :
    Calls Tryz.prog 62 #[.string a0,.string a1] w fun e w'=>e=.returned (.bool r)∧bz w w':=by
  have H:(if (a0.size:Int) ≥ (a1.size:Int) then (if 0≤(wrap64 ((a0.size:Int) - (a1.size:Int))) then (if (wrap64 ((a0.size:Int) - (a1.size:Int)))≤(a0.size:Int) then (some ((a0.extract ((wrap64 ((a0.size:Int) - (a1.size:Int))):Int).toNat a0.size).toList == a1.toList)) else (none)) else (none)) else (some false))=some r:=h
  clear h
  by_cases c3:(a0.size:Int) ≥ (a1.size:Int)
  · rw [if_pos c3] at H
    have rW:decide ((a1.size:Int)≤(a0.size:Int))=true:=decide_eq_true c3
    have Bf:decide (a1.size≤a0.size)=true:=decide_eq_true (Int.ofNat_le.mp c3)
    clear c3
    obtain ⟨Yj,Uy⟩:∃ j_:Int,(wrap64 ((a0.size:Int) - (a1.size:Int)))=j_:=⟨_,rfl⟩
    replace H:(if 0≤(Yj) then (if (Yj)≤(a0.size:Int) then (some ((a0.extract ((Yj):Int).toNat a0.size).toList == a1.toList)) else (none)) else (none))=some r:=by first|(rw [Uy] at H;exact H)|(simp only [Uy] at H ⊢;exact H)
    have alI:(IntKind.i64.wrap ((a0.size:Int) - (a1.size:Int)))=Yj:=(aN _).trans Uy
    by_cases c5:0≤(Yj)
    · rw [if_pos c5] at H
      have wX:=eq_true c5
      have GR:decide (0≤(Yj))=true:=decide_eq_true c5
      clear c5
      by_cases c6:(Yj)≤(a0.size:Int)
      · rw [if_pos c6] at H
        have oP:=eq_true c6
        have zx:decide ((Yj)≤(a0.size:Int))=true:=decide_eq_true c6
        clear c6
        obtain rfl:=Option.some.inj H
        go_enter Tryz.func62,Tryz.ntmps62
        go_wp2
        go_ret
        exact ⟨by first|rfl|(simp;done)|(simp only [← Uy] <;> (first|rfl|simp))|(simp [*];done),by repeat (first|exact bz.refl _|apply bz.step)⟩
      · rw [if_neg c6] at H
        exact absurd H (by simp)
    · rw [if_neg c5] at H
      exact absurd H (by simp)
  · rw [if_neg c3] at H
    have rW:decide ((a1.size:Int)≤(a0.size:Int))=false:=decide_eq_false c3
    have Bf:decide (a1.size≤a0.size)=false:=decide_eq_false (fun h=>c3 (Int.ofNat_le.mpr h))
    clear c3
    obtain rfl:=Option.some.inj H
    go_enter Tryz.func62,Tryz.ntmps62
    go_wp2
    go_ret
    exact ⟨by first|rfl|(simp;done)|(simp [*];done),by repeat (first|exact bz.refl _|apply bz.step)⟩
def stringslite_TrimSuffix.f (a0:ByteArray) (a1:ByteArray):Option (ByteArray):=(stringslite_HasSuffix.f a0 a1).bind fun t161=>(if t161=true then (if 0≤(wrap64 ((a0.size:Int) - (a1.size:Int))) then (if (wrap64 ((a0.size:Int) - (a1.size:Int)))≤(a0.size:Int) then (some (a0.extract 0 ((wrap64 ((a0.size:Int) - (a1.size:Int))):Int).toNat)) else (none)) else (none)) else (some a0))
set_option maxHeartbeats 8000000 in
set_option maxRecDepth 100000 in
theorem stringslite_TrimSuffix.calls (a0:ByteArray) (a1:ByteArray) (r:ByteArray) (w:World) (h:stringslite_TrimSuffix.f a0 a1=some r) :
    Calls Tryz.prog 52 #[.string a0,.string a1] w fun e w'=>e=.returned (.string r)∧bz w w':=by
  have H:((stringslite_HasSuffix.f a0 a1).bind fun t161=>(if t161=true then (if 0≤(wrap64 ((a0.size:Int) - (a1.size:Int))) then (if (wrap64 ((a0.size:Int) - (a1.size:Int)))≤(a0.size:Int) then (some (a0.extract 0 ((wrap64 ((a0.size:Int) - (a1.size:Int))):Int).toNat)) else (none)) else (none)) else (some a0)))=some r:=h
  clear h
  replace H:=Option.bind_eq_some_iff.mp H
  obtain ⟨t161,Jg,H⟩:=H
  replace H:(if t161=true then (if 0≤(wrap64 ((a0.size:Int) - (a1.size:Int))) then (if (wrap64 ((a0.size:Int) - (a1.size:Int)))≤(a0.size:Int) then (some (a0.extract 0 ((wrap64 ((a0.size:Int) - (a1.size:Int))):Int).toNat)) else (none)) else (none)) else (some a0))=some r:=H
  have A3:=ae.mk Jg
  clear Jg
  by_cases c4:t161=true
  · subst c4
    have H1:(if 0≤(wrap64 ((a0.size:Int) - (a1.size:Int))) then (if (wrap64 ((a0.size:Int) - (a1.size:Int)))≤(a0.size:Int) then (some (a0.extract 0 ((wrap64 ((a0.size:Int) - (a1.size:Int))):Int).toNat)) else (none)) else (none))=some r:=by rw [if_pos rfl] at H;exact H
    clear H
    have H:=H1
    clear H1
    obtain ⟨Yi,Qu⟩:∃ j_:Int,(wrap64 ((a0.size:Int) - (a1.size:Int)))=j_:=⟨_,rfl⟩
    replace H:(if 0≤(Yi) then (if (Yi)≤(a0.size:Int) then (some (a0.extract 0 ((Yi):Int).toNat)) else (none)) else (none))=some r:=by first|(rw [Qu] at H;exact H)|(simp only [Qu] at H ⊢;exact H)
    (try rw [Qu] at A3)
    have alH:(IntKind.i64.wrap ((a0.size:Int) - (a1.size:Int)))=Yi:=(aN _).trans Qu
    by_cases c6:0≤(Yi)
    · rw [if_pos c6] at H
      have oP:=eq_true c6
      have zx:decide (0≤(Yi))=true:=decide_eq_true c6
      clear c6
      by_cases c7:(Yi)≤(a0.size:Int)
      · rw [if_pos c7] at H
        have qR:=eq_true c7
        have xy:decide ((Yi)≤(a0.size:Int))=true:=decide_eq_true c7
        clear c7
        obtain rfl:=Option.some.inj H
        go_enter Tryz.func52,Tryz.ntmps52
        go_wp2_with (first|((with_reducible refine bQ (f:=62) rfl ?_);refine fZ (some 7) rfl rfl Tryz.func62 (by kernel_rfl) rfl #[.string a0,.string a1] rfl (by (try simp only [List.map_toArray,List.map_cons,List.map_nil]);first|done|rfl|(simp only [List.length_drop,List.length_take];rfl)) ?_;(with_reducible refine (stringslite_HasSuffix.calls a0 a1 true _ A3.out).mono ?_);rintro e w' ⟨rfl,⟨nd,rfl⟩⟩;refine ⟨_,rfl,?_⟩))
        go_ret
        exact ⟨by first|rfl|(simp;done)|(simp only [← Qu] <;> (first|rfl|simp))|(simp [*];done),by repeat (first|exact bz.refl _|apply bz.step)⟩
      · rw [if_neg c7] at H
        exact absurd H (by simp)
    · rw [if_neg c6] at H
      exact absurd H (by simp)
  · replace c4:=Bool.eq_false_iff.mpr c4
    subst c4
    have H1:(some a0)=some r:=by rw [if_neg (show ¬ (false=true) by decide)] at H;exact H
    clear H
    have H:=H1
    clear H1
    obtain rfl:=Option.some.inj H
    go_enter Tryz.func52,Tryz.ntmps52
    go_wp2_with (first|((with_reducible refine bQ (f:=62) rfl ?_);refine fZ (some 7) rfl rfl Tryz.func62 (by kernel_rfl) rfl #[.string a0,.string a1] rfl (by (try simp only [List.map_toArray,List.map_cons,List.map_nil]);first|done|rfl|(simp only [List.length_drop,List.length_take];rfl)) ?_;(with_reducible refine (stringslite_HasSuffix.calls a0 a1 false _ A3.out).mono ?_);rintro e w' ⟨rfl,⟨nd,rfl⟩⟩;refine ⟨_,rfl,?_⟩))
    go_ret
    exact ⟨by first|rfl|(simp;done)|(simp [*];done),by repeat (first|exact bz.refl _|apply bz.step)⟩
def strings_TrimSuffix.f (a0:ByteArray) (a1:ByteArray):Option (ByteArray):=(stringslite_TrimSuffix.f a0 a1).bind fun t162=>(some t162)
set_option maxHeartbeats 8000000 in
set_option maxRecDepth 100000 in
theorem strings_TrimSuffix.calls (a0:ByteArray) (a1:ByteArray) (r:ByteArray) (w:World) (h:strings_TrimSuffix.f a0 a1=some r) :
    Calls Tryz.prog 32 #[.string a0,.string a1] w fun e w'=>e=.returned (.string r)∧bz w w':=by
  have H:((stringslite_TrimSuffix.f a0 a1).bind fun t162=>(some t162))=some r:=h
  clear h
  replace H:=Option.bind_eq_some_iff.mp H
  obtain ⟨t162,Jg,H⟩:=H
  replace H:(some t162)=some r:=H
  have A3:=ae.mk Jg
  clear Jg
  obtain rfl:=Option.some.inj H
  go_enter Tryz.func32,Tryz.ntmps32
  go_wp2_with (first|((with_reducible refine bQ (f:=52) rfl ?_);refine fZ (some 7) rfl rfl Tryz.func52 (by kernel_rfl) rfl #[.string a0,.string a1] rfl (by (try simp only [List.map_toArray,List.map_cons,List.map_nil]);first|done|rfl|(simp only [List.length_drop,List.length_take];rfl)) ?_;(with_reducible refine (stringslite_TrimSuffix.calls a0 a1 t162 _ A3.out).mono ?_);rintro e w' ⟨rfl,⟨nd,rfl⟩⟩;refine ⟨_,rfl,?_⟩))
  go_ret
  exact ⟨by first|rfl|(simp;done)|(simp [*];done),by repeat (first|exact bz.refl _|apply bz.step)⟩
end Go.Proofs.YtkclndkbccbhaaaGreatDoor.P
end
section
namespace Go.Proofs.YtkclndkbccbhaaaGreatDoor.P
open Go
def qi (c:UInt8):List UInt8→List (List UInt8)
  | []=>[[]]
  | x :: xs=>if x=c then [] :: qi c xs else (x :: (qi c xs).headD []) :: (qi c xs).tail
theorem AL (c:UInt8) (l:List UInt8):qi c l ≠ []:=by
  cases l with
  | nil=>simp [qi]
  | cons x xs=>unfold qi;split <;> simp
theorem OD {α:Type} {a b:List α} (d:α) (h:a ≠ []):(a++b).headD d=a.headD d:=by
  cases a with
  | nil=>exact absurd rfl h
  | cons x xs=>rfl
theorem PG {α:Type} {a b:List α} (h:a ≠ []):(a++b).tail=a.tail++b:=by
  cases a with
  | nil=>exact absurd rfl h
  | cons x xs=>rfl
theorem FY (c:UInt8) (a b:List UInt8):qi c (a++c :: b)=qi c a++qi c b:=by
  induction a with
  | nil=>simp [qi]
  | cons x xs ih =>
    simp only [List.cons_append,qi]
    by_cases h:x=c
    · rw [if_pos h,if_pos h,ih];rfl
    · rw [if_neg h,if_neg h,ih,OD _ (AL c xs),PG (AL c xs)];rfl
theorem rH (c:UInt8) {l:List UInt8} (h:c ∉ l):qi c l=[l]:=by
  induction l with
  | nil=>rfl
  | cons x xs ih =>
    simp only [List.mem_cons,not_or] at h
    unfold qi
    rw [if_neg (fun e=>h.1 e.symm),ih h.2]
    rfl
theorem Jl (c:UInt8) (l:List UInt8):(qi c l).length=l.count c+1:=by
  induction l with
  | nil=>rfl
  | cons x xs ih =>
    unfold qi
    by_cases h:x=c
    · rw [if_pos h,h,List.count_cons_self];simp [ih]
    · have h1:0 < (qi c xs).length:=List.length_pos_iff.2 (AL c xs)
      rw [if_neg h,List.count_cons_of_ne h]
      simp only [List.length_cons,List.length_tail]
      omega
theorem TB {c:UInt8} {l p:List UInt8} (h:p ∈ qi c l):c ∉ p:=by
  induction l generalizing p with
  | nil=>simp [qi] at h;subst h;simp
  | cons x xs ih =>
    unfold qi at h
    by_cases e:x=c
    · rw [if_pos e] at h
      rcases List.mem_cons.1 h with h|h
      · subst h;simp
      · exact ih h
    · rw [if_neg e] at h
      rcases List.mem_cons.1 h with h|h
      · subst h
        simp only [List.mem_cons,not_or]
        refine ⟨fun e'=>e e'.symm,?_⟩
        apply ih
        cases hs:qi c xs with
        | nil=>exact absurd hs (AL c xs)
        | cons y ys=>simp
      · exact ih (List.mem_of_mem_tail h)
theorem parted {α:Type} [DecidableEq α] (c:α) (l:List α):c ∉ l ∨ ∃ a b,l=a++c :: b∧c ∉ a:=by
  induction l with
  | nil=>exact .inl (by simp)
  | cons x xs ih =>
    by_cases e:x=c
    · subst e
      exact .inr ⟨[],xs,rfl,by simp⟩
    · rcases ih with h|⟨a,b,h,ha⟩
      · exact .inl (by simp only [List.mem_cons,not_or];exact ⟨fun e'=>e e'.symm,h⟩)
      · exact .inr ⟨x :: a,b,by rw [h];rfl,by simp only [List.mem_cons,not_or];exact ⟨fun e'=>e e'.symm,ha⟩⟩
theorem xN {c:UInt8} {l:List UInt8} (h:c ∉ l):Lib.indexByte l c=-1:=by
  induction l with
  | nil=>rfl
  | cons x xs ih =>
    simp only [List.mem_cons,not_or] at h
    unfold Lib.indexByte
    rw [if_neg (by simp;exact fun e=>h.1 e.symm),ih h.2]
    rfl
theorem zT {c:UInt8} {a b:List UInt8} (h:c ∉ a):Lib.indexByte (a++c :: b) c=a.length:=by
  induction a with
  | nil=>simp [Lib.indexByte]
  | cons x xs ih =>
    simp only [List.mem_cons,not_or] at h
    simp only [List.cons_append]
    unfold Lib.indexByte
    rw [if_neg (by simp;exact fun e=>h.1 e.symm),ih h.2,if_neg (by simp)]
    simp
theorem Ez {p:UInt8→Bool} {l:List UInt8} (h:∀ x ∈ l,p x=true):l.takeWhile p=l:=by
  induction l with
  | nil=>rfl
  | cons x xs ih=>rw [List.takeWhile_cons,if_pos (h x (by simp)),ih (fun y hy=>h y (by simp [hy]))]
theorem Ey {p:UInt8→Bool} {l:List UInt8} {x:UInt8} (h:x ∈ l.takeWhile p):p x=true:=by
  induction l with
  | nil=>cases h
  | cons y ys ih =>
    rw [List.takeWhile_cons] at h
    by_cases e:p y=true
    · rw [if_pos e] at h
      rcases List.mem_cons.1 h with rfl|h
      · exact e
      · exact ih h
    · rw [if_neg e] at h
      cases h
theorem Dl (c:UInt8):∀ (k:Nat) (l:List UInt8),l.count c≤k→Lib.splitK [c] 0 k l=qi c l
  | 0,l,h=>by
    have hc:c ∉ l:=List.count_eq_zero.1 (by omega)
    rw [rH c hc]
    rfl
  | k+1,l,h=>by
    unfold Lib.splitK
    rw [Lib.index_one]
    rcases parted c l with hc|⟨a,b,rfl,ha⟩
    · rw [xN hc,rH c hc]
      rfl
    · rw [zT ha,if_neg (by simp),FY,rH c ha]
      have hk:b.count c≤k:=by
        rw [List.count_append,List.count_cons_self] at h
        omega
      have e1:(a++c :: b).take ((a.length:Int).toNat+0)=a:=by simp
      have e2:(a++c :: b).drop ((a.length:Int).toNat + [c].length)=b:=by
        rw [Int.toNat_natCast]
        simp [List.drop_append]
      rw [e1,e2,Dl c k b hk]
      rfl
theorem Xy (c:UInt8) (l:List UInt8):(Lib.cut l [c]).1=l.takeWhile (· ≠ c):=by
  unfold Lib.cut
  rw [Lib.index_one]
  rcases parted c l with hc|⟨a,b,rfl,ha⟩
  · rw [xN hc,if_neg (by omega)]
    symm
    refine Ez fun x hx=>?_
    simp only [ne_eq,decide_eq_true_eq]
    rintro rfl
    exact hc hx
  · rw [zT ha,if_pos (by omega),Int.toNat_natCast]
    have h1:∀ x ∈ a,(decide (x ≠ c))=true:=by
      intro x hx
      simp only [ne_eq,decide_eq_true_eq]
      rintro rfl
      exact ha hx
    rw [List.takeWhile_append_of_pos h1]
    simp
theorem dropWhile_nil {p:UInt8→Bool} {l:List UInt8}:l.dropWhile p=[] ↔ ∀ x ∈ l,p x=true:=by
  induction l with
  | nil=>simp
  | cons x xs ih =>
    rw [List.dropWhile_cons]
    by_cases h:p x=true
    · rw [if_pos h,ih];simp [h]
    · rw [if_neg h];simp [h]
theorem Cc {p:UInt8→Bool} {l:List UInt8} {x:UInt8} {xs:List UInt8} (h:l.dropWhile p=x :: xs):¬ p x=true:=by
  induction l with
  | nil=>cases h
  | cons y ys ih =>
    rw [List.dropWhile_cons] at h
    by_cases e:p y=true
    · rw [if_pos e] at h;exact ih h
    · rw [if_neg e] at h
      injection h with h1 h2
      subst h1
      exact e
theorem AB {l cs:List UInt8}:Lib.trimS l cs=[] ↔ ∀ x ∈ l,cs.contains x=true:=by
  unfold Lib.trimS Lib.trimLeftS Lib.trimRightS
  rw [dropWhile_nil]
  constructor
  · intro h
    cases hd:l.reverse.dropWhile (cs.contains ·) with
    | nil =>
      intro x hx
      exact dropWhile_nil.1 hd x (by simp [hx])
    | cons y ys =>
      exact absurd (h y (by rw [hd];simp)) (Cc hd)
  · intro h
    have:l.reverse.dropWhile (cs.contains ·)=[]:=dropWhile_nil.2 fun x hx=>h x (by simpa using hx)
    rw [this]
    simp
def Og (b:UInt8):Bool:=decide (97≤b.toNat∧b.toNat≤122) || decide (48≤b.toNat∧b.toNat≤57) || decide (b.toNat=45)
def F8 (w:List UInt8):Bool:=decide (w.length≤30) && w.all Og
def toks (l:List UInt8):List (List UInt8):=(qi 32 (l.takeWhile (· ≠ 35))).filter (· ≠ [])
def keep (t:List (List UInt8)):List (List (List UInt8)):=if t=[] then [] else [t]
def Oh (x:List UInt8):Bool:=(toks x).all F8
def tZ (xs:List (List UInt8)):List (List (List UInt8)):=xs.flatMap fun x=>keep (toks x)
def LR:Nat→List (List (List UInt8))→List (List UInt8)→List (List (List UInt8)) × Nat × Nat
  | _,acc,[]=>(acc,0,0)
  | n,acc,x :: r=>if Oh x then LR (n+1) (acc++keep (toks x)) r else ([],n+1,4)
theorem SK {xs:List (List UInt8)} (h:∀ x ∈ xs,Oh x=true) (n:Nat) (acc:List (List (List UInt8))) (ys:List (List UInt8)):LR n acc (xs++ys)=LR (n+xs.length) (acc++tZ xs) ys:=by
  induction xs generalizing n acc with
  | nil=>simp [tZ]
  | cons x xs ih =>
    simp only [List.cons_append,LR]
    rw [if_pos (h x (by simp)),ih (fun y hy=>h y (by simp [hy]))]
    simp only [List.length_cons,tZ,List.flatMap_cons,List.append_assoc]
    rw [show n+1+xs.length=n+(xs.length+1) from by omega]
theorem XT {xs:List (List UInt8)} (h:∀ x ∈ xs,Oh x=true) (n:Nat) (acc:List (List (List UInt8))):LR n acc xs=(acc++tZ xs,0,0):=by
  have:=SK h n acc []
  rw [List.append_nil] at this
  rw [this]
  rfl
theorem aaz {xs:List (List UInt8)} (h:∀ x ∈ xs,Oh x=true) (n:Nat) (acc:List (List (List UInt8))) (x:List UInt8) (hx:Oh x=false) (ys:List (List UInt8)):LR n acc (xs++x :: ys)=([],n+xs.length+1,4):=by
  rw [SK h]
  simp [LR,hx]
theorem SI (xs:List (List UInt8)):(∀ x ∈ xs,Oh x=true) ∨ ∃ a x b,xs=a++x :: b∧(∀ y ∈ a,Oh y=true)∧Oh x=false:=by
  induction xs with
  | nil=>exact .inl (by simp)
  | cons x xs ih =>
    cases hx:Oh x with
    | false=>exact .inr ⟨[],x,xs,rfl,by simp,hx⟩
    | true =>
      rcases ih with h|⟨a,y,b,h,ha,hy⟩
      · refine .inl fun z hz=>?_
        rcases List.mem_cons.1 hz with rfl|hz
        · exact hx
        · exact h z hz
      · refine .inr ⟨x :: a,y,b,by rw [h];rfl,fun z hz=>?_,hy⟩
        rcases List.mem_cons.1 hz with rfl|hz
        · exact hx
        · exact ha z hz
theorem Hg {l w:List UInt8} (h:w ∈ toks l):w ≠ []∧(32:UInt8) ∉ w∧(35:UInt8) ∉ w:=by
  unfold toks at h
  rw [List.mem_filter] at h
  refine ⟨by simpa using h.2,TB h.1,?_⟩
  have h35:(35:UInt8) ∉ l.takeWhile (· ≠ 35):=by
    intro hm
    have:=Ey hm
    simp at this
  intro hw
  refine h35 ?_
  generalize l.takeWhile (· ≠ 35)=m at h
  have:∀ (m w:List UInt8),w ∈ qi 32 m→∀ x ∈ w,x ∈ m:=by
    intro m
    induction m with
    | nil=>intro w hw x hx;simp [qi] at hw;subst hw;cases hx
    | cons y ys ih =>
      intro w hw x hx
      unfold qi at hw
      by_cases e:y=32
      · rw [if_pos e] at hw
        rcases List.mem_cons.1 hw with rfl|hw
        · cases hx
        · exact List.mem_cons_of_mem _ (ih w hw x hx)
      · rw [if_neg e] at hw
        rcases List.mem_cons.1 hw with rfl|hw
        · rcases List.mem_cons.1 hx with rfl|hx
          · simp
          · refine List.mem_cons_of_mem _ (ih ((qi 32 ys).headD []) ?_ x hx)
            cases hs:qi 32 ys with
            | nil=>exact absurd hs (AL 32 ys)
            | cons a b=>simp
        · exact List.mem_cons_of_mem _ (ih w (List.mem_of_mem_tail hw) x hx)
  exact this m w h.1 35 hw
def joinL (L:List (List (List UInt8))):List UInt8:=(L.map fun ws=>Lib.join ws [32]++[10]).flatten
theorem Qk {t ws:List (List UInt8)} (h:ws ∈ keep t):ws=t∧t ≠ []:=by
  unfold keep at h
  split at h
  · cases h
  · exact ⟨by simpa using h,by assumption⟩
theorem OZ {xs:List (List UInt8)} (h:∀ x ∈ xs,Oh x=true) {ws:List (List UInt8)} (hs:ws ∈ tZ xs):ws ≠ []∧∀ w ∈ ws,F8 w=true∧w ≠ []:=by
  unfold tZ at hs
  obtain ⟨x,hx,hk⟩:=List.mem_flatMap.1 hs
  obtain ⟨rfl,hn⟩:=Qk hk
  refine ⟨hn,fun w hw=>⟨?_,(Hg hw).1⟩⟩
  have:=h x hx
  unfold Oh at this
  exact List.all_eq_true.1 this w hw
theorem zQ (ws:List (List UInt8)):(Lib.joinTail [32] ws).length=(ws.map fun w=>w.length+1).sum:=by
  induction ws with
  | nil=>rfl
  | cons w r ih =>
    have:Lib.joinTail [32] (w :: r)=32 :: w++Lib.joinTail [32] r:=by simp [Lib.joinTail]
    rw [this]
    simp only [List.length_append,List.length_cons,List.map_cons,List.sum_cons,ih]
theorem FX (c:UInt8) (l:List UInt8):((qi c l).map fun w=>w.length+1).sum=l.length+1:=by
  induction l with
  | nil=>rfl
  | cons x xs ih =>
    unfold qi
    split
    · simp only [List.map_cons,List.sum_cons,ih,List.length_nil,List.length_cons];omega
    · cases hs:qi c xs with
      | nil=>exact absurd hs (AL c xs)
      | cons y ys =>
        rw [hs] at ih
        simp only [List.headD_cons,List.tail_cons,List.map_cons,List.sum_cons,List.length_cons] at ih ⊢
        omega
theorem Jk (L:List (List UInt8)) (p:List UInt8→Bool):((L.filter p).map fun w=>w.length+1).sum≤(L.map fun w=>w.length+1).sum:=by
  induction L with
  | nil=>simp
  | cons x xs ih =>
    rw [List.filter_cons]
    split
    · simp only [List.map_cons,List.sum_cons];omega
    · simp only [List.map_cons,List.sum_cons];omega
theorem Qi (l:List UInt8):(Lib.join (toks l) [32]).length≤l.length:=by
  have h1:=Jk (qi 32 (l.takeWhile (· ≠ 35))) (· ≠ [])
  rw [FX] at h1
  have h2:(l.takeWhile (· ≠ 35)).length≤l.length:=(List.takeWhile_prefix _).length_le
  have h3:((toks l).map fun w=>w.length+1).sum≤(l.takeWhile (· ≠ 35)).length+1:=h1
  cases ht:toks l with
  | nil=>simp [Lib.join_nil]
  | cons w r =>
    rw [ht] at h3
    rw [Lib.join_cons,List.length_append,zQ]
    simp only [List.map_cons,List.sum_cons] at h3
    omega
theorem Ot (xs:List (List UInt8)):(joinL (tZ xs)).length≤(xs.map fun x=>x.length+1).sum:=by
  induction xs with
  | nil=>simp [tZ,joinL]
  | cons x xs ih =>
    have e:tZ (x :: xs)=keep (toks x)++tZ xs:=by simp [tZ]
    have e2:∀ a b,joinL (a++b)=joinL a++joinL b:=by intro a b;simp [joinL]
    rw [e,e2,List.length_append]
    simp only [List.map_cons,List.sum_cons]
    have h:=Qi x
    have:(joinL (keep (toks x))).length≤x.length+1:=by
      unfold keep
      split
      · simp [joinL]
      · simp only [joinL,List.map_cons,List.map_nil,List.flatten_cons,List.flatten_nil,List.append_nil,List.length_append,List.length_cons,List.length_nil]
        omega
    omega
theorem Ou (l:List UInt8):(joinL (tZ (qi 10 l))).length≤l.length+1:=by
  have:=Ot (qi 10 l)
  rw [FX] at this
  exact this
end Go.Proofs.YtkclndkbccbhaaaGreatDoor.P
end
