/- Parts of the proof of CodeParses: what the functions that it reaches compute, and plain facts about that. -/
import Derived.Test.YtkclndkbccbhaaaGreatDoorRac
import Derived.Test.YtkclndkbccbhaaaGreatDoorRag
import Derived.Test.YtkclndkbccbhaaaGreatDoorRao
set_option linter.unusedVariables false
set_option linter.unusedSimpArgs false
section
namespace Go.Proofs.YtkclndkbccbhaaaGreatDoor.P
open Go.RowKit Go.Proofs.ag.bK Go.Proofs.ag.dV Go.Proofs.ag.fE
attribute [local go_sem] lI lG ny ni jW jV lH lF
mutual
def aI.l0:Nat→ByteArray→List (List ByteArray)→Int→Int→Int→Option ((List (List ByteArray)) × Int × Int)
 | 0,_,_,_,_,_=>none
 | k+1,x0,x5,x6,x7,x8=>if x8≤(x0.size:Int) then (if x8 < (x0.size:Int) then (if 0≤x8 then (aI.j1 k x0 x5 x6 x7 x8 ((bt x0 x8) != 10)) else (none)) else (aI.j1 k x0 x5 x6 x7 x8 false)) else (some (x5,0,0))
def aI.j1:Nat→ByteArray→List (List ByteArray)→Int→Int→Int→Bool→Option ((List (List ByteArray)) × Int × Int)
 | 0,_,_,_,_,_,_=>none
 | k+1,x0,x5,x6,x7,x8,x29=>if x29=true then (aI.l0 k x0 x5 x6 x7 (wrap64 (x8+1))) else (if 0≤x6 then (if x6≤x8 then (if x8≤(x0.size:Int) then ((bC.f k (x0.extract (x6:Int).toNat (x8:Int).toNat)).bind fun qY=>(aI.l1 k x0 x5 x7 x8 qY 0)) else (none)) else (none)) else (none))
def aI.l1:Nat→ByteArray→List (List ByteArray)→Int→Int→List ByteArray→Int→Option ((List (List ByteArray)) × Int × Int)
 | 0,_,_,_,_,_,_=>none
 | k+1,x0,x5,x7,x8,x9,x10=>if x10 < (x9.length:Int) then (if 0≤x10 then ((bg.f k (eF ByteArray.empty x9 x10)).bind fun TA=>(if TA=true then (aI.l1 k x0 x5 x7 x8 x9 (wrap64 (x10+1))) else (some (([]:List (List ByteArray)),x7,4)))) else (none)) else (if (x9.length:Int) > 0 then (if x5.length < 5864062014805 then (aI.l0 k x0 (x5++[x9]) (wrap64 (x8+1)) (wrap64 (x7+1)) (wrap64 (x8+1))) else (none)) else (aI.l0 k x0 x5 (wrap64 (x8+1)) (wrap64 (x7+1)) (wrap64 (x8+1))))
end
def aI.f (k:Nat) (a0:ByteArray):Option ((List (List ByteArray)) × Int × Int):=if (a0.size:Int) > 20000 then (some (([]:List (List ByteArray)),0,3)) else (aI.l0 k a0 ([]:List (List ByteArray)) 0 1 0)
theorem aI.iq:∀ k,(∀ y0 y1 y2 y3 y4,dC (aI.l0 k y0 y1 y2 y3 y4) (aI.l0 (k+1) y0 y1 y2 y3 y4))∧(∀ y0 y1 y2 y3 y4 y5,dC (aI.j1 k y0 y1 y2 y3 y4 y5) (aI.j1 (k+1) y0 y1 y2 y3 y4 y5))∧(∀ y0 y1 y2 y3 y4 y5,dC (aI.l1 k y0 y1 y2 y3 y4 y5) (aI.l1 (k+1) y0 y1 y2 y3 y4 y5))
 | 0=>⟨fun _ _ _ _ _ r h=>by simp [aI.l0] at h,fun _ _ _ _ _ _ r h=>by simp [aI.j1] at h,fun _ _ _ _ _ _ r h=>by simp [aI.l1] at h⟩
 | k+1=>by
  obtain ⟨jY,ih1,ih2⟩:=aI.iq k
  refine ⟨?_,?_,?_⟩
  ·
   intro y0 y1 y2 y3 y4
   unfold aI.l0
   repeat' with_reducible first|apply jY|apply ih1|apply ih2|apply bg.mono|apply bC.mono|exact dC.refl _|exact dC.none _|refine dC.ite ?_ ?_|refine dC.bind ?_ (fun _=>?_)
  ·
   intro y0 y1 y2 y3 y4 y5
   unfold aI.j1
   repeat' with_reducible first|apply jY|apply ih1|apply ih2|apply bg.mono|apply bC.mono|exact dC.refl _|exact dC.none _|refine dC.ite ?_ ?_|refine dC.bind ?_ (fun _=>?_)
  ·
   intro y0 y1 y2 y3 y4 y5
   unfold aI.l1
   repeat' with_reducible first|apply jY|apply ih1|apply ih2|apply bg.mono|apply bC.mono|exact dC.refl _|exact dC.none _|refine dC.ite ?_ ?_|refine dC.bind ?_ (fun _=>?_)
theorem aI.mono:∀ a0 k,dC (aI.f k a0) (aI.f (k+1) a0):=by
 intro a0 k
 obtain ⟨jY,ih1,ih2⟩:=aI.iq k
 unfold aI.f
 repeat' with_reducible first|apply jY|apply ih1|apply ih2|apply bg.mono|apply bC.mono|exact dC.refl _|exact dC.none _|refine dC.ite ?_ ?_|refine dC.bind ?_ (fun _=>?_)
set_option maxHeartbeats 8000000 in
set_option maxRecDepth 100000 in
theorem aI.calls (k:Nat) (a0:ByteArray) (r1:List (List ByteArray)) (r2:Int) (r3:Int) (w:World) (h:aI.f k a0=some (r1,r2,r3)) :
  Calls Tryz.prog 16 #[.string a0] w fun e w'=>∃ Df:Value,e=.returned (.tuple #[Df,.int .i64 r2,.int .i64 r3])∧Kd.S (Kd.slice 9 Kd.string) 22 w' w.heap.size (fun _=>True) Df r1∧Below w.heap.size w w':=by
 have HB:=ae.mk (Below.refl w.heap.size w)
 have H:(if (a0.size:Int) > 20000 then (some (([]:List (List ByteArray)),0,3)) else (aI.l0 k a0 ([]:List (List ByteArray)) 0 1 0))=some (r1,r2,r3):=h
 clear h
 by_cases c2:(a0.size:Int) > 20000
 ·
  rw [if_pos c2] at H
  have uS:decide (20000 < (a0.size:Int))=true:=decide_eq_true c2
  have zy:decide (20000 < a0.size)=true:=decide_eq_true (by omega)
  clear c2
  simp only [Option.some.injEq,Prod.mk.injEq] at H
  obtain ⟨rfl,rfl,rfl⟩:=H
  go_enter Tryz.func16,Tryz.ntmps16
  go_wp2
  go_ret3
  exact ⟨_,by first|rfl|(simp [bF,bD] <;> rfl)|(simp [*,bF,bD] <;> rfl),by first|exact Kd.oU _ _ _ _ _|exact Kd.oZ _ _ _ _ _|exact Kd.oQ _ _ _ _ _|exact Kd.oW _ _ _ _ _|exact Kd.jh _ _ _ _ _,by repeat (first|(with_reducible first|exact HB.out|apply au|apply af|apply aj)|exact HB.out)⟩
 ·
  rw [if_neg c2] at H
  have uS:decide (20000 < (a0.size:Int))=false:=decide_eq_false c2
  have zy:decide (20000 < a0.size)=false:=decide_eq_false (by omega)
  clear c2
  have H':=ae.mk H
  clear H
  go_enter Tryz.func16,Tryz.ntmps16
  go_wp2
  go_loopg [5,6,7,8] k (fun kq v5 v6 v7 v8 w'=>∃ (iE:List (List ByteArray)) (zg:Int) (yN:Int) (ou:Int),v6=.int .i64 zg∧v7=.int .i64 yN∧v8=.int .i64 ou∧ae (aI.l0 kq a0 iE zg yN ou=some (r1,r2,r3))∧ae (kq≤k)∧ae (Kd.S (Kd.slice 9 Kd.string) 22 w' w.heap.size (fun _=>True) v5 iE)∧ae (Below w.heap.size w w'))
  case atStart=>exact ⟨(([]:List (List ByteArray))),(0),(1),(0),(by first|rfl|(simp;done)|(simp [*];done)),(by first|rfl|(simp;done)|(simp [*];done)),(by first|rfl|(simp;done)|(simp [*];done)),H',⟨Nat.le_refl _⟩,⟨by first|exact Kd.oU _ _ _ _ _|exact Kd.oZ _ _ _ _ _|exact Kd.oQ _ _ _ _ _|exact Kd.oW _ _ _ _ _|exact Kd.jh _ _ _ _ _⟩,⟨by repeat (first|(with_reducible first|exact HB.out|apply au|apply af|apply aj)|exact HB.out)⟩⟩
  case round =>
   clear H'
   obtain ⟨iE,zg,yN,ou,rfl,rfl,rfl,HA,pJ,fG,HB⟩:=hrel
   cases gk with
   | zero=>exact absurd HA.out (by simp [aI.l0])
   | succ k1 =>
    have H:=HA.out
    clear HA
    simp only [aI.l0] at H
    by_cases c3:ou≤(a0.size:Int)
    ·
     rw [if_pos c3] at H
     have rW:decide (ou≤(a0.size:Int))=true:=decide_eq_true c3
     clear c3
     have HC4:=ae.mk H
     clear H
     go_upto_region 9 with (fail)
     go_cut [29] (fun v29 wc=>∃ (kq:Nat) (Kt:Bool),v29=.bool Kt∧ae (aI.j1 kq a0 iE zg yN ou Kt=some (r1,r2,r3))∧ae (kq≤k1)∧ae (Kd.S (Kd.slice 9 Kd.string) 22 wc w.heap.size (fun _=>True) u5 iE)∧ae (Below w.heap.size w wc))
     case first =>
      have H:=HC4.out
      clear HC4
      by_cases c5:ou < (a0.size:Int)
      ·
       rw [if_pos c5] at H
       have wX:decide (ou < (a0.size:Int))=true:=decide_eq_true c5
       clear c5
       (first|rw [wX]|(simp only [aN,aQ];rw [wX])|skip)
       by_cases c6:0≤ou
       ·
        rw [if_pos c6] at H
        have oP:decide (0≤ou)=true:=decide_eq_true c6
        clear c6
        have H':=ae.mk H
        clear H
        have p7:0≤(ou:Int):=of_decide_eq_true (by first|(with_reducible assumption)|assumption)
        have q7:ou < (a0.size:Int):=of_decide_eq_true (by first|(with_reducible assumption)|assumption)
        have hx7:=kS a0 ou
        replace p7:=eq_true p7
        replace q7:=eq_true q7
        go_wp2
        go_meet
        case rel=>exact ⟨_,(((bt a0 ou) != 10)),(by first|rfl|(simp;done)|(simp [*];done)),H',⟨by have:=pJ.out;first|omega|exact Nat.le_refl _⟩,⟨by (with_reducible repeat (first|apply Kd.gp|apply Kd.gm|apply Kd.iJ));exact fG.out⟩,⟨by repeat (first|(with_reducible first|exact HB.out|apply au|apply af|apply aj)|exact HB.out)⟩⟩
       ·
        rw [if_neg c6] at H
        exact absurd H (by simp)
      ·
       rw [if_neg c5] at H
       have wX:decide (ou < (a0.size:Int))=false:=decide_eq_false c5
       clear c5
       (first|rw [wX]|(simp only [aN,aQ];rw [wX])|skip)
       have H':=ae.mk H
       clear H
       go_wp2
       go_meet
       case rel=>exact ⟨_,(false),(by first|rfl|(simp;done)|(simp [*];done)),H',⟨by have:=pJ.out;first|omega|exact Nat.le_refl _⟩,⟨by (with_reducible repeat (first|apply Kd.gp|apply Kd.gm|apply Kd.iJ));exact fG.out⟩,⟨by repeat (first|(with_reducible first|exact HB.out|apply au|apply af|apply aj)|exact HB.out)⟩⟩
     case rest =>
      clear HC4
      obtain ⟨kq,Kt,rfl,HA,YU,fG,HB⟩:=hcut
      cases kq with
      | zero=>exact absurd HA.out (by simp [aI.j1])
      | succ Yh =>
       have H:=HA.out
       clear HA
       simp only [aI.j1] at H
       by_cases c8:Kt=true
       ·
        subst c8
        have H1:(aI.l0 Yh a0 iE zg yN (wrap64 (ou+1)))=some (r1,r2,r3):=by rw [if_pos rfl] at H;exact H
        clear H
        have H:=H1
        clear H1
        have H':=ae.mk H
        clear H
        go_wp2
        go_roundg Yh
        case measure=>have:=pJ.out;have:=YU.out;omega
        case rel=>exact ⟨(iE),(zg),(yN),(wrap64 (ou+1)),(by first|rfl|(simp;done)|(simp [*];done)),(by first|rfl|(simp;done)|(simp [*];done)),(by first|rfl|(simp;done)|(simp [*];done)),H',⟨by have:=pJ.out;have:=YU.out;omega⟩,⟨by (with_reducible repeat (first|apply Kd.gp|apply Kd.gm|apply Kd.iJ));exact fG.out⟩,⟨by repeat (first|(with_reducible first|exact HB.out|apply au|apply af|apply aj)|exact HB.out)⟩⟩
       ·
        replace c8:=Bool.eq_false_iff.mpr c8
        subst c8
        have H1:(if 0≤zg then (if zg≤ou then (if ou≤(a0.size:Int) then ((bC.f Yh (a0.extract (zg:Int).toNat (ou:Int).toNat)).bind fun qY=>(aI.l1 Yh a0 iE yN ou qY 0)) else (none)) else (none)) else (none))=some (r1,r2,r3):=by rw [if_neg (show ¬ (false=true) by decide)] at H;exact H
        clear H
        have H:=H1
        clear H1
        by_cases c9:0≤zg
        ·
         rw [if_pos c9] at H
         have EF:=eq_true c9
         have JV:decide (0≤zg)=true:=decide_eq_true c9
         clear c9
         by_cases c10:zg≤ou
         ·
          rw [if_pos c10] at H
          have mM:=eq_true c10
          have ui:decide (zg≤ou)=true:=decide_eq_true c10
          clear c10
          by_cases c11:ou≤(a0.size:Int)
          ·
           rw [if_pos c11] at H
           have uF:=eq_true c11
           have BK:decide (ou≤(a0.size:Int))=true:=decide_eq_true c11
           clear c11
           replace H:=Option.bind_eq_some_iff.mp H
           obtain ⟨qY,Td,H⟩:=H
           replace H:(aI.l1 Yh a0 iE yN ou qY 0)=some (r1,r2,r3):=H
           have A12:=ae.mk Td
           clear Td
           have H':=ae.mk H
           clear H
           go_wp2_with (first|((with_reducible refine bQ (f:=35) rfl ?_);refine fZ (some 34) rfl rfl Tryz.func35 (by kernel_rfl) rfl #[.string (a0.extract (zg:Int).toNat (ou:Int).toNat)] rfl (by (try simp only [List.map_toArray,List.map_cons,List.map_nil]);first|done|rfl|(simp only [List.length_drop,List.length_take];rfl)) ?_;(with_reducible refine (bC.calls Yh (a0.extract (zg:Int).toNat (ou:Int).toNat) qY _ A12.out).mono ?_);rintro e w13 ⟨abg,rfl,ho0,hb⟩;refine ⟨_,rfl,?_⟩;have dG:=ae.mk (Kd.I8 (by (with_reducible repeat (first|apply Kd.gp|apply Kd.gm|apply Kd.iJ));exact fG.out) (Kd.lW ho0) hb);have dM:=ae.mk (Kd.iW ho0 (aZ (by repeat (first|(with_reducible first|exact HB.out|apply au|apply af|apply aj)|exact HB.out))));have dW:=ae.mk (bf (by repeat (first|(with_reducible first|exact HB.out|apply au|apply af|apply aj)|exact HB.out)) hb);clear fG;clear HB;have fG:=dG;have ac6:=dM;have HB:=dW;clear dG dM dW;(try clear hb);(try clear hb2);(try clear hk);(try clear hi);(try clear ho0)))
           go_loopg [10] Yh (fun kq v10 w'=>∃ (pO:Int),v10=.int .i64 pO∧ae (aI.l1 kq a0 iE yN ou qY pO=some (r1,r2,r3))∧ae (kq≤Yh)∧ae (Kd.S (Kd.slice 9 Kd.string) 22 w' w.heap.size (fun k_=>some k_ ≠ (abg:Value).ownBlock) u5 iE)∧ae (Kd.R Kd.string 9 w' w.heap.size (fun _=>True) abg qY)∧ae (Below w.heap.size w w'))
           case atStart=>exact ⟨(0),(by first|rfl|(simp;done)|(simp [*];done)),H',⟨Nat.le_refl _⟩,⟨by (with_reducible repeat (first|apply Kd.gp|apply Kd.gm|apply Kd.iJ));exact Kd.oV fG.out (fun _ hk=>hk.2)⟩,⟨by (with_reducible repeat (first|apply Kd.aX|apply Kd.aY|apply Kd.bG));exact ac6.out⟩,⟨by repeat (first|(with_reducible first|exact HB.out|apply au|apply af|apply aj)|exact HB.out)⟩⟩
           case round =>
            clear H'
            obtain ⟨pO,rfl,HA,J3,fG,EI,HB⟩:=hrel
            cases gk with
            | zero=>exact absurd HA.out (by simp [aI.l1])
            | succ k3 =>
             have H:=HA.out
             clear HA
             simp only [aI.l1] at H
             by_cases c14:pO < (qY.length:Int)
             ·
              rw [if_pos c14] at H
              have vH:decide (pO < (qY.length:Int))=true:=decide_eq_true c14
              clear c14
              by_cases c15:0≤pO
              ·
               rw [if_pos c15] at H
               have vG:decide (0≤pO)=true:=decide_eq_true c15
               clear c15
               replace H:=Option.bind_eq_some_iff.mp H
               obtain ⟨TA,Ep,H⟩:=H
               replace H:(if TA=true then (aI.l1 k3 a0 iE yN ou qY (wrap64 (pO+1))) else (some (([]:List (List ByteArray)),yN,4)))=some (r1,r2,r3):=H
               have Tc:=ae.mk Ep
               clear Ep
               by_cases c17:TA=true
               ·
                subst c17
                have H1:(aI.l1 k3 a0 iE yN ou qY (wrap64 (pO+1)))=some (r1,r2,r3):=by rw [if_pos rfl] at H;exact H
                clear H
                have H:=H1
                clear H1
                have H':=ae.mk H
                clear H
                obtain ⟨yc,xx,aad⟩:=Kd.gI EI.out
                subst aad
                have JE:0≤(pO:Int):=of_decide_eq_true (by first|(with_reducible assumption)|assumption)
                have Ju:pO < (qY.length:Int):=of_decide_eq_true (by first|(with_reducible assumption)|assumption)
                obtain ⟨acx,e305,Uu⟩:=Kd.fO (Kd.fB EI.out).2.2 pO JE Ju
                cases e305
                replace JE:=eq_true JE
                replace Ju:=eq_true Ju
                go_wp2_with (first|((with_reducible refine bQ (f:=36) rfl ?_);refine fZ (some 45) rfl rfl Tryz.func36 (by kernel_rfl) rfl #[.string (eF ByteArray.empty qY pO)] rfl (by (try simp only [List.map_toArray,List.map_cons,List.map_nil]);first|done|rfl|(simp only [List.length_drop,List.length_take];rfl)) ?_;(with_reducible refine (bg.calls k3 (eF ByteArray.empty qY pO) true _ Tc.out).mono ?_);rintro e w' ⟨rfl,⟨nd,rfl⟩⟩;refine ⟨_,rfl,?_⟩))
                go_roundg k3
                case measure=>have:=pJ.out;have:=YU.out;have:=J3.out;omega
                case rel=>exact ⟨(wrap64 (pO+1)),(by first|rfl|(simp;done)|(simp [*];done)),H',⟨by have:=pJ.out;have:=YU.out;have:=J3.out;omega⟩,⟨by (with_reducible repeat (first|apply Kd.gp|apply Kd.gm|apply Kd.iJ));exact fG.out⟩,⟨by (with_reducible repeat (first|apply Kd.aX|apply Kd.aY|apply Kd.bG));exact EI.out⟩,⟨by repeat (first|(with_reducible first|exact HB.out|apply au|apply af|apply aj)|exact HB.out)⟩⟩
               ·
                replace c17:=Bool.eq_false_iff.mpr c17
                subst c17
                have H1:(some (([]:List (List ByteArray)),yN,4))=some (r1,r2,r3):=by rw [if_neg (show ¬ (false=true) by decide)] at H;exact H
                clear H
                have H:=H1
                clear H1
                simp only [Option.some.injEq,Prod.mk.injEq] at H
                obtain ⟨rfl,rfl,rfl⟩:=H
                obtain ⟨rf,qP,Rz⟩:=Kd.gI EI.out
                subst Rz
                have JE:0≤(pO:Int):=of_decide_eq_true (by first|(with_reducible assumption)|assumption)
                have Ju:pO < (qY.length:Int):=of_decide_eq_true (by first|(with_reducible assumption)|assumption)
                obtain ⟨acx,e305,Uu⟩:=Kd.fO (Kd.fB EI.out).2.2 pO JE Ju
                cases e305
                replace JE:=eq_true JE
                replace Ju:=eq_true Ju
                go_wp2_with (first|((with_reducible refine bQ (f:=36) rfl ?_);refine fZ (some 45) rfl rfl Tryz.func36 (by kernel_rfl) rfl #[.string (eF ByteArray.empty qY pO)] rfl (by (try simp only [List.map_toArray,List.map_cons,List.map_nil]);first|done|rfl|(simp only [List.length_drop,List.length_take];rfl)) ?_;(with_reducible refine (bg.calls k3 (eF ByteArray.empty qY pO) false _ Tc.out).mono ?_);rintro e w' ⟨rfl,⟨nd,rfl⟩⟩;refine ⟨_,rfl,?_⟩))
                go_ret3
                exact ⟨_,by first|rfl|(simp [bF,bD] <;> rfl)|(simp [*,bF,bD] <;> rfl),by first|exact Kd.oU _ _ _ _ _|exact Kd.oZ _ _ _ _ _|exact Kd.oQ _ _ _ _ _|exact Kd.oW _ _ _ _ _|exact Kd.jh _ _ _ _ _,by repeat (first|(with_reducible first|exact HB.out|apply au|apply af|apply aj)|exact HB.out)⟩
              ·
               rw [if_neg c15] at H
               exact absurd H (by simp)
             ·
              rw [if_neg c14] at H
              have vH:decide (pO < (qY.length:Int))=false:=decide_eq_false c14
              clear c14
              by_cases c20:(qY.length:Int) > 0
              ·
               rw [if_pos c20] at H
               have RZ:decide (0 < (qY.length:Int))=true:=decide_eq_true c20
               have RY:decide (0 < qY.length)=true:=decide_eq_true (by omega)
               clear c20
               by_cases c21:iE.length < 5864062014805
               ·
                rw [if_pos c21] at H
                have acU:=ae.mk c21
                clear c21
                obtain ⟨aaW,Ir⟩:∃ y_:List (List ByteArray),y_=(iE++[qY]):=⟨_,rfl⟩
                replace H:(aI.l0 k3 a0 aaW (wrap64 (ou+1)) (wrap64 (yN+1)) (wrap64 (ou+1)))=some (r1,r2,r3):=by first|(rw [Ir];with_reducible exact H)|(have qX:=(Option.bind_some _ _).symm.trans H;rw [Ir];with_reducible exact qX)|(have qX:=(Option.bind_some _ _).symm.trans H;with_reducible exact qX)|with_reducible exact H|(rw [Ir];exact H)|exact H
                have acH:=ae.mk Ir
                clear Ir
                have H':=ae.mk H
                clear H
                obtain ⟨Aw,zt,aac⟩:=Kd.gI EI.out
                subst aac
                go_wp2_with (first|((with_reducible refine jm (b:=.append) (xs:=#[.tmp 51,.tmp 53]) rfl ?_);at_builtin;refine Kd.I9 (Kd.slice 9 Kd.string) (w0:=w) w.heap.size rfl (.tmp 51) (.tmp 53) 43 22 (.slice none 0 0) 24 rfl Tryz.underlying43 info22 rfl (by decide) (by omega) u5 iE qY [.slice Aw qY.length zt] (fun _=>True) (fun k_=>some k_=(.slice Aw qY.length zt:Value).ownBlock) rfl rfl ?aP (fun k_ hk_=>((Kd.dm (ok':=fun k_=>((fun _=>True)) k_∧some k_ ≠ (u5:Value).ownBlock) (Kd.oC (EI.out) (Kd.yK fG.out) (by decide)) (fun k_ hk=>⟨trivial,hk.2⟩))).1 k_ hk_.symm) ?aF ?aO ?aB ?aS ?aL ?_;(case aP=>exact Kd.YM (Kd.dm (Kd.GX rfl (Kd.dm (ok':=fun k_=>((fun _=>True)) k_∧some k_ ≠ (u5:Value).ownBlock) (Kd.oC (EI.out) (Kd.yK fG.out) (by decide)) (fun k_ hk=>⟨trivial,hk.2⟩))) (fun _ h_=>h_)));(case aB=>exact (by repeat (first|(with_reducible first|exact HB.out|apply au|apply af|apply aj)|exact HB.out)));(case aF=>exact (fun _ _=>trivial));(case aO=>exact (by (with_reducible repeat (first|apply Kd.gp|apply Kd.gm|apply Kd.iJ));exact Kd.oV fG.out (fun k_ hk=>⟨trivial,fun e_=>hk e_⟩)));(case aS=>exact (aZ (by repeat (first|(with_reducible first|exact HB.out|apply au|apply af|apply aj)|exact HB.out))));(case aL=>have:=acU.out;omega);intro amI Jh ho hb hg hat;rw [← acH.out] at ho;have dG:=ae.mk (hb);have dM:=ae.mk (ho);clear HB;clear fG;clear EI;have HB:=dG;have ac5:=dM;clear dG dM;clear ho hb hg hat))
                go_roundg k3
                case measure=>have:=pJ.out;have:=YU.out;have:=J3.out;omega
                case rel=>exact ⟨(aaW),(wrap64 (ou+1)),(wrap64 (yN+1)),(wrap64 (ou+1)),(by first|rfl|(simp;done)|(simp [*];done)),(by first|rfl|(simp;done)|(simp [*];done)),(by first|rfl|(simp;done)|(simp [*];done)),H',⟨by have:=pJ.out;have:=YU.out;have:=J3.out;omega⟩,⟨by (with_reducible repeat (first|apply Kd.gp|apply Kd.gm|apply Kd.iJ));exact ac5.out⟩,⟨by repeat (first|(with_reducible first|exact HB.out|apply au|apply af|apply aj)|exact HB.out)⟩⟩
               ·
                rw [if_neg c21] at H
                exact absurd H (by simp)
              ·
               rw [if_neg c20] at H
               have RZ:decide (0 < (qY.length:Int))=false:=decide_eq_false c20
               have RY:decide (0 < qY.length)=false:=decide_eq_false (by omega)
               clear c20
               have H':=ae.mk H
               clear H
               obtain ⟨vW,vF,aab⟩:=Kd.gI EI.out
               subst aab
               go_wp2
               go_roundg k3
               case measure=>have:=pJ.out;have:=YU.out;have:=J3.out;omega
               case rel=>exact ⟨(iE),(wrap64 (ou+1)),(wrap64 (yN+1)),(wrap64 (ou+1)),(by first|rfl|(simp;done)|(simp [*];done)),(by first|rfl|(simp;done)|(simp [*];done)),(by first|rfl|(simp;done)|(simp [*];done)),H',⟨by have:=pJ.out;have:=YU.out;have:=J3.out;omega⟩,⟨by (with_reducible repeat (first|apply Kd.gp|apply Kd.gm|apply Kd.iJ));exact Kd.oV fG.out (fun _ hk=>trivial)⟩,⟨by repeat (first|(with_reducible first|exact HB.out|apply au|apply af|apply aj)|exact HB.out)⟩⟩
          ·
           rw [if_neg c11] at H
           exact absurd H (by simp)
         ·
          rw [if_neg c10] at H
          exact absurd H (by simp)
        ·
         rw [if_neg c9] at H
         exact absurd H (by simp)
    ·
     rw [if_neg c3] at H
     have rW:decide (ou≤(a0.size:Int))=false:=decide_eq_false c3
     clear c3
     simp only [Option.some.injEq,Prod.mk.injEq] at H
     obtain ⟨rfl,rfl,rfl⟩:=H
     go_wp2
     go_ret3
     exact ⟨_,by first|rfl|(simp [bF,bD] <;> rfl)|(simp [*,bF,bD] <;> rfl),by (with_reducible repeat (first|apply Kd.gp|apply Kd.gm|apply Kd.iJ));exact fG.out,by repeat (first|(with_reducible first|exact HB.out|apply au|apply af|apply aj)|exact HB.out)⟩
def aK.j0:Nat→List (List ByteArray)→Int→Bool→Bool→Option (ByteArray × Bool)
 | 0,_,_,_,_=>none
 | k+1,x0,x1,x3,x32=>if x32=true then (some ((⟨#[]⟩:ByteArray),false)) else (if 0≤x1 then (if x1 < (x0.length:Int) then (if 1 < ((dZ x0 x1).length:Int) then (if x3=true then (if (eF ByteArray.empty (dZ x0 x1) 1).toList=([45]:List UInt8) then (some ((⟨#[]⟩:ByteArray),true)) else ((aV.f k (eF ByteArray.empty (dZ x0 x1) 1)).bind fun Ho=>(some (eF ByteArray.empty (dZ x0 x1) 1,Ho)))) else ((aV.f k (eF ByteArray.empty (dZ x0 x1) 1)).bind fun Hm=>(some (eF ByteArray.empty (dZ x0 x1) 1,Hm)))) else (none)) else (none)) else (none))
def aK.f (k:Nat) (l0:List (List ByteArray)) (a1:Int) (a2:ByteArray) (a3:Bool):Option (ByteArray × Bool):=if a1 ≥ (l0.length:Int) then (aK.j0 k l0 a1 a3 true) else (if 0≤a1 then (if a1 < (l0.length:Int) then (if ((dZ l0 a1).length:Int)=2 then (if 0 < ((dZ l0 a1).length:Int) then (aK.j0 k l0 a1 a3 ((eF ByteArray.empty (dZ l0 a1) 0).toList != a2.toList)) else (none)) else (aK.j0 k l0 a1 a3 true)) else (none)) else (none))
theorem aK.iq:∀ k,(∀ y0 y1 y2 y3,dC (aK.j0 k y0 y1 y2 y3) (aK.j0 (k+1) y0 y1 y2 y3))
 | 0=>fun _ _ _ _ r h=>by simp [aK.j0] at h
 | k+1=>by
  have jY:=aK.iq k
  ·
   intro y0 y1 y2 y3
   unfold aK.j0
   repeat' with_reducible first|apply jY|apply aV.mono|exact dC.refl _|exact dC.none _|refine dC.ite ?_ ?_|refine dC.bind ?_ (fun _=>?_)
theorem aK.mono:∀ a0 a1 a2 a3 k,dC (aK.f k a0 a1 a2 a3) (aK.f (k+1) a0 a1 a2 a3):=by
 intro a0 a1 a2 a3 k
 have jY:=aK.iq k
 unfold aK.f
 repeat' with_reducible first|apply jY|apply aV.mono|exact dC.refl _|exact dC.none _|refine dC.ite ?_ ?_|refine dC.bind ?_ (fun _=>?_)
set_option maxHeartbeats 8000000 in
set_option maxRecDepth 100000 in
theorem aK.calls (k:Nat) (A0:Option Addr) (c0:Nat) (l0:List (List ByteArray)) (a1:Int) (a2:ByteArray) (a3:Bool) (r1:ByteArray) (r2:Bool) (w:World) (hr0:Kd.C (Kd.slice 9 Kd.string) w A0 l0.length l0) (hc0:l0.length≤c0) (h:aK.f k l0 a1 a2 a3=some (r1,r2)) :
  Calls Tryz.prog 34 #[.slice A0 l0.length c0,.int .i64 a1,.string a2,.bool a3] w fun e w'=>e=.returned (.tuple #[.string r1,.bool r2])∧bz w w':=by
 have HR0:=ae.mk hr0
 have HC0:=ae.mk hc0
 clear hr0 hc0
 have H:(if a1 ≥ (l0.length:Int) then (aK.j0 k l0 a1 a3 true) else (if 0≤a1 then (if a1 < (l0.length:Int) then (if ((dZ l0 a1).length:Int)=2 then (if 0 < ((dZ l0 a1).length:Int) then (aK.j0 k l0 a1 a3 ((eF ByteArray.empty (dZ l0 a1) 0).toList != a2.toList)) else (none)) else (aK.j0 k l0 a1 a3 true)) else (none)) else (none)))=some (r1,r2):=h
 clear h
 have HC5:=ae.mk H
 clear H
 go_enter Tryz.func34,Tryz.ntmps34
 go_upto_region 1 with (fail)
 go_cut [32] (fun v32 wc=>∃ (kq:Nat) (Kr:Bool),v32=.bool Kr∧ae (aK.j0 kq l0 a1 a3 Kr=some (r1,r2))∧ae (kq≤k)∧bz w wc)
 case first =>
  have H:=HC5.out
  clear HC5
  by_cases c6:a1 ≥ (l0.length:Int)
  ·
   rw [if_pos c6] at H
   have oP:decide ((l0.length:Int)≤a1)=true:=decide_eq_true c6
   clear c6
   (first|rw [oP]|(simp only [aN,aQ];rw [oP])|skip)
   have H':=ae.mk H
   clear H
   go_wp2
   go_meet
   case rel=>exact ⟨_,(true),(by first|rfl|(simp;done)|(simp [*];done)),H',⟨by first|omega|exact Nat.le_refl _⟩,by repeat (first|exact bz.refl _|apply bz.step)⟩
  ·
   rw [if_neg c6] at H
   have oP:decide ((l0.length:Int)≤a1)=false:=decide_eq_false c6
   clear c6
   (first|rw [oP]|(simp only [aN,aQ];rw [oP])|skip)
   by_cases c7:0≤a1
   ·
    rw [if_pos c7] at H
    have qR:decide (0≤a1)=true:=decide_eq_true c7
    clear c7
    by_cases c8:a1 < (l0.length:Int)
    ·
     rw [if_pos c8] at H
     have ry:decide (a1 < (l0.length:Int))=true:=decide_eq_true c8
     clear c8
     by_cases c9:((dZ l0 a1).length:Int)=2
     ·
      rw [if_pos c9] at H
      have EF:(((dZ l0 a1).length:Int) == 2)=true:=beq_iff_eq.mpr c9
      have JV:(((dZ l0 a1).length:Int) != 2)=false:=bne_eq_false_iff_eq.mpr c9
      clear c9
      by_cases c10:0 < ((dZ l0 a1).length:Int)
      ·
       rw [if_pos c10] at H
       have mM:decide (0 < ((dZ l0 a1).length:Int))=true:=decide_eq_true c10
       have ui:decide (0 < (dZ l0 a1).length)=true:=decide_eq_true (by omega)
       clear c10
       have H':=ae.mk H
       clear H
       have JD:0≤(a1:Int):=of_decide_eq_true (by first|(with_reducible assumption)|assumption)
       have Jt:a1 < (l0.length:Int):=of_decide_eq_true (by first|(with_reducible assumption)|assumption)
       obtain ⟨YG,aaO,aao,e310,Lr,zW,zY⟩:=rX HR0.out a1 JD Jt
       cases e310
       have XX:=ae.mk zY
       have XY:=ae.mk zW
       clear zY zW
       replace JD:=eq_true JD
       replace Jt:=eq_true Jt
       have Zm:0≤(a1:Int):=of_decide_eq_true (by first|(with_reducible assumption)|assumption)
       have Zg:a1 < (l0.length:Int):=of_decide_eq_true (by first|(with_reducible assumption)|assumption)
       obtain ⟨acw,akC,ako,e311,Ut,Lu,LD⟩:=rX HR0.out a1 Zm Zg
       obtain rfl:YG=acw:=(by injection e311)
       have XW:=ae.mk LD
       have ajn:=ae.mk Lu
       clear LD Lu
       replace Zm:=eq_true Zm
       replace Zg:=eq_true Zg
       have ea_:=Option.some.inj (Lr.symm.trans Ut)
       injection ea_ with ea_ en_ ec_
       subst ea_
       subst ec_
       clear en_
       have Zl:0≤(0:Int):=(by omega)
       have Zf:0 < ((dZ l0 a1).length:Int):=of_decide_eq_true (by first|(with_reducible assumption)|assumption)
       obtain ⟨al8,e312,Lp⟩:=Kd.fO XW.out 0 Zl Zf
       cases e312
       have akJ:(0 < (dZ l0 a1).length)=True:=eq_true (by omega)
       (try rw [show ((0:Int)).toNat=0 from rfl] at Lp)
       (try rw [Addr.add_zero'] at Lp)
       replace Zl:=eq_true Zl
       replace Zf:=eq_true Zf
       go_wp2
       go_meet
       case rel=>exact ⟨_,(((eF ByteArray.empty (dZ l0 a1) 0).toList != a2.toList)),(by first|rfl|(simp;done)|(simp [*];done)),H',⟨by first|omega|exact Nat.le_refl _⟩,by repeat (first|exact bz.refl _|apply bz.step)⟩
      ·
       rw [if_neg c10] at H
       exact absurd H (by simp)
     ·
      rw [if_neg c9] at H
      have EF:(((dZ l0 a1).length:Int) == 2)=false:=beq_eq_false_iff_ne.mpr c9
      have JV:(((dZ l0 a1).length:Int) != 2)=true:=bne_iff_ne.mpr c9
      have H':=ae.mk H
      clear H
      have JD:0≤(a1:Int):=of_decide_eq_true (by first|(with_reducible assumption)|assumption)
      have Jt:a1 < (l0.length:Int):=of_decide_eq_true (by first|(with_reducible assumption)|assumption)
      obtain ⟨YG,aaO,aao,e310,Lr,zW,zY⟩:=rX HR0.out a1 JD Jt
      cases e310
      have XX:=ae.mk zY
      have XY:=ae.mk zW
      clear zY zW
      replace JD:=eq_true JD
      replace Jt:=eq_true Jt
      go_wp2
      go_meet
      case rel=>exact ⟨_,(true),(by first|rfl|(simp;done)|(simp [*];done)),H',⟨by first|omega|exact Nat.le_refl _⟩,by repeat (first|exact bz.refl _|apply bz.step)⟩
    ·
     rw [if_neg c8] at H
     exact absurd H (by simp)
   ·
    rw [if_neg c7] at H
    exact absurd H (by simp)
 case rest =>
  clear HC5
  obtain ⟨kq,Kr,rfl,HA,HJ4,⟨mc4,rfl⟩⟩:=hcut
  cases kq with
  | zero=>exact absurd HA.out (by simp [aK.j0])
  | succ Pn =>
   have H:=HA.out
   clear HA
   simp only [aK.j0] at H
   by_cases c11:Kr=true
   ·
    subst c11
    have H1:(some ((⟨#[]⟩:ByteArray),false))=some (r1,r2):=by rw [if_pos rfl] at H;exact H
    clear H
    have H:=H1
    clear H1
    simp only [Option.some.injEq,Prod.mk.injEq] at H
    obtain ⟨rfl,rfl⟩:=H
    go_wp2
    go_ret2
    exact ⟨by first|rfl|(simp;done)|(simp [*];done),by repeat (first|exact bz.refl _|apply bz.step)⟩
   ·
    replace c11:=Bool.eq_false_iff.mpr c11
    subst c11
    have H1:(if 0≤a1 then (if a1 < (l0.length:Int) then (if 1 < ((dZ l0 a1).length:Int) then (if a3=true then (if (eF ByteArray.empty (dZ l0 a1) 1).toList=([45]:List UInt8) then (some ((⟨#[]⟩:ByteArray),true)) else ((aV.f Pn (eF ByteArray.empty (dZ l0 a1) 1)).bind fun Ho=>(some (eF ByteArray.empty (dZ l0 a1) 1,Ho)))) else ((aV.f Pn (eF ByteArray.empty (dZ l0 a1) 1)).bind fun Hm=>(some (eF ByteArray.empty (dZ l0 a1) 1,Hm)))) else (none)) else (none)) else (none))=some (r1,r2):=by rw [if_neg (show ¬ (false=true) by decide)] at H;exact H
    clear H
    have H:=H1
    clear H1
    by_cases c12:0≤a1
    ·
     rw [if_pos c12] at H
     have BJ:decide (0≤a1)=true:=decide_eq_true c12
     clear c12
     by_cases c13:a1 < (l0.length:Int)
     ·
      rw [if_pos c13] at H
      have uh:decide (a1 < (l0.length:Int))=true:=decide_eq_true c13
      clear c13
      by_cases c14:1 < ((dZ l0 a1).length:Int)
      ·
       rw [if_pos c14] at H
       have vH:decide (1 < ((dZ l0 a1).length:Int))=true:=decide_eq_true c14
       have Fq:decide (1 < (dZ l0 a1).length)=true:=decide_eq_true (by omega)
       clear c14
       by_cases c15:a3=true
       ·
        subst c15
        have H1:(if (eF ByteArray.empty (dZ l0 a1) 1).toList=([45]:List UInt8) then (some ((⟨#[]⟩:ByteArray),true)) else ((aV.f Pn (eF ByteArray.empty (dZ l0 a1) 1)).bind fun Ho=>(some (eF ByteArray.empty (dZ l0 a1) 1,Ho))))=some (r1,r2):=by rw [if_pos rfl] at H;exact H
        clear H
        have H:=H1
        clear H1
        by_cases c16:(eF ByteArray.empty (dZ l0 a1) 1).toList=([45]:List UInt8)
        ·
         rw [if_pos c16] at H
         have BI:((eF ByteArray.empty (dZ l0 a1) 1).toList == ([45]:List UInt8))=true:=beq_iff_eq.mpr c16
         have YB:((eF ByteArray.empty (dZ l0 a1) 1).toList != ([45]:List UInt8))=false:=bne_eq_false_iff_eq.mpr c16
         clear c16
         simp only [Option.some.injEq,Prod.mk.injEq] at H
         obtain ⟨rfl,rfl⟩:=H
         have Dz:0≤(a1:Int):=of_decide_eq_true (by first|(with_reducible assumption)|assumption)
         have Dv:a1 < (l0.length:Int):=of_decide_eq_true (by first|(with_reducible assumption)|assumption)
         obtain ⟨YF,SS,RU,e313,Lm,uB,uD⟩:=rX HR0.out a1 Dz Dv
         cases e313
         have Aj:=ae.mk uD
         have NK:=ae.mk uB
         clear uD uB
         replace Dz:=eq_true Dz
         replace Dv:=eq_true Dv
         have Dy:0≤(1:Int):=(by omega)
         have Du:1 < ((dZ l0 a1).length:Int):=of_decide_eq_true (by first|(with_reducible assumption)|assumption)
         obtain ⟨YE,e314,uz⟩:=Kd.fO Aj.out 1 Dy Du
         cases e314
         (try simp only [show (1:Int).toNat=1 from rfl,Nat.reduceMul,Nat.reduceEqDiff,Go.Addr.add,↓reduceIte] at uz)
         have Ya:(1 < (dZ l0 a1).length)=True:=eq_true (by omega)
         (try rw [show ((1:Int)).toNat=1 from rfl] at uz)
         replace Dy:=eq_true Dy
         replace Du:=eq_true Du
         go_wp2
         go_ret2
         exact ⟨by first|rfl|(simp;done)|(simp [*];done),by repeat (first|exact bz.refl _|apply bz.step)⟩
        ·
         rw [if_neg c16] at H
         have BI:((eF ByteArray.empty (dZ l0 a1) 1).toList == ([45]:List UInt8))=false:=beq_eq_false_iff_ne.mpr c16
         have YB:((eF ByteArray.empty (dZ l0 a1) 1).toList != ([45]:List UInt8))=true:=bne_iff_ne.mpr c16
         replace H:=Option.bind_eq_some_iff.mp H
         obtain ⟨Ho,S9,H⟩:=H
         replace H:(some (eF ByteArray.empty (dZ l0 a1) 1,Ho))=some (r1,r2):=H
         have A17:=ae.mk S9
         clear S9
         simp only [Option.some.injEq,Prod.mk.injEq] at H
         obtain ⟨rfl,rfl⟩:=H
         have Dz:0≤(a1:Int):=of_decide_eq_true (by first|(with_reducible assumption)|assumption)
         have Dv:a1 < (l0.length:Int):=of_decide_eq_true (by first|(with_reducible assumption)|assumption)
         obtain ⟨YF,SS,RU,e313,Lm,uB,uD⟩:=rX HR0.out a1 Dz Dv
         cases e313
         have Aj:=ae.mk uD
         have NK:=ae.mk uB
         clear uD uB
         replace Dz:=eq_true Dz
         replace Dv:=eq_true Dv
         have Dy:0≤(1:Int):=(by omega)
         have Du:1 < ((dZ l0 a1).length:Int):=of_decide_eq_true (by first|(with_reducible assumption)|assumption)
         obtain ⟨YE,e314,uz⟩:=Kd.fO Aj.out 1 Dy Du
         cases e314
         (try simp only [show (1:Int).toNat=1 from rfl,Nat.reduceMul,Nat.reduceEqDiff,Go.Addr.add,↓reduceIte] at uz)
         have Ya:(1 < (dZ l0 a1).length)=True:=eq_true (by omega)
         (try rw [show ((1:Int)).toNat=1 from rfl] at uz)
         replace Dy:=eq_true Dy
         replace Du:=eq_true Du
         go_wp2_with (first|((with_reducible refine bQ (f:=43) rfl ?_);refine fZ (some 46) rfl rfl Tryz.func43 (by kernel_rfl) rfl #[.string (eF ByteArray.empty (dZ l0 a1) 1)] rfl (by (try simp only [List.map_toArray,List.map_cons,List.map_nil]);first|done|rfl|(simp only [List.length_drop,List.length_take];rfl)) ?_;(with_reducible refine (aV.calls Pn (eF ByteArray.empty (dZ l0 a1) 1) Ho _ A17.out).mono ?_);rintro e w' ⟨rfl,⟨nd,rfl⟩⟩;refine ⟨_,rfl,?_⟩))
         go_ret2
         exact ⟨by first|rfl|(simp;done)|(simp [*];done),by repeat (first|exact bz.refl _|apply bz.step)⟩
       ·
        replace c15:=Bool.eq_false_iff.mpr c15
        subst c15
        have H1:((aV.f Pn (eF ByteArray.empty (dZ l0 a1) 1)).bind fun Hm=>(some (eF ByteArray.empty (dZ l0 a1) 1,Hm)))=some (r1,r2):=by rw [if_neg (show ¬ (false=true) by decide)] at H;exact H
        clear H
        have H:=H1
        clear H1
        replace H:=Option.bind_eq_some_iff.mp H
        obtain ⟨Hm,SY,H⟩:=H
        replace H:(some (eF ByteArray.empty (dZ l0 a1) 1,Hm))=some (r1,r2):=H
        have A18:=ae.mk SY
        clear SY
        simp only [Option.some.injEq,Prod.mk.injEq] at H
        obtain ⟨rfl,rfl⟩:=H
        have Dz:0≤(a1:Int):=of_decide_eq_true (by first|(with_reducible assumption)|assumption)
        have Dv:a1 < (l0.length:Int):=of_decide_eq_true (by first|(with_reducible assumption)|assumption)
        obtain ⟨YF,SS,RU,e313,Lm,uB,uD⟩:=rX HR0.out a1 Dz Dv
        cases e313
        have Aj:=ae.mk uD
        have NK:=ae.mk uB
        clear uD uB
        replace Dz:=eq_true Dz
        replace Dv:=eq_true Dv
        have Dy:0≤(1:Int):=(by omega)
        have Du:1 < ((dZ l0 a1).length:Int):=of_decide_eq_true (by first|(with_reducible assumption)|assumption)
        obtain ⟨YE,e314,uz⟩:=Kd.fO Aj.out 1 Dy Du
        cases e314
        (try simp only [show (1:Int).toNat=1 from rfl,Nat.reduceMul,Nat.reduceEqDiff,Go.Addr.add,↓reduceIte] at uz)
        have Ya:(1 < (dZ l0 a1).length)=True:=eq_true (by omega)
        (try rw [show ((1:Int)).toNat=1 from rfl] at uz)
        replace Dy:=eq_true Dy
        replace Du:=eq_true Du
        go_wp2_with (first|((with_reducible refine bQ (f:=43) rfl ?_);refine fZ (some 46) rfl rfl Tryz.func43 (by kernel_rfl) rfl #[.string (eF ByteArray.empty (dZ l0 a1) 1)] rfl (by (try simp only [List.map_toArray,List.map_cons,List.map_nil]);first|done|rfl|(simp only [List.length_drop,List.length_take];rfl)) ?_;(with_reducible refine (aV.calls Pn (eF ByteArray.empty (dZ l0 a1) 1) Hm _ A18.out).mono ?_);rintro e w' ⟨rfl,⟨nd,rfl⟩⟩;refine ⟨_,rfl,?_⟩))
        go_ret2
        exact ⟨by first|rfl|(simp;done)|(simp [*];done),by repeat (first|exact bz.refl _|apply bz.step)⟩
      ·
       rw [if_neg c14] at H
       exact absurd H (by simp)
     ·
      rw [if_neg c13] at H
      exact absurd H (by simp)
    ·
     rw [if_neg c12] at H
     exact absurd H (by simp)
end Go.Proofs.YtkclndkbccbhaaaGreatDoor.P
end
