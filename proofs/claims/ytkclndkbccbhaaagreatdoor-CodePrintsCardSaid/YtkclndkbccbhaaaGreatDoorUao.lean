/- Parts of the proof of CodePrints: what the functions that it reaches compute, and plain facts about that. -/
import Derived.Test.YtkclndkbccbhaaaGreatDoorUac
import Derived.Test.YtkclndkbccbhaaaGreatDoorUan
set_option linter.unusedVariables false
set_option linter.unusedSimpArgs false
section
namespace Go.Proofs.YtkclndkbccbhaaaGreatDoor.P
open Go.RowKit Go.Proofs.ag.bJ Go.Proofs.ag.eX Go.Proofs.ag.gp
attribute [local go_sem] kM kK lT lS jE jD kL kJ
mutual
def aC.j0:Nat→ByteArray→Bool→Option (Int × Int)
  | 0,_,_=>none
  | k+1,x4,x5=>aC.l0 k x4 x5 0 0
def aC.j2:Nat→ByteArray→Bool→Int→Option (Int × Int)
  | 0,_,_,_=>none
  | k+1,x4,x5,x6=>if (x4.size:Int) > 19 then (aC.j3 k x5 x6 (decide ((x4.size:Int) > 19))) else (if x6 > 9223372036854775808 then (aC.j3 k x5 x6 (decide (x6 > 9223372036854775808))) else (if x6=9223372036854775808 then (aC.j3 k x5 x6 (!x5)) else (aC.j3 k x5 x6 false)))
def aC.j3:Nat→Bool→Int→Bool→Option (Int × Int)
  | 0,_,_,_=>none
  | k+1,x5,x6,x36=>if x36=true then (some (0,3)) else (if x5=true then (some (wrap64 (-(wrap64 (x6))),0)) else (some (wrap64 (x6),0)))
def aC.l0:Nat→ByteArray→Bool→Int→Int→Option (Int × Int)
  | 0,_,_,_,_=>none
  | k+1,x4,x5,x6,x7=>if x7 < (x4.size:Int) then (if x7 < 19 then (if 0≤x7 then (aC.l0 k x4 x5 (IntKind.u64.wrap ((IntKind.u64.wrap (x6 * 10))+(((bt x4 x7) - 48) % 256))) (wrap64 (x7+1))) else (none)) else (aC.j2 k x4 x5 x6)) else (aC.j2 k x4 x5 x6)
end
def aC.f (k:Nat) (a0:ByteArray):Option (Int × Int):=(aA.f k a0).bind fun t212=>(if t212=true then (if 0 < (a0.size:Int) then (if (bt a0 0)=45 then (if 1≤(a0.size:Int) then (aC.j0 k (a0.extract 1 a0.size) ((bt a0 0) == 45)) else (none)) else (aC.j0 k a0 ((bt a0 0) == 45))) else (none)) else (some (0,4)))
theorem aC.gY:∀ k,(∀ y0 y1,dH (aC.j0 k y0 y1) (aC.j0 (k+1) y0 y1))∧(∀ y0 y1 y2,dH (aC.j2 k y0 y1 y2) (aC.j2 (k+1) y0 y1 y2))∧(∀ y0 y1 y2,dH (aC.j3 k y0 y1 y2) (aC.j3 (k+1) y0 y1 y2))∧(∀ y0 y1 y2 y3,dH (aC.l0 k y0 y1 y2 y3) (aC.l0 (k+1) y0 y1 y2 y3))
  | 0=>⟨fun _ _ r h=>by simp [aC.j0] at h,fun _ _ _ r h=>by simp [aC.j2] at h,fun _ _ _ r h=>by simp [aC.j3] at h,fun _ _ _ _ r h=>by simp [aC.l0] at h⟩
  | k+1=>by
    obtain ⟨jK,ih1,ih2,ih3⟩:=aC.gY k
    refine ⟨?_,?_,?_,?_⟩
    · intro y0 y1
      unfold aC.j0
      repeat' first
      | (with_reducible exact jK _ _)
      | (with_reducible exact ih1 _ _ _)
      | (with_reducible exact ih2 _ _ _)
      | (with_reducible exact ih3 _ _ _ _)
      | (with_reducible exact aA.mono _ _)
      | (with_reducible exact dH.refl _)
      | (with_reducible exact dH.none _)
      | (with_reducible refine dH.ite ?_ ?_)
      | (with_reducible refine dH.bind ?_ (fun _=>?_))
      | exact jK _ _
      | exact ih1 _ _ _
      | exact ih2 _ _ _
      | exact ih3 _ _ _ _
      | exact aA.mono _ _
      | exact dH.none _
      | refine dH.ite ?_ ?_
      | refine dH.bind ?_ (fun _=>?_)
    · intro y0 y1 y2
      unfold aC.j2
      repeat' first
      | (with_reducible exact jK _ _)
      | (with_reducible exact ih1 _ _ _)
      | (with_reducible exact ih2 _ _ _)
      | (with_reducible exact ih3 _ _ _ _)
      | (with_reducible exact aA.mono _ _)
      | (with_reducible exact dH.refl _)
      | (with_reducible exact dH.none _)
      | (with_reducible refine dH.ite ?_ ?_)
      | (with_reducible refine dH.bind ?_ (fun _=>?_))
      | exact jK _ _
      | exact ih1 _ _ _
      | exact ih2 _ _ _
      | exact ih3 _ _ _ _
      | exact aA.mono _ _
      | exact dH.none _
      | refine dH.ite ?_ ?_
      | refine dH.bind ?_ (fun _=>?_)
    · intro y0 y1 y2
      unfold aC.j3
      repeat' first
      | (with_reducible exact jK _ _)
      | (with_reducible exact ih1 _ _ _)
      | (with_reducible exact ih2 _ _ _)
      | (with_reducible exact ih3 _ _ _ _)
      | (with_reducible exact aA.mono _ _)
      | (with_reducible exact dH.refl _)
      | (with_reducible exact dH.none _)
      | (with_reducible refine dH.ite ?_ ?_)
      | (with_reducible refine dH.bind ?_ (fun _=>?_))
      | exact jK _ _
      | exact ih1 _ _ _
      | exact ih2 _ _ _
      | exact ih3 _ _ _ _
      | exact aA.mono _ _
      | exact dH.none _
      | refine dH.ite ?_ ?_
      | refine dH.bind ?_ (fun _=>?_)
    · intro y0 y1 y2 y3
      unfold aC.l0
      repeat' first
      | (with_reducible exact jK _ _)
      | (with_reducible exact ih1 _ _ _)
      | (with_reducible exact ih2 _ _ _)
      | (with_reducible exact ih3 _ _ _ _)
      | (with_reducible exact aA.mono _ _)
      | (with_reducible exact dH.refl _)
      | (with_reducible exact dH.none _)
      | (with_reducible refine dH.ite ?_ ?_)
      | (with_reducible refine dH.bind ?_ (fun _=>?_))
      | exact jK _ _
      | exact ih1 _ _ _
      | exact ih2 _ _ _
      | exact ih3 _ _ _ _
      | exact aA.mono _ _
      | exact dH.none _
      | refine dH.ite ?_ ?_
      | refine dH.bind ?_ (fun _=>?_)
theorem aC.mono:∀ a0 k,dH (aC.f k a0) (aC.f (k+1) a0):=by
  intro a0 k
  obtain ⟨jK,ih1,ih2,ih3⟩:=aC.gY k
  unfold aC.f
  repeat' first
      | (with_reducible exact jK _ _)
      | (with_reducible exact ih1 _ _ _)
      | (with_reducible exact ih2 _ _ _)
      | (with_reducible exact ih3 _ _ _ _)
      | (with_reducible exact aA.mono _ _)
      | (with_reducible exact dH.refl _)
      | (with_reducible exact dH.none _)
      | (with_reducible refine dH.ite ?_ ?_)
      | (with_reducible refine dH.bind ?_ (fun _=>?_))
      | exact jK _ _
      | exact ih1 _ _ _
      | exact ih2 _ _ _
      | exact ih3 _ _ _ _
      | exact aA.mono _ _
      | exact dH.none _
      | refine dH.ite ?_ ?_
      | refine dH.bind ?_ (fun _=>?_)
set_option maxHeartbeats 8000000 in
set_option maxRecDepth 100000 in
theorem aC.calls (k:Nat) (a0:ByteArray) (r1:Int) (r2:Int) (w:World) (h:aC.f k a0=some (r1,r2)) :
    Calls Tryz.prog 47 #[.string a0] w fun e w'=>e=.returned (.tuple #[.int .i64 r1,.int .i64 r2])∧bC w w':=by
  have H:((aA.f k a0).bind fun t212=>(if t212=true then (if 0 < (a0.size:Int) then (if (bt a0 0)=45 then (if 1≤(a0.size:Int) then (aC.j0 k (a0.extract 1 a0.size) ((bt a0 0) == 45)) else (none)) else (aC.j0 k a0 ((bt a0 0) == 45))) else (none)) else (some (0,4))))=some (r1,r2):=h
  clear h
  replace H:=Option.bind_eq_some_iff.mp H
  obtain ⟨t212,Ce,H⟩:=H
  replace H:(if t212=true then (if 0 < (a0.size:Int) then (if (bt a0 0)=45 then (if 1≤(a0.size:Int) then (aC.j0 k (a0.extract 1 a0.size) ((bt a0 0) == 45)) else (none)) else (aC.j0 k a0 ((bt a0 0) == 45))) else (none)) else (some (0,4)))=some (r1,r2):=H
  have A2:=ae.mk Ce
  clear Ce
  by_cases c3:t212=true
  · subst c3
    have H1:(if 0 < (a0.size:Int) then (if (bt a0 0)=45 then (if 1≤(a0.size:Int) then (aC.j0 k (a0.extract 1 a0.size) ((bt a0 0) == 45)) else (none)) else (aC.j0 k a0 ((bt a0 0) == 45))) else (none))=some (r1,r2):=by rw [if_pos rfl] at H;exact H
    clear H
    have H:=H1
    clear H1
    by_cases c4:0 < (a0.size:Int)
    · rw [if_pos c4] at H
      have rF:decide (0 < (a0.size:Int))=true:=decide_eq_true c4
      have vZ:decide (0 < a0.size)=true:=decide_eq_true (by omega)
      clear c4
      have Ya:=ae.mk H
      clear H
      go_enter Tryz.func47,Tryz.ntmps47
      go_upto_if 15 with (first|((with_reducible refine bU (f:=59) rfl ?_);refine gy (some 9) rfl rfl Tryz.func59 (by kernel_rfl) rfl #[.string a0] rfl (by (try simp only [List.map_toArray,List.map_cons,List.map_nil]);first|done|rfl|(simp only [List.length_drop,List.length_take];rfl)) ?_;(with_reducible refine (aA.calls k a0 true _ A2.out).mono ?_);rintro e w' ⟨rfl,⟨nd,rfl⟩⟩;refine ⟨_,rfl,?_⟩;have p5:0≤(0:Int):=(by omega);have q5:0 < a0.size:=(by have:(0:Int) < (a0.size:Int):=of_decide_eq_true (by first|(with_reducible assumption)|assumption);omega);have hx5:∀ h:0 < a0.size,((a0[0]'h).toNat:Int)=bt a0 0:=lL a0 0;clear p5;have RZ:(0 < (a0.size:Int))=True:=eq_true (of_decide_eq_true (by first|(with_reducible assumption)|assumption));replace q5:=eq_true q5))
      (try simp only [Act.put,List.setIfInBounds_toArray,List.set_cons_zero,List.set_cons_succ])
      go_cut [4] (fun v4 wc=>∃ (kq:Nat) (vI:ByteArray),v4=.string vI∧ae (aC.j0 kq vI ((bt a0 0) == 45)=some (r1,r2))∧ae (kq≤k)∧bC w wc)
      case first =>
        have H:=Ya.out
        clear Ya
        by_cases c7:(bt a0 0)=45
        · rw [if_pos c7] at H
          have nX:((bt a0 0) == 45)=true:=beq_iff_eq.mpr c7
          have vY:((bt a0 0) != 45)=false:=bne_eq_false_iff_eq.mpr c7
          clear c7
          (first|rw [nX]|(simp only [aI,aJ];rw [nX])|skip)
          by_cases c8:1≤(a0.size:Int)
          · rw [if_pos c8] at H
            have tK:=eq_true c8
            have Bv:decide (1≤(a0.size:Int))=true:=decide_eq_true c8
            clear c8
            have H':=ae.mk H
            clear H
            go_wp2
            refine Met.intro ?_
            go_step
            (repeat apply Exists.intro)
            refine ⟨?rel,?same⟩
            case same=>rw [nX]
            case rel=>exact ⟨_,(a0.extract 1 a0.size),(by first|rfl|(simp;done)|(simp [*];done)),H',⟨by first|omega|exact Nat.le_refl _⟩,by repeat (first|exact bC.refl _|apply bC.step)⟩
          · rw [if_neg c8] at H
            exact absurd H (by simp)
        · rw [if_neg c7] at H
          have nX:((bt a0 0) == 45)=false:=beq_eq_false_iff_ne.mpr c7
          have vY:((bt a0 0) != 45)=true:=bne_iff_ne.mpr c7
          (first|rw [nX]|(simp only [aI,aJ];rw [nX])|skip)
          have H':=ae.mk H
          clear H
          go_wp2
          refine Met.intro ?_
          go_step
          (repeat apply Exists.intro)
          refine ⟨?rel,?same⟩
          case same=>rw [nX]
          case rel=>exact ⟨_,(a0),(by first|rfl|(simp;done)|(simp [*];done)),H',⟨by first|omega|exact Nat.le_refl _⟩,by repeat (first|exact bC.refl _|apply bC.step)⟩
      case rest =>
        clear Ya
        try clear p2
        try clear c3
        try clear c4
        try clear rF
        try clear vZ
        try clear c5
        try clear p5
        try clear q5
        try clear hx5
        try clear RZ
        try clear c7
        try clear nX
        try clear vY
        try clear c8
        try clear tK
        try clear Bv
        try clear p5
        try clear q5
        obtain ⟨kq,vI,rfl,HA,I9,⟨mc5,rfl⟩⟩:=hcut
        cases kq with
        | zero=>exact absurd HA.out (by simp [aC.j0])
        | succ YK =>
          have H:=HA.out
          clear HA
          simp only [aC.j0] at H
          have X9:=ae.mk H
          clear H
          go_upto_block 0 with (fail)
          go_cut [6] (fun v6 wc=>∃ (kq:Nat) (xC:Int),v6=.int .u64 xC∧ae (aC.j2 kq vI ((bt a0 0) == 45) xC=some (r1,r2))∧ae (kq≤YK)∧bC w wc)
          case first =>
            have H:=X9.out
            clear X9
            have H':=ae.mk H
            clear H
            go_wp2
            go_loopg [6,7] YK (fun kq v6 v7 w'=>∃ (oJ:Int) (xh:Int),v6=.int .u64 oJ∧v7=.int .i64 xh∧ae (aC.l0 kq vI ((bt a0 0) == 45) oJ xh=some (r1,r2))∧ae (kq≤YK)∧bC w w')
            case atStart=>exact ⟨(0),(0),(by first|rfl|(simp;done)|(simp [*];done)),(by first|rfl|(simp;done)|(simp [*];done)),H',⟨Nat.le_refl _⟩,by repeat (first|exact bC.refl _|apply bC.step)⟩
            case round =>
              clear H'
              try clear p2
              try clear c3
              try clear c4
              try clear rF
              try clear vZ
              try clear c5
              try clear p5
              try clear q5
              try clear hx5
              try clear RZ
              try clear c7
              try clear nX
              try clear vY
              try clear c8
              try clear tK
              try clear Bv
              try clear p2
              try clear p5
              try clear q5
              obtain ⟨oJ,xh,rfl,rfl,HA,xB,⟨m2,rfl⟩⟩:=hrel
              cases gk with
              | zero=>exact absurd HA.out (by simp [aC.l0])
              | succ k2 =>
                have H:=HA.out
                clear HA
                simp only [aC.l0] at H
                by_cases c10:xh < (vI.size:Int)
                · rw [if_pos c10] at H
                  have nO:decide (xh < (vI.size:Int))=true:=decide_eq_true c10
                  clear c10
                  (first|rw [nO]|(simp only [aI,aJ];rw [nO])|skip)
                  by_cases c11:xh < 19
                  · rw [if_pos c11] at H
                    have sS:decide (xh < 19)=true:=decide_eq_true c11
                    clear c11
                    by_cases c12:0≤xh
                    · rw [if_pos c12] at H
                      have ve:decide (0≤xh)=true:=decide_eq_true c12
                      clear c12
                      have H':=ae.mk H
                      clear H
                      have p13:0≤(xh:Int):=of_decide_eq_true (by first|(with_reducible assumption)|assumption)
                      have q13:xh < (vI.size:Int):=of_decide_eq_true (by first|(with_reducible assumption)|assumption)
                      have YN:=lL vI xh
                      replace p13:=eq_true p13
                      replace q13:=eq_true q13
                      go_wp2
                      go_roundg k2
                      case measure=>have:=I9.out;have:=xB.out;omega
                      case rel=>exact ⟨(IntKind.u64.wrap ((IntKind.u64.wrap (oJ * 10))+(((bt vI xh) - 48) % 256))),(wrap64 (xh+1)),(by first|rfl|(simp;done)|(simp [*];done)),(by first|rfl|(simp;done)|(simp [*];done)),H',⟨by have:=I9.out;have:=xB.out;omega⟩,by repeat (first|exact bC.refl _|apply bC.step)⟩
                    · rw [if_neg c12] at H
                      exact absurd H (by simp)
                  · rw [if_neg c11] at H
                    have sS:decide (xh < 19)=false:=decide_eq_false c11
                    clear c11
                    have H':=ae.mk H
                    clear H
                    go_wp2
                    go_meet
                    case rel=>exact ⟨_,(oJ),(by first|rfl|(simp;done)|(simp [*];done)),H',⟨by have:=I9.out;have:=xB.out;first|omega|exact Nat.le_refl _⟩,by repeat (first|exact bC.refl _|apply bC.step)⟩
                · rw [if_neg c10] at H
                  have nO:decide (xh < (vI.size:Int))=false:=decide_eq_false c10
                  clear c10
                  (first|rw [nO]|(simp only [aI,aJ];rw [nO])|skip)
                  have H':=ae.mk H
                  clear H
                  go_wp2
                  go_meet
                  case rel=>exact ⟨_,(oJ),(by first|rfl|(simp;done)|(simp [*];done)),H',⟨by have:=I9.out;have:=xB.out;first|omega|exact Nat.le_refl _⟩,by repeat (first|exact bC.refl _|apply bC.step)⟩
          case rest =>
            clear X9
            try clear c1
            try clear p1
            try clear q1
            try clear hx1
            try clear p2
            try clear c3
            try clear c4
            try clear rF
            try clear vZ
            try clear c5
            try clear p5
            try clear q5
            try clear hx5
            try clear RZ
            try clear p6
            try clear c7
            try clear nX
            try clear vY
            try clear c8
            try clear tK
            try clear Bv
            try clear c10
            try clear nO
            try clear c11
            try clear sS
            try clear c12
            try clear ve
            try clear p13
            try clear q13
            try clear YN
            try clear p13
            try clear p2
            try clear p5
            try clear q13
            try clear q5
            obtain ⟨kq,xC,rfl,HA,X8,⟨mc8,rfl⟩⟩:=hcut
            cases kq with
            | zero=>exact absurd HA.out (by simp [aC.j2])
            | succ kj8 =>
              have H:=HA.out
              clear HA
              simp only [aC.j2] at H
              have Yb:=ae.mk H
              clear H
              go_upto_if 36 with (fail)
              go_cut [36] (fun v36 wc=>∃ (kq:Nat) (DJ:Bool),v36=.bool DJ∧ae (aC.j3 kq ((bt a0 0) == 45) xC DJ=some (r1,r2))∧ae (kq≤kj8)∧bC w wc)
              case first =>
                have H:=Yb.out
                clear Yb
                by_cases c15:(vI.size:Int) > 19
                · rw [if_pos c15] at H
                  have wo:decide (19 < (vI.size:Int))=true:=decide_eq_true c15
                  have LP:decide (19 < vI.size)=true:=decide_eq_true (by omega)
                  clear c15
                  (first|rw [wo]|(simp only [aI,aJ];rw [wo])|skip)
                  have H':=ae.mk H
                  clear H
                  go_wp2
                  go_meet
                  case rel=>exact ⟨_,(decide ((vI.size:Int) > 19)),(by first|rfl|(simp;done)|(simp [*];done)),H',⟨by have:=I9.out;have:=X8.out;first|omega|exact Nat.le_refl _⟩,by repeat (first|exact bC.refl _|apply bC.step)⟩
                · rw [if_neg c15] at H
                  have wo:decide (19 < (vI.size:Int))=false:=decide_eq_false c15
                  have LP:decide (19 < vI.size)=false:=decide_eq_false (by omega)
                  clear c15
                  (first|rw [wo]|(simp only [aI,aJ];rw [wo])|skip)
                  by_cases c16:xC > 9223372036854775808
                  · rw [if_pos c16] at H
                    have Ha:decide (9223372036854775808 < xC)=true:=decide_eq_true c16
                    clear c16
                    have H':=ae.mk H
                    clear H
                    go_wp2
                    go_meet
                    case rel=>exact ⟨_,(decide (xC > 9223372036854775808)),(by first|rfl|(simp;done)|(simp [*];done)),H',⟨by have:=I9.out;have:=X8.out;first|omega|exact Nat.le_refl _⟩,by repeat (first|exact bC.refl _|apply bC.step)⟩
                  · rw [if_neg c16] at H
                    have Ha:decide (9223372036854775808 < xC)=false:=decide_eq_false c16
                    clear c16
                    by_cases c17:xC=9223372036854775808
                    · rw [if_pos c17] at H
                      have Dp:(xC == 9223372036854775808)=true:=beq_iff_eq.mpr c17
                      have LM:(xC != 9223372036854775808)=false:=bne_eq_false_iff_eq.mpr c17
                      clear c17
                      have H':=ae.mk H
                      clear H
                      go_wp2
                      go_meet
                      case rel=>exact ⟨_,(!((bt a0 0) == 45)),(by first|rfl|(simp;done)|(simp [*];done)),H',⟨by have:=I9.out;have:=X8.out;first|omega|exact Nat.le_refl _⟩,by repeat (first|exact bC.refl _|apply bC.step)⟩
                    · rw [if_neg c17] at H
                      have Dp:(xC == 9223372036854775808)=false:=beq_eq_false_iff_ne.mpr c17
                      have LM:(xC != 9223372036854775808)=true:=bne_iff_ne.mpr c17
                      have H':=ae.mk H
                      clear H
                      go_wp2
                      go_meet
                      case rel=>exact ⟨_,(false),(by first|rfl|(simp;done)|(simp [*];done)),H',⟨by have:=I9.out;have:=X8.out;first|omega|exact Nat.le_refl _⟩,by repeat (first|exact bC.refl _|apply bC.step)⟩
              case rest =>
                clear Yb
                try clear c1
                try clear p1
                try clear q1
                try clear hx1
                try clear p2
                try clear c3
                try clear c4
                try clear rF
                try clear vZ
                try clear c5
                try clear p5
                try clear q5
                try clear hx5
                try clear RZ
                try clear p6
                try clear c7
                try clear nX
                try clear vY
                try clear c8
                try clear tK
                try clear Bv
                try clear c10
                try clear nO
                try clear c11
                try clear sS
                try clear c12
                try clear ve
                try clear p13
                try clear q13
                try clear YN
                try clear c15
                try clear wo
                try clear LP
                try clear c16
                try clear Ha
                try clear c17
                try clear Dp
                try clear LM
                try clear p1
                try clear p13
                try clear p2
                try clear p5
                try clear p6
                try clear q1
                try clear q13
                try clear q5
                obtain ⟨kq,DJ,rfl,HA,ai7,⟨aim,rfl⟩⟩:=hcut
                cases kq with
                | zero=>exact absurd HA.out (by simp [aC.j3])
                | succ aip =>
                  have H:=HA.out
                  clear HA
                  simp only [aC.j3] at H
                  by_cases c18:DJ=true
                  · subst c18
                    have H1:(some (0,3))=some (r1,r2):=by rw [if_pos rfl] at H;exact H
                    clear H
                    have H:=H1
                    clear H1
                    simp only [Option.some.injEq,Prod.mk.injEq] at H
                    obtain ⟨rfl,rfl⟩:=H
                    go_wp2
                    go_ret2
                    exact ⟨by first|rfl|(simp;done)|(simp [*];done),by repeat (first|exact bC.refl _|apply bC.step)⟩
                  · replace c18:=Bool.eq_false_iff.mpr c18
                    subst c18
                    have H1:(if ((bt a0 0) == 45)=true then (some (wrap64 (-(wrap64 (xC))),0)) else (some (wrap64 (xC),0)))=some (r1,r2):=by rw [if_neg (show ¬ (false=true) by decide)] at H;exact H
                    clear H
                    have H:=H1
                    clear H1
                    by_cases c19:((bt a0 0) == 45)=true
                    · rw [if_pos c19] at H
                      have QB:((bt a0 0) == 45)=true:=c19
                      (try (have Zd:decide ((bt a0 0)=45)=true:=by simpa using c19))
                      (try (have Zc:((bt a0 0) == 45)=true:=by simpa using c19))
                      clear c19
                      simp only [Option.some.injEq,Prod.mk.injEq] at H
                      obtain ⟨rfl,rfl⟩:=H
                      go_wp2
                      go_ret2
                      exact ⟨by first|rfl|(simp;done)|(simp [*];done),by repeat (first|exact bC.refl _|apply bC.step)⟩
                    · rw [if_neg c19] at H
                      have QB:((bt a0 0) == 45)=false:=by simpa using c19
                      (try (have Zd:decide ((bt a0 0)=45)=false:=by simpa using c19))
                      (try (have Zc:((bt a0 0) == 45)=false:=by simpa using c19))
                      (try (have ahp:¬ ((bt a0 0)=45):=by simpa using c19))
                      clear c19
                      simp only [Option.some.injEq,Prod.mk.injEq] at H
                      obtain ⟨rfl,rfl⟩:=H
                      go_wp2
                      go_ret2
                      exact ⟨by first|rfl|(simp;done)|(simp [*];done),by repeat (first|exact bC.refl _|apply bC.step)⟩
    · rw [if_neg c4] at H
      exact absurd H (by simp)
  · replace c3:=Bool.eq_false_iff.mpr c3
    subst c3
    have H1:(some (0,4))=some (r1,r2):=by rw [if_neg (show ¬ (false=true) by decide)] at H;exact H
    clear H
    have H:=H1
    clear H1
    simp only [Option.some.injEq,Prod.mk.injEq] at H
    obtain ⟨rfl,rfl⟩:=H
    go_enter Tryz.func47,Tryz.ntmps47
    go_wp2_with (first|((with_reducible refine bU (f:=59) rfl ?_);refine gy (some 9) rfl rfl Tryz.func59 (by kernel_rfl) rfl #[.string a0] rfl (by (try simp only [List.map_toArray,List.map_cons,List.map_nil]);first|done|rfl|(simp only [List.length_drop,List.length_take];rfl)) ?_;(with_reducible refine (aA.calls k a0 false _ A2.out).mono ?_);rintro e w' ⟨rfl,⟨nd,rfl⟩⟩;refine ⟨_,rfl,?_⟩))
    go_ret2
    exact ⟨by first|rfl|(simp;done)|(simp [*];done),by repeat (first|exact bC.refl _|apply bC.step)⟩
def aU.j0:Nat→Int→Int→Bool→Int→Int→Int→Int→Int→Option (Int × Int × Int × Int × Int × Bool)
  | 0,_,_,_,_,_,_,_,_=>none
  | k+1,x1,x2,x18,zG,DN,DL,DK,zF=>if x18=true then (some (zG,DN,DL,DK,zF,false)) else (if x1=97 then (some (zG,(x2) % 256,DL,DK,zF,true)) else (if x1=98 then (some (zG,DN,(x2) % 256,DK,zF,true)) else (some (zG,DN,DL,(x2) % 256,zF,true))))
def aU.f (k:Nat) (dP:Int) (aY:Int) (aX:Int) (dW:Int) (eP:Int) (a1:Int) (a2:Int):Option (Int × Int × Int × Int × Int × Bool):=if a1=110 then (some (dP,aY,aX,dW,a2,true)) else (if a2 < 0 then (aU.j0 k a1 a2 true dP aY aX dW eP) else (aU.j0 k a1 a2 (decide (a2 > 255)) dP aY aX dW eP))
theorem aU.gY:∀ k,(∀ y0 y1 y2 y3 y4 y5 y6 y7,dH (aU.j0 k y0 y1 y2 y3 y4 y5 y6 y7) (aU.j0 (k+1) y0 y1 y2 y3 y4 y5 y6 y7))
  | 0=>fun _ _ _ _ _ _ _ _ r h=>by simp [aU.j0] at h
  | k+1=>by
    have jK:=aU.gY k
    · intro y0 y1 y2 y3 y4 y5 y6 y7
      unfold aU.j0
      repeat' first
      | (with_reducible exact jK _ _ _ _ _ _ _ _)
      | (with_reducible exact dH.refl _)
      | (with_reducible exact dH.none _)
      | (with_reducible refine dH.ite ?_ ?_)
      | (with_reducible refine dH.bind ?_ (fun _=>?_))
      | exact jK _ _ _ _ _ _ _ _
      | exact dH.none _
      | refine dH.ite ?_ ?_
      | refine dH.bind ?_ (fun _=>?_)
theorem aU.mono:∀ a0 a1 a2 a3 a4 a5 a6 k,dH (aU.f k a0 a1 a2 a3 a4 a5 a6) (aU.f (k+1) a0 a1 a2 a3 a4 a5 a6):=by
  intro a0 a1 a2 a3 a4 a5 a6 k
  have jK:=aU.gY k
  unfold aU.f
  repeat' first
      | (with_reducible exact jK _ _ _ _ _ _ _ _)
      | (with_reducible exact dH.refl _)
      | (with_reducible exact dH.none _)
      | (with_reducible refine dH.ite ?_ ?_)
      | (with_reducible refine dH.bind ?_ (fun _=>?_))
      | exact jK _ _ _ _ _ _ _ _
      | exact dH.none _
      | refine dH.ite ?_ ?_
      | refine dH.bind ?_ (fun _=>?_)
set_option maxHeartbeats 8000000 in
set_option maxRecDepth 100000 in
theorem aU.calls (k:Nat) (dP:Int) (aY:Int) (aX:Int) (dW:Int) (eP:Int) (a1:Int) (a2:Int) (r1:Int) (r2:Int) (r3:Int) (r4:Int) (r5:Int) (r6:Bool) (w:World) (h:aU.f k dP aY aX dW eP a1 a2=some (r1,r2,r3,r4,r5,r6)) :
    Calls Tryz.prog 48 #[.agg #[.int .u8 dP,.int .u8 aY,.int .u8 aX,.int .u8 dW,.int .i64 eP],.int .u8 a1,.int .i64 a2] w fun e w'=>e=.returned (.tuple #[.agg #[.int .u8 r1,.int .u8 r2,.int .u8 r3,.int .u8 r4,.int .i64 r5],.bool r6])∧Below w.heap.size w w':=by
  have BR:=Tryz.underlying27
  have HB:=ae.mk (Below.refl w.heap.size w)
  have H:(if a1=110 then (some (dP,aY,aX,dW,a2,true)) else (if a2 < 0 then (aU.j0 k a1 a2 true dP aY aX dW eP) else (aU.j0 k a1 a2 (decide (a2 > 255)) dP aY aX dW eP)))=some (r1,r2,r3,r4,r5,r6):=h
  clear h
  by_cases c4:a1=110
  · rw [if_pos c4] at H
    have rF:(a1 == 110)=true:=beq_iff_eq.mpr c4
    have vZ:(a1 != 110)=false:=bne_eq_false_iff_eq.mpr c4
    clear c4
    simp only [Option.some.injEq,Prod.mk.injEq] at H
    obtain ⟨rfl,rfl,rfl,rfl,rfl,rfl⟩:=H
    go_enter Tryz.func48,Tryz.ntmps48
    go_wp2_with (first|((with_reducible refine eQ (N:=3) rfl ?_);refine fF ?hg (N:=3) ?hd (cs:=#[.int .u8 dP,.int .u8 aY,.int .u8 aX,.int .u8 dW,.int .i64 eP]) (t:=27) ?hr ?_;(case hd=>rfl);(case hg=>rfl);(case hr=>first|(go_simp;done)|(go_simp;rfl));intro ji hg w5 hbox hb;have di:=ae.mk (aQ (by repeat (first|(with_reducible first|exact HB.out|apply aj|apply af|apply ai)|exact HB.out)) hb);have dm:=ae.mk (hbox);have dE:=ae.mk ((by rw [hg];exact (bn (by repeat (first|(with_reducible first|exact HB.out|apply aj|apply af|apply ai)|exact HB.out))):w.heap.size≤ji));have gq:=ae.mk ((by rw [hg];exact (bn (by repeat (first|(with_reducible first|exact HB.out|apply aj|apply af|apply ai)|exact HB.out))):w.heap.size≤ji));clear HB;have HB:=di;have ik:=dm;have aag:=dE;have sZ:=gq;clear di dm dE gq;clear hb hbox hg)|((with_reducible refine eQ (N:=6) rfl ?_);refine fF ?hg (N:=6) ?hd (cs:=#[.int .u8 0,.int .u8 0,.int .u8 0,.int .u8 0,.int .i64 0]) (t:=27) ?hr ?_;(case hd=>rfl);(case hg=>rfl);(case hr=>first|(go_simp;done)|(go_simp;rfl));intro jv hg w6 hbox hb;have di:=ae.mk (aV (g:=ji) (o:=.cells #[.int .u8 dP,.int .u8 aY,.int .u8 aX,.int .u8 dW,.int .i64 eP] 27 (0,0)) (by (with_reducible repeat (first|refine au ?_ _|refine ay ?_|refine ak ?_ _));exact ik.out) hb);have dm:=ae.mk (aQ (by repeat (first|(with_reducible first|exact HB.out|apply aj|apply af|apply ai|refine az ?_ sZ.out)|exact HB.out)) hb);have dE:=ae.mk (hbox);have gq:=ae.mk ((by rw [hg];exact (bn (by repeat (first|(with_reducible first|exact HB.out|apply aj|apply af|apply ai|refine az ?_ sZ.out)|exact HB.out))):w.heap.size≤jv));have jC:=ae.mk ((by rw [hg];exact (bn (by repeat (first|(with_reducible first|exact HB.out|apply aj|apply af|apply ai|refine az ?_ sZ.out)|exact HB.out))):w.heap.size≤jv));have lN:=ae.mk ((by rw [hg];exact Nat.ne_of_lt (gZ (g:=ji) (o:=.cells #[.int .u8 dP,.int .u8 aY,.int .u8 aX,.int .u8 dW,.int .i64 eP] 27 (0,0)) (by (with_reducible repeat (first|refine au ?_ _|refine ay ?_|refine ak ?_ _));exact ik.out)):ji ≠ jv));have nC:=ae.mk ((by rw [hg];exact Nat.ne_of_gt (gZ (g:=ji) (o:=.cells #[.int .u8 dP,.int .u8 aY,.int .u8 aX,.int .u8 dW,.int .i64 eP] 27 (0,0)) (by (with_reducible repeat (first|refine au ?_ _|refine ay ?_|refine ak ?_ _));exact ik.out)):jv ≠ ji));clear ik;clear HB;have ik:=di;have HB:=dm;have iH:=dE;have aaf:=gq;have zu:=jC;have rJ:=lN;have nD:=nC;clear di dm dE gq jC lN nC;clear hb hbox hg;have aiK:=rJ.out;have aiJ:=nD.out;have IQ:w6.cell? ⟨ji,0,none⟩=some (.int .u8 dP):=(ah ik.out 0).trans rfl;have IP:w6.cell? ⟨ji,1,none⟩=some (.int .u8 aY):=(ah ik.out 1).trans rfl;have IM:w6.cell? ⟨ji,2,none⟩=some (.int .u8 aX):=(ah ik.out 2).trans rfl;have IL:w6.cell? ⟨ji,3,none⟩=some (.int .u8 dW):=(ah ik.out 3).trans rfl;have PL:w6.cell? ⟨ji,4,none⟩=some (.int .i64 eP):=(ah ik.out 4).trans rfl;have IK:=ax ik.out 0;have IJ:=ax ik.out 1;have II:=ax ik.out 2;have IG:=ax ik.out 3;have Px:=ax ik.out 4;have PK:w6.cell? ⟨jv,0,none⟩=some (.int .u8 0):=(ah iH.out 0).trans rfl;have PI:w6.cell? ⟨jv,1,none⟩=some (.int .u8 0):=(ah iH.out 1).trans rfl;have PH:w6.cell? ⟨jv,2,none⟩=some (.int .u8 0):=(ah iH.out 2).trans rfl;have PG:w6.cell? ⟨jv,3,none⟩=some (.int .u8 0):=(ah iH.out 3).trans rfl;have XA:w6.cell? ⟨jv,4,none⟩=some (.int .i64 0):=(ah iH.out 4).trans rfl;have Pv:=ax iH.out 0;have Pq:=ax iH.out 1;have Po:=ax iH.out 2;have Pn:=ax iH.out 3;have Xt:=ax iH.out 4))
    refine bodyPost_ret (jV rfl _ _ jv 27 #[.int .u8 dP,.int .u8 aY,.int .u8 aX,.int .u8 dW,.int .i64 a2] (0,0) _ rfl (by (with_reducible repeat (first|refine au ?_ _|refine ay ?_|refine ak ?_ _));refine dB (cs:=#[.int .u8 dP,.int .u8 aY,.int .u8 aX,.int .u8 dW,.int .i64 0]) ?_ 4 _ rfl;(with_reducible repeat (first|refine au ?_ _|refine ay ?_|refine ak ?_ _));refine dB (cs:=#[.int .u8 dP,.int .u8 aY,.int .u8 aX,.int .u8 0,.int .i64 0]) ?_ 3 _ rfl;(with_reducible repeat (first|refine au ?_ _|refine ay ?_|refine ak ?_ _));refine dB (cs:=#[.int .u8 dP,.int .u8 aY,.int .u8 0,.int .u8 0,.int .i64 0]) ?_ 2 _ rfl;(with_reducible repeat (first|refine au ?_ _|refine ay ?_|refine ak ?_ _));refine dB (cs:=#[.int .u8 dP,.int .u8 0,.int .u8 0,.int .u8 0,.int .i64 0]) ?_ 1 _ rfl;(with_reducible repeat (first|refine au ?_ _|refine ay ?_|refine ak ?_ _));refine dB (cs:=#[.int .u8 0,.int .u8 0,.int .u8 0,.int .u8 0,.int .i64 0]) ?_ 0 _ rfl;(with_reducible repeat (first|refine au ?_ _|refine ay ?_|refine ak ?_ _));refine fC ?_ nD.out _;(with_reducible repeat (first|refine au ?_ _|refine ay ?_|refine ak ?_ _));exact iH.out) Tryz.underlying27 rfl (by kernel_rfl)) rfl ?_
    exact ⟨by first|rfl|(simp [bH,bG] <;> rfl)|(simp [*,bH,bG] <;> rfl),by repeat (first|(with_reducible first|exact HB.out|apply aj|apply af|apply ai|refine az ?_ sZ.out|refine az ?_ zu.out)|exact HB.out)⟩
  · rw [if_neg c4] at H
    have rF:(a1 == 110)=false:=beq_eq_false_iff_ne.mpr c4
    have vZ:(a1 != 110)=true:=bne_iff_ne.mpr c4
    have Yc:=ae.mk H
    clear H
    go_enter Tryz.func48,Tryz.ntmps48
    go_upto_region 4 with (first|((with_reducible refine eQ (N:=3) rfl ?_);refine fF ?hg (N:=3) ?hd (cs:=#[.int .u8 dP,.int .u8 aY,.int .u8 aX,.int .u8 dW,.int .i64 eP]) (t:=27) ?hr ?_;(case hd=>rfl);(case hg=>rfl);(case hr=>first|(go_simp;done)|(go_simp;rfl));intro ji hg w11 hbox hb;have di:=ae.mk (aQ (by repeat (first|(with_reducible first|exact HB.out|apply aj|apply af|apply ai)|exact HB.out)) hb);have dm:=ae.mk (hbox);have dE:=ae.mk ((by rw [hg];exact (bn (by repeat (first|(with_reducible first|exact HB.out|apply aj|apply af|apply ai)|exact HB.out))):w.heap.size≤ji));have gq:=ae.mk ((by rw [hg];exact (bn (by repeat (first|(with_reducible first|exact HB.out|apply aj|apply af|apply ai)|exact HB.out))):w.heap.size≤ji));clear HB;have HB:=di;have ik:=dm;have aag:=dE;have sZ:=gq;clear di dm dE gq;clear hb hbox hg)|((with_reducible refine eQ (N:=6) rfl ?_);refine fF ?hg (N:=6) ?hd (cs:=#[.int .u8 0,.int .u8 0,.int .u8 0,.int .u8 0,.int .i64 0]) (t:=27) ?hr ?_;(case hd=>rfl);(case hg=>rfl);(case hr=>first|(go_simp;done)|(go_simp;rfl));intro jv hg w12 hbox hb;have di:=ae.mk (aV (g:=ji) (o:=.cells #[.int .u8 dP,.int .u8 aY,.int .u8 aX,.int .u8 dW,.int .i64 eP] 27 (0,0)) (by (with_reducible repeat (first|refine au ?_ _|refine ay ?_|refine ak ?_ _));exact ik.out) hb);have dm:=ae.mk (aQ (by repeat (first|(with_reducible first|exact HB.out|apply aj|apply af|apply ai|refine az ?_ sZ.out)|exact HB.out)) hb);have dE:=ae.mk (hbox);have gq:=ae.mk ((by rw [hg];exact (bn (by repeat (first|(with_reducible first|exact HB.out|apply aj|apply af|apply ai|refine az ?_ sZ.out)|exact HB.out))):w.heap.size≤jv));have jC:=ae.mk ((by rw [hg];exact (bn (by repeat (first|(with_reducible first|exact HB.out|apply aj|apply af|apply ai|refine az ?_ sZ.out)|exact HB.out))):w.heap.size≤jv));have lN:=ae.mk ((by rw [hg];exact Nat.ne_of_lt (gZ (g:=ji) (o:=.cells #[.int .u8 dP,.int .u8 aY,.int .u8 aX,.int .u8 dW,.int .i64 eP] 27 (0,0)) (by (with_reducible repeat (first|refine au ?_ _|refine ay ?_|refine ak ?_ _));exact ik.out)):ji ≠ jv));have nC:=ae.mk ((by rw [hg];exact Nat.ne_of_gt (gZ (g:=ji) (o:=.cells #[.int .u8 dP,.int .u8 aY,.int .u8 aX,.int .u8 dW,.int .i64 eP] 27 (0,0)) (by (with_reducible repeat (first|refine au ?_ _|refine ay ?_|refine ak ?_ _));exact ik.out)):jv ≠ ji));clear ik;clear HB;have ik:=di;have HB:=dm;have iH:=dE;have aaf:=gq;have zu:=jC;have rJ:=lN;have nD:=nC;clear di dm dE gq jC lN nC;clear hb hbox hg))
    (try simp only [Act.put,List.setIfInBounds_toArray,List.set_cons_zero,List.set_cons_succ])
    go_cut [18] (fun v18 wc=>∃ (kq:Nat) (Jq:Bool),v18=.bool Jq∧ae (aU.j0 kq a1 a2 Jq dP aY aX dW eP=some (r1,r2,r3,r4,r5,r6))∧ae (kq≤k)∧ae (wc.heap[ji]? = some (.cells #[.int .u8 dP,.int .u8 aY,.int .u8 aX,.int .u8 dW,.int .i64 eP] 27 (0,0)))∧ae (wc.heap[jv]? = some (.cells #[.int .u8 0,.int .u8 0,.int .u8 0,.int .u8 0,.int .i64 0] 27 (0,0)))∧ae (Below w.heap.size w wc))
    case first =>
      have H:=Yc.out
      clear Yc
      by_cases c13:a2 < 0
      · rw [if_pos c13] at H
        have rZ:decide (a2 < 0)=true:=decide_eq_true c13
        clear c13
        (first|rw [rZ]|(simp only [aI,aJ];rw [rZ])|skip)
        have H':=ae.mk H
        clear H
        go_wp2
        go_meet
        case rel=>exact ⟨_,(true),(by first|rfl|(simp;done)|(simp [*];done)),H',⟨by first|omega|exact Nat.le_refl _⟩,⟨by (with_reducible repeat (first|refine au ?_ _|refine ay ?_|refine ak ?_ _));exact ik.out⟩,⟨by (with_reducible repeat (first|refine au ?_ _|refine ay ?_|refine ak ?_ _));exact iH.out⟩,⟨by repeat (first|(with_reducible first|exact HB.out|apply aj|apply af|apply ai|refine az ?_ sZ.out|refine az ?_ zu.out)|exact HB.out)⟩⟩
      · rw [if_neg c13] at H
        have rZ:decide (a2 < 0)=false:=decide_eq_false c13
        clear c13
        (first|rw [rZ]|(simp only [aI,aJ];rw [rZ])|skip)
        have H':=ae.mk H
        clear H
        go_wp2
        go_meet
        case rel=>exact ⟨_,(decide (a2 > 255)),(by first|rfl|(simp;done)|(simp [*];done)),H',⟨by first|omega|exact Nat.le_refl _⟩,⟨by (with_reducible repeat (first|refine au ?_ _|refine ay ?_|refine ak ?_ _));exact ik.out⟩,⟨by (with_reducible repeat (first|refine au ?_ _|refine ay ?_|refine ak ?_ _));exact iH.out⟩,⟨by repeat (first|(with_reducible first|exact HB.out|apply aj|apply af|apply ai|refine az ?_ sZ.out|refine az ?_ zu.out)|exact HB.out)⟩⟩
    case rest =>
      clear Yc
      try clear c1
      try clear p2
      try clear c4
      try clear rF
      try clear vZ
      try clear c7
      try clear c13
      try clear rZ
      try clear IQ
      try clear IP
      try clear IM
      try clear IL
      try clear PL
      try clear PK
      try clear PI
      try clear PH
      try clear PG
      try clear XA
      try clear IK
      try clear IJ
      try clear II
      try clear IG
      try clear Px
      try clear Pv
      try clear Pq
      try clear Po
      try clear Pn
      try clear Xt
      obtain ⟨kq,Jq,rfl,HA,HJ9,ik,iH,HB⟩:=hcut
      cases kq with
      | zero=>exact absurd HA.out (by simp [aU.j0])
      | succ kj9 =>
        have H:=HA.out
        clear HA
        simp only [aU.j0] at H
        by_cases c14:Jq=true
        · subst c14
          have H1:(some (dP,aY,aX,dW,eP,false))=some (r1,r2,r3,r4,r5,r6):=by rw [if_pos rfl] at H;exact H
          clear H
          have H:=H1
          clear H1
          simp only [Option.some.injEq,Prod.mk.injEq] at H
          obtain ⟨rfl,rfl,rfl,rfl,rfl,rfl⟩:=H
          have YU:=rJ.out
          have YR:=nD.out
          have Lh:wc.cell? ⟨ji,0,none⟩=some (.int .u8 dP):=(ah ik.out 0).trans rfl
          have Le:wc.cell? ⟨ji,1,none⟩=some (.int .u8 aY):=(ah ik.out 1).trans rfl
          have Ld:wc.cell? ⟨ji,2,none⟩=some (.int .u8 aX):=(ah ik.out 2).trans rfl
          have Lc:wc.cell? ⟨ji,3,none⟩=some (.int .u8 dW):=(ah ik.out 3).trans rfl
          have U0:wc.cell? ⟨ji,4,none⟩=some (.int .i64 eP):=(ah ik.out 4).trans rfl
          have Kz:=ax ik.out 0
          have Ky:=ax ik.out 1
          have Kw:=ax ik.out 2
          have Kv:=ax ik.out 3
          have TZ:=ax ik.out 4
          have La:wc.cell? ⟨jv,0,none⟩=some (.int .u8 0):=(ah iH.out 0).trans rfl
          have KY:wc.cell? ⟨jv,1,none⟩=some (.int .u8 0):=(ah iH.out 1).trans rfl
          have KX:wc.cell? ⟨jv,2,none⟩=some (.int .u8 0):=(ah iH.out 2).trans rfl
          have KW:wc.cell? ⟨jv,3,none⟩=some (.int .u8 0):=(ah iH.out 3).trans rfl
          have UZ:wc.cell? ⟨jv,4,none⟩=some (.int .i64 0):=(ah iH.out 4).trans rfl
          have Ku:=ax iH.out 0
          have Kt:=ax iH.out 1
          have Kr:=ax iH.out 2
          have Kq:=ax iH.out 3
          have TY:=ax iH.out 4
          go_wp2
          refine bodyPost_ret (jV rfl _ _ jv 27 #[.int .u8 dP,.int .u8 aY,.int .u8 aX,.int .u8 dW,.int .i64 eP] (0,0) _ rfl (by (with_reducible repeat (first|refine au ?_ _|refine ay ?_|refine ak ?_ _));refine dB (cs:=#[.int .u8 dP,.int .u8 aY,.int .u8 aX,.int .u8 dW,.int .i64 0]) ?_ 4 _ rfl;(with_reducible repeat (first|refine au ?_ _|refine ay ?_|refine ak ?_ _));refine dB (cs:=#[.int .u8 dP,.int .u8 aY,.int .u8 aX,.int .u8 0,.int .i64 0]) ?_ 3 _ rfl;(with_reducible repeat (first|refine au ?_ _|refine ay ?_|refine ak ?_ _));refine dB (cs:=#[.int .u8 dP,.int .u8 aY,.int .u8 0,.int .u8 0,.int .i64 0]) ?_ 2 _ rfl;(with_reducible repeat (first|refine au ?_ _|refine ay ?_|refine ak ?_ _));refine dB (cs:=#[.int .u8 dP,.int .u8 0,.int .u8 0,.int .u8 0,.int .i64 0]) ?_ 1 _ rfl;(with_reducible repeat (first|refine au ?_ _|refine ay ?_|refine ak ?_ _));refine dB (cs:=#[.int .u8 0,.int .u8 0,.int .u8 0,.int .u8 0,.int .i64 0]) ?_ 0 _ rfl;(with_reducible repeat (first|refine au ?_ _|refine ay ?_|refine ak ?_ _));exact iH.out) Tryz.underlying27 rfl (by kernel_rfl)) rfl ?_
          exact ⟨by first|rfl|(simp [bH,bG] <;> rfl)|(simp [*,bH,bG] <;> rfl),by repeat (first|(with_reducible first|exact HB.out|apply aj|apply af|apply ai|refine az ?_ sZ.out|refine az ?_ zu.out)|exact HB.out)⟩
        · replace c14:=Bool.eq_false_iff.mpr c14
          subst c14
          have H1:(if a1=97 then (some (dP,(a2) % 256,aX,dW,eP,true)) else (if a1=98 then (some (dP,aY,(a2) % 256,dW,eP,true)) else (some (dP,aY,aX,(a2) % 256,eP,true))))=some (r1,r2,r3,r4,r5,r6):=by rw [if_neg (show ¬ (false=true) by decide)] at H;exact H
          clear H
          have H:=H1
          clear H1
          by_cases c18:a1=97
          · rw [if_pos c18] at H
            have Zf:(a1 == 97)=true:=beq_iff_eq.mpr c18
            have Ze:(a1 != 97)=false:=bne_eq_false_iff_eq.mpr c18
            clear c18
            simp only [Option.some.injEq,Prod.mk.injEq] at H
            obtain ⟨rfl,rfl,rfl,rfl,rfl,rfl⟩:=H
            have YT:=rJ.out
            have YQ:=nD.out
            have UT:wc.cell? ⟨ji,0,none⟩=some (.int .u8 dP):=(ah ik.out 0).trans rfl
            have UR:wc.cell? ⟨ji,1,none⟩=some (.int .u8 aY):=(ah ik.out 1).trans rfl
            have UQ:wc.cell? ⟨ji,2,none⟩=some (.int .u8 aX):=(ah ik.out 2).trans rfl
            have UO:wc.cell? ⟨ji,3,none⟩=some (.int .u8 dW):=(ah ik.out 3).trans rfl
            have UN:wc.cell? ⟨ji,4,none⟩=some (.int .i64 eP):=(ah ik.out 4).trans rfl
            have TS:=ax ik.out 0
            have TR:=ax ik.out 1
            have TQ:=ax ik.out 2
            have TP:=ax ik.out 3
            have TN:=ax ik.out 4
            have UM:wc.cell? ⟨jv,0,none⟩=some (.int .u8 0):=(ah iH.out 0).trans rfl
            have UL:wc.cell? ⟨jv,1,none⟩=some (.int .u8 0):=(ah iH.out 1).trans rfl
            have UK:wc.cell? ⟨jv,2,none⟩=some (.int .u8 0):=(ah iH.out 2).trans rfl
            have UJ:wc.cell? ⟨jv,3,none⟩=some (.int .u8 0):=(ah iH.out 3).trans rfl
            have aew:wc.cell? ⟨jv,4,none⟩=some (.int .i64 0):=(ah iH.out 4).trans rfl
            have TM:=ax iH.out 0
            have TL:=ax iH.out 1
            have TK:=ax iH.out 2
            have TJ:=ax iH.out 3
            have ac4:=ax iH.out 4
            go_wp2
            refine bodyPost_ret (jV rfl _ _ jv 27 #[.int .u8 dP,.int .u8 ((a2) % 256),.int .u8 aX,.int .u8 dW,.int .i64 eP] (0,0) _ rfl (by (with_reducible repeat (first|refine au ?_ _|refine ay ?_|refine ak ?_ _));refine dB (cs:=#[.int .u8 dP,.int .u8 ((a2) % 256),.int .u8 aX,.int .u8 dW,.int .i64 0]) ?_ 4 _ rfl;(with_reducible repeat (first|refine au ?_ _|refine ay ?_|refine ak ?_ _));refine dB (cs:=#[.int .u8 dP,.int .u8 ((a2) % 256),.int .u8 aX,.int .u8 0,.int .i64 0]) ?_ 3 _ rfl;(with_reducible repeat (first|refine au ?_ _|refine ay ?_|refine ak ?_ _));refine dB (cs:=#[.int .u8 dP,.int .u8 ((a2) % 256),.int .u8 0,.int .u8 0,.int .i64 0]) ?_ 2 _ rfl;(with_reducible repeat (first|refine au ?_ _|refine ay ?_|refine ak ?_ _));refine dB (cs:=#[.int .u8 dP,.int .u8 0,.int .u8 0,.int .u8 0,.int .i64 0]) ?_ 1 _ rfl;(with_reducible repeat (first|refine au ?_ _|refine ay ?_|refine ak ?_ _));refine dB (cs:=#[.int .u8 0,.int .u8 0,.int .u8 0,.int .u8 0,.int .i64 0]) ?_ 0 _ rfl;(with_reducible repeat (first|refine au ?_ _|refine ay ?_|refine ak ?_ _));refine fC ?_ nD.out _;(with_reducible repeat (first|refine au ?_ _|refine ay ?_|refine ak ?_ _));exact iH.out) Tryz.underlying27 rfl (by kernel_rfl)) rfl ?_
            exact ⟨by first|rfl|(simp [bH,bG] <;> rfl)|(simp [*,bH,bG] <;> rfl),by repeat (first|(with_reducible first|exact HB.out|apply aj|apply af|apply ai|refine az ?_ sZ.out|refine az ?_ zu.out)|exact HB.out)⟩
          · rw [if_neg c18] at H
            have Zf:(a1 == 97)=false:=beq_eq_false_iff_ne.mpr c18
            have Ze:(a1 != 97)=true:=bne_iff_ne.mpr c18
            by_cases XX:a1=98
            · rw [if_pos XX] at H
              have Y8:(a1 == 98)=true:=beq_iff_eq.mpr XX
              have Y7:(a1 != 98)=false:=bne_eq_false_iff_eq.mpr XX
              clear XX
              simp only [Option.some.injEq,Prod.mk.injEq] at H
              obtain ⟨rfl,rfl,rfl,rfl,rfl,rfl⟩:=H
              have YS:=rJ.out
              have YP:=nD.out
              have KP:wc.cell? ⟨ji,0,none⟩=some (.int .u8 dP):=(ah ik.out 0).trans rfl
              have KO:wc.cell? ⟨ji,1,none⟩=some (.int .u8 aY):=(ah ik.out 1).trans rfl
              have KN:wc.cell? ⟨ji,2,none⟩=some (.int .u8 aX):=(ah ik.out 2).trans rfl
              have KL:wc.cell? ⟨ji,3,none⟩=some (.int .u8 dW):=(ah ik.out 3).trans rfl
              have UI:wc.cell? ⟨ji,4,none⟩=some (.int .i64 eP):=(ah ik.out 4).trans rfl
              have J6:=ax ik.out 0
              have J5:=ax ik.out 1
              have J4:=ax ik.out 2
              have J3:=ax ik.out 3
              have TI:=ax ik.out 4
              have KJ:wc.cell? ⟨jv,0,none⟩=some (.int .u8 0):=(ah iH.out 0).trans rfl
              have KI:wc.cell? ⟨jv,1,none⟩=some (.int .u8 0):=(ah iH.out 1).trans rfl
              have KH:wc.cell? ⟨jv,2,none⟩=some (.int .u8 0):=(ah iH.out 2).trans rfl
              have KG:wc.cell? ⟨jv,3,none⟩=some (.int .u8 0):=(ah iH.out 3).trans rfl
              have UH:wc.cell? ⟨jv,4,none⟩=some (.int .i64 0):=(ah iH.out 4).trans rfl
              have JZ:=ax iH.out 0
              have JY:=ax iH.out 1
              have JX:=ax iH.out 2
              have JW:=ax iH.out 3
              have TG:=ax iH.out 4
              go_wp2
              refine bodyPost_ret (jV rfl _ _ jv 27 #[.int .u8 dP,.int .u8 aY,.int .u8 ((a2) % 256),.int .u8 dW,.int .i64 eP] (0,0) _ rfl (by (with_reducible repeat (first|refine au ?_ _|refine ay ?_|refine ak ?_ _));refine dB (cs:=#[.int .u8 dP,.int .u8 aY,.int .u8 ((a2) % 256),.int .u8 dW,.int .i64 0]) ?_ 4 _ rfl;(with_reducible repeat (first|refine au ?_ _|refine ay ?_|refine ak ?_ _));refine dB (cs:=#[.int .u8 dP,.int .u8 aY,.int .u8 ((a2) % 256),.int .u8 0,.int .i64 0]) ?_ 3 _ rfl;(with_reducible repeat (first|refine au ?_ _|refine ay ?_|refine ak ?_ _));refine dB (cs:=#[.int .u8 dP,.int .u8 aY,.int .u8 0,.int .u8 0,.int .i64 0]) ?_ 2 _ rfl;(with_reducible repeat (first|refine au ?_ _|refine ay ?_|refine ak ?_ _));refine dB (cs:=#[.int .u8 dP,.int .u8 0,.int .u8 0,.int .u8 0,.int .i64 0]) ?_ 1 _ rfl;(with_reducible repeat (first|refine au ?_ _|refine ay ?_|refine ak ?_ _));refine dB (cs:=#[.int .u8 0,.int .u8 0,.int .u8 0,.int .u8 0,.int .i64 0]) ?_ 0 _ rfl;(with_reducible repeat (first|refine au ?_ _|refine ay ?_|refine ak ?_ _));refine fC ?_ nD.out _;(with_reducible repeat (first|refine au ?_ _|refine ay ?_|refine ak ?_ _));exact iH.out) Tryz.underlying27 rfl (by kernel_rfl)) rfl ?_
              exact ⟨by first|rfl|(simp [bH,bG] <;> rfl)|(simp [*,bH,bG] <;> rfl),by repeat (first|(with_reducible first|exact HB.out|apply aj|apply af|apply ai|refine az ?_ sZ.out|refine az ?_ zu.out)|exact HB.out)⟩
            · rw [if_neg XX] at H
              have Y8:(a1 == 98)=false:=beq_eq_false_iff_ne.mpr XX
              have Y7:(a1 != 98)=true:=bne_iff_ne.mpr XX
              simp only [Option.some.injEq,Prod.mk.injEq] at H
              obtain ⟨rfl,rfl,rfl,rfl,rfl,rfl⟩:=H
              have ag0:=rJ.out
              have agJ:=nD.out
              have aev:wc.cell? ⟨ji,0,none⟩=some (.int .u8 dP):=(ah ik.out 0).trans rfl
              have aeu:wc.cell? ⟨ji,1,none⟩=some (.int .u8 aY):=(ah ik.out 1).trans rfl
              have aet:wc.cell? ⟨ji,2,none⟩=some (.int .u8 aX):=(ah ik.out 2).trans rfl
              have aes:wc.cell? ⟨ji,3,none⟩=some (.int .u8 dW):=(ah ik.out 3).trans rfl
              have aer:wc.cell? ⟨ji,4,none⟩=some (.int .i64 eP):=(ah ik.out 4).trans rfl
              have ac3:=ax ik.out 0
              have ac2:=ax ik.out 1
              have ac1:=ax ik.out 2
              have ac0:=ax ik.out 3
              have acZ:=ax ik.out 4
              have UC:wc.cell? ⟨jv,0,none⟩=some (.int .u8 0):=(ah iH.out 0).trans rfl
              have UB:wc.cell? ⟨jv,1,none⟩=some (.int .u8 0):=(ah iH.out 1).trans rfl
              have UA:wc.cell? ⟨jv,2,none⟩=some (.int .u8 0):=(ah iH.out 2).trans rfl
              have Uz:wc.cell? ⟨jv,3,none⟩=some (.int .u8 0):=(ah iH.out 3).trans rfl
              have aeq:wc.cell? ⟨jv,4,none⟩=some (.int .i64 0):=(ah iH.out 4).trans rfl
              have TB:=ax iH.out 0
              have TA:=ax iH.out 1
              have Tz:=ax iH.out 2
              have Tv:=ax iH.out 3
              have acY:=ax iH.out 4
              go_wp2
              refine bodyPost_ret (jV rfl _ _ jv 27 #[.int .u8 dP,.int .u8 aY,.int .u8 aX,.int .u8 ((a2) % 256),.int .i64 eP] (0,0) _ rfl (by (with_reducible repeat (first|refine au ?_ _|refine ay ?_|refine ak ?_ _));refine dB (cs:=#[.int .u8 dP,.int .u8 aY,.int .u8 aX,.int .u8 ((a2) % 256),.int .i64 0]) ?_ 4 _ rfl;(with_reducible repeat (first|refine au ?_ _|refine ay ?_|refine ak ?_ _));refine dB (cs:=#[.int .u8 dP,.int .u8 aY,.int .u8 aX,.int .u8 0,.int .i64 0]) ?_ 3 _ rfl;(with_reducible repeat (first|refine au ?_ _|refine ay ?_|refine ak ?_ _));refine dB (cs:=#[.int .u8 dP,.int .u8 aY,.int .u8 0,.int .u8 0,.int .i64 0]) ?_ 2 _ rfl;(with_reducible repeat (first|refine au ?_ _|refine ay ?_|refine ak ?_ _));refine dB (cs:=#[.int .u8 dP,.int .u8 0,.int .u8 0,.int .u8 0,.int .i64 0]) ?_ 1 _ rfl;(with_reducible repeat (first|refine au ?_ _|refine ay ?_|refine ak ?_ _));refine dB (cs:=#[.int .u8 0,.int .u8 0,.int .u8 0,.int .u8 0,.int .i64 0]) ?_ 0 _ rfl;(with_reducible repeat (first|refine au ?_ _|refine ay ?_|refine ak ?_ _));refine fC ?_ nD.out _;(with_reducible repeat (first|refine au ?_ _|refine ay ?_|refine ak ?_ _));exact iH.out) Tryz.underlying27 rfl (by kernel_rfl)) rfl ?_
              exact ⟨by first|rfl|(simp [bH,bG] <;> rfl)|(simp [*,bH,bG] <;> rfl),by repeat (first|(with_reducible first|exact HB.out|apply aj|apply af|apply ai|refine az ?_ sZ.out|refine az ?_ zu.out)|exact HB.out)⟩
end Go.Proofs.YtkclndkbccbhaaaGreatDoor.P
end
