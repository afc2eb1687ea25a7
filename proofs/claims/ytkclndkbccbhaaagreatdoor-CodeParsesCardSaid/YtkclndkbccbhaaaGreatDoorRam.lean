/- Parts of the proof of CodeParses: what the functions that it reaches compute, and plain facts about that. -/
import Derived.Test.YtkclndkbccbhaaaGreatDoorRac
import Derived.Test.YtkclndkbccbhaaaGreatDoorRal
set_option linter.unusedVariables false
set_option linter.unusedSimpArgs false
section
namespace Go.Proofs.YtkclndkbccbhaaaGreatDoor.P
open Go.RowKit Go.Proofs.ag.bK Go.Proofs.ag.dV Go.Proofs.ag.fE
attribute [local go_sem] lI lG ny ni jW jV lH lF
mutual
def aC.j0:Nat→ByteArray→Bool→Option (Int × Int)
  | 0,_,_=>none
  | k+1,x4,x5=>aC.l0 k x4 x5 0 0
def aC.j2:Nat→ByteArray→Bool→Int→Option (Int × Int)
  | 0,_,_,_=>none
  | k+1,x4,x5,x6=>if (x4.size:Int) > 19 then (aC.j3 k x5 x6 (decide ((x4.size:Int) > 19))) else (if x6 > 9223372036854775808 then (aC.j3 k x5 x6 (decide (x6 > 9223372036854775808))) else (if x6=9223372036854775808 then (aC.j3 k x5 x6 (!x5)) else (aC.j3 k x5 x6 false)))
def aC.j3:Nat→Bool→Int→Bool→Option (Int × Int)
  | 0,_,_,_=>none
  | k+1,x5,x6,x36=>if x36=true then (some (0,3)) else (if x5=true then (some (wrap64 (-(wrap64 (x6))),0)) else (some (wrap64 (x6),0)))
def aC.l0:Nat→ByteArray→Bool→Int→Int→Option (Int × Int)
  | 0,_,_,_,_=>none
  | k+1,x4,x5,x6,x7=>if x7 < (x4.size:Int) then (if x7 < 19 then (if 0≤x7 then (aC.l0 k x4 x5 (IntKind.u64.wrap ((IntKind.u64.wrap (x6 * 10))+(((bt x4 x7) - 48) % 256))) (wrap64 (x7+1))) else (none)) else (aC.j2 k x4 x5 x6)) else (aC.j2 k x4 x5 x6)
end
def aC.f (k:Nat) (a0:ByteArray):Option (Int × Int):=(aA.f k a0).bind fun t212=>(if t212=true then (if 0 < (a0.size:Int) then (if (bt a0 0)=45 then (if 1≤(a0.size:Int) then (aC.j0 k (a0.extract 1 a0.size) ((bt a0 0) == 45)) else (none)) else (aC.j0 k a0 ((bt a0 0) == 45))) else (none)) else (some (0,4)))
theorem aC.iq:∀ k,(∀ y0 y1,dC (aC.j0 k y0 y1) (aC.j0 (k+1) y0 y1))∧(∀ y0 y1 y2,dC (aC.j2 k y0 y1 y2) (aC.j2 (k+1) y0 y1 y2))∧(∀ y0 y1 y2,dC (aC.j3 k y0 y1 y2) (aC.j3 (k+1) y0 y1 y2))∧(∀ y0 y1 y2 y3,dC (aC.l0 k y0 y1 y2 y3) (aC.l0 (k+1) y0 y1 y2 y3))
  | 0=>⟨fun _ _ r h=>by simp [aC.j0] at h,fun _ _ _ r h=>by simp [aC.j2] at h,fun _ _ _ r h=>by simp [aC.j3] at h,fun _ _ _ _ r h=>by simp [aC.l0] at h⟩
  | k+1=>by
    obtain ⟨jY,ih1,ih2,ih3⟩:=aC.iq k
    refine ⟨?_,?_,?_,?_⟩
    · intro y0 y1
      unfold aC.j0
      repeat' first
      | (with_reducible exact jY _ _)
      | (with_reducible exact ih1 _ _ _)
      | (with_reducible exact ih2 _ _ _)
      | (with_reducible exact ih3 _ _ _ _)
      | (with_reducible exact aA.mono _ _)
      | (with_reducible exact dC.refl _)
      | (with_reducible exact dC.none _)
      | (with_reducible refine dC.ite ?_ ?_)
      | (with_reducible refine dC.bind ?_ (fun _=>?_))
      | exact jY _ _
      | exact ih1 _ _ _
      | exact ih2 _ _ _
      | exact ih3 _ _ _ _
      | exact aA.mono _ _
      | exact dC.none _
      | refine dC.ite ?_ ?_
      | refine dC.bind ?_ (fun _=>?_)
    · intro y0 y1 y2
      unfold aC.j2
      repeat' first
      | (with_reducible exact jY _ _)
      | (with_reducible exact ih1 _ _ _)
      | (with_reducible exact ih2 _ _ _)
      | (with_reducible exact ih3 _ _ _ _)
      | (with_reducible exact aA.mono _ _)
      | (with_reducible exact dC.refl _)
      | (with_reducible exact dC.none _)
      | (with_reducible refine dC.ite ?_ ?_)
      | (with_reducible refine dC.bind ?_ (fun _=>?_))
      | exact jY _ _
      | exact ih1 _ _ _
      | exact ih2 _ _ _
      | exact ih3 _ _ _ _
      | exact aA.mono _ _
      | exact dC.none _
      | refine dC.ite ?_ ?_
      | refine dC.bind ?_ (fun _=>?_)
    · intro y0 y1 y2
      unfold aC.j3
      repeat' first
      | (with_reducible exact jY _ _)
      | (with_reducible exact ih1 _ _ _)
      | (with_reducible exact ih2 _ _ _)
      | (with_reducible exact ih3 _ _ _ _)
      | (with_reducible exact aA.mono _ _)
      | (with_reducible exact dC.refl _)
      | (with_reducible exact dC.none _)
      | (with_reducible refine dC.ite ?_ ?_)
      | (with_reducible refine dC.bind ?_ (fun _=>?_))
      | exact jY _ _
      | exact ih1 _ _ _
      | exact ih2 _ _ _
      | exact ih3 _ _ _ _
      | exact aA.mono _ _
      | exact dC.none _
      | refine dC.ite ?_ ?_
      | refine dC.bind ?_ (fun _=>?_)
    · intro y0 y1 y2 y3
      unfold aC.l0
      repeat' first
      | (with_reducible exact jY _ _)
      | (with_reducible exact ih1 _ _ _)
      | (with_reducible exact ih2 _ _ _)
      | (with_reducible exact ih3 _ _ _ _)
      | (with_reducible exact aA.mono _ _)
      | (with_reducible exact dC.refl _)
      | (with_reducible exact dC.none _)
      | (with_reducible refine dC.ite ?_ ?_)
      | (with_reducible refine dC.bind ?_ (fun _=>?_))
      | exact jY _ _
      | exact ih1 _ _ _
      | exact ih2 _ _ _
      | exact ih3 _ _ _ _
      | exact aA.mono _ _
      | exact dC.none _
      | refine dC.ite ?_ ?_
      | refine dC.bind ?_ (fun _=>?_)
theorem aC.mono:∀ a0 k,dC (aC.f k a0) (aC.f (k+1) a0):=by
  intro a0 k
  obtain ⟨jY,ih1,ih2,ih3⟩:=aC.iq k
  unfold aC.f
  repeat' first
      | (with_reducible exact jY _ _)
      | (with_reducible exact ih1 _ _ _)
      | (with_reducible exact ih2 _ _ _)
      | (with_reducible exact ih3 _ _ _ _)
      | (with_reducible exact aA.mono _ _)
      | (with_reducible exact dC.refl _)
      | (with_reducible exact dC.none _)
      | (with_reducible refine dC.ite ?_ ?_)
      | (with_reducible refine dC.bind ?_ (fun _=>?_))
      | exact jY _ _
      | exact ih1 _ _ _
      | exact ih2 _ _ _
      | exact ih3 _ _ _ _
      | exact aA.mono _ _
      | exact dC.none _
      | refine dC.ite ?_ ?_
      | refine dC.bind ?_ (fun _=>?_)
set_option maxHeartbeats 8000000 in
set_option maxRecDepth 100000 in
theorem aC.calls (k:Nat) (a0:ByteArray) (r1:Int) (r2:Int) (w:World) (h:aC.f k a0=some (r1,r2)) :
    Calls Tryz.prog 47 #[.string a0] w fun e w'=>e=.returned (.tuple #[.int .i64 r1,.int .i64 r2])∧bz w w':=by
  have H:((aA.f k a0).bind fun t212=>(if t212=true then (if 0 < (a0.size:Int) then (if (bt a0 0)=45 then (if 1≤(a0.size:Int) then (aC.j0 k (a0.extract 1 a0.size) ((bt a0 0) == 45)) else (none)) else (aC.j0 k a0 ((bt a0 0) == 45))) else (none)) else (some (0,4))))=some (r1,r2):=h
  clear h
  replace H:=Option.bind_eq_some_iff.mp H
  obtain ⟨t212,NQ,H⟩:=H
  replace H:(if t212=true then (if 0 < (a0.size:Int) then (if (bt a0 0)=45 then (if 1≤(a0.size:Int) then (aC.j0 k (a0.extract 1 a0.size) ((bt a0 0) == 45)) else (none)) else (aC.j0 k a0 ((bt a0 0) == 45))) else (none)) else (some (0,4)))=some (r1,r2):=H
  have A2:=ae.mk NQ
  clear NQ
  by_cases c3:t212=true
  · subst c3
    have H1:(if 0 < (a0.size:Int) then (if (bt a0 0)=45 then (if 1≤(a0.size:Int) then (aC.j0 k (a0.extract 1 a0.size) ((bt a0 0) == 45)) else (none)) else (aC.j0 k a0 ((bt a0 0) == 45))) else (none))=some (r1,r2):=by rw [if_pos rfl] at H;exact H
    clear H
    have H:=H1
    clear H1
    by_cases c4:0 < (a0.size:Int)
    · rw [if_pos c4] at H
      have uo:decide (0 < (a0.size:Int))=true:=decide_eq_true c4
      have wY:decide (0 < a0.size)=true:=decide_eq_true (by omega)
      clear c4
      have HC6:=ae.mk H
      clear H
      go_enter Tryz.func47,Tryz.ntmps47
      go_upto_if 15 with (first|((with_reducible refine bQ (f:=59) rfl ?_);refine fZ (some 9) rfl rfl Tryz.func59 (by kernel_rfl) rfl #[.string a0] rfl (by (try simp only [List.map_toArray,List.map_cons,List.map_nil]);first|done|rfl|(simp only [List.length_drop,List.length_take];rfl)) ?_;(with_reducible refine (aA.calls k a0 true _ A2.out).mono ?_);rintro e w' ⟨rfl,⟨nd,rfl⟩⟩;refine ⟨_,rfl,?_⟩;have p5:0≤(0:Int):=(by omega);have q5:0 < a0.size:=(by have:(0:Int) < (a0.size:Int):=of_decide_eq_true (by first|(with_reducible assumption)|assumption);omega);have hx5:∀ h:0 < a0.size,((a0[0]'h).toNat:Int)=bt a0 0:=kS a0 0;clear p5;have TU:(0 < (a0.size:Int))=True:=eq_true (of_decide_eq_true (by first|(with_reducible assumption)|assumption));replace q5:=eq_true q5))
      (try simp only [Act.put,List.setIfInBounds_toArray,List.set_cons_zero,List.set_cons_succ])
      go_cut [4] (fun v4 wc=>∃ (kq:Nat) (xB:ByteArray),v4=.string xB∧ae (aC.j0 kq xB ((bt a0 0) == 45)=some (r1,r2))∧ae (kq≤k)∧bz w wc)
      case first =>
        have H:=HC6.out
        clear HC6
        by_cases c7:(bt a0 0)=45
        · rw [if_pos c7] at H
          have qR:((bt a0 0) == 45)=true:=beq_iff_eq.mpr c7
          have xy:((bt a0 0) != 45)=false:=bne_eq_false_iff_eq.mpr c7
          clear c7
          (first|rw [qR]|(simp only [aN,aQ];rw [qR])|skip)
          by_cases c8:1≤(a0.size:Int)
          · rw [if_pos c8] at H
            have ry:=eq_true c8
            have Be:decide (1≤(a0.size:Int))=true:=decide_eq_true c8
            clear c8
            have H':=ae.mk H
            clear H
            go_wp2
            refine Met.intro ?_
            go_step
            (repeat apply Exists.intro)
            refine ⟨?rel,?same⟩
            case same=>rw [qR]
            case rel=>exact ⟨_,(a0.extract 1 a0.size),(by first|rfl|(simp;done)|(simp [*];done)),H',⟨by first|omega|exact Nat.le_refl _⟩,by repeat (first|exact bz.refl _|apply bz.step)⟩
          · rw [if_neg c8] at H
            exact absurd H (by simp)
        · rw [if_neg c7] at H
          have qR:((bt a0 0) == 45)=false:=beq_eq_false_iff_ne.mpr c7
          have xy:((bt a0 0) != 45)=true:=bne_iff_ne.mpr c7
          (first|rw [qR]|(simp only [aN,aQ];rw [qR])|skip)
          have H':=ae.mk H
          clear H
          go_wp2
          refine Met.intro ?_
          go_step
          (repeat apply Exists.intro)
          refine ⟨?rel,?same⟩
          case same=>rw [qR]
          case rel=>exact ⟨_,(a0),(by first|rfl|(simp;done)|(simp [*];done)),H',⟨by first|omega|exact Nat.le_refl _⟩,by repeat (first|exact bz.refl _|apply bz.step)⟩
      case rest =>
        clear HC6
        try clear p2
        try clear c3
        try clear c4
        try clear uo
        try clear wY
        try clear c5
        try clear p5
        try clear q5
        try clear hx5
        try clear TU
        try clear c7
        try clear qR
        try clear xy
        try clear c8
        try clear ry
        try clear Be
        try clear p5
        try clear q5
        obtain ⟨kq,xB,rfl,HA,J4,⟨mc5,rfl⟩⟩:=hcut
        cases kq with
        | zero=>exact absurd HA.out (by simp [aC.j0])
        | succ kj5 =>
          have H:=HA.out
          clear HA
          simp only [aC.j0] at H
          have HC9:=ae.mk H
          clear H
          go_upto_block 0 with (fail)
          go_cut [6] (fun v6 wc=>∃ (kq:Nat) (zf:Int),v6=.int .u64 zf∧ae (aC.j2 kq xB ((bt a0 0) == 45) zf=some (r1,r2))∧ae (kq≤kj5)∧bz w wc)
          case first =>
            have H:=HC9.out
            clear HC9
            have H':=ae.mk H
            clear H
            go_wp2
            go_loopg [6,7] kj5 (fun kq v6 v7 w'=>∃ (NS:Int) (yM:Int),v6=.int .u64 NS∧v7=.int .i64 yM∧ae (aC.l0 kq xB ((bt a0 0) == 45) NS yM=some (r1,r2))∧ae (kq≤kj5)∧bz w w')
            case atStart=>exact ⟨(0),(0),(by first|rfl|(simp;done)|(simp [*];done)),(by first|rfl|(simp;done)|(simp [*];done)),H',⟨Nat.le_refl _⟩,by repeat (first|exact bz.refl _|apply bz.step)⟩
            case round =>
              clear H'
              try clear p2
              try clear c3
              try clear c4
              try clear uo
              try clear wY
              try clear c5
              try clear p5
              try clear q5
              try clear hx5
              try clear TU
              try clear c7
              try clear qR
              try clear xy
              try clear c8
              try clear ry
              try clear Be
              try clear p2
              try clear p5
              try clear q5
              obtain ⟨NS,yM,rfl,rfl,HA,CX,⟨m2,rfl⟩⟩:=hrel
              cases gk with
              | zero=>exact absurd HA.out (by simp [aC.l0])
              | succ k2 =>
                have H:=HA.out
                clear HA
                simp only [aC.l0] at H
                by_cases c10:yM < (xB.size:Int)
                · rw [if_pos c10] at H
                  have mM:decide (yM < (xB.size:Int))=true:=decide_eq_true c10
                  clear c10
                  (first|rw [mM]|(simp only [aN,aQ];rw [mM])|skip)
                  by_cases c11:yM < 19
                  · rw [if_pos c11] at H
                    have uF:decide (yM < 19)=true:=decide_eq_true c11
                    clear c11
                    by_cases c12:0≤yM
                    · rw [if_pos c12] at H
                      have BJ:decide (0≤yM)=true:=decide_eq_true c12
                      clear c12
                      have H':=ae.mk H
                      clear H
                      have p13:0≤(yM:Int):=of_decide_eq_true (by first|(with_reducible assumption)|assumption)
                      have q13:yM < (xB.size:Int):=of_decide_eq_true (by first|(with_reducible assumption)|assumption)
                      have aby:=kS xB yM
                      replace p13:=eq_true p13
                      replace q13:=eq_true q13
                      go_wp2
                      go_roundg k2
                      case measure=>have:=J4.out;have:=CX.out;omega
                      case rel=>exact ⟨(IntKind.u64.wrap ((IntKind.u64.wrap (NS * 10))+(((bt xB yM) - 48) % 256))),(wrap64 (yM+1)),(by first|rfl|(simp;done)|(simp [*];done)),(by first|rfl|(simp;done)|(simp [*];done)),H',⟨by have:=J4.out;have:=CX.out;omega⟩,by repeat (first|exact bz.refl _|apply bz.step)⟩
                    · rw [if_neg c12] at H
                      exact absurd H (by simp)
                  · rw [if_neg c11] at H
                    have uF:decide (yM < 19)=false:=decide_eq_false c11
                    clear c11
                    have H':=ae.mk H
                    clear H
                    go_wp2
                    go_meet
                    case rel=>exact ⟨_,(NS),(by first|rfl|(simp;done)|(simp [*];done)),H',⟨by have:=J4.out;have:=CX.out;first|omega|exact Nat.le_refl _⟩,by repeat (first|exact bz.refl _|apply bz.step)⟩
                · rw [if_neg c10] at H
                  have mM:decide (yM < (xB.size:Int))=false:=decide_eq_false c10
                  clear c10
                  (first|rw [mM]|(simp only [aN,aQ];rw [mM])|skip)
                  have H':=ae.mk H
                  clear H
                  go_wp2
                  go_meet
                  case rel=>exact ⟨_,(NS),(by first|rfl|(simp;done)|(simp [*];done)),H',⟨by have:=J4.out;have:=CX.out;first|omega|exact Nat.le_refl _⟩,by repeat (first|exact bz.refl _|apply bz.step)⟩
          case rest =>
            clear HC9
            try clear c1
            try clear p1
            try clear q1
            try clear hx1
            try clear p2
            try clear c3
            try clear c4
            try clear uo
            try clear wY
            try clear c5
            try clear p5
            try clear q5
            try clear hx5
            try clear TU
            try clear p6
            try clear c7
            try clear qR
            try clear xy
            try clear c8
            try clear ry
            try clear Be
            try clear c10
            try clear mM
            try clear c11
            try clear uF
            try clear c12
            try clear BJ
            try clear p13
            try clear q13
            try clear aby
            try clear p13
            try clear p2
            try clear p5
            try clear q13
            try clear q5
            obtain ⟨kq,zf,rfl,HA,HJ8,⟨mc8,rfl⟩⟩:=hcut
            cases kq with
            | zero=>exact absurd HA.out (by simp [aC.j2])
            | succ kj8 =>
              have H:=HA.out
              clear HA
              simp only [aC.j2] at H
              have aaF:=ae.mk H
              clear H
              go_upto_if 36 with (fail)
              go_cut [36] (fun v36 wc=>∃ (kq:Nat) (FH:Bool),v36=.bool FH∧ae (aC.j3 kq ((bt a0 0) == 45) zf FH=some (r1,r2))∧ae (kq≤kj8)∧bz w wc)
              case first =>
                have H:=aaF.out
                clear aaF
                by_cases c15:(xB.size:Int) > 19
                · rw [if_pos c15] at H
                  have vG:decide (19 < (xB.size:Int))=true:=decide_eq_true c15
                  have IV:decide (19 < xB.size)=true:=decide_eq_true (by omega)
                  clear c15
                  (first|rw [vG]|(simp only [aN,aQ];rw [vG])|skip)
                  have H':=ae.mk H
                  clear H
                  go_wp2
                  go_meet
                  case rel=>exact ⟨_,(decide ((xB.size:Int) > 19)),(by first|rfl|(simp;done)|(simp [*];done)),H',⟨by have:=J4.out;have:=HJ8.out;first|omega|exact Nat.le_refl _⟩,by repeat (first|exact bz.refl _|apply bz.step)⟩
                · rw [if_neg c15] at H
                  have vG:decide (19 < (xB.size:Int))=false:=decide_eq_false c15
                  have IV:decide (19 < xB.size)=false:=decide_eq_false (by omega)
                  clear c15
                  (first|rw [vG]|(simp only [aN,aQ];rw [vG])|skip)
                  by_cases c16:zf > 9223372036854775808
                  · rw [if_pos c16] at H
                    have BI:decide (9223372036854775808 < zf)=true:=decide_eq_true c16
                    clear c16
                    have H':=ae.mk H
                    clear H
                    go_wp2
                    go_meet
                    case rel=>exact ⟨_,(decide (zf > 9223372036854775808)),(by first|rfl|(simp;done)|(simp [*];done)),H',⟨by have:=J4.out;have:=HJ8.out;first|omega|exact Nat.le_refl _⟩,by repeat (first|exact bz.refl _|apply bz.step)⟩
                  · rw [if_neg c16] at H
                    have BI:decide (9223372036854775808 < zf)=false:=decide_eq_false c16
                    clear c16
                    by_cases c17:zf=9223372036854775808
                    · rw [if_pos c17] at H
                      have D7:(zf == 9223372036854775808)=true:=beq_iff_eq.mpr c17
                      have IU:(zf != 9223372036854775808)=false:=bne_eq_false_iff_eq.mpr c17
                      clear c17
                      have H':=ae.mk H
                      clear H
                      go_wp2
                      go_meet
                      case rel=>exact ⟨_,(!((bt a0 0) == 45)),(by first|rfl|(simp;done)|(simp [*];done)),H',⟨by have:=J4.out;have:=HJ8.out;first|omega|exact Nat.le_refl _⟩,by repeat (first|exact bz.refl _|apply bz.step)⟩
                    · rw [if_neg c17] at H
                      have D7:(zf == 9223372036854775808)=false:=beq_eq_false_iff_ne.mpr c17
                      have IU:(zf != 9223372036854775808)=true:=bne_iff_ne.mpr c17
                      have H':=ae.mk H
                      clear H
                      go_wp2
                      go_meet
                      case rel=>exact ⟨_,(false),(by first|rfl|(simp;done)|(simp [*];done)),H',⟨by have:=J4.out;have:=HJ8.out;first|omega|exact Nat.le_refl _⟩,by repeat (first|exact bz.refl _|apply bz.step)⟩
              case rest =>
                clear aaF
                try clear c1
                try clear p1
                try clear q1
                try clear hx1
                try clear p2
                try clear c3
                try clear c4
                try clear uo
                try clear wY
                try clear c5
                try clear p5
                try clear q5
                try clear hx5
                try clear TU
                try clear p6
                try clear c7
                try clear qR
                try clear xy
                try clear c8
                try clear ry
                try clear Be
                try clear c10
                try clear mM
                try clear c11
                try clear uF
                try clear c12
                try clear BJ
                try clear p13
                try clear q13
                try clear aby
                try clear c15
                try clear vG
                try clear IV
                try clear c16
                try clear BI
                try clear c17
                try clear D7
                try clear IU
                try clear p1
                try clear p13
                try clear p2
                try clear p5
                try clear p6
                try clear q1
                try clear q13
                try clear q5
                obtain ⟨kq,FH,rfl,HA,anO,⟨amX,rfl⟩⟩:=hcut
                cases kq with
                | zero=>exact absurd HA.out (by simp [aC.j3])
                | succ amY =>
                  have H:=HA.out
                  clear HA
                  simp only [aC.j3] at H
                  by_cases c18:FH=true
                  · subst c18
                    have H1:(some (0,3))=some (r1,r2):=by rw [if_pos rfl] at H;exact H
                    clear H
                    have H:=H1
                    clear H1
                    simp only [Option.some.injEq,Prod.mk.injEq] at H
                    obtain ⟨rfl,rfl⟩:=H
                    go_wp2
                    go_ret2
                    exact ⟨by first|rfl|(simp;done)|(simp [*];done),by repeat (first|exact bz.refl _|apply bz.step)⟩
                  · replace c18:=Bool.eq_false_iff.mpr c18
                    subst c18
                    have H1:(if ((bt a0 0) == 45)=true then (some (wrap64 (-(wrap64 (zf))),0)) else (some (wrap64 (zf),0)))=some (r1,r2):=by rw [if_neg (show ¬ (false=true) by decide)] at H;exact H
                    clear H
                    have H:=H1
                    clear H1
                    by_cases c19:((bt a0 0) == 45)=true
                    · rw [if_pos c19] at H
                      have Si:((bt a0 0) == 45)=true:=c19
                      (try (have ack:decide ((bt a0 0)=45)=true:=by simpa using c19))
                      (try (have acj:((bt a0 0) == 45)=true:=by simpa using c19))
                      clear c19
                      simp only [Option.some.injEq,Prod.mk.injEq] at H
                      obtain ⟨rfl,rfl⟩:=H
                      go_wp2
                      go_ret2
                      exact ⟨by first|rfl|(simp;done)|(simp [*];done),by repeat (first|exact bz.refl _|apply bz.step)⟩
                    · rw [if_neg c19] at H
                      have Si:((bt a0 0) == 45)=false:=by simpa using c19
                      (try (have ack:decide ((bt a0 0)=45)=false:=by simpa using c19))
                      (try (have acj:((bt a0 0) == 45)=false:=by simpa using c19))
                      (try (have al3:¬ ((bt a0 0)=45):=by simpa using c19))
                      clear c19
                      simp only [Option.some.injEq,Prod.mk.injEq] at H
                      obtain ⟨rfl,rfl⟩:=H
                      go_wp2
                      go_ret2
                      exact ⟨by first|rfl|(simp;done)|(simp [*];done),by repeat (first|exact bz.refl _|apply bz.step)⟩
    · rw [if_neg c4] at H
      exact absurd H (by simp)
  · replace c3:=Bool.eq_false_iff.mpr c3
    subst c3
    have H1:(some (0,4))=some (r1,r2):=by rw [if_neg (show ¬ (false=true) by decide)] at H;exact H
    clear H
    have H:=H1
    clear H1
    simp only [Option.some.injEq,Prod.mk.injEq] at H
    obtain ⟨rfl,rfl⟩:=H
    go_enter Tryz.func47,Tryz.ntmps47
    go_wp2_with (first|((with_reducible refine bQ (f:=59) rfl ?_);refine fZ (some 9) rfl rfl Tryz.func59 (by kernel_rfl) rfl #[.string a0] rfl (by (try simp only [List.map_toArray,List.map_cons,List.map_nil]);first|done|rfl|(simp only [List.length_drop,List.length_take];rfl)) ?_;(with_reducible refine (aA.calls k a0 false _ A2.out).mono ?_);rintro e w' ⟨rfl,⟨nd,rfl⟩⟩;refine ⟨_,rfl,?_⟩))
    go_ret2
    exact ⟨by first|rfl|(simp;done)|(simp [*];done),by repeat (first|exact bz.refl _|apply bz.step)⟩
def aT.j0:Nat→Int→Int→Bool→Int→Int→Int→Int→Int→Option (Int × Int × Int × Int × Int × Bool)
  | 0,_,_,_,_,_,_,_,_=>none
  | k+1,x1,x2,x18,CE,FN,FM,FI,CB=>if x18=true then (some (CE,FN,FM,FI,CB,false)) else (if x1=97 then (some (CE,(x2) % 256,FM,FI,CB,true)) else (if x1=98 then (some (CE,FN,(x2) % 256,FI,CB,true)) else (some (CE,FN,FM,(x2) % 256,CB,true))))
def aT.f (k:Nat) (gW:Int) (bU:Int) (bV:Int) (ik:Int) (iI:Int) (a1:Int) (a2:Int):Option (Int × Int × Int × Int × Int × Bool):=if a1=110 then (some (gW,bU,bV,ik,a2,true)) else (if a2 < 0 then (aT.j0 k a1 a2 true gW bU bV ik iI) else (aT.j0 k a1 a2 (decide (a2 > 255)) gW bU bV ik iI))
theorem aT.iq:∀ k,(∀ y0 y1 y2 y3 y4 y5 y6 y7,dC (aT.j0 k y0 y1 y2 y3 y4 y5 y6 y7) (aT.j0 (k+1) y0 y1 y2 y3 y4 y5 y6 y7))
  | 0=>fun _ _ _ _ _ _ _ _ r h=>by simp [aT.j0] at h
  | k+1=>by
    have jY:=aT.iq k
    · intro y0 y1 y2 y3 y4 y5 y6 y7
      unfold aT.j0
      repeat' first
      | (with_reducible exact jY _ _ _ _ _ _ _ _)
      | (with_reducible exact dC.refl _)
      | (with_reducible exact dC.none _)
      | (with_reducible refine dC.ite ?_ ?_)
      | (with_reducible refine dC.bind ?_ (fun _=>?_))
      | exact jY _ _ _ _ _ _ _ _
      | exact dC.none _
      | refine dC.ite ?_ ?_
      | refine dC.bind ?_ (fun _=>?_)
theorem aT.mono:∀ a0 a1 a2 a3 a4 a5 a6 k,dC (aT.f k a0 a1 a2 a3 a4 a5 a6) (aT.f (k+1) a0 a1 a2 a3 a4 a5 a6):=by
  intro a0 a1 a2 a3 a4 a5 a6 k
  have jY:=aT.iq k
  unfold aT.f
  repeat' first
      | (with_reducible exact jY _ _ _ _ _ _ _ _)
      | (with_reducible exact dC.refl _)
      | (with_reducible exact dC.none _)
      | (with_reducible refine dC.ite ?_ ?_)
      | (with_reducible refine dC.bind ?_ (fun _=>?_))
      | exact jY _ _ _ _ _ _ _ _
      | exact dC.none _
      | refine dC.ite ?_ ?_
      | refine dC.bind ?_ (fun _=>?_)
set_option maxHeartbeats 8000000 in
set_option maxRecDepth 100000 in
theorem aT.calls (k:Nat) (gW:Int) (bU:Int) (bV:Int) (ik:Int) (iI:Int) (a1:Int) (a2:Int) (r1:Int) (r2:Int) (r3:Int) (r4:Int) (r5:Int) (r6:Bool) (w:World) (h:aT.f k gW bU bV ik iI a1 a2=some (r1,r2,r3,r4,r5,r6)) :
    Calls Tryz.prog 48 #[.agg #[.int .u8 gW,.int .u8 bU,.int .u8 bV,.int .u8 ik,.int .i64 iI],.int .u8 a1,.int .i64 a2] w fun e w'=>e=.returned (.tuple #[.agg #[.int .u8 r1,.int .u8 r2,.int .u8 r3,.int .u8 r4,.int .i64 r5],.bool r6])∧Below w.heap.size w w':=by
  have Oz:=Tryz.underlying27
  have HB:=ae.mk (Below.refl w.heap.size w)
  have H:(if a1=110 then (some (gW,bU,bV,ik,a2,true)) else (if a2 < 0 then (aT.j0 k a1 a2 true gW bU bV ik iI) else (aT.j0 k a1 a2 (decide (a2 > 255)) gW bU bV ik iI)))=some (r1,r2,r3,r4,r5,r6):=h
  clear h
  by_cases c4:a1=110
  · rw [if_pos c4] at H
    have uo:(a1 == 110)=true:=beq_iff_eq.mpr c4
    have wY:(a1 != 110)=false:=bne_eq_false_iff_eq.mpr c4
    clear c4
    simp only [Option.some.injEq,Prod.mk.injEq] at H
    obtain ⟨rfl,rfl,rfl,rfl,rfl,rfl⟩:=H
    go_enter Tryz.func48,Tryz.ntmps48
    go_wp2_with (first|((with_reducible refine fF (N:=3) rfl ?_);refine gu ?hg (N:=3) ?hd (cs:=#[.int .u8 gW,.int .u8 bU,.int .u8 bV,.int .u8 ik,.int .i64 iI]) (t:=27) ?hr ?_;(case hd=>rfl);(case hg=>rfl);(case hr=>first|(go_simp;done)|(go_simp;rfl));intro jJ hg w5 hbox hb;have dG:=ae.mk (bf (by repeat (first|(with_reducible first|exact HB.out|apply au|apply af|apply aj)|exact HB.out)) hb);have dM:=ae.mk (hbox);have dW:=ae.mk ((by rw [hg];exact (aZ (by repeat (first|(with_reducible first|exact HB.out|apply au|apply af|apply aj)|exact HB.out))):w.heap.size≤jJ));have fK:=ae.mk ((by rw [hg];exact (aZ (by repeat (first|(with_reducible first|exact HB.out|apply au|apply af|apply aj)|exact HB.out))):w.heap.size≤jJ));clear HB;have HB:=dG;have iy:=dM;have adr:=dW;have uN:=fK;clear dG dM dW fK;clear hb hbox hg)|((with_reducible refine fF (N:=6) rfl ?_);refine gu ?hg (N:=6) ?hd (cs:=#[.int .u8 0,.int .u8 0,.int .u8 0,.int .u8 0,.int .i64 0]) (t:=27) ?hr ?_;(case hd=>rfl);(case hg=>rfl);(case hr=>first|(go_simp;done)|(go_simp;rfl));intro jO hg w6 hbox hb;have dG:=ae.mk (bH (g:=jJ) (o:=.cells #[.int .u8 gW,.int .u8 bU,.int .u8 bV,.int .u8 ik,.int .i64 iI] 27 (0,0)) (by (with_reducible repeat (first|refine ah ?_ _|refine ak ?_|refine ai ?_ _));exact iy.out) hb);have dM:=ae.mk (bf (by repeat (first|(with_reducible first|exact HB.out|apply au|apply af|apply aj|refine az ?_ uN.out)|exact HB.out)) hb);have dW:=ae.mk (hbox);have fK:=ae.mk ((by rw [hg];exact (aZ (by repeat (first|(with_reducible first|exact HB.out|apply au|apply af|apply aj|refine az ?_ uN.out)|exact HB.out))):w.heap.size≤jO));have iO:=ae.mk ((by rw [hg];exact (aZ (by repeat (first|(with_reducible first|exact HB.out|apply au|apply af|apply aj|refine az ?_ uN.out)|exact HB.out))):w.heap.size≤jO));have jE:=ae.mk ((by rw [hg];exact Nat.ne_of_lt (gG (g:=jJ) (o:=.cells #[.int .u8 gW,.int .u8 bU,.int .u8 bV,.int .u8 ik,.int .i64 iI] 27 (0,0)) (by (with_reducible repeat (first|refine ah ?_ _|refine ak ?_|refine ai ?_ _));exact iy.out)):jJ ≠ jO));have lg:=ae.mk ((by rw [hg];exact Nat.ne_of_gt (gG (g:=jJ) (o:=.cells #[.int .u8 gW,.int .u8 bU,.int .u8 bV,.int .u8 ik,.int .i64 iI] 27 (0,0)) (by (with_reducible repeat (first|refine ah ?_ _|refine ak ?_|refine ai ?_ _));exact iy.out)):jO ≠ jJ));clear iy;clear HB;have iy:=dG;have HB:=dM;have iQ:=dW;have adq:=fK;have BQ:=iO;have tu:=jE;have oH:=lg;clear dG dM dW fK iO jE lg;clear hb hbox hg;have anm:=tu.out;have ank:=oH.out;have ZQ:w6.cell? ⟨jJ,0,none⟩=some (.int .u8 gW):=(ax iy.out 0).trans rfl;have ZP:w6.cell? ⟨jJ,1,none⟩=some (.int .u8 bU):=(ax iy.out 1).trans rfl;have ZO:w6.cell? ⟨jJ,2,none⟩=some (.int .u8 bV):=(ax iy.out 2).trans rfl;have ZN:w6.cell? ⟨jJ,3,none⟩=some (.int .u8 ik):=(ax iy.out 3).trans rfl;have ZM:w6.cell? ⟨jJ,4,none⟩=some (.int .i64 iI):=(ax iy.out 4).trans rfl;have ZG:=ay iy.out 0;have ZF:=ay iy.out 1;have ZE:=ay iy.out 2;have ZC:=ay iy.out 3;have ZB:=ay iy.out 4;have ZL:w6.cell? ⟨jO,0,none⟩=some (.int .u8 0):=(ax iQ.out 0).trans rfl;have ZK:w6.cell? ⟨jO,1,none⟩=some (.int .u8 0):=(ax iQ.out 1).trans rfl;have ZJ:w6.cell? ⟨jO,2,none⟩=some (.int .u8 0):=(ax iQ.out 2).trans rfl;have ZI:w6.cell? ⟨jO,3,none⟩=some (.int .u8 0):=(ax iQ.out 3).trans rfl;have ZH:w6.cell? ⟨jO,4,none⟩=some (.int .i64 0):=(ax iQ.out 4).trans rfl;have ZA:=ay iQ.out 0;have Zz:=ay iQ.out 1;have Zy:=ay iQ.out 2;have Zx:=ay iQ.out 3;have Zw:=ay iQ.out 4))
    refine bodyPost_ret (kP rfl _ _ jO 27 #[.int .u8 gW,.int .u8 bU,.int .u8 bV,.int .u8 ik,.int .i64 a2] (0,0) _ rfl (by (with_reducible repeat (first|refine ah ?_ _|refine ak ?_|refine ai ?_ _));refine bu (cs:=#[.int .u8 gW,.int .u8 bU,.int .u8 bV,.int .u8 ik,.int .i64 0]) ?_ 4 _ rfl;(with_reducible repeat (first|refine ah ?_ _|refine ak ?_|refine ai ?_ _));refine bu (cs:=#[.int .u8 gW,.int .u8 bU,.int .u8 bV,.int .u8 0,.int .i64 0]) ?_ 3 _ rfl;(with_reducible repeat (first|refine ah ?_ _|refine ak ?_|refine ai ?_ _));refine bu (cs:=#[.int .u8 gW,.int .u8 bU,.int .u8 0,.int .u8 0,.int .i64 0]) ?_ 2 _ rfl;(with_reducible repeat (first|refine ah ?_ _|refine ak ?_|refine ai ?_ _));refine bu (cs:=#[.int .u8 gW,.int .u8 0,.int .u8 0,.int .u8 0,.int .i64 0]) ?_ 1 _ rfl;(with_reducible repeat (first|refine ah ?_ _|refine ak ?_|refine ai ?_ _));refine bu (cs:=#[.int .u8 0,.int .u8 0,.int .u8 0,.int .u8 0,.int .i64 0]) ?_ 0 _ rfl;(with_reducible repeat (first|refine ah ?_ _|refine ak ?_|refine ai ?_ _));refine di ?_ oH.out _;(with_reducible repeat (first|refine ah ?_ _|refine ak ?_|refine ai ?_ _));exact iQ.out) Tryz.underlying27 rfl (by kernel_rfl)) rfl ?_
    exact ⟨by first|rfl|(simp [bF,bD] <;> rfl)|(simp [*,bF,bD] <;> rfl),by repeat (first|(with_reducible first|exact HB.out|apply au|apply af|apply aj|refine az ?_ uN.out|refine az ?_ BQ.out)|exact HB.out)⟩
  · rw [if_neg c4] at H
    have uo:(a1 == 110)=false:=beq_eq_false_iff_ne.mpr c4
    have wY:(a1 != 110)=true:=bne_iff_ne.mpr c4
    have aaG:=ae.mk H
    clear H
    go_enter Tryz.func48,Tryz.ntmps48
    go_upto_region 4 with (first|((with_reducible refine fF (N:=3) rfl ?_);refine gu ?hg (N:=3) ?hd (cs:=#[.int .u8 gW,.int .u8 bU,.int .u8 bV,.int .u8 ik,.int .i64 iI]) (t:=27) ?hr ?_;(case hd=>rfl);(case hg=>rfl);(case hr=>first|(go_simp;done)|(go_simp;rfl));intro jJ hg w11 hbox hb;have dG:=ae.mk (bf (by repeat (first|(with_reducible first|exact HB.out|apply au|apply af|apply aj)|exact HB.out)) hb);have dM:=ae.mk (hbox);have dW:=ae.mk ((by rw [hg];exact (aZ (by repeat (first|(with_reducible first|exact HB.out|apply au|apply af|apply aj)|exact HB.out))):w.heap.size≤jJ));have fK:=ae.mk ((by rw [hg];exact (aZ (by repeat (first|(with_reducible first|exact HB.out|apply au|apply af|apply aj)|exact HB.out))):w.heap.size≤jJ));clear HB;have HB:=dG;have iy:=dM;have adr:=dW;have uN:=fK;clear dG dM dW fK;clear hb hbox hg)|((with_reducible refine fF (N:=6) rfl ?_);refine gu ?hg (N:=6) ?hd (cs:=#[.int .u8 0,.int .u8 0,.int .u8 0,.int .u8 0,.int .i64 0]) (t:=27) ?hr ?_;(case hd=>rfl);(case hg=>rfl);(case hr=>first|(go_simp;done)|(go_simp;rfl));intro jO hg w12 hbox hb;have dG:=ae.mk (bH (g:=jJ) (o:=.cells #[.int .u8 gW,.int .u8 bU,.int .u8 bV,.int .u8 ik,.int .i64 iI] 27 (0,0)) (by (with_reducible repeat (first|refine ah ?_ _|refine ak ?_|refine ai ?_ _));exact iy.out) hb);have dM:=ae.mk (bf (by repeat (first|(with_reducible first|exact HB.out|apply au|apply af|apply aj|refine az ?_ uN.out)|exact HB.out)) hb);have dW:=ae.mk (hbox);have fK:=ae.mk ((by rw [hg];exact (aZ (by repeat (first|(with_reducible first|exact HB.out|apply au|apply af|apply aj|refine az ?_ uN.out)|exact HB.out))):w.heap.size≤jO));have iO:=ae.mk ((by rw [hg];exact (aZ (by repeat (first|(with_reducible first|exact HB.out|apply au|apply af|apply aj|refine az ?_ uN.out)|exact HB.out))):w.heap.size≤jO));have jE:=ae.mk ((by rw [hg];exact Nat.ne_of_lt (gG (g:=jJ) (o:=.cells #[.int .u8 gW,.int .u8 bU,.int .u8 bV,.int .u8 ik,.int .i64 iI] 27 (0,0)) (by (with_reducible repeat (first|refine ah ?_ _|refine ak ?_|refine ai ?_ _));exact iy.out)):jJ ≠ jO));have lg:=ae.mk ((by rw [hg];exact Nat.ne_of_gt (gG (g:=jJ) (o:=.cells #[.int .u8 gW,.int .u8 bU,.int .u8 bV,.int .u8 ik,.int .i64 iI] 27 (0,0)) (by (with_reducible repeat (first|refine ah ?_ _|refine ak ?_|refine ai ?_ _));exact iy.out)):jO ≠ jJ));clear iy;clear HB;have iy:=dG;have HB:=dM;have iQ:=dW;have adq:=fK;have BQ:=iO;have tu:=jE;have oH:=lg;clear dG dM dW fK iO jE lg;clear hb hbox hg))
    (try simp only [Act.put,List.setIfInBounds_toArray,List.set_cons_zero,List.set_cons_succ])
    go_cut [18] (fun v18 wc=>∃ (kq:Nat) (KH:Bool),v18=.bool KH∧ae (aT.j0 kq a1 a2 KH gW bU bV ik iI=some (r1,r2,r3,r4,r5,r6))∧ae (kq≤k)∧ae (wc.heap[jJ]? = some (.cells #[.int .u8 gW,.int .u8 bU,.int .u8 bV,.int .u8 ik,.int .i64 iI] 27 (0,0)))∧ae (wc.heap[jO]? = some (.cells #[.int .u8 0,.int .u8 0,.int .u8 0,.int .u8 0,.int .i64 0] 27 (0,0)))∧ae (Below w.heap.size w wc))
    case first =>
      have H:=aaG.out
      clear aaG
      by_cases c13:a2 < 0
      · rw [if_pos c13] at H
        have uh:decide (a2 < 0)=true:=decide_eq_true c13
        clear c13
        (first|rw [uh]|(simp only [aN,aQ];rw [uh])|skip)
        have H':=ae.mk H
        clear H
        go_wp2
        go_meet
        case rel=>exact ⟨_,(true),(by first|rfl|(simp;done)|(simp [*];done)),H',⟨by first|omega|exact Nat.le_refl _⟩,⟨by (with_reducible repeat (first|refine ah ?_ _|refine ak ?_|refine ai ?_ _));exact iy.out⟩,⟨by (with_reducible repeat (first|refine ah ?_ _|refine ak ?_|refine ai ?_ _));exact iQ.out⟩,⟨by repeat (first|(with_reducible first|exact HB.out|apply au|apply af|apply aj|refine az ?_ uN.out|refine az ?_ BQ.out)|exact HB.out)⟩⟩
      · rw [if_neg c13] at H
        have uh:decide (a2 < 0)=false:=decide_eq_false c13
        clear c13
        (first|rw [uh]|(simp only [aN,aQ];rw [uh])|skip)
        have H':=ae.mk H
        clear H
        go_wp2
        go_meet
        case rel=>exact ⟨_,(decide (a2 > 255)),(by first|rfl|(simp;done)|(simp [*];done)),H',⟨by first|omega|exact Nat.le_refl _⟩,⟨by (with_reducible repeat (first|refine ah ?_ _|refine ak ?_|refine ai ?_ _));exact iy.out⟩,⟨by (with_reducible repeat (first|refine ah ?_ _|refine ak ?_|refine ai ?_ _));exact iQ.out⟩,⟨by repeat (first|(with_reducible first|exact HB.out|apply au|apply af|apply aj|refine az ?_ uN.out|refine az ?_ BQ.out)|exact HB.out)⟩⟩
    case rest =>
      clear aaG
      try clear c1
      try clear p2
      try clear c4
      try clear uo
      try clear wY
      try clear c7
      try clear c13
      try clear uh
      try clear ZQ
      try clear ZP
      try clear ZO
      try clear ZN
      try clear ZM
      try clear ZL
      try clear ZK
      try clear ZJ
      try clear ZI
      try clear ZH
      try clear ZG
      try clear ZF
      try clear ZE
      try clear ZC
      try clear ZB
      try clear ZA
      try clear Zz
      try clear Zy
      try clear Zx
      try clear Zw
      obtain ⟨kq,KH,rfl,HA,HJ9,iy,iQ,HB⟩:=hcut
      cases kq with
      | zero=>exact absurd HA.out (by simp [aT.j0])
      | succ kj9 =>
        have H:=HA.out
        clear HA
        simp only [aT.j0] at H
        by_cases c14:KH=true
        · subst c14
          have H1:(some (gW,bU,bV,ik,iI,false))=some (r1,r2,r3,r4,r5,r6):=by rw [if_pos rfl] at H;exact H
          clear H
          have H:=H1
          clear H1
          simp only [Option.some.injEq,Prod.mk.injEq] at H
          obtain ⟨rfl,rfl,rfl,rfl,rfl,rfl⟩:=H
          have abR:=tu.out
          have abI:=oH.out
          have Xf:wc.cell? ⟨jJ,0,none⟩=some (.int .u8 gW):=(ax iy.out 0).trans rfl
          have Xe:wc.cell? ⟨jJ,1,none⟩=some (.int .u8 bU):=(ax iy.out 1).trans rfl
          have Xd:wc.cell? ⟨jJ,2,none⟩=some (.int .u8 bV):=(ax iy.out 2).trans rfl
          have Xc:wc.cell? ⟨jJ,3,none⟩=some (.int .u8 ik):=(ax iy.out 3).trans rfl
          have aiW:wc.cell? ⟨jJ,4,none⟩=some (.int .i64 iI):=(ax iy.out 4).trans rfl
          have VD:=ay iy.out 0
          have VC:=ay iy.out 1
          have VB:=ay iy.out 2
          have VA:=ay iy.out 3
          have agO:=ay iy.out 4
          have Xb:wc.cell? ⟨jO,0,none⟩=some (.int .u8 0):=(ax iQ.out 0).trans rfl
          have Xa:wc.cell? ⟨jO,1,none⟩=some (.int .u8 0):=(ax iQ.out 1).trans rfl
          have W9:wc.cell? ⟨jO,2,none⟩=some (.int .u8 0):=(ax iQ.out 2).trans rfl
          have WZ:wc.cell? ⟨jO,3,none⟩=some (.int .u8 0):=(ax iQ.out 3).trans rfl
          have aiV:wc.cell? ⟨jO,4,none⟩=some (.int .i64 0):=(ax iQ.out 4).trans rfl
          have Vz:=ay iQ.out 0
          have Vy:=ay iQ.out 1
          have Vx:=ay iQ.out 2
          have Vw:=ay iQ.out 3
          have agN:=ay iQ.out 4
          go_wp2
          refine bodyPost_ret (kP rfl _ _ jO 27 #[.int .u8 gW,.int .u8 bU,.int .u8 bV,.int .u8 ik,.int .i64 iI] (0,0) _ rfl (by (with_reducible repeat (first|refine ah ?_ _|refine ak ?_|refine ai ?_ _));refine bu (cs:=#[.int .u8 gW,.int .u8 bU,.int .u8 bV,.int .u8 ik,.int .i64 0]) ?_ 4 _ rfl;(with_reducible repeat (first|refine ah ?_ _|refine ak ?_|refine ai ?_ _));refine bu (cs:=#[.int .u8 gW,.int .u8 bU,.int .u8 bV,.int .u8 0,.int .i64 0]) ?_ 3 _ rfl;(with_reducible repeat (first|refine ah ?_ _|refine ak ?_|refine ai ?_ _));refine bu (cs:=#[.int .u8 gW,.int .u8 bU,.int .u8 0,.int .u8 0,.int .i64 0]) ?_ 2 _ rfl;(with_reducible repeat (first|refine ah ?_ _|refine ak ?_|refine ai ?_ _));refine bu (cs:=#[.int .u8 gW,.int .u8 0,.int .u8 0,.int .u8 0,.int .i64 0]) ?_ 1 _ rfl;(with_reducible repeat (first|refine ah ?_ _|refine ak ?_|refine ai ?_ _));refine bu (cs:=#[.int .u8 0,.int .u8 0,.int .u8 0,.int .u8 0,.int .i64 0]) ?_ 0 _ rfl;(with_reducible repeat (first|refine ah ?_ _|refine ak ?_|refine ai ?_ _));exact iQ.out) Tryz.underlying27 rfl (by kernel_rfl)) rfl ?_
          exact ⟨by first|rfl|(simp [bF,bD] <;> rfl)|(simp [*,bF,bD] <;> rfl),by repeat (first|(with_reducible first|exact HB.out|apply au|apply af|apply aj|refine az ?_ uN.out|refine az ?_ BQ.out)|exact HB.out)⟩
        · replace c14:=Bool.eq_false_iff.mpr c14
          subst c14
          have H1:(if a1=97 then (some (gW,(a2) % 256,bV,ik,iI,true)) else (if a1=98 then (some (gW,bU,(a2) % 256,ik,iI,true)) else (some (gW,bU,bV,(a2) % 256,iI,true))))=some (r1,r2,r3,r4,r5,r6):=by rw [if_neg (show ¬ (false=true) by decide)] at H;exact H
          clear H
          have H:=H1
          clear H1
          by_cases c18:a1=97
          · rw [if_pos c18] at H
            have Sl:(a1 == 97)=true:=beq_iff_eq.mpr c18
            have Sj:(a1 != 97)=false:=bne_eq_false_iff_eq.mpr c18
            clear c18
            simp only [Option.some.injEq,Prod.mk.injEq] at H
            obtain ⟨rfl,rfl,rfl,rfl,rfl,rfl⟩:=H
            have abP:=tu.out
            have abG:=oH.out
            have MP:wc.cell? ⟨jJ,0,none⟩=some (.int .u8 gW):=(ax iy.out 0).trans rfl
            have MO:wc.cell? ⟨jJ,1,none⟩=some (.int .u8 bU):=(ax iy.out 1).trans rfl
            have MN:wc.cell? ⟨jJ,2,none⟩=some (.int .u8 bV):=(ax iy.out 2).trans rfl
            have MM:wc.cell? ⟨jJ,3,none⟩=some (.int .u8 ik):=(ax iy.out 3).trans rfl
            have WY:wc.cell? ⟨jJ,4,none⟩=some (.int .i64 iI):=(ax iy.out 4).trans rfl
            have LY:=ay iy.out 0
            have LX:=ay iy.out 1
            have LW:=ay iy.out 2
            have LV:=ay iy.out 3
            have Vu:=ay iy.out 4
            have WX:wc.cell? ⟨jO,0,none⟩=some (.int .u8 0):=(ax iQ.out 0).trans rfl
            have WW:wc.cell? ⟨jO,1,none⟩=some (.int .u8 0):=(ax iQ.out 1).trans rfl
            have WV:wc.cell? ⟨jO,2,none⟩=some (.int .u8 0):=(ax iQ.out 2).trans rfl
            have WU:wc.cell? ⟨jO,3,none⟩=some (.int .u8 0):=(ax iQ.out 3).trans rfl
            have aiU:wc.cell? ⟨jO,4,none⟩=some (.int .i64 0):=(ax iQ.out 4).trans rfl
            have Vt:=ay iQ.out 0
            have Vs:=ay iQ.out 1
            have Vr:=ay iQ.out 2
            have Vq:=ay iQ.out 3
            have agM:=ay iQ.out 4
            go_wp2
            refine bodyPost_ret (kP rfl _ _ jO 27 #[.int .u8 gW,.int .u8 ((a2) % 256),.int .u8 bV,.int .u8 ik,.int .i64 iI] (0,0) _ rfl (by (with_reducible repeat (first|refine ah ?_ _|refine ak ?_|refine ai ?_ _));refine bu (cs:=#[.int .u8 gW,.int .u8 ((a2) % 256),.int .u8 bV,.int .u8 ik,.int .i64 0]) ?_ 4 _ rfl;(with_reducible repeat (first|refine ah ?_ _|refine ak ?_|refine ai ?_ _));refine bu (cs:=#[.int .u8 gW,.int .u8 ((a2) % 256),.int .u8 bV,.int .u8 0,.int .i64 0]) ?_ 3 _ rfl;(with_reducible repeat (first|refine ah ?_ _|refine ak ?_|refine ai ?_ _));refine bu (cs:=#[.int .u8 gW,.int .u8 ((a2) % 256),.int .u8 0,.int .u8 0,.int .i64 0]) ?_ 2 _ rfl;(with_reducible repeat (first|refine ah ?_ _|refine ak ?_|refine ai ?_ _));refine bu (cs:=#[.int .u8 gW,.int .u8 0,.int .u8 0,.int .u8 0,.int .i64 0]) ?_ 1 _ rfl;(with_reducible repeat (first|refine ah ?_ _|refine ak ?_|refine ai ?_ _));refine bu (cs:=#[.int .u8 0,.int .u8 0,.int .u8 0,.int .u8 0,.int .i64 0]) ?_ 0 _ rfl;(with_reducible repeat (first|refine ah ?_ _|refine ak ?_|refine ai ?_ _));refine di ?_ oH.out _;(with_reducible repeat (first|refine ah ?_ _|refine ak ?_|refine ai ?_ _));exact iQ.out) Tryz.underlying27 rfl (by kernel_rfl)) rfl ?_
            exact ⟨by first|rfl|(simp [bF,bD] <;> rfl)|(simp [*,bF,bD] <;> rfl),by repeat (first|(with_reducible first|exact HB.out|apply au|apply af|apply aj|refine az ?_ uN.out|refine az ?_ BQ.out)|exact HB.out)⟩
          · rw [if_neg c18] at H
            have Sl:(a1 == 97)=false:=beq_eq_false_iff_ne.mpr c18
            have Sj:(a1 != 97)=true:=bne_iff_ne.mpr c18
            by_cases Np:a1=98
            · rw [if_pos Np] at H
              have RX:(a1 == 98)=true:=beq_iff_eq.mpr Np
              have ach:(a1 != 98)=false:=bne_eq_false_iff_eq.mpr Np
              clear Np
              simp only [Option.some.injEq,Prod.mk.injEq] at H
              obtain ⟨rfl,rfl,rfl,rfl,rfl,rfl⟩:=H
              have abO:=tu.out
              have abE:=oH.out
              have WT:wc.cell? ⟨jJ,0,none⟩=some (.int .u8 gW):=(ax iy.out 0).trans rfl
              have WS:wc.cell? ⟨jJ,1,none⟩=some (.int .u8 bU):=(ax iy.out 1).trans rfl
              have WR:wc.cell? ⟨jJ,2,none⟩=some (.int .u8 bV):=(ax iy.out 2).trans rfl
              have WQ:wc.cell? ⟨jJ,3,none⟩=some (.int .u8 ik):=(ax iy.out 3).trans rfl
              have WO:wc.cell? ⟨jJ,4,none⟩=some (.int .i64 iI):=(ax iy.out 4).trans rfl
              have Vp:=ay iy.out 0
              have Vo:=ay iy.out 1
              have Vm:=ay iy.out 2
              have Vl:=ay iy.out 3
              have Vk:=ay iy.out 4
              have WN:wc.cell? ⟨jO,0,none⟩=some (.int .u8 0):=(ax iQ.out 0).trans rfl
              have WM:wc.cell? ⟨jO,1,none⟩=some (.int .u8 0):=(ax iQ.out 1).trans rfl
              have WL:wc.cell? ⟨jO,2,none⟩=some (.int .u8 0):=(ax iQ.out 2).trans rfl
              have WJ:wc.cell? ⟨jO,3,none⟩=some (.int .u8 0):=(ax iQ.out 3).trans rfl
              have aiL:wc.cell? ⟨jO,4,none⟩=some (.int .i64 0):=(ax iQ.out 4).trans rfl
              have Vj:=ay iQ.out 0
              have Vh:=ay iQ.out 1
              have Vg:=ay iQ.out 2
              have Vf:=ay iQ.out 3
              have agD:=ay iQ.out 4
              go_wp2
              refine bodyPost_ret (kP rfl _ _ jO 27 #[.int .u8 gW,.int .u8 bU,.int .u8 ((a2) % 256),.int .u8 ik,.int .i64 iI] (0,0) _ rfl (by (with_reducible repeat (first|refine ah ?_ _|refine ak ?_|refine ai ?_ _));refine bu (cs:=#[.int .u8 gW,.int .u8 bU,.int .u8 ((a2) % 256),.int .u8 ik,.int .i64 0]) ?_ 4 _ rfl;(with_reducible repeat (first|refine ah ?_ _|refine ak ?_|refine ai ?_ _));refine bu (cs:=#[.int .u8 gW,.int .u8 bU,.int .u8 ((a2) % 256),.int .u8 0,.int .i64 0]) ?_ 3 _ rfl;(with_reducible repeat (first|refine ah ?_ _|refine ak ?_|refine ai ?_ _));refine bu (cs:=#[.int .u8 gW,.int .u8 bU,.int .u8 0,.int .u8 0,.int .i64 0]) ?_ 2 _ rfl;(with_reducible repeat (first|refine ah ?_ _|refine ak ?_|refine ai ?_ _));refine bu (cs:=#[.int .u8 gW,.int .u8 0,.int .u8 0,.int .u8 0,.int .i64 0]) ?_ 1 _ rfl;(with_reducible repeat (first|refine ah ?_ _|refine ak ?_|refine ai ?_ _));refine bu (cs:=#[.int .u8 0,.int .u8 0,.int .u8 0,.int .u8 0,.int .i64 0]) ?_ 0 _ rfl;(with_reducible repeat (first|refine ah ?_ _|refine ak ?_|refine ai ?_ _));refine di ?_ oH.out _;(with_reducible repeat (first|refine ah ?_ _|refine ak ?_|refine ai ?_ _));exact iQ.out) Tryz.underlying27 rfl (by kernel_rfl)) rfl ?_
              exact ⟨by first|rfl|(simp [bF,bD] <;> rfl)|(simp [*,bF,bD] <;> rfl),by repeat (first|(with_reducible first|exact HB.out|apply au|apply af|apply aj|refine az ?_ uN.out|refine az ?_ BQ.out)|exact HB.out)⟩
            · rw [if_neg Np] at H
              have RX:(a1 == 98)=false:=beq_eq_false_iff_ne.mpr Np
              have ach:(a1 != 98)=true:=bne_iff_ne.mpr Np
              simp only [Option.some.injEq,Prod.mk.injEq] at H
              obtain ⟨rfl,rfl,rfl,rfl,rfl,rfl⟩:=H
              have abN:=tu.out
              have abD:=oH.out
              have WI:wc.cell? ⟨jJ,0,none⟩=some (.int .u8 gW):=(ax iy.out 0).trans rfl
              have WH:wc.cell? ⟨jJ,1,none⟩=some (.int .u8 bU):=(ax iy.out 1).trans rfl
              have WG:wc.cell? ⟨jJ,2,none⟩=some (.int .u8 bV):=(ax iy.out 2).trans rfl
              have WE:wc.cell? ⟨jJ,3,none⟩=some (.int .u8 ik):=(ax iy.out 3).trans rfl
              have aiG:wc.cell? ⟨jJ,4,none⟩=some (.int .i64 iI):=(ax iy.out 4).trans rfl
              have Ve:=ay iy.out 0
              have Vd:=ay iy.out 1
              have Vb:=ay iy.out 2
              have Va:=ay iy.out 3
              have agy:=ay iy.out 4
              have ML:wc.cell? ⟨jO,0,none⟩=some (.int .u8 0):=(ax iQ.out 0).trans rfl
              have MK:wc.cell? ⟨jO,1,none⟩=some (.int .u8 0):=(ax iQ.out 1).trans rfl
              have MJ:wc.cell? ⟨jO,2,none⟩=some (.int .u8 0):=(ax iQ.out 2).trans rfl
              have MI:wc.cell? ⟨jO,3,none⟩=some (.int .u8 0):=(ax iQ.out 3).trans rfl
              have aiF:wc.cell? ⟨jO,4,none⟩=some (.int .i64 0):=(ax iQ.out 4).trans rfl
              have LU:=ay iQ.out 0
              have LQ:=ay iQ.out 1
              have LP:=ay iQ.out 2
              have LM:=ay iQ.out 3
              have agx:=ay iQ.out 4
              go_wp2
              refine bodyPost_ret (kP rfl _ _ jO 27 #[.int .u8 gW,.int .u8 bU,.int .u8 bV,.int .u8 ((a2) % 256),.int .i64 iI] (0,0) _ rfl (by (with_reducible repeat (first|refine ah ?_ _|refine ak ?_|refine ai ?_ _));refine bu (cs:=#[.int .u8 gW,.int .u8 bU,.int .u8 bV,.int .u8 ((a2) % 256),.int .i64 0]) ?_ 4 _ rfl;(with_reducible repeat (first|refine ah ?_ _|refine ak ?_|refine ai ?_ _));refine bu (cs:=#[.int .u8 gW,.int .u8 bU,.int .u8 bV,.int .u8 0,.int .i64 0]) ?_ 3 _ rfl;(with_reducible repeat (first|refine ah ?_ _|refine ak ?_|refine ai ?_ _));refine bu (cs:=#[.int .u8 gW,.int .u8 bU,.int .u8 0,.int .u8 0,.int .i64 0]) ?_ 2 _ rfl;(with_reducible repeat (first|refine ah ?_ _|refine ak ?_|refine ai ?_ _));refine bu (cs:=#[.int .u8 gW,.int .u8 0,.int .u8 0,.int .u8 0,.int .i64 0]) ?_ 1 _ rfl;(with_reducible repeat (first|refine ah ?_ _|refine ak ?_|refine ai ?_ _));refine bu (cs:=#[.int .u8 0,.int .u8 0,.int .u8 0,.int .u8 0,.int .i64 0]) ?_ 0 _ rfl;(with_reducible repeat (first|refine ah ?_ _|refine ak ?_|refine ai ?_ _));refine di ?_ oH.out _;(with_reducible repeat (first|refine ah ?_ _|refine ak ?_|refine ai ?_ _));exact iQ.out) Tryz.underlying27 rfl (by kernel_rfl)) rfl ?_
              exact ⟨by first|rfl|(simp [bF,bD] <;> rfl)|(simp [*,bF,bD] <;> rfl),by repeat (first|(with_reducible first|exact HB.out|apply au|apply af|apply aj|refine az ?_ uN.out|refine az ?_ BQ.out)|exact HB.out)⟩
end Go.Proofs.YtkclndkbccbhaaaGreatDoor.P
end
