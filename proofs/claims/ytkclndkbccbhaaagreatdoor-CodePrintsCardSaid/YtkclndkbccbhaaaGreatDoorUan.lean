/- Parts of the proof of CodePrints: what the functions that it reaches compute, and plain facts about that. -/
import Derived.Test.YtkclndkbccbhaaaGreatDoorUac
set_option linter.unusedVariables false
set_option linter.unusedSimpArgs false
section
namespace Go.Proofs.YtkclndkbccbhaaaGreatDoor.P
open Go.RowKit Go.Proofs.ag.bJ Go.Proofs.ag.eX Go.Proofs.ag.gp
attribute [local go_sem] kM kK lT lS jE jD kL kJ
mutual
def aA.j0:Nat→ByteArray→ByteArray→Bool→Option (Bool)
  | 0,_,_,_=>none
  | k+1,x0,x3,Yx=>if Yx=true then (if 1≤(x0.size:Int) then (aA.j1 k x0 (x0.extract 1 x0.size)) else (none)) else (aA.j1 k x0 x3)
def aA.j1:Nat→ByteArray→ByteArray→Option (Bool)
  | 0,_,_=>none
  | k+1,x0,x3=>if x3.toList=([]:List UInt8) then (aA.j2 k x3 true) else (if 0 < (x3.size:Int) then (if (bt x3 0)=48 then (if (x3.size:Int) > 1 then (aA.j2 k x3 true) else (aA.j2 k x3 (decide ((x0.size:Int) > 1)))) else (aA.j2 k x3 false)) else (none))
def aA.j2:Nat→ByteArray→Bool→Option (Bool)
  | 0,_,_=>none
  | k+1,x3,x32=>if x32=true then (some false) else (aA.l0 k x3 0)
def aA.l0:Nat→ByteArray→Int→Option (Bool)
  | 0,_,_=>none
  | k+1,x3,x4=>if x4 < (x3.size:Int) then (if 0≤x4 then (if (bt x3 x4) < 48 then (some false) else (if (bt x3 x4) > 57 then (some false) else (aA.l0 k x3 (wrap64 (x4+1))))) else (none)) else (some true)
end
def aA.f (k:Nat) (a0:ByteArray):Option (Bool):=if (a0.size:Int) > 0 then (if 0 < (a0.size:Int) then (aA.j0 k a0 a0 ((bt a0 0) == 45)) else (none)) else (aA.j0 k a0 a0 false)
theorem aA.gY:∀ k,(∀ y0 y1 y2,dH (aA.j0 k y0 y1 y2) (aA.j0 (k+1) y0 y1 y2))∧(∀ y0 y1,dH (aA.j1 k y0 y1) (aA.j1 (k+1) y0 y1))∧(∀ y0 y1,dH (aA.j2 k y0 y1) (aA.j2 (k+1) y0 y1))∧(∀ y0 y1,dH (aA.l0 k y0 y1) (aA.l0 (k+1) y0 y1))
  | 0=>⟨fun _ _ _ r h=>by simp [aA.j0] at h,fun _ _ r h=>by simp [aA.j1] at h,fun _ _ r h=>by simp [aA.j2] at h,fun _ _ r h=>by simp [aA.l0] at h⟩
  | k+1=>by
    obtain ⟨jK,ih1,ih2,ih3⟩:=aA.gY k
    refine ⟨?_,?_,?_,?_⟩
    · intro y0 y1 y2
      unfold aA.j0
      repeat' first
      | (with_reducible exact jK _ _ _)
      | (with_reducible exact ih1 _ _)
      | (with_reducible exact ih2 _ _)
      | (with_reducible exact ih3 _ _)
      | (with_reducible exact dH.refl _)
      | (with_reducible exact dH.none _)
      | (with_reducible refine dH.ite ?_ ?_)
      | (with_reducible refine dH.bind ?_ (fun _=>?_))
      | exact jK _ _ _
      | exact ih1 _ _
      | exact ih2 _ _
      | exact ih3 _ _
      | exact dH.none _
      | refine dH.ite ?_ ?_
      | refine dH.bind ?_ (fun _=>?_)
    · intro y0 y1
      unfold aA.j1
      repeat' first
      | (with_reducible exact jK _ _ _)
      | (with_reducible exact ih1 _ _)
      | (with_reducible exact ih2 _ _)
      | (with_reducible exact ih3 _ _)
      | (with_reducible exact dH.refl _)
      | (with_reducible exact dH.none _)
      | (with_reducible refine dH.ite ?_ ?_)
      | (with_reducible refine dH.bind ?_ (fun _=>?_))
      | exact jK _ _ _
      | exact ih1 _ _
      | exact ih2 _ _
      | exact ih3 _ _
      | exact dH.none _
      | refine dH.ite ?_ ?_
      | refine dH.bind ?_ (fun _=>?_)
    · intro y0 y1
      unfold aA.j2
      repeat' first
      | (with_reducible exact jK _ _ _)
      | (with_reducible exact ih1 _ _)
      | (with_reducible exact ih2 _ _)
      | (with_reducible exact ih3 _ _)
      | (with_reducible exact dH.refl _)
      | (with_reducible exact dH.none _)
      | (with_reducible refine dH.ite ?_ ?_)
      | (with_reducible refine dH.bind ?_ (fun _=>?_))
      | exact jK _ _ _
      | exact ih1 _ _
      | exact ih2 _ _
      | exact ih3 _ _
      | exact dH.none _
      | refine dH.ite ?_ ?_
      | refine dH.bind ?_ (fun _=>?_)
    · intro y0 y1
      unfold aA.l0
      repeat' first
      | (with_reducible exact jK _ _ _)
      | (with_reducible exact ih1 _ _)
      | (with_reducible exact ih2 _ _)
      | (with_reducible exact ih3 _ _)
      | (with_reducible exact dH.refl _)
      | (with_reducible exact dH.none _)
      | (with_reducible refine dH.ite ?_ ?_)
      | (with_reducible refine dH.bind ?_ (fun _=>?_))
      | exact jK _ _ _
      | exact ih1 _ _
      | exact ih2 _ _
      | exact ih3 _ _
      | exact dH.none _
      | refine dH.ite ?_ ?_
      | refine dH.bind ?_ (fun _=>?_)
theorem aA.mono:∀ a0 k,dH (aA.f k a0) (aA.f (k+1) a0):=by
  intro a0 k
  obtain ⟨jK,ih1,ih2,ih3⟩:=aA.gY k
  unfold aA.f
  repeat' first
      | (with_reducible exact jK _ _ _)
      | (with_reducible exact ih1 _ _)
      | (with_reducible exact ih2 _ _)
      | (with_reducible exact ih3 _ _)
      | (with_reducible exact dH.refl _)
      | (with_reducible exact dH.none _)
      | (with_reducible refine dH.ite ?_ ?_)
      | (with_reducible refine dH.bind ?_ (fun _=>?_))
      | exact jK _ _ _
      | exact ih1 _ _
      | exact ih2 _ _
      | exact ih3 _ _
      | exact dH.none _
      | refine dH.ite ?_ ?_
      | refine dH.bind ?_ (fun _=>?_)
set_option maxHeartbeats 8000000 in
set_option maxRecDepth 100000 in
theorem aA.calls (k:Nat) (a0:ByteArray) (r:Bool) (w:World) (h:aA.f k a0=some r) :
    Calls Tryz.prog 59 #[.string a0] w fun e w'=>e=.returned (.bool r)∧bC w w':=by
  have H:(if (a0.size:Int) > 0 then (if 0 < (a0.size:Int) then (aA.j0 k a0 a0 ((bt a0 0) == 45)) else (none)) else (aA.j0 k a0 a0 false))=some r:=h
  clear h
  have HC2:=ae.mk H
  clear H
  go_enter Tryz.func59,Tryz.ntmps59
  go_upto_region 2 with (fail)
  go_cut [13] (fun v13 wc=>∃ (kq:Nat) (Jr:Bool),v13=.bool Jr∧ae (aA.j0 kq a0 a0 Jr=some r)∧ae (kq≤k)∧bC w wc)
  case first =>
    have H:=HC2.out
    clear HC2
    by_cases c3:(a0.size:Int) > 0
    · rw [if_pos c3] at H
      have qo:decide (0 < (a0.size:Int))=true:=decide_eq_true c3
      have xN:decide (0 < a0.size)=true:=decide_eq_true (by omega)
      clear c3
      (first|rw [qo]|(simp only [aI,aJ];rw [qo])|skip)
      by_cases c4:0 < (a0.size:Int)
      · rw [if_pos c4] at H
        have rF:decide (0 < (a0.size:Int))=true:=decide_eq_true c4
        have vZ:decide (0 < a0.size)=true:=decide_eq_true (by omega)
        clear c4
        have H':=ae.mk H
        clear H
        have p5:0≤(0:Int):=(by omega)
        have q5:0 < a0.size:=(by have:(0:Int) < (a0.size:Int):=of_decide_eq_true (by first|(with_reducible assumption)|assumption);omega)
        have hx5:∀ h:0 < a0.size,((a0[0]'h).toNat:Int)=bt a0 0:=lL a0 0
        clear p5
        have RZ:(0 < (a0.size:Int))=True:=eq_true (of_decide_eq_true (by first|(with_reducible assumption)|assumption))
        replace q5:=eq_true q5
        go_wp2
        go_meet
        case rel=>exact ⟨_,(((bt a0 0) == 45)),(by first|rfl|(simp;done)|(simp [*];done)),H',⟨by first|omega|exact Nat.le_refl _⟩,by repeat (first|exact bC.refl _|apply bC.step)⟩
      · rw [if_neg c4] at H
        exact absurd H (by simp)
    · rw [if_neg c3] at H
      have qo:decide (0 < (a0.size:Int))=false:=decide_eq_false c3
      have xN:decide (0 < a0.size)=false:=decide_eq_false (by omega)
      clear c3
      (first|rw [qo]|(simp only [aI,aJ];rw [qo])|skip)
      have H':=ae.mk H
      clear H
      go_wp2
      go_meet
      case rel=>exact ⟨_,(false),(by first|rfl|(simp;done)|(simp [*];done)),H',⟨by first|omega|exact Nat.le_refl _⟩,by repeat (first|exact bC.refl _|apply bC.step)⟩
  case rest =>
    clear HC2
    try clear p2
    try clear c3
    try clear qo
    try clear xN
    try clear c4
    try clear rF
    try clear vZ
    try clear c5
    try clear p5
    try clear q5
    try clear hx5
    try clear RZ
    try clear p5
    try clear q5
    obtain ⟨kq,Jr,rfl,HA,Wv,⟨mc1,rfl⟩⟩:=hcut
    cases kq with
    | zero=>exact absurd HA.out (by simp [aA.j0])
    | succ kj1 =>
      have H:=HA.out
      clear HA
      simp only [aA.j0] at H
      have Ya:=ae.mk H
      clear H
      go_upto_if 13 with (fail)
      go_cut [3] (fun v3 wc=>∃ (kq:Nat) (jb:ByteArray),v3=.string jb∧ae (aA.j1 kq a0 jb=some r)∧ae (kq≤kj1)∧bC w wc)
      case first =>
        have H:=Ya.out
        clear Ya
        by_cases c7:Jr=true
        · subst c7
          have H1:(if 1≤(a0.size:Int) then (aA.j1 kj1 a0 (a0.extract 1 a0.size)) else (none))=some r:=by rw [if_pos rfl] at H;exact H
          clear H
          have H:=H1
          clear H1
          by_cases c8:1≤(a0.size:Int)
          · rw [if_pos c8] at H
            have tK:=eq_true c8
            have Bv:decide (1≤(a0.size:Int))=true:=decide_eq_true c8
            clear c8
            have H':=ae.mk H
            clear H
            go_wp2
            go_meet
            case rel=>exact ⟨_,(a0.extract 1 a0.size),(by first|rfl|(simp;done)|(simp [*];done)),H',⟨by have:=Wv.out;first|omega|exact Nat.le_refl _⟩,by repeat (first|exact bC.refl _|apply bC.step)⟩
          · rw [if_neg c8] at H
            exact absurd H (by simp)
        · replace c7:=Bool.eq_false_iff.mpr c7
          subst c7
          have H1:(aA.j1 kj1 a0 a0)=some r:=by rw [if_neg (show ¬ (false=true) by decide)] at H;exact H
          clear H
          have H:=H1
          clear H1
          have H':=ae.mk H
          clear H
          go_wp2
          go_meet
          case rel=>exact ⟨_,(a0),(by first|rfl|(simp;done)|(simp [*];done)),H',⟨by have:=Wv.out;first|omega|exact Nat.le_refl _⟩,by repeat (first|exact bC.refl _|apply bC.step)⟩
      case rest =>
        clear Ya
        try clear c1
        try clear p2
        try clear c3
        try clear qo
        try clear xN
        try clear c4
        try clear rF
        try clear vZ
        try clear c5
        try clear p5
        try clear q5
        try clear hx5
        try clear RZ
        try clear c7
        try clear c8
        try clear tK
        try clear Bv
        try clear p2
        try clear p5
        try clear q5
        obtain ⟨kq,jb,rfl,HA,I9,⟨mc5,rfl⟩⟩:=hcut
        cases kq with
        | zero=>exact absurd HA.out (by simp [aA.j1])
        | succ YK =>
          have H:=HA.out
          clear HA
          simp only [aA.j1] at H
          have X9:=ae.mk H
          clear H
          go_upto_region 4 with (fail)
          go_cut [32] (fun v32 wc=>∃ (kq:Nat) (Je:Bool),v32=.bool Je∧ae (aA.j2 kq jb Je=some r)∧ae (kq≤YK)∧bC w wc)
          case first =>
            have H:=X9.out
            clear X9
            by_cases c10:jb.toList=([]:List UInt8)
            · rw [if_pos c10] at H
              have nO:(jb.toList == ([]:List UInt8))=true:=beq_iff_eq.mpr c10
              have zq:(jb.toList != ([]:List UInt8))=false:=bne_eq_false_iff_eq.mpr c10
              clear c10
              (first|rw [nO]|(simp only [aI,aJ];rw [nO])|skip)
              have H':=ae.mk H
              clear H
              go_wp2
              go_meet
              case rel=>exact ⟨_,(true),(by first|rfl|(simp;done)|(simp [*];done)),H',⟨by have:=Wv.out;have:=I9.out;first|omega|exact Nat.le_refl _⟩,by repeat (first|exact bC.refl _|apply bC.step)⟩
            · rw [if_neg c10] at H
              have nO:(jb.toList == ([]:List UInt8))=false:=beq_eq_false_iff_ne.mpr c10
              have zq:(jb.toList != ([]:List UInt8))=true:=bne_iff_ne.mpr c10
              (first|rw [nO]|(simp only [aI,aJ];rw [nO])|skip)
              by_cases c11:0 < (jb.size:Int)
              · rw [if_pos c11] at H
                have sS:decide (0 < (jb.size:Int))=true:=decide_eq_true c11
                have zo:decide (0 < jb.size)=true:=decide_eq_true (by omega)
                clear c11
                by_cases c13:(bt jb 0)=48
                · rw [if_pos c13] at H
                  have rZ:((bt jb 0) == 48)=true:=beq_iff_eq.mpr c13
                  have Hf:((bt jb 0) != 48)=false:=bne_eq_false_iff_eq.mpr c13
                  clear c13
                  by_cases c14:(jb.size:Int) > 1
                  · rw [if_pos c14] at H
                    have yB:decide (1 < (jb.size:Int))=true:=decide_eq_true c14
                    have He:decide (1 < jb.size)=true:=decide_eq_true (by omega)
                    clear c14
                    have H':=ae.mk H
                    clear H
                    have p12:0≤(0:Int):=(by omega)
                    have q12:0 < jb.size:=(by have:(0:Int) < (jb.size:Int):=of_decide_eq_true (by first|(with_reducible assumption)|assumption);omega)
                    have SL:∀ h:0 < jb.size,((jb[0]'h).toNat:Int)=bt jb 0:=lL jb 0
                    clear p12
                    have Si:(0 < (jb.size:Int))=True:=eq_true (of_decide_eq_true (by first|(with_reducible assumption)|assumption))
                    replace q12:=eq_true q12
                    go_wp2
                    go_meet
                    case rel=>exact ⟨_,(true),(by first|rfl|(simp;done)|(simp [*];done)),H',⟨by have:=Wv.out;have:=I9.out;first|omega|exact Nat.le_refl _⟩,by repeat (first|exact bC.refl _|apply bC.step)⟩
                  · rw [if_neg c14] at H
                    have yB:decide (1 < (jb.size:Int))=false:=decide_eq_false c14
                    have He:decide (1 < jb.size)=false:=decide_eq_false (by omega)
                    clear c14
                    have H':=ae.mk H
                    clear H
                    have p12:0≤(0:Int):=(by omega)
                    have q12:0 < jb.size:=(by have:(0:Int) < (jb.size:Int):=of_decide_eq_true (by first|(with_reducible assumption)|assumption);omega)
                    have SL:∀ h:0 < jb.size,((jb[0]'h).toNat:Int)=bt jb 0:=lL jb 0
                    clear p12
                    have Si:(0 < (jb.size:Int))=True:=eq_true (of_decide_eq_true (by first|(with_reducible assumption)|assumption))
                    replace q12:=eq_true q12
                    go_wp2
                    go_meet
                    case rel=>exact ⟨_,(decide ((a0.size:Int) > 1)),(by first|rfl|(simp;done)|(simp [*];done)),H',⟨by have:=Wv.out;have:=I9.out;first|omega|exact Nat.le_refl _⟩,by repeat (first|exact bC.refl _|apply bC.step)⟩
                · rw [if_neg c13] at H
                  have rZ:((bt jb 0) == 48)=false:=beq_eq_false_iff_ne.mpr c13
                  have Hf:((bt jb 0) != 48)=true:=bne_iff_ne.mpr c13
                  have H':=ae.mk H
                  clear H
                  have p12:0≤(0:Int):=(by omega)
                  have q12:0 < jb.size:=(by have:(0:Int) < (jb.size:Int):=of_decide_eq_true (by first|(with_reducible assumption)|assumption);omega)
                  have SL:∀ h:0 < jb.size,((jb[0]'h).toNat:Int)=bt jb 0:=lL jb 0
                  clear p12
                  have Si:(0 < (jb.size:Int))=True:=eq_true (of_decide_eq_true (by first|(with_reducible assumption)|assumption))
                  replace q12:=eq_true q12
                  go_wp2
                  go_meet
                  case rel=>exact ⟨_,(false),(by first|rfl|(simp;done)|(simp [*];done)),H',⟨by have:=Wv.out;have:=I9.out;first|omega|exact Nat.le_refl _⟩,by repeat (first|exact bC.refl _|apply bC.step)⟩
              · rw [if_neg c11] at H
                exact absurd H (by simp)
          case rest =>
            clear X9
            try clear c1
            try clear p1
            try clear q1
            try clear hx1
            try clear qi1
            try clear p2
            try clear c3
            try clear qo
            try clear xN
            try clear c4
            try clear rF
            try clear vZ
            try clear c5
            try clear p5
            try clear q5
            try clear hx5
            try clear RZ
            try clear c7
            try clear c8
            try clear tK
            try clear Bv
            try clear c10
            try clear nO
            try clear zq
            try clear c11
            try clear sS
            try clear zo
            try clear p12
            try clear q12
            try clear SL
            try clear Si
            try clear c13
            try clear rZ
            try clear Hf
            try clear c14
            try clear yB
            try clear He
            try clear p12
            try clear p2
            try clear p5
            try clear q12
            try clear q5
            obtain ⟨kq,Je,rfl,HA,X8,⟨mc8,rfl⟩⟩:=hcut
            cases kq with
            | zero=>exact absurd HA.out (by simp [aA.j2])
            | succ kj8 =>
              have H:=HA.out
              clear HA
              simp only [aA.j2] at H
              by_cases c15:Je=true
              · subst c15
                have H1:(some false)=some r:=by rw [if_pos rfl] at H;exact H
                clear H
                have H:=H1
                clear H1
                obtain rfl:=Option.some.inj H
                go_wp2
                go_ret
                exact ⟨by first|rfl|(simp;done)|(simp [*];done),by repeat (first|exact bC.refl _|apply bC.step)⟩
              · replace c15:=Bool.eq_false_iff.mpr c15
                subst c15
                have H1:(aA.l0 kj8 jb 0)=some r:=by rw [if_neg (show ¬ (false=true) by decide)] at H;exact H
                clear H
                have H:=H1
                clear H1
                have H':=ae.mk H
                clear H
                go_wp2
                go_loopg [4] kj8 (fun kq v4 w'=>∃ (oZ:Int),v4=.int .i64 oZ∧ae (aA.l0 kq jb oZ=some r)∧ae (kq≤kj8)∧bC w w')
                case atStart=>exact ⟨(0),(by first|rfl|(simp;done)|(simp [*];done)),H',⟨Nat.le_refl _⟩,by repeat (first|exact bC.refl _|apply bC.step)⟩
                case round =>
                  clear H'
                  try clear c1
                  try clear p1
                  try clear q1
                  try clear hx1
                  try clear qi1
                  try clear p2
                  try clear c3
                  try clear qo
                  try clear xN
                  try clear c4
                  try clear rF
                  try clear vZ
                  try clear c5
                  try clear p5
                  try clear q5
                  try clear hx5
                  try clear RZ
                  try clear c7
                  try clear c8
                  try clear tK
                  try clear Bv
                  try clear c10
                  try clear nO
                  try clear zq
                  try clear c11
                  try clear sS
                  try clear zo
                  try clear p12
                  try clear q12
                  try clear SL
                  try clear Si
                  try clear c13
                  try clear rZ
                  try clear Hf
                  try clear c14
                  try clear yB
                  try clear He
                  try clear c15
                  try clear p1
                  try clear p12
                  try clear p2
                  try clear p5
                  try clear q1
                  try clear q12
                  try clear q5
                  obtain ⟨oZ,rfl,HA,HK4,⟨m4,rfl⟩⟩:=hrel
                  cases gk with
                  | zero=>exact absurd HA.out (by simp [aA.l0])
                  | succ k4 =>
                    have H:=HA.out
                    clear HA
                    simp only [aA.l0] at H
                    by_cases c16:oZ < (jb.size:Int)
                    · rw [if_pos c16] at H
                      have Ha:decide (oZ < (jb.size:Int))=true:=decide_eq_true c16
                      clear c16
                      by_cases c17:0≤oZ
                      · rw [if_pos c17] at H
                        have Dp:decide (0≤oZ)=true:=decide_eq_true c17
                        clear c17
                        by_cases c19:(bt jb oZ) < 48
                        · rw [if_pos c19] at H
                          have QB:decide ((bt jb oZ) < 48)=true:=decide_eq_true c19
                          clear c19
                          obtain rfl:=Option.some.inj H
                          have F8:0≤(oZ:Int):=of_decide_eq_true (by first|(with_reducible assumption)|assumption)
                          have FZ:oZ < (jb.size:Int):=of_decide_eq_true (by first|(with_reducible assumption)|assumption)
                          have Ph:=lL jb oZ
                          replace F8:=eq_true F8
                          replace FZ:=eq_true FZ
                          go_wp2
                          go_ret
                          exact ⟨by first|rfl|(simp;done)|(simp [*];done),by repeat (first|exact bC.refl _|apply bC.step)⟩
                        · rw [if_neg c19] at H
                          have QB:decide ((bt jb oZ) < 48)=false:=decide_eq_false c19
                          clear c19
                          by_cases c21:(bt jb oZ) > 57
                          · rw [if_pos c21] at H
                            have Y9:decide (57 < (bt jb oZ))=true:=decide_eq_true c21
                            clear c21
                            obtain rfl:=Option.some.inj H
                            have F8:0≤(oZ:Int):=of_decide_eq_true (by first|(with_reducible assumption)|assumption)
                            have FZ:oZ < (jb.size:Int):=of_decide_eq_true (by first|(with_reducible assumption)|assumption)
                            have Ph:=lL jb oZ
                            replace F8:=eq_true F8
                            replace FZ:=eq_true FZ
                            have YF:0≤(oZ:Int):=of_decide_eq_true (by first|(with_reducible assumption)|assumption)
                            have YE:oZ < (jb.size:Int):=of_decide_eq_true (by first|(with_reducible assumption)|assumption)
                            have ae3:=lL jb oZ
                            replace YF:=eq_true YF
                            replace YE:=eq_true YE
                            go_wp2
                            go_ret
                            exact ⟨by first|rfl|(simp;done)|(simp [*];done),by repeat (first|exact bC.refl _|apply bC.step)⟩
                          · rw [if_neg c21] at H
                            have Y9:decide (57 < (bt jb oZ))=false:=decide_eq_false c21
                            clear c21
                            have H':=ae.mk H
                            clear H
                            have F8:0≤(oZ:Int):=of_decide_eq_true (by first|(with_reducible assumption)|assumption)
                            have FZ:oZ < (jb.size:Int):=of_decide_eq_true (by first|(with_reducible assumption)|assumption)
                            have Ph:=lL jb oZ
                            replace F8:=eq_true F8
                            replace FZ:=eq_true FZ
                            have YF:0≤(oZ:Int):=of_decide_eq_true (by first|(with_reducible assumption)|assumption)
                            have YE:oZ < (jb.size:Int):=of_decide_eq_true (by first|(with_reducible assumption)|assumption)
                            have ae3:=lL jb oZ
                            replace YF:=eq_true YF
                            replace YE:=eq_true YE
                            go_wp2
                            go_roundg k4
                            case measure=>have:=Wv.out;have:=I9.out;have:=X8.out;have:=HK4.out;omega
                            case rel=>exact ⟨(wrap64 (oZ+1)),(by first|rfl|(simp;done)|(simp [*];done)),H',⟨by have:=Wv.out;have:=I9.out;have:=X8.out;have:=HK4.out;omega⟩,by repeat (first|exact bC.refl _|apply bC.step)⟩
                      · rw [if_neg c17] at H
                        exact absurd H (by simp)
                    · rw [if_neg c16] at H
                      have Ha:decide (oZ < (jb.size:Int))=false:=decide_eq_false c16
                      clear c16
                      obtain rfl:=Option.some.inj H
                      go_wp2
                      go_ret
                      exact ⟨by first|rfl|(simp;done)|(simp [*];done),by repeat (first|exact bC.refl _|apply bC.step)⟩
end Go.Proofs.YtkclndkbccbhaaaGreatDoor.P
end
