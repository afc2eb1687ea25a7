/- Parts of the proof of ModelRuns: what the functions that it reaches compute, and plain facts about that. -/
import Derived.Test.YtlemecdddhdagaaDoorYab
import Derived.Test.YtlemecdddhdagaaDoorYal
set_option linter.unusedVariables false
set_option linter.unusedSimpArgs false
section
namespace Go.Proofs.YtlemecdddhdagaaDoor.P
open Go.RowKit Go.Proofs.af.bD Go.Proofs.af.dB Go.Proofs.af.dM
attribute [local go_sem] lq lg mG mF jY jX lh kZ
mutual
def aG.j0:Nat→ByteArray→ByteArray→Bool→Option (Bool)
 | 0,_,_,_=>none
 | k+1,x0,x3,x13=>if x13=true then (if 1≤(x0.size:Int) then (aG.j1 k x0 (x0.extract 1 x0.size)) else (none)) else (aG.j1 k x0 x3)
def aG.j1:Nat→ByteArray→ByteArray→Option (Bool)
 | 0,_,_=>none
 | k+1,x0,x3=>if x3.toList=([]:List UInt8) then (aG.j2 k x3 true) else (if 0 < (x3.size:Int) then (if (bt x3 0)=48 then (if (x3.size:Int) > 1 then (aG.j2 k x3 true) else (aG.j2 k x3 (decide ((x0.size:Int) > 1)))) else (aG.j2 k x3 false)) else (none))
def aG.j2:Nat→ByteArray→Bool→Option (Bool)
 | 0,_,_=>none
 | k+1,x3,x32=>if x32=true then (some false) else (aG.l0 k x3 0)
def aG.l0:Nat→ByteArray→Int→Option (Bool)
 | 0,_,_=>none
 | k+1,x3,x4=>if x4 < (x3.size:Int) then (if 0≤x4 then (if (bt x3 x4) < 48 then (some false) else (if (bt x3 x4) > 57 then (some false) else (aG.l0 k x3 (wrap64 (x4+1))))) else (none)) else (some true)
end
def aG.f (k:Nat) (a0:ByteArray):Option (Bool):=if (a0.size:Int) > 0 then (if 0 < (a0.size:Int) then (aG.j0 k a0 a0 ((bt a0 0) == 45)) else (none)) else (aG.j0 k a0 a0 false)
theorem aG.iD:∀ k,(∀ y0 y1 y2,dO (aG.j0 k y0 y1 y2) (aG.j0 (k+1) y0 y1 y2))∧(∀ y0 y1,dO (aG.j1 k y0 y1) (aG.j1 (k+1) y0 y1))∧(∀ y0 y1,dO (aG.j2 k y0 y1) (aG.j2 (k+1) y0 y1))∧(∀ y0 y1,dO (aG.l0 k y0 y1) (aG.l0 (k+1) y0 y1))
 | 0=>⟨fun _ _ _ r h=>by simp [aG.j0] at h,fun _ _ r h=>by simp [aG.j1] at h,fun _ _ r h=>by simp [aG.j2] at h,fun _ _ r h=>by simp [aG.l0] at h⟩
 | k+1=>by
  obtain ⟨lS,ih1,ih2,ih3⟩:=aG.iD k
  refine ⟨?_,?_,?_,?_⟩
  ·
   intro y0 y1 y2
   unfold aG.j0
   repeat' with_reducible first|apply lS|apply ih1|apply ih2|apply ih3|exact dO.refl _|exact dO.none _|refine dO.ite ?_ ?_|refine dO.bind ?_ (fun _=>?_)
  ·
   intro y0 y1
   unfold aG.j1
   repeat' with_reducible first|apply lS|apply ih1|apply ih2|apply ih3|exact dO.refl _|exact dO.none _|refine dO.ite ?_ ?_|refine dO.bind ?_ (fun _=>?_)
  ·
   intro y0 y1
   unfold aG.j2
   repeat' with_reducible first|apply lS|apply ih1|apply ih2|apply ih3|exact dO.refl _|exact dO.none _|refine dO.ite ?_ ?_|refine dO.bind ?_ (fun _=>?_)
  ·
   intro y0 y1
   unfold aG.l0
   repeat' with_reducible first|apply lS|apply ih1|apply ih2|apply ih3|exact dO.refl _|exact dO.none _|refine dO.ite ?_ ?_|refine dO.bind ?_ (fun _=>?_)
theorem aG.mono:∀ a0 k,dO (aG.f k a0) (aG.f (k+1) a0):=by
 intro a0 k
 obtain ⟨lS,ih1,ih2,ih3⟩:=aG.iD k
 unfold aG.f
 repeat' with_reducible first|apply lS|apply ih1|apply ih2|apply ih3|exact dO.refl _|exact dO.none _|refine dO.ite ?_ ?_|refine dO.bind ?_ (fun _=>?_)
set_option maxHeartbeats 8000000 in
set_option maxRecDepth 100000 in
theorem aG.calls (k:Nat) (a0:ByteArray) (r:Bool) (w:World) (h:aG.f k a0=some r) :
  Calls Tryd.prog 71 #[.string a0] w fun e w'=>e=.returned (.bool r)∧aT w w':=by
 have H:(if (a0.size:Int) > 0 then (if 0 < (a0.size:Int) then (aG.j0 k a0 a0 ((bt a0 0) == 45)) else (none)) else (aG.j0 k a0 a0 false))=some r:=h
 clear h
 have HC2:=ae.mk H
 clear H
 go_enter Tryd.func71,Tryd.ntmps71
 go_upto_region 2 with (fail)
 go_cut [13] (fun v13 wc=>∃ (kq:Nat) (Jy:Bool),v13=.bool Jy∧ae (aG.j0 kq a0 a0 Jy=some r)∧ae (kq≤k)∧aT w wc)
 case first =>
  have H:=HC2.out
  clear HC2
  by_cases c3:(a0.size:Int) > 0
  ·
   rw [if_pos c3] at H
   have ou:decide (0 < (a0.size:Int))=true:=decide_eq_true c3
   have zi:decide (0 < a0.size)=true:=decide_eq_true (by omega)
   clear c3
   (first|rw [ou]|(simp only [bW,cu];rw [ou])|skip)
   by_cases c4:0 < (a0.size:Int)
   ·
    rw [if_pos c4] at H
    have oq:decide (0 < (a0.size:Int))=true:=decide_eq_true c4
    have I7:decide (0 < a0.size)=true:=decide_eq_true (by omega)
    clear c4
    have H':=ae.mk H
    clear H
    have p5:0≤(0:Int):=(by omega)
    have q5:0 < a0.size:=(by have:(0:Int) < (a0.size:Int):=of_decide_eq_true (by first|(with_reducible assumption)|assumption);omega)
    have hx5:∀ h:0 < a0.size,((a0[0]'h).toNat:Int)=bt a0 0:=kR a0 0
    clear p5
    have qi5:(0 < (a0.size:Int))=True:=eq_true (of_decide_eq_true (by first|(with_reducible assumption)|assumption))
    replace q5:=eq_true q5
    go_wp2
    go_meet
    case rel=>exact ⟨_,(((bt a0 0) == 45)),(by first|rfl|(simp;done)|(simp [*];done)),H',⟨by first|omega|exact Nat.le_refl _⟩,by repeat (first|exact aT.refl _|apply aT.step)⟩
   ·
    rw [if_neg c4] at H
    exact absurd H (by simp)
  ·
   rw [if_neg c3] at H
   have ou:decide (0 < (a0.size:Int))=false:=decide_eq_false c3
   have zi:decide (0 < a0.size)=false:=decide_eq_false (by omega)
   clear c3
   (first|rw [ou]|(simp only [bW,cu];rw [ou])|skip)
   have H':=ae.mk H
   clear H
   go_wp2
   go_meet
   case rel=>exact ⟨_,(false),(by first|rfl|(simp;done)|(simp [*];done)),H',⟨by first|omega|exact Nat.le_refl _⟩,by repeat (first|exact aT.refl _|apply aT.step)⟩
 case rest =>
  clear HC2
  obtain ⟨kq,Jy,rfl,HA,yH,⟨mc1,rfl⟩⟩:=hcut
  cases kq with
  | zero=>exact absurd HA.out (by simp [aG.j0])
  | succ OV =>
   have H:=HA.out
   clear HA
   simp only [aG.j0] at H
   have HC6:=ae.mk H
   clear H
   go_upto_if 13 with (fail)
   go_cut [3] (fun v3 wc=>∃ (kq:Nat) (jB:ByteArray),v3=.string jB∧ae (aG.j1 kq a0 jB=some r)∧ae (kq≤OV)∧aT w wc)
   case first =>
    have H:=HC6.out
    clear HC6
    by_cases c7:Jy=true
    ·
     subst c7
     have H1:(if 1≤(a0.size:Int) then (aG.j1 OV a0 (a0.extract 1 a0.size)) else (none))=some r:=by rw [if_pos rfl] at H;exact H
     clear H
     have H:=H1
     clear H1
     by_cases c8:1≤(a0.size:Int)
     ·
      rw [if_pos c8] at H
      have pM:=eq_true c8
      have zh:decide (1≤(a0.size:Int))=true:=decide_eq_true c8
      clear c8
      have H':=ae.mk H
      clear H
      go_wp2
      go_meet
      case rel=>exact ⟨_,(a0.extract 1 a0.size),(by first|rfl|(simp;done)|(simp [*];done)),H',⟨by have:=yH.out;first|omega|exact Nat.le_refl _⟩,by repeat (first|exact aT.refl _|apply aT.step)⟩
     ·
      rw [if_neg c8] at H
      exact absurd H (by simp)
    ·
     replace c7:=Bool.eq_false_iff.mpr c7
     subst c7
     have H1:(aG.j1 OV a0 a0)=some r:=by rw [if_neg (show ¬ (false=true) by decide)] at H;exact H
     clear H
     have H:=H1
     clear H1
     have H':=ae.mk H
     clear H
     go_wp2
     go_meet
     case rel=>exact ⟨_,(a0),(by first|rfl|(simp;done)|(simp [*];done)),H',⟨by have:=yH.out;first|omega|exact Nat.le_refl _⟩,by repeat (first|exact aT.refl _|apply aT.step)⟩
   case rest =>
    clear HC6
    obtain ⟨kq,jB,rfl,HA,Ji,⟨mc5,rfl⟩⟩:=hcut
    cases kq with
    | zero=>exact absurd HA.out (by simp [aG.j1])
    | succ kj5 =>
     have H:=HA.out
     clear HA
     simp only [aG.j1] at H
     have HC9:=ae.mk H
     clear H
     go_upto_region 4 with (fail)
     go_cut [32] (fun v32 wc=>∃ (kq:Nat) (Jo:Bool),v32=.bool Jo∧ae (aG.j2 kq jB Jo=some r)∧ae (kq≤kj5)∧aT w wc)
     case first =>
      have H:=HC9.out
      clear HC9
      by_cases c10:jB.toList=([]:List UInt8)
      ·
       rw [if_pos c10] at H
       have pR:(jB.toList == ([]:List UInt8))=true:=beq_iff_eq.mpr c10
       have MO:(jB.toList != ([]:List UInt8))=false:=bne_eq_false_iff_eq.mpr c10
       clear c10
       (first|rw [pR]|(simp only [bW,cu];rw [pR])|skip)
       have H':=ae.mk H
       clear H
       go_wp2
       go_meet
       case rel=>exact ⟨_,(true),(by first|rfl|(simp;done)|(simp [*];done)),H',⟨by have:=yH.out;have:=Ji.out;first|omega|exact Nat.le_refl _⟩,by repeat (first|exact aT.refl _|apply aT.step)⟩
      ·
       rw [if_neg c10] at H
       have pR:(jB.toList == ([]:List UInt8))=false:=beq_eq_false_iff_ne.mpr c10
       have MO:(jB.toList != ([]:List UInt8))=true:=bne_iff_ne.mpr c10
       (first|rw [pR]|(simp only [bW,cu];rw [pR])|skip)
       by_cases c11:0 < (jB.size:Int)
       ·
        rw [if_pos c11] at H
        have uU:decide (0 < (jB.size:Int))=true:=decide_eq_true c11
        have DD:decide (0 < jB.size)=true:=decide_eq_true (by omega)
        clear c11
        by_cases c13:(bt jB 0)=48
        ·
         rw [if_pos c13] at H
         have mQ:((bt jB 0) == 48)=true:=beq_iff_eq.mpr c13
         have xU:((bt jB 0) != 48)=false:=bne_eq_false_iff_eq.mpr c13
         clear c13
         by_cases c14:(jB.size:Int) > 1
         ·
          rw [if_pos c14] at H
          have DC:decide (1 < (jB.size:Int))=true:=decide_eq_true c14
          have GX:decide (1 < jB.size)=true:=decide_eq_true (by omega)
          clear c14
          have H':=ae.mk H
          clear H
          have p12:0≤(0:Int):=(by omega)
          have q12:0 < jB.size:=(by have:(0:Int) < (jB.size:Int):=of_decide_eq_true (by first|(with_reducible assumption)|assumption);omega)
          have Z7:∀ h:0 < jB.size,((jB[0]'h).toNat:Int)=bt jB 0:=kR jB 0
          clear p12
          have abO:(0 < (jB.size:Int))=True:=eq_true (of_decide_eq_true (by first|(with_reducible assumption)|assumption))
          replace q12:=eq_true q12
          go_wp2
          go_meet
          case rel=>exact ⟨_,(true),(by first|rfl|(simp;done)|(simp [*];done)),H',⟨by have:=yH.out;have:=Ji.out;first|omega|exact Nat.le_refl _⟩,by repeat (first|exact aT.refl _|apply aT.step)⟩
         ·
          rw [if_neg c14] at H
          have DC:decide (1 < (jB.size:Int))=false:=decide_eq_false c14
          have GX:decide (1 < jB.size)=false:=decide_eq_false (by omega)
          clear c14
          have H':=ae.mk H
          clear H
          have p12:0≤(0:Int):=(by omega)
          have q12:0 < jB.size:=(by have:(0:Int) < (jB.size:Int):=of_decide_eq_true (by first|(with_reducible assumption)|assumption);omega)
          have Z7:∀ h:0 < jB.size,((jB[0]'h).toNat:Int)=bt jB 0:=kR jB 0
          clear p12
          have abO:(0 < (jB.size:Int))=True:=eq_true (of_decide_eq_true (by first|(with_reducible assumption)|assumption))
          replace q12:=eq_true q12
          go_wp2
          go_meet
          case rel=>exact ⟨_,(decide ((a0.size:Int) > 1)),(by first|rfl|(simp;done)|(simp [*];done)),H',⟨by have:=yH.out;have:=Ji.out;first|omega|exact Nat.le_refl _⟩,by repeat (first|exact aT.refl _|apply aT.step)⟩
        ·
         rw [if_neg c13] at H
         have mQ:((bt jB 0) == 48)=false:=beq_eq_false_iff_ne.mpr c13
         have xU:((bt jB 0) != 48)=true:=bne_iff_ne.mpr c13
         have H':=ae.mk H
         clear H
         have p12:0≤(0:Int):=(by omega)
         have q12:0 < jB.size:=(by have:(0:Int) < (jB.size:Int):=of_decide_eq_true (by first|(with_reducible assumption)|assumption);omega)
         have Z7:∀ h:0 < jB.size,((jB[0]'h).toNat:Int)=bt jB 0:=kR jB 0
         clear p12
         have abO:(0 < (jB.size:Int))=True:=eq_true (of_decide_eq_true (by first|(with_reducible assumption)|assumption))
         replace q12:=eq_true q12
         go_wp2
         go_meet
         case rel=>exact ⟨_,(false),(by first|rfl|(simp;done)|(simp [*];done)),H',⟨by have:=yH.out;have:=Ji.out;first|omega|exact Nat.le_refl _⟩,by repeat (first|exact aT.refl _|apply aT.step)⟩
       ·
        rw [if_neg c11] at H
        exact absurd H (by simp)
     case rest =>
      clear HC9
      obtain ⟨kq,Jo,rfl,HA,HJ8,⟨mc8,rfl⟩⟩:=hcut
      cases kq with
      | zero=>exact absurd HA.out (by simp [aG.j2])
      | succ kj8 =>
       have H:=HA.out
       clear HA
       simp only [aG.j2] at H
       by_cases c15:Jo=true
       ·
        subst c15
        have H1:(some false)=some r:=by rw [if_pos rfl] at H;exact H
        clear H
        have H:=H1
        clear H1
        obtain rfl:=Option.some.inj H
        go_wp2
        go_ret
        exact ⟨by first|rfl|(simp;done)|(simp [*];done),by repeat (first|exact aT.refl _|apply aT.step)⟩
       ·
        replace c15:=Bool.eq_false_iff.mpr c15
        subst c15
        have H1:(aG.l0 kj8 jB 0)=some r:=by rw [if_neg (show ¬ (false=true) by decide)] at H;exact H
        clear H
        have H:=H1
        clear H1
        have H':=ae.mk H
        clear H
        go_wp2
        go_loopg [4] kj8 (fun kq v4 w'=>∃ (o5:Int),v4=.int .i64 o5∧ae (aG.l0 kq jB o5=some r)∧ae (kq≤kj8)∧aT w w')
        case atStart=>exact ⟨(0),(by first|rfl|(simp;done)|(simp [*];done)),H',⟨Nat.le_refl _⟩,by repeat (first|exact aT.refl _|apply aT.step)⟩
        case round =>
         clear H'
         obtain ⟨o5,rfl,HA,HK4,⟨m4,rfl⟩⟩:=hrel
         cases gk with
         | zero=>exact absurd HA.out (by simp [aG.l0])
         | succ k4 =>
          have H:=HA.out
          clear HA
          simp only [aG.l0] at H
          by_cases c16:o5 < (jB.size:Int)
          ·
           rw [if_pos c16] at H
           have Bo:decide (o5 < (jB.size:Int))=true:=decide_eq_true c16
           clear c16
           by_cases c17:0≤o5
           ·
            rw [if_pos c17] at H
            have yQ:decide (0≤o5)=true:=decide_eq_true c17
            clear c17
            by_cases c19:(bt jB o5) < 48
            ·
             rw [if_pos c19] at H
             have GR:decide ((bt jB o5) < 48)=true:=decide_eq_true c19
             clear c19
             obtain rfl:=Option.some.inj H
             have FV:0≤(o5:Int):=of_decide_eq_true (by first|(with_reducible assumption)|assumption)
             have FQ:o5 < (jB.size:Int):=of_decide_eq_true (by first|(with_reducible assumption)|assumption)
             have P5:=kR jB o5
             replace FV:=eq_true FV
             replace FQ:=eq_true FQ
             go_wp2
             go_ret
             exact ⟨by first|rfl|(simp;done)|(simp [*];done),by repeat (first|exact aT.refl _|apply aT.step)⟩
            ·
             rw [if_neg c19] at H
             have GR:decide ((bt jB o5) < 48)=false:=decide_eq_false c19
             clear c19
             by_cases c21:(bt jB o5) > 57
             ·
              rw [if_pos c21] at H
              have aew:decide (57 < (bt jB o5))=true:=decide_eq_true c21
              clear c21
              obtain rfl:=Option.some.inj H
              have FV:0≤(o5:Int):=of_decide_eq_true (by first|(with_reducible assumption)|assumption)
              have FQ:o5 < (jB.size:Int):=of_decide_eq_true (by first|(with_reducible assumption)|assumption)
              have P5:=kR jB o5
              replace FV:=eq_true FV
              replace FQ:=eq_true FQ
              have p20:0≤(o5:Int):=of_decide_eq_true (by first|(with_reducible assumption)|assumption)
              have q20:o5 < (jB.size:Int):=of_decide_eq_true (by first|(with_reducible assumption)|assumption)
              have al6:=kR jB o5
              replace p20:=eq_true p20
              replace q20:=eq_true q20
              go_wp2
              go_ret
              exact ⟨by first|rfl|(simp;done)|(simp [*];done),by repeat (first|exact aT.refl _|apply aT.step)⟩
             ·
              rw [if_neg c21] at H
              have aew:decide (57 < (bt jB o5))=false:=decide_eq_false c21
              clear c21
              have H':=ae.mk H
              clear H
              have FV:0≤(o5:Int):=of_decide_eq_true (by first|(with_reducible assumption)|assumption)
              have FQ:o5 < (jB.size:Int):=of_decide_eq_true (by first|(with_reducible assumption)|assumption)
              have P5:=kR jB o5
              replace FV:=eq_true FV
              replace FQ:=eq_true FQ
              have p20:0≤(o5:Int):=of_decide_eq_true (by first|(with_reducible assumption)|assumption)
              have q20:o5 < (jB.size:Int):=of_decide_eq_true (by first|(with_reducible assumption)|assumption)
              have al6:=kR jB o5
              replace p20:=eq_true p20
              replace q20:=eq_true q20
              go_wp2
              go_roundg k4
              case measure=>have:=yH.out;have:=Ji.out;have:=HJ8.out;have:=HK4.out;omega
              case rel=>exact ⟨(wrap64 (o5+1)),(by first|rfl|(simp;done)|(simp [*];done)),H',⟨by have:=yH.out;have:=Ji.out;have:=HJ8.out;have:=HK4.out;omega⟩,by repeat (first|exact aT.refl _|apply aT.step)⟩
           ·
            rw [if_neg c17] at H
            exact absurd H (by simp)
          ·
           rw [if_neg c16] at H
           have Bo:decide (o5 < (jB.size:Int))=false:=decide_eq_false c16
           clear c16
           obtain rfl:=Option.some.inj H
           go_wp2
           go_ret
           exact ⟨by first|rfl|(simp;done)|(simp [*];done),by repeat (first|exact aT.refl _|apply aT.step)⟩
end Go.Proofs.YtlemecdddhdagaaDoor.P
end
section
namespace Go.Proofs.YtlemecdddhdagaaDoor.P
open Go.RowKit Go.Proofs.af.bD Go.Proofs.af.dB Go.Proofs.af.dM
attribute [local go_sem] lq lg mG mF jY jX lh kZ
mutual
def aH.j0:Nat→ByteArray→Bool→Option (Int × Int)
 | 0,_,_=>none
 | k+1,x4,x5=>aH.l0 k x4 x5 0 0
def aH.j2:Nat→ByteArray→Bool→Int→Option (Int × Int)
 | 0,_,_,_=>none
 | k+1,x4,x5,x6=>if (x4.size:Int) > 19 then (aH.j3 k x5 x6 (decide ((x4.size:Int) > 19))) else (if x6 > 9223372036854775808 then (aH.j3 k x5 x6 (decide (x6 > 9223372036854775808))) else (if x6=9223372036854775808 then (aH.j3 k x5 x6 (!x5)) else (aH.j3 k x5 x6 false)))
def aH.j3:Nat→Bool→Int→Bool→Option (Int × Int)
 | 0,_,_,_=>none
 | k+1,x5,x6,x36=>if x36=true then (some (0,3)) else (if x5=true then (some (wrap64 (-(wrap64 (x6))),0)) else (some (wrap64 (x6),0)))
def aH.l0:Nat→ByteArray→Bool→Int→Int→Option (Int × Int)
 | 0,_,_,_,_=>none
 | k+1,x4,x5,x6,x7=>if x7 < (x4.size:Int) then (if x7 < 19 then (if 0≤x7 then (aH.l0 k x4 x5 (IntKind.u64.wrap ((IntKind.u64.wrap (x6 * 10))+(((bt x4 x7) - 48) % 256))) (wrap64 (x7+1))) else (none)) else (aH.j2 k x4 x5 x6)) else (aH.j2 k x4 x5 x6)
end
def aH.f (k:Nat) (a0:ByteArray):Option (Int × Int):=(aG.f k a0).bind fun t107=>(if t107=true then (if 0 < (a0.size:Int) then (if (bt a0 0)=45 then (if 1≤(a0.size:Int) then (aH.j0 k (a0.extract 1 a0.size) ((bt a0 0) == 45)) else (none)) else (aH.j0 k a0 ((bt a0 0) == 45))) else (none)) else (some (0,4)))
theorem aH.iD:∀ k,(∀ y0 y1,dO (aH.j0 k y0 y1) (aH.j0 (k+1) y0 y1))∧(∀ y0 y1 y2,dO (aH.j2 k y0 y1 y2) (aH.j2 (k+1) y0 y1 y2))∧(∀ y0 y1 y2,dO (aH.j3 k y0 y1 y2) (aH.j3 (k+1) y0 y1 y2))∧(∀ y0 y1 y2 y3,dO (aH.l0 k y0 y1 y2 y3) (aH.l0 (k+1) y0 y1 y2 y3))
 | 0=>⟨fun _ _ r h=>by simp [aH.j0] at h,fun _ _ _ r h=>by simp [aH.j2] at h,fun _ _ _ r h=>by simp [aH.j3] at h,fun _ _ _ _ r h=>by simp [aH.l0] at h⟩
 | k+1=>by
  obtain ⟨lS,ih1,ih2,ih3⟩:=aH.iD k
  refine ⟨?_,?_,?_,?_⟩
  ·
   intro y0 y1
   unfold aH.j0
   repeat' with_reducible first|apply lS|apply ih1|apply ih2|apply ih3|apply aG.mono|exact dO.refl _|exact dO.none _|refine dO.ite ?_ ?_|refine dO.bind ?_ (fun _=>?_)
  ·
   intro y0 y1 y2
   unfold aH.j2
   repeat' with_reducible first|apply lS|apply ih1|apply ih2|apply ih3|apply aG.mono|exact dO.refl _|exact dO.none _|refine dO.ite ?_ ?_|refine dO.bind ?_ (fun _=>?_)
  ·
   intro y0 y1 y2
   unfold aH.j3
   repeat' with_reducible first|apply lS|apply ih1|apply ih2|apply ih3|apply aG.mono|exact dO.refl _|exact dO.none _|refine dO.ite ?_ ?_|refine dO.bind ?_ (fun _=>?_)
  ·
   intro y0 y1 y2 y3
   unfold aH.l0
   repeat' with_reducible first|apply lS|apply ih1|apply ih2|apply ih3|apply aG.mono|exact dO.refl _|exact dO.none _|refine dO.ite ?_ ?_|refine dO.bind ?_ (fun _=>?_)
theorem aH.mono:∀ a0 k,dO (aH.f k a0) (aH.f (k+1) a0):=by
 intro a0 k
 obtain ⟨lS,ih1,ih2,ih3⟩:=aH.iD k
 unfold aH.f
 repeat' with_reducible first|apply lS|apply ih1|apply ih2|apply ih3|apply aG.mono|exact dO.refl _|exact dO.none _|refine dO.ite ?_ ?_|refine dO.bind ?_ (fun _=>?_)
set_option maxHeartbeats 8000000 in
set_option maxRecDepth 100000 in
theorem aH.calls (k:Nat) (a0:ByteArray) (r1:Int) (r2:Int) (w:World) (h:aH.f k a0=some (r1,r2)) :
  Calls Tryd.prog 64 #[.string a0] w fun e w'=>e=.returned (.tuple #[.int .i64 r1,.int .i64 r2])∧aT w w':=by
 have H:((aG.f k a0).bind fun t107=>(if t107=true then (if 0 < (a0.size:Int) then (if (bt a0 0)=45 then (if 1≤(a0.size:Int) then (aH.j0 k (a0.extract 1 a0.size) ((bt a0 0) == 45)) else (none)) else (aH.j0 k a0 ((bt a0 0) == 45))) else (none)) else (some (0,4))))=some (r1,r2):=h
 clear h
 replace H:=Option.bind_eq_some_iff.mp H
 obtain ⟨t107,Su,H⟩:=H
 replace H:(if t107=true then (if 0 < (a0.size:Int) then (if (bt a0 0)=45 then (if 1≤(a0.size:Int) then (aH.j0 k (a0.extract 1 a0.size) ((bt a0 0) == 45)) else (none)) else (aH.j0 k a0 ((bt a0 0) == 45))) else (none)) else (some (0,4)))=some (r1,r2):=H
 have A2:=ae.mk Su
 clear Su
 by_cases c3:t107=true
 ·
  subst c3
  have H1:(if 0 < (a0.size:Int) then (if (bt a0 0)=45 then (if 1≤(a0.size:Int) then (aH.j0 k (a0.extract 1 a0.size) ((bt a0 0) == 45)) else (none)) else (aH.j0 k a0 ((bt a0 0) == 45))) else (none))=some (r1,r2):=by rw [if_pos rfl] at H;exact H
  clear H
  have H:=H1
  clear H1
  by_cases c4:0 < (a0.size:Int)
  ·
   rw [if_pos c4] at H
   have oq:decide (0 < (a0.size:Int))=true:=decide_eq_true c4
   have I7:decide (0 < a0.size)=true:=decide_eq_true (by omega)
   clear c4
   have HC6:=ae.mk H
   clear H
   go_enter Tryd.func64,Tryd.ntmps64
   go_upto_if 15 with (first|((with_reducible refine bz (f:=71) rfl ?_);refine dS (some 9) rfl rfl Tryd.func71 (by kernel_rfl) rfl #[.string a0] rfl (by (try simp only [List.map_toArray,List.map_cons,List.map_nil]);first|done|rfl|(simp only [List.length_drop,List.length_take];rfl)) ?_;(with_reducible refine (aG.calls k a0 true _ A2.out).mono ?_);rintro e w' ⟨rfl,⟨nd,rfl⟩⟩;refine ⟨_,rfl,?_⟩;have p5:0≤(0:Int):=(by omega);have q5:0 < a0.size:=(by have:(0:Int) < (a0.size:Int):=of_decide_eq_true (by first|(with_reducible assumption)|assumption);omega);have hx5:∀ h:0 < a0.size,((a0[0]'h).toNat:Int)=bt a0 0:=kR a0 0;clear p5;have qi5:(0 < (a0.size:Int))=True:=eq_true (of_decide_eq_true (by first|(with_reducible assumption)|assumption));replace q5:=eq_true q5))
   (try simp only [Act.put,List.setIfInBounds_toArray,List.set_cons_zero,List.set_cons_succ])
   go_cut [4] (fun v4 wc=>∃ (kq:Nat) (uC:ByteArray),v4=.string uC∧ae (aH.j0 kq uC ((bt a0 0) == 45)=some (r1,r2))∧ae (kq≤k)∧aT w wc)
   case first =>
    have H:=HC6.out
    clear HC6
    by_cases c7:(bt a0 0)=45
    ·
     rw [if_pos c7] at H
     have oM:((bt a0 0) == 45)=true:=beq_iff_eq.mpr c7
     have xR:((bt a0 0) != 45)=false:=bne_eq_false_iff_eq.mpr c7
     clear c7
     (first|rw [oM]|(simp only [bW,cu];rw [oM])|skip)
     by_cases c8:1≤(a0.size:Int)
     ·
      rw [if_pos c8] at H
      have pM:=eq_true c8
      have zh:decide (1≤(a0.size:Int))=true:=decide_eq_true c8
      clear c8
      have H':=ae.mk H
      clear H
      go_wp2
      refine Met.intro ?_
      go_step
      (repeat apply Exists.intro)
      refine ⟨?rel,?same⟩
      case same=>rw [oM]
      case rel=>exact ⟨_,(a0.extract 1 a0.size),(by first|rfl|(simp;done)|(simp [*];done)),H',⟨by first|omega|exact Nat.le_refl _⟩,by repeat (first|exact aT.refl _|apply aT.step)⟩
     ·
      rw [if_neg c8] at H
      exact absurd H (by simp)
    ·
     rw [if_neg c7] at H
     have oM:((bt a0 0) == 45)=false:=beq_eq_false_iff_ne.mpr c7
     have xR:((bt a0 0) != 45)=true:=bne_iff_ne.mpr c7
     (first|rw [oM]|(simp only [bW,cu];rw [oM])|skip)
     have H':=ae.mk H
     clear H
     go_wp2
     refine Met.intro ?_
     go_step
     (repeat apply Exists.intro)
     refine ⟨?rel,?same⟩
     case same=>rw [oM]
     case rel=>exact ⟨_,(a0),(by first|rfl|(simp;done)|(simp [*];done)),H',⟨by first|omega|exact Nat.le_refl _⟩,by repeat (first|exact aT.refl _|apply aT.step)⟩
   case rest =>
    clear HC6
    obtain ⟨kq,uC,rfl,HA,Ji,⟨mc5,rfl⟩⟩:=hcut
    cases kq with
    | zero=>exact absurd HA.out (by simp [aH.j0])
    | succ kj5 =>
     have H:=HA.out
     clear HA
     simp only [aH.j0] at H
     have HC9:=ae.mk H
     clear H
     go_upto_block 0 with (fail)
     go_cut [6] (fun v6 wc=>∃ (kq:Nat) (xh:Int),v6=.int .u64 xh∧ae (aH.j2 kq uC ((bt a0 0) == 45) xh=some (r1,r2))∧ae (kq≤kj5)∧aT w wc)
     case first =>
      have H:=HC9.out
      clear HC9
      have H':=ae.mk H
      clear H
      go_wp2
      go_loopg [6,7] kj5 (fun kq v6 v7 w'=>∃ (Nz:Int) (wG:Int),v6=.int .u64 Nz∧v7=.int .i64 wG∧ae (aH.l0 kq uC ((bt a0 0) == 45) Nz wG=some (r1,r2))∧ae (kq≤kj5)∧aT w w')
      case atStart=>exact ⟨(0),(0),(by first|rfl|(simp;done)|(simp [*];done)),(by first|rfl|(simp;done)|(simp [*];done)),H',⟨Nat.le_refl _⟩,by repeat (first|exact aT.refl _|apply aT.step)⟩
      case round =>
       clear H'
       obtain ⟨Nz,wG,rfl,rfl,HA,wK,⟨m2,rfl⟩⟩:=hrel
       cases gk with
       | zero=>exact absurd HA.out (by simp [aH.l0])
       | succ k2 =>
        have H:=HA.out
        clear HA
        simp only [aH.l0] at H
        by_cases c10:wG < (uC.size:Int)
        ·
         rw [if_pos c10] at H
         have pR:decide (wG < (uC.size:Int))=true:=decide_eq_true c10
         clear c10
         (first|rw [pR]|(simp only [bW,cu];rw [pR])|skip)
         by_cases c11:wG < 19
         ·
          rw [if_pos c11] at H
          have uU:decide (wG < 19)=true:=decide_eq_true c11
          clear c11
          by_cases c12:0≤wG
          ·
           rw [if_pos c12] at H
           have wY:decide (0≤wG)=true:=decide_eq_true c12
           clear c12
           have H':=ae.mk H
           clear H
           have p13:0≤(wG:Int):=of_decide_eq_true (by first|(with_reducible assumption)|assumption)
           have q13:wG < (uC.size:Int):=of_decide_eq_true (by first|(with_reducible assumption)|assumption)
           have Uf:=kR uC wG
           replace p13:=eq_true p13
           replace q13:=eq_true q13
           go_wp2
           go_roundg k2
           case measure=>have:=Ji.out;have:=wK.out;omega
           case rel=>exact ⟨(IntKind.u64.wrap ((IntKind.u64.wrap (Nz * 10))+(((bt uC wG) - 48) % 256))),(wrap64 (wG+1)),(by first|rfl|(simp;done)|(simp [*];done)),(by first|rfl|(simp;done)|(simp [*];done)),H',⟨by have:=Ji.out;have:=wK.out;omega⟩,by repeat (first|exact aT.refl _|apply aT.step)⟩
          ·
           rw [if_neg c12] at H
           exact absurd H (by simp)
         ·
          rw [if_neg c11] at H
          have uU:decide (wG < 19)=false:=decide_eq_false c11
          clear c11
          have H':=ae.mk H
          clear H
          go_wp2
          go_meet
          case rel=>exact ⟨_,(Nz),(by first|rfl|(simp;done)|(simp [*];done)),H',⟨by have:=Ji.out;have:=wK.out;first|omega|exact Nat.le_refl _⟩,by repeat (first|exact aT.refl _|apply aT.step)⟩
        ·
         rw [if_neg c10] at H
         have pR:decide (wG < (uC.size:Int))=false:=decide_eq_false c10
         clear c10
         (first|rw [pR]|(simp only [bW,cu];rw [pR])|skip)
         have H':=ae.mk H
         clear H
         go_wp2
         go_meet
         case rel=>exact ⟨_,(Nz),(by first|rfl|(simp;done)|(simp [*];done)),H',⟨by have:=Ji.out;have:=wK.out;first|omega|exact Nat.le_refl _⟩,by repeat (first|exact aT.refl _|apply aT.step)⟩
     case rest =>
      clear HC9
      obtain ⟨kq,xh,rfl,HA,HJ8,⟨mc8,rfl⟩⟩:=hcut
      cases kq with
      | zero=>exact absurd HA.out (by simp [aH.j2])
      | succ kj8 =>
       have H:=HA.out
       clear HA
       simp only [aH.j2] at H
       have Jm:=ae.mk H
       clear H
       go_upto_if 36 with (fail)
       go_cut [36] (fun v36 wc=>∃ (kq:Nat) (DV:Bool),v36=.bool DV∧ae (aH.j3 kq ((bt a0 0) == 45) xh DV=some (r1,r2))∧ae (kq≤kj8)∧aT w wc)
       case first =>
        have H:=Jm.out
        clear Jm
        by_cases c15:(uC.size:Int) > 19
        ·
         rw [if_pos c15] at H
         have qK:decide (19 < (uC.size:Int))=true:=decide_eq_true c15
         have GV:decide (19 < uC.size)=true:=decide_eq_true (by omega)
         clear c15
         (first|rw [qK]|(simp only [bW,cu];rw [qK])|skip)
         have H':=ae.mk H
         clear H
         go_wp2
         go_meet
         case rel=>exact ⟨_,(decide ((uC.size:Int) > 19)),(by first|rfl|(simp;done)|(simp [*];done)),H',⟨by have:=Ji.out;have:=HJ8.out;first|omega|exact Nat.le_refl _⟩,by repeat (first|exact aT.refl _|apply aT.step)⟩
        ·
         rw [if_neg c15] at H
         have qK:decide (19 < (uC.size:Int))=false:=decide_eq_false c15
         have GV:decide (19 < uC.size)=false:=decide_eq_false (by omega)
         clear c15
         (first|rw [qK]|(simp only [bW,cu];rw [qK])|skip)
         by_cases c16:xh > 9223372036854775808
         ·
          rw [if_pos c16] at H
          have Bo:decide (9223372036854775808 < xh)=true:=decide_eq_true c16
          clear c16
          have H':=ae.mk H
          clear H
          go_wp2
          go_meet
          case rel=>exact ⟨_,(decide (xh > 9223372036854775808)),(by first|rfl|(simp;done)|(simp [*];done)),H',⟨by have:=Ji.out;have:=HJ8.out;first|omega|exact Nat.le_refl _⟩,by repeat (first|exact aT.refl _|apply aT.step)⟩
         ·
          rw [if_neg c16] at H
          have Bo:decide (9223372036854775808 < xh)=false:=decide_eq_false c16
          clear c16
          by_cases c17:xh=9223372036854775808
          ·
           rw [if_pos c17] at H
           have yQ:(xh == 9223372036854775808)=true:=beq_iff_eq.mpr c17
           have GU:(xh != 9223372036854775808)=false:=bne_eq_false_iff_eq.mpr c17
           clear c17
           have H':=ae.mk H
           clear H
           go_wp2
           go_meet
           case rel=>exact ⟨_,(!((bt a0 0) == 45)),(by first|rfl|(simp;done)|(simp [*];done)),H',⟨by have:=Ji.out;have:=HJ8.out;first|omega|exact Nat.le_refl _⟩,by repeat (first|exact aT.refl _|apply aT.step)⟩
          ·
           rw [if_neg c17] at H
           have yQ:(xh == 9223372036854775808)=false:=beq_eq_false_iff_ne.mpr c17
           have GU:(xh != 9223372036854775808)=true:=bne_iff_ne.mpr c17
           have H':=ae.mk H
           clear H
           go_wp2
           go_meet
           case rel=>exact ⟨_,(false),(by first|rfl|(simp;done)|(simp [*];done)),H',⟨by have:=Ji.out;have:=HJ8.out;first|omega|exact Nat.le_refl _⟩,by repeat (first|exact aT.refl _|apply aT.step)⟩
       case rest =>
        clear Jm
        obtain ⟨kq,DV,rfl,HA,Hf,⟨aqw,rfl⟩⟩:=hcut
        cases kq with
        | zero=>exact absurd HA.out (by simp [aH.j3])
        | succ TZ =>
         have H:=HA.out
         clear HA
         simp only [aH.j3] at H
         by_cases c18:DV=true
         ·
          subst c18
          have H1:(some (0,3))=some (r1,r2):=by rw [if_pos rfl] at H;exact H
          clear H
          have H:=H1
          clear H1
          simp only [Option.some.injEq,Prod.mk.injEq] at H
          obtain ⟨rfl,rfl⟩:=H
          go_wp2
          go_ret2
          exact ⟨by first|rfl|(simp;done)|(simp [*];done),by repeat (first|exact aT.refl _|apply aT.step)⟩
         ·
          replace c18:=Bool.eq_false_iff.mpr c18
          subst c18
          have H1:(if ((bt a0 0) == 45)=true then (some (wrap64 (-(wrap64 (xh))),0)) else (some (wrap64 (xh),0)))=some (r1,r2):=by rw [if_neg (show ¬ (false=true) by decide)] at H;exact H
          clear H
          have H:=H1
          clear H1
          by_cases c19:((bt a0 0) == 45)=true
          ·
           rw [if_pos c19] at H
           have GR:((bt a0 0) == 45)=true:=c19
           (try (have aez:decide ((bt a0 0)=45)=true:=by simpa using c19))
           (try (have aey:((bt a0 0) == 45)=true:=by simpa using c19))
           clear c19
           simp only [Option.some.injEq,Prod.mk.injEq] at H
           obtain ⟨rfl,rfl⟩:=H
           go_wp2
           go_ret2
           exact ⟨by first|rfl|(simp;done)|(simp [*];done),by repeat (first|exact aT.refl _|apply aT.step)⟩
          ·
           rw [if_neg c19] at H
           have GR:((bt a0 0) == 45)=false:=by simpa using c19
           (try (have aez:decide ((bt a0 0)=45)=false:=by simpa using c19))
           (try (have aey:((bt a0 0) == 45)=false:=by simpa using c19))
           (try (have api:¬ ((bt a0 0)=45):=by simpa using c19))
           clear c19
           simp only [Option.some.injEq,Prod.mk.injEq] at H
           obtain ⟨rfl,rfl⟩:=H
           go_wp2
           go_ret2
           exact ⟨by first|rfl|(simp;done)|(simp [*];done),by repeat (first|exact aT.refl _|apply aT.step)⟩
  ·
   rw [if_neg c4] at H
   exact absurd H (by simp)
 ·
  replace c3:=Bool.eq_false_iff.mpr c3
  subst c3
  have H1:(some (0,4))=some (r1,r2):=by rw [if_neg (show ¬ (false=true) by decide)] at H;exact H
  clear H
  have H:=H1
  clear H1
  simp only [Option.some.injEq,Prod.mk.injEq] at H
  obtain ⟨rfl,rfl⟩:=H
  go_enter Tryd.func64,Tryd.ntmps64
  go_wp2_with (first|((with_reducible refine bz (f:=71) rfl ?_);refine dS (some 9) rfl rfl Tryd.func71 (by kernel_rfl) rfl #[.string a0] rfl (by (try simp only [List.map_toArray,List.map_cons,List.map_nil]);first|done|rfl|(simp only [List.length_drop,List.length_take];rfl)) ?_;(with_reducible refine (aG.calls k a0 false _ A2.out).mono ?_);rintro e w' ⟨rfl,⟨nd,rfl⟩⟩;refine ⟨_,rfl,?_⟩))
  go_ret2
  exact ⟨by first|rfl|(simp;done)|(simp [*];done),by repeat (first|exact aT.refl _|apply aT.step)⟩
def bf.j0:Nat→Int→Int→Bool→Int→Int→Int→Int→Int→Option (Int × Int × Int × Int × Int × Bool)
 | 0,_,_,_,_,_,_,_,_=>none
 | k+1,x1,x2,x18,zo,DZ,DY,DX,zn=>if x18=true then (some (zo,DZ,DY,DX,zn,false)) else (if x1=97 then (some (zo,(x2) % 256,DY,DX,zn,true)) else (if x1=98 then (some (zo,DZ,(x2) % 256,DX,zn,true)) else (some (zo,DZ,DY,(x2) % 256,zn,true))))
def bf.f (k:Nat) (dC:Int) (aU:Int) (aV:Int) (fC:Int) (fK:Int) (a1:Int) (a2:Int):Option (Int × Int × Int × Int × Int × Bool):=if a1=110 then (some (dC,aU,aV,fC,a2,true)) else (if a2 < 0 then (bf.j0 k a1 a2 true dC aU aV fC fK) else (bf.j0 k a1 a2 (decide (a2 > 255)) dC aU aV fC fK))
theorem bf.iD:∀ k,(∀ y0 y1 y2 y3 y4 y5 y6 y7,dO (bf.j0 k y0 y1 y2 y3 y4 y5 y6 y7) (bf.j0 (k+1) y0 y1 y2 y3 y4 y5 y6 y7))
 | 0=>fun _ _ _ _ _ _ _ _ r h=>by simp [bf.j0] at h
 | k+1=>by
  have lS:=bf.iD k
  ·
   intro y0 y1 y2 y3 y4 y5 y6 y7
   unfold bf.j0
   repeat' with_reducible first|apply lS|exact dO.refl _|exact dO.none _|refine dO.ite ?_ ?_|refine dO.bind ?_ (fun _=>?_)
theorem bf.mono:∀ a0 a1 a2 a3 a4 a5 a6 k,dO (bf.f k a0 a1 a2 a3 a4 a5 a6) (bf.f (k+1) a0 a1 a2 a3 a4 a5 a6):=by
 intro a0 a1 a2 a3 a4 a5 a6 k
 have lS:=bf.iD k
 unfold bf.f
 repeat' with_reducible first|apply lS|exact dO.refl _|exact dO.none _|refine dO.ite ?_ ?_|refine dO.bind ?_ (fun _=>?_)
set_option maxHeartbeats 8000000 in
set_option maxRecDepth 100000 in
theorem bf.calls (k:Nat) (dC:Int) (aU:Int) (aV:Int) (fC:Int) (fK:Int) (a1:Int) (a2:Int) (r1:Int) (r2:Int) (r3:Int) (r4:Int) (r5:Int) (r6:Bool) (w:World) (h:bf.f k dC aU aV fC fK a1 a2=some (r1,r2,r3,r4,r5,r6)) :
  Calls Tryd.prog 65 #[.agg #[.int .u8 dC,.int .u8 aU,.int .u8 aV,.int .u8 fC,.int .i64 fK],.int .u8 a1,.int .i64 a2] w fun e w'=>e=.returned (.tuple #[.agg #[.int .u8 r1,.int .u8 r2,.int .u8 r3,.int .u8 r4,.int .i64 r5],.bool r6])∧Below w.heap.size w w':=by
 have BV:=Tryd.underlying55
 have HB:=ae.mk (Below.refl w.heap.size w)
 have H:(if a1=110 then (some (dC,aU,aV,fC,a2,true)) else (if a2 < 0 then (bf.j0 k a1 a2 true dC aU aV fC fK) else (bf.j0 k a1 a2 (decide (a2 > 255)) dC aU aV fC fK)))=some (r1,r2,r3,r4,r5,r6):=h
 clear h
 by_cases c4:a1=110
 ·
  rw [if_pos c4] at H
  have oq:(a1 == 110)=true:=beq_iff_eq.mpr c4
  have I7:(a1 != 110)=false:=bne_eq_false_iff_eq.mpr c4
  clear c4
  simp only [Option.some.injEq,Prod.mk.injEq] at H
  obtain ⟨rfl,rfl,rfl,rfl,rfl,rfl⟩:=H
  go_enter Tryd.func65,Tryd.ntmps65
  go_wp2_with (first|((with_reducible refine bI (N:=3) rfl ?_);refine fF ?hg (N:=3) ?hd (cs:=#[.int .u8 dC,.int .u8 aU,.int .u8 aV,.int .u8 fC,.int .i64 fK]) (t:=55) ?hr ?_;(case hd=>rfl);(case hg=>rfl);(case hr=>first|(go_simp;done)|(go_simp;rfl));intro wX hg w5 hbox hb;have dV:=ae.mk (bn (by repeat (first|(with_reducible first|exact HB.out|apply ah|apply ag|apply ai)|exact HB.out)) hb);have dU:=ae.mk (hbox);have dR:=ae.mk ((by rw [hg];exact (bU (by repeat (first|(with_reducible first|exact HB.out|apply ah|apply ag|apply ai)|exact HB.out))):w.heap.size≤wX));have gZ:=dR;clear HB;have HB:=dV;have qE:=dU;have afi:=dR;have uw:=gZ;clear dV dU dR gZ;clear hb hbox hg)|((with_reducible refine bI (N:=6) rfl ?_);refine fF ?hg (N:=6) ?hd (cs:=#[.int .u8 0,.int .u8 0,.int .u8 0,.int .u8 0,.int .i64 0]) (t:=55) ?hr ?_;(case hd=>rfl);(case hg=>rfl);(case hr=>first|(go_simp;done)|(go_simp;rfl));intro uP hg w6 hbox hb;have dV:=ae.mk (bg (g:=wX) (o:=.cells #[.int .u8 dC,.int .u8 aU,.int .u8 aV,.int .u8 fC,.int .i64 fK] 55 (0,0)) (by (with_reducible repeat (first|refine au ?_ _|refine ay ?_|refine ak ?_ _));exact qE.out) hb);have dU:=ae.mk (bn (by repeat (first|(with_reducible first|exact HB.out|apply ah|apply ag|apply ai|refine aj ?_ uw.out)|exact HB.out)) hb);have dR:=ae.mk (hbox);have gZ:=ae.mk ((by rw [hg];exact (bU (by repeat (first|(with_reducible first|exact HB.out|apply ah|apply ag|apply ai|refine aj ?_ uw.out)|exact HB.out))):w.heap.size≤uP));have l9:=gZ;have mY:=ae.mk ((by rw [hg];exact Nat.ne_of_lt (kK (g:=wX) (o:=.cells #[.int .u8 dC,.int .u8 aU,.int .u8 aV,.int .u8 fC,.int .i64 fK] 55 (0,0)) (by (with_reducible repeat (first|refine au ?_ _|refine ay ?_|refine ak ?_ _));exact qE.out)):wX ≠ uP));have nY:=ae.mk mY.out.symm;clear qE;clear HB;have qE:=dV;have HB:=dU;have rW:=dR;have afh:=gZ;have yX:=l9;have qX:=mY;have ni:=nY;clear dV dU dR gZ l9 mY nY;clear hb hbox hg;have aqU:=qX.out;have aqT:=ni.out;obtain ⟨Qq,Qp,Qo,Qn,aai,Qi,Qh,Qg,Qe,aae⟩:=jZ qE.out;obtain ⟨IY,IX,IW,IV,amr,IQ,IP,IM,IL,amg⟩:=jZ rW.out))
  refine bodyPost_ret (mr rfl _ _ uP 55 #[.int .u8 dC,.int .u8 aU,.int .u8 aV,.int .u8 fC,.int .i64 a2] (0,0) _ rfl (by (with_reducible repeat (first|refine au ?_ _|refine ay ?_|refine ak ?_ _));refine dQ (cs:=#[.int .u8 dC,.int .u8 aU,.int .u8 aV,.int .u8 fC,.int .i64 0]) ?_ 4 _ rfl;(with_reducible repeat (first|refine au ?_ _|refine ay ?_|refine ak ?_ _));refine dQ (cs:=#[.int .u8 dC,.int .u8 aU,.int .u8 aV,.int .u8 0,.int .i64 0]) ?_ 3 _ rfl;(with_reducible repeat (first|refine au ?_ _|refine ay ?_|refine ak ?_ _));refine dQ (cs:=#[.int .u8 dC,.int .u8 aU,.int .u8 0,.int .u8 0,.int .i64 0]) ?_ 2 _ rfl;(with_reducible repeat (first|refine au ?_ _|refine ay ?_|refine ak ?_ _));refine dQ (cs:=#[.int .u8 dC,.int .u8 0,.int .u8 0,.int .u8 0,.int .i64 0]) ?_ 1 _ rfl;(with_reducible repeat (first|refine au ?_ _|refine ay ?_|refine ak ?_ _));refine dQ (cs:=#[.int .u8 0,.int .u8 0,.int .u8 0,.int .u8 0,.int .i64 0]) ?_ 0 _ rfl;(with_reducible repeat (first|refine au ?_ _|refine ay ?_|refine ak ?_ _));refine fV ?_ ni.out _;(with_reducible repeat (first|refine au ?_ _|refine ay ?_|refine ak ?_ _));exact rW.out) Tryd.underlying55 rfl (by kernel_rfl)) rfl ?_
  exact ⟨by first|rfl|(simp [aQ,aN] <;> rfl)|(simp [*,aQ,aN] <;> rfl),by repeat (first|(with_reducible first|exact HB.out|apply ah|apply ag|apply ai|refine aj ?_ uw.out|refine aj ?_ yX.out)|exact HB.out)⟩
 ·
  rw [if_neg c4] at H
  have oq:(a1 == 110)=false:=beq_eq_false_iff_ne.mpr c4
  have I7:(a1 != 110)=true:=bne_iff_ne.mpr c4
  have abh:=ae.mk H
  clear H
  go_enter Tryd.func65,Tryd.ntmps65
  go_upto_region 4 with (first|((with_reducible refine bI (N:=3) rfl ?_);refine fF ?hg (N:=3) ?hd (cs:=#[.int .u8 dC,.int .u8 aU,.int .u8 aV,.int .u8 fC,.int .i64 fK]) (t:=55) ?hr ?_;(case hd=>rfl);(case hg=>rfl);(case hr=>first|(go_simp;done)|(go_simp;rfl));intro wX hg w11 hbox hb;have dV:=ae.mk (bn (by repeat (first|(with_reducible first|exact HB.out|apply ah|apply ag|apply ai)|exact HB.out)) hb);have dU:=ae.mk (hbox);have dR:=ae.mk ((by rw [hg];exact (bU (by repeat (first|(with_reducible first|exact HB.out|apply ah|apply ag|apply ai)|exact HB.out))):w.heap.size≤wX));have gZ:=dR;clear HB;have HB:=dV;have qE:=dU;have afi:=dR;have uw:=gZ;clear dV dU dR gZ;clear hb hbox hg)|((with_reducible refine bI (N:=6) rfl ?_);refine fF ?hg (N:=6) ?hd (cs:=#[.int .u8 0,.int .u8 0,.int .u8 0,.int .u8 0,.int .i64 0]) (t:=55) ?hr ?_;(case hd=>rfl);(case hg=>rfl);(case hr=>first|(go_simp;done)|(go_simp;rfl));intro uP hg w12 hbox hb;have dV:=ae.mk (bg (g:=wX) (o:=.cells #[.int .u8 dC,.int .u8 aU,.int .u8 aV,.int .u8 fC,.int .i64 fK] 55 (0,0)) (by (with_reducible repeat (first|refine au ?_ _|refine ay ?_|refine ak ?_ _));exact qE.out) hb);have dU:=ae.mk (bn (by repeat (first|(with_reducible first|exact HB.out|apply ah|apply ag|apply ai|refine aj ?_ uw.out)|exact HB.out)) hb);have dR:=ae.mk (hbox);have gZ:=ae.mk ((by rw [hg];exact (bU (by repeat (first|(with_reducible first|exact HB.out|apply ah|apply ag|apply ai|refine aj ?_ uw.out)|exact HB.out))):w.heap.size≤uP));have l9:=gZ;have mY:=ae.mk ((by rw [hg];exact Nat.ne_of_lt (kK (g:=wX) (o:=.cells #[.int .u8 dC,.int .u8 aU,.int .u8 aV,.int .u8 fC,.int .i64 fK] 55 (0,0)) (by (with_reducible repeat (first|refine au ?_ _|refine ay ?_|refine ak ?_ _));exact qE.out)):wX ≠ uP));have nY:=ae.mk mY.out.symm;clear qE;clear HB;have qE:=dV;have HB:=dU;have rW:=dR;have afh:=gZ;have yX:=l9;have qX:=mY;have ni:=nY;clear dV dU dR gZ l9 mY nY;clear hb hbox hg))
  (try simp only [Act.put,List.setIfInBounds_toArray,List.set_cons_zero,List.set_cons_succ])
  go_cut [18] (fun v18 wc=>∃ (kq:Nat) (Jr:Bool),v18=.bool Jr∧ae (bf.j0 kq a1 a2 Jr dC aU aV fC fK=some (r1,r2,r3,r4,r5,r6))∧ae (kq≤k)∧ae (wc.heap[wX]? = some (.cells #[.int .u8 dC,.int .u8 aU,.int .u8 aV,.int .u8 fC,.int .i64 fK] 55 (0,0)))∧ae (wc.heap[uP]? = some (.cells #[.int .u8 0,.int .u8 0,.int .u8 0,.int .u8 0,.int .i64 0] 55 (0,0)))∧ae (Below w.heap.size w wc))
  case first =>
   have H:=abh.out
   clear abh
   by_cases c13:a2 < 0
   ·
    rw [if_pos c13] at H
    have mQ:decide (a2 < 0)=true:=decide_eq_true c13
    clear c13
    (first|rw [mQ]|(simp only [bW,cu];rw [mQ])|skip)
    have H':=ae.mk H
    clear H
    go_wp2
    go_meet
    case rel=>exact ⟨_,(true),(by first|rfl|(simp;done)|(simp [*];done)),H',⟨by first|omega|exact Nat.le_refl _⟩,⟨by (with_reducible repeat (first|refine au ?_ _|refine ay ?_|refine ak ?_ _));exact qE.out⟩,⟨by (with_reducible repeat (first|refine au ?_ _|refine ay ?_|refine ak ?_ _));exact rW.out⟩,⟨by repeat (first|(with_reducible first|exact HB.out|apply ah|apply ag|apply ai|refine aj ?_ uw.out|refine aj ?_ yX.out)|exact HB.out)⟩⟩
   ·
    rw [if_neg c13] at H
    have mQ:decide (a2 < 0)=false:=decide_eq_false c13
    clear c13
    (first|rw [mQ]|(simp only [bW,cu];rw [mQ])|skip)
    have H':=ae.mk H
    clear H
    go_wp2
    go_meet
    case rel=>exact ⟨_,(decide (a2 > 255)),(by first|rfl|(simp;done)|(simp [*];done)),H',⟨by first|omega|exact Nat.le_refl _⟩,⟨by (with_reducible repeat (first|refine au ?_ _|refine ay ?_|refine ak ?_ _));exact qE.out⟩,⟨by (with_reducible repeat (first|refine au ?_ _|refine ay ?_|refine ak ?_ _));exact rW.out⟩,⟨by repeat (first|(with_reducible first|exact HB.out|apply ah|apply ag|apply ai|refine aj ?_ uw.out|refine aj ?_ yX.out)|exact HB.out)⟩⟩
  case rest =>
   clear abh
   obtain ⟨kq,Jr,rfl,HA,HJ9,qE,rW,HB⟩:=hcut
   cases kq with
   | zero=>exact absurd HA.out (by simp [bf.j0])
   | succ kj9 =>
    have H:=HA.out
    clear HA
    simp only [bf.j0] at H
    by_cases c14:Jr=true
    ·
     subst c14
     have H1:(some (dC,aU,aV,fC,fK,false))=some (r1,r2,r3,r4,r5,r6):=by rw [if_pos rfl] at H;exact H
     clear H
     have H:=H1
     clear H1
     simp only [Option.some.injEq,Prod.mk.injEq] at H
     obtain ⟨rfl,rfl,rfl,rfl,rfl,rfl⟩:=H
     have acD:=qX.out
     have acs:=ni.out
     obtain ⟨EH,EG,EF,EE,MF,Eu,Et,Es,Ep,La⟩:=jZ qE.out
     obtain ⟨MC,Me,Md,Mc,Xq,KZ,KY,KX,KW,VB⟩:=jZ rW.out
     go_wp2
     refine bodyPost_ret (mr rfl _ _ uP 55 #[.int .u8 dC,.int .u8 aU,.int .u8 aV,.int .u8 fC,.int .i64 fK] (0,0) _ rfl (by (with_reducible repeat (first|refine au ?_ _|refine ay ?_|refine ak ?_ _));refine dQ (cs:=#[.int .u8 dC,.int .u8 aU,.int .u8 aV,.int .u8 fC,.int .i64 0]) ?_ 4 _ rfl;(with_reducible repeat (first|refine au ?_ _|refine ay ?_|refine ak ?_ _));refine dQ (cs:=#[.int .u8 dC,.int .u8 aU,.int .u8 aV,.int .u8 0,.int .i64 0]) ?_ 3 _ rfl;(with_reducible repeat (first|refine au ?_ _|refine ay ?_|refine ak ?_ _));refine dQ (cs:=#[.int .u8 dC,.int .u8 aU,.int .u8 0,.int .u8 0,.int .i64 0]) ?_ 2 _ rfl;(with_reducible repeat (first|refine au ?_ _|refine ay ?_|refine ak ?_ _));refine dQ (cs:=#[.int .u8 dC,.int .u8 0,.int .u8 0,.int .u8 0,.int .i64 0]) ?_ 1 _ rfl;(with_reducible repeat (first|refine au ?_ _|refine ay ?_|refine ak ?_ _));refine dQ (cs:=#[.int .u8 0,.int .u8 0,.int .u8 0,.int .u8 0,.int .i64 0]) ?_ 0 _ rfl;(with_reducible repeat (first|refine au ?_ _|refine ay ?_|refine ak ?_ _));exact rW.out) Tryd.underlying55 rfl (by kernel_rfl)) rfl ?_
     exact ⟨by first|rfl|(simp [aQ,aN] <;> rfl)|(simp [*,aQ,aN] <;> rfl),by repeat (first|(with_reducible first|exact HB.out|apply ah|apply ag|apply ai|refine aj ?_ uw.out|refine aj ?_ yX.out)|exact HB.out)⟩
    ·
     replace c14:=Bool.eq_false_iff.mpr c14
     subst c14
     have H1:(if a1=97 then (some (dC,(a2) % 256,aV,fC,fK,true)) else (if a1=98 then (some (dC,aU,(a2) % 256,fC,fK,true)) else (some (dC,aU,aV,(a2) % 256,fK,true))))=some (r1,r2,r3,r4,r5,r6):=by rw [if_neg (show ¬ (false=true) by decide)] at H;exact H
     clear H
     have H:=H1
     clear H1
     by_cases c18:a1=97
     ·
      rw [if_pos c18] at H
      have YZ:(a1 == 97)=true:=beq_iff_eq.mpr c18
      have aeA:(a1 != 97)=false:=bne_eq_false_iff_eq.mpr c18
      clear c18
      simp only [Option.some.injEq,Prod.mk.injEq] at H
      obtain ⟨rfl,rfl,rfl,rfl,rfl,rfl⟩:=H
      have aoG:=qX.out
      have aof:=ni.out
      obtain ⟨Xo,Xn,Xm,Xl,alq,Vz,Vy,Vx,Vw,aja⟩:=jZ qE.out
      obtain ⟨Xk,Xj,Xi,Xh,alp,Vu,Vt,Vs,Vr,ai9⟩:=jZ rW.out
      go_wp2
      refine bodyPost_ret (mr rfl _ _ uP 55 #[.int .u8 dC,.int .u8 ((a2) % 256),.int .u8 aV,.int .u8 fC,.int .i64 fK] (0,0) _ rfl (by (with_reducible repeat (first|refine au ?_ _|refine ay ?_|refine ak ?_ _));refine dQ (cs:=#[.int .u8 dC,.int .u8 ((a2) % 256),.int .u8 aV,.int .u8 fC,.int .i64 0]) ?_ 4 _ rfl;(with_reducible repeat (first|refine au ?_ _|refine ay ?_|refine ak ?_ _));refine dQ (cs:=#[.int .u8 dC,.int .u8 ((a2) % 256),.int .u8 aV,.int .u8 0,.int .i64 0]) ?_ 3 _ rfl;(with_reducible repeat (first|refine au ?_ _|refine ay ?_|refine ak ?_ _));refine dQ (cs:=#[.int .u8 dC,.int .u8 ((a2) % 256),.int .u8 0,.int .u8 0,.int .i64 0]) ?_ 2 _ rfl;(with_reducible repeat (first|refine au ?_ _|refine ay ?_|refine ak ?_ _));refine dQ (cs:=#[.int .u8 dC,.int .u8 0,.int .u8 0,.int .u8 0,.int .i64 0]) ?_ 1 _ rfl;(with_reducible repeat (first|refine au ?_ _|refine ay ?_|refine ak ?_ _));refine dQ (cs:=#[.int .u8 0,.int .u8 0,.int .u8 0,.int .u8 0,.int .i64 0]) ?_ 0 _ rfl;(with_reducible repeat (first|refine au ?_ _|refine ay ?_|refine ak ?_ _));refine fV ?_ ni.out _;(with_reducible repeat (first|refine au ?_ _|refine ay ?_|refine ak ?_ _));exact rW.out) Tryd.underlying55 rfl (by kernel_rfl)) rfl ?_
      exact ⟨by first|rfl|(simp [aQ,aN] <;> rfl)|(simp [*,aQ,aN] <;> rfl),by repeat (first|(with_reducible first|exact HB.out|apply ah|apply ag|apply ai|refine aj ?_ uw.out|refine aj ?_ yX.out)|exact HB.out)⟩
     ·
      rw [if_neg c18] at H
      have YZ:(a1 == 97)=false:=beq_eq_false_iff_ne.mpr c18
      have aeA:(a1 != 97)=true:=bne_iff_ne.mpr c18
      by_cases qU:a1=98
      ·
       rw [if_pos qU] at H
       have Rh:(a1 == 98)=true:=beq_iff_eq.mpr qU
       have Rf:(a1 != 98)=false:=bne_eq_false_iff_eq.mpr qU
       clear qU
       simp only [Option.some.injEq,Prod.mk.injEq] at H
       obtain ⟨rfl,rfl,rfl,rfl,rfl,rfl⟩:=H
       have acC:=qX.out
       have acr:=ni.out
       obtain ⟨Xg,Xf,Xe,Xd,Xc,Vq,Vp,Vo,Vm,Vl⟩:=jZ qE.out
       obtain ⟨zM,zL,zK,zJ,ED,zD,zC,zB,zA,Eo⟩:=jZ rW.out
       go_wp2
       refine bodyPost_ret (mr rfl _ _ uP 55 #[.int .u8 dC,.int .u8 aU,.int .u8 ((a2) % 256),.int .u8 fC,.int .i64 fK] (0,0) _ rfl (by (with_reducible repeat (first|refine au ?_ _|refine ay ?_|refine ak ?_ _));refine dQ (cs:=#[.int .u8 dC,.int .u8 aU,.int .u8 ((a2) % 256),.int .u8 fC,.int .i64 0]) ?_ 4 _ rfl;(with_reducible repeat (first|refine au ?_ _|refine ay ?_|refine ak ?_ _));refine dQ (cs:=#[.int .u8 dC,.int .u8 aU,.int .u8 ((a2) % 256),.int .u8 0,.int .i64 0]) ?_ 3 _ rfl;(with_reducible repeat (first|refine au ?_ _|refine ay ?_|refine ak ?_ _));refine dQ (cs:=#[.int .u8 dC,.int .u8 aU,.int .u8 0,.int .u8 0,.int .i64 0]) ?_ 2 _ rfl;(with_reducible repeat (first|refine au ?_ _|refine ay ?_|refine ak ?_ _));refine dQ (cs:=#[.int .u8 dC,.int .u8 0,.int .u8 0,.int .u8 0,.int .i64 0]) ?_ 1 _ rfl;(with_reducible repeat (first|refine au ?_ _|refine ay ?_|refine ak ?_ _));refine dQ (cs:=#[.int .u8 0,.int .u8 0,.int .u8 0,.int .u8 0,.int .i64 0]) ?_ 0 _ rfl;(with_reducible repeat (first|refine au ?_ _|refine ay ?_|refine ak ?_ _));refine fV ?_ ni.out _;(with_reducible repeat (first|refine au ?_ _|refine ay ?_|refine ak ?_ _));exact rW.out) Tryd.underlying55 rfl (by kernel_rfl)) rfl ?_
       exact ⟨by first|rfl|(simp [aQ,aN] <;> rfl)|(simp [*,aQ,aN] <;> rfl),by repeat (first|(with_reducible first|exact HB.out|apply ah|apply ag|apply ai|refine aj ?_ uw.out|refine aj ?_ yX.out)|exact HB.out)⟩
      ·
       rw [if_neg qU] at H
       have Rh:(a1 == 98)=false:=beq_eq_false_iff_ne.mpr qU
       have Rf:(a1 != 98)=true:=bne_iff_ne.mpr qU
       simp only [Option.some.injEq,Prod.mk.injEq] at H
       obtain ⟨rfl,rfl,rfl,rfl,rfl,rfl⟩:=H
       have aoE:=qX.out
       have aod:=ni.out
       obtain ⟨aln,alm,alk,alj,ali,ai7,ai6,ai5,ai4,ai3⟩:=jZ qE.out
       obtain ⟨LU,LQ,LP,LM,Xb,KJ,KI,KH,KG,Vk⟩:=jZ rW.out
       go_wp2
       refine bodyPost_ret (mr rfl _ _ uP 55 #[.int .u8 dC,.int .u8 aU,.int .u8 aV,.int .u8 ((a2) % 256),.int .i64 fK] (0,0) _ rfl (by (with_reducible repeat (first|refine au ?_ _|refine ay ?_|refine ak ?_ _));refine dQ (cs:=#[.int .u8 dC,.int .u8 aU,.int .u8 aV,.int .u8 ((a2) % 256),.int .i64 0]) ?_ 4 _ rfl;(with_reducible repeat (first|refine au ?_ _|refine ay ?_|refine ak ?_ _));refine dQ (cs:=#[.int .u8 dC,.int .u8 aU,.int .u8 aV,.int .u8 0,.int .i64 0]) ?_ 3 _ rfl;(with_reducible repeat (first|refine au ?_ _|refine ay ?_|refine ak ?_ _));refine dQ (cs:=#[.int .u8 dC,.int .u8 aU,.int .u8 0,.int .u8 0,.int .i64 0]) ?_ 2 _ rfl;(with_reducible repeat (first|refine au ?_ _|refine ay ?_|refine ak ?_ _));refine dQ (cs:=#[.int .u8 dC,.int .u8 0,.int .u8 0,.int .u8 0,.int .i64 0]) ?_ 1 _ rfl;(with_reducible repeat (first|refine au ?_ _|refine ay ?_|refine ak ?_ _));refine dQ (cs:=#[.int .u8 0,.int .u8 0,.int .u8 0,.int .u8 0,.int .i64 0]) ?_ 0 _ rfl;(with_reducible repeat (first|refine au ?_ _|refine ay ?_|refine ak ?_ _));refine fV ?_ ni.out _;(with_reducible repeat (first|refine au ?_ _|refine ay ?_|refine ak ?_ _));exact rW.out) Tryd.underlying55 rfl (by kernel_rfl)) rfl ?_
       exact ⟨by first|rfl|(simp [aQ,aN] <;> rfl)|(simp [*,aQ,aN] <;> rfl),by repeat (first|(with_reducible first|exact HB.out|apply ah|apply ag|apply ai|refine aj ?_ uw.out|refine aj ?_ yX.out)|exact HB.out)⟩
end Go.Proofs.YtlemecdddhdagaaDoor.P
end
