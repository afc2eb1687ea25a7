/- Parts of the proof of ModelSteps: what the functions that it reaches compute, and plain facts about that. -/
import Derived.Test.YtlemecdddhdagaaDoorZab
set_option linter.unusedVariables false
set_option linter.unusedSimpArgs false
section
namespace Go.Proofs.YtlemecdddhdagaaDoor.P
open Go.RowKit Go.Proofs.af.bF Go.Proofs.af.dD Go.Proofs.af.dN
attribute [local go_sem] lF lC mP mO kE kD lD lu
def jK.f (a0:Int) (a1:Int):Option (Int):=if (wrap64 ((wrap64 (a0)) - 48)) ≥ 0 then (if (wrap64 ((wrap64 (a0)) - 48)) < a1 then (some (wrap64 ((wrap64 (a0)) - 48))) else (some (-1))) else (some (-1))
set_option maxHeartbeats 8000000 in
set_option maxRecDepth 100000 in
theorem jK.calls (a0:Int) (a1:Int) (r:Int) (w:World) (h:jK.f a0 a1=some r) :
  Calls Tryd.prog 51 #[.int .u8 a0,.int .i64 a1] w fun e w'=>e=.returned (.int .i64 r)∧aU w w':=by
 have H:(if (wrap64 ((wrap64 (a0)) - 48)) ≥ 0 then (if (wrap64 ((wrap64 (a0)) - 48)) < a1 then (some (wrap64 ((wrap64 (a0)) - 48))) else (some (-1))) else (some (-1)))=some r:=h
 clear h
 by_cases c3:(wrap64 ((wrap64 (a0)) - 48)) ≥ 0
 ·
  rw [if_pos c3] at H
  have oG:decide (0≤(wrap64 ((wrap64 (a0)) - 48)))=true:=decide_eq_true c3
  clear c3
  by_cases c4:(wrap64 ((wrap64 (a0)) - 48)) < a1
  ·
   rw [if_pos c4] at H
   have oD:decide ((wrap64 ((wrap64 (a0)) - 48)) < a1)=true:=decide_eq_true c4
   clear c4
   obtain rfl:=Option.some.inj H
   go_enter Tryd.func51,Tryd.ntmps51
   go_wp2
   go_ret
   exact ⟨by first|rfl|(simp;done)|(simp [*];done),by repeat (first|exact aU.refl _|apply aU.step)⟩
  ·
   rw [if_neg c4] at H
   have oD:decide ((wrap64 ((wrap64 (a0)) - 48)) < a1)=false:=decide_eq_false c4
   clear c4
   obtain rfl:=Option.some.inj H
   go_enter Tryd.func51,Tryd.ntmps51
   go_wp2
   go_ret
   exact ⟨by first|rfl|(simp;done)|(simp [*];done),by repeat (first|exact aU.refl _|apply aU.step)⟩
 ·
  rw [if_neg c3] at H
  have oG:decide (0≤(wrap64 ((wrap64 (a0)) - 48)))=false:=decide_eq_false c3
  clear c3
  obtain rfl:=Option.some.inj H
  go_enter Tryd.func51,Tryd.ntmps51
  go_wp2
  go_ret
  exact ⟨by first|rfl|(simp;done)|(simp [*];done),by repeat (first|exact aU.refl _|apply aU.step)⟩
mutual
def bM.l0:Nat→List ByteArray→List ByteArray→Int→Int→Option (Bool)
 | 0,_,_,_,_=>none
 | k+1,x0,x6,x7,x8=>if x8 < x7 then (if 0≤x8 then (if x8 < (x6.length:Int) then (if (dZ ByteArray.empty x6 x8).toList=([]:List UInt8) then (bM.j1 k x0 (dZ ByteArray.empty x6 x8) x6 x7 x8 true) else (bM.j1 k x0 (dZ ByteArray.empty x6 x8) x6 x7 x8 (decide (((dZ ByteArray.empty x6 x8).size:Int) > 6)))) else (none)) else (none)) else (if (x0.length:Int) ≥ 1 then (some (decide ((x0.length:Int)≤8))) else (some false))
def bM.j1:Nat→List ByteArray→ByteArray→List ByteArray→Int→Int→Bool→Option (Bool)
 | 0,_,_,_,_,_,_=>none
 | k+1,x0,x4,x6,x7,x8,x18=>if x18=true then (some false) else (bM.l1 k x0 x4 x6 x7 x8 (x4.size:Int) 0)
def bM.l1:Nat→List ByteArray→ByteArray→List ByteArray→Int→Int→Int→Int→Option (Bool)
 | 0,_,_,_,_,_,_,_=>none
 | k+1,x0,x4,x6,x7,x8,x20,TD=>if TD < x20 then (if 0≤TD then (if TD < (x4.size:Int) then (if (bt x4 TD)=105 then (bM.l1 k x0 x4 x6 x7 x8 x20 (wrap64 (TD+1))) else ((jK.f (bt x4 TD) (x0.length:Int)).bind fun t102=>(if t102 < 0 then (some false) else (bM.l1 k x0 x4 x6 x7 x8 x20 (wrap64 (TD+1)))))) else (none)) else (none)) else (bM.l0 k x0 x6 x7 (wrap64 (x8+1)))
end
def bM.f (k:Nat) (l0:List ByteArray):Option (Bool):=bM.l0 k l0 l0 (l0.length:Int) 0
theorem bM.iF:∀ k,(∀ y0 y1 y2 y3,dP (bM.l0 k y0 y1 y2 y3) (bM.l0 (k+1) y0 y1 y2 y3))∧(∀ y0 y1 y2 y3 y4 y5,dP (bM.j1 k y0 y1 y2 y3 y4 y5) (bM.j1 (k+1) y0 y1 y2 y3 y4 y5))∧(∀ y0 y1 y2 y3 y4 y5 y6,dP (bM.l1 k y0 y1 y2 y3 y4 y5 y6) (bM.l1 (k+1) y0 y1 y2 y3 y4 y5 y6))
 | 0=>⟨fun _ _ _ _ r h=>by simp [bM.l0] at h,fun _ _ _ _ _ _ r h=>by simp [bM.j1] at h,fun _ _ _ _ _ _ _ r h=>by simp [bM.l1] at h⟩
 | k+1=>by
  obtain ⟨lW,ih1,ih2⟩:=bM.iF k
  refine ⟨?_,?_,?_⟩
  ·
   intro y0 y1 y2 y3
   unfold bM.l0
   repeat' with_reducible first|apply lW|apply ih1|apply ih2|exact dP.refl _|exact dP.none _|refine dP.ite ?_ ?_|refine dP.bind ?_ (fun _=>?_)
  ·
   intro y0 y1 y2 y3 y4 y5
   unfold bM.j1
   repeat' with_reducible first|apply lW|apply ih1|apply ih2|exact dP.refl _|exact dP.none _|refine dP.ite ?_ ?_|refine dP.bind ?_ (fun _=>?_)
  ·
   intro y0 y1 y2 y3 y4 y5 y6
   unfold bM.l1
   repeat' with_reducible first|apply lW|apply ih1|apply ih2|exact dP.refl _|exact dP.none _|refine dP.ite ?_ ?_|refine dP.bind ?_ (fun _=>?_)
theorem bM.mono:∀ a0 k,dP (bM.f k a0) (bM.f (k+1) a0):=by
 intro a0 k
 obtain ⟨lW,ih1,ih2⟩:=bM.iF k
 unfold bM.f
 repeat' with_reducible first|apply lW|apply ih1|apply ih2|exact dP.refl _|exact dP.none _|refine dP.ite ?_ ?_|refine dP.bind ?_ (fun _=>?_)
set_option maxHeartbeats 8000000 in
set_option maxRecDepth 100000 in
theorem bM.calls (k:Nat) (A0:Option Addr) (c0:Nat) (l0:List ByteArray) (r:Bool) (w:World) (hr0:Kd.C Kd.string w A0 l0.length l0) (hc0:l0.length≤c0) (h:bM.f k l0=some r) :
  Calls Tryd.prog 52 #[.slice A0 l0.length c0] w fun e w'=>e=.returned (.bool r)∧aU w w':=by
 have HR0:=ae.mk hr0
 have tX:=ae.mk hc0
 clear hr0 hc0
 have H:(bM.l0 k l0 l0 (l0.length:Int) 0)=some r:=h
 clear h
 have H':=ae.mk H
 clear H
 go_enter Tryd.func52,Tryd.ntmps52
 go_wp2
 go_loopg [8] k (fun kq v8 w'=>∃ (jd:Int),v8=.int .i64 jd∧ae (bM.l0 kq l0 l0 (l0.length:Int) jd=some r)∧ae (kq≤k)∧aU w w')
 case atStart=>exact ⟨(0),(by first|rfl|(simp;done)|(simp [*];done)),H',⟨Nat.le_refl _⟩,by repeat (first|exact aU.refl _|apply aU.step)⟩
 case round =>
  clear H'
  obtain ⟨jd,rfl,HA,qX,⟨m1,rfl⟩⟩:=hrel
  cases gk with
  | zero=>exact absurd HA.out (by simp [bM.l0])
  | succ k1 =>
   have H:=HA.out
   clear HA
   simp only [bM.l0] at H
   by_cases c2:jd < (l0.length:Int)
   ·
    rw [if_pos c2] at H
    have FB:decide (jd < (l0.length:Int))=true:=decide_eq_true c2
    clear c2
    by_cases c3:0≤jd
    ·
     rw [if_pos c3] at H
     have oG:decide (0≤jd)=true:=decide_eq_true c3
     clear c3
     by_cases c4:jd < (l0.length:Int)
     ·
      rw [if_pos c4] at H
      have oD:decide (jd < (l0.length:Int))=true:=decide_eq_true c4
      clear c4
      have JB:=ae.mk H
      clear H
      have IW:0≤(jd:Int):=of_decide_eq_true (by first|(with_reducible assumption)|assumption)
      have II:jd < (l0.length:Int):=of_decide_eq_true (by first|(with_reducible assumption)|assumption)
      obtain ⟨afG,abk,UK⟩:=Kd.kT HR0.out jd IW II
      cases abk
      replace IW:=eq_true IW
      replace II:=eq_true II
      go_upto_region 4 with (fail)
      go_cut [18] (fun v18 wc=>∃ (kq:Nat) (JJ:Bool),v18=.bool JJ∧ae (bM.j1 kq l0 (dZ ByteArray.empty l0 jd) l0 (l0.length:Int) jd JJ=some r)∧ae (kq≤k1)∧aU w wc)
      case first =>
       have H:=JB.out
       clear JB
       by_cases c6:(dZ ByteArray.empty l0 jd).toList=([]:List UInt8)
       ·
        rw [if_pos c6] at H
        have oK:((dZ ByteArray.empty l0 jd).toList == ([]:List UInt8))=true:=beq_iff_eq.mpr c6
        have yT:((dZ ByteArray.empty l0 jd).toList != ([]:List UInt8))=false:=bne_eq_false_iff_eq.mpr c6
        clear c6
        (first|rw [oK]|(simp only [bT,bW];rw [oK])|skip)
        have H':=ae.mk H
        clear H
        go_wp2
        go_meet
        case rel=>exact ⟨_,(true),(by first|rfl|(simp;done)|(simp [*];done)),H',⟨by have:=qX.out;first|omega|exact Nat.le_refl _⟩,by repeat (first|exact aU.refl _|apply aU.step)⟩
       ·
        rw [if_neg c6] at H
        have oK:((dZ ByteArray.empty l0 jd).toList == ([]:List UInt8))=false:=beq_eq_false_iff_ne.mpr c6
        have yT:((dZ ByteArray.empty l0 jd).toList != ([]:List UInt8))=true:=bne_iff_ne.mpr c6
        (first|rw [oK]|(simp only [bT,bW];rw [oK])|skip)
        have H':=ae.mk H
        clear H
        go_wp2
        go_meet
        case rel=>exact ⟨_,(decide (((dZ ByteArray.empty l0 jd).size:Int) > 6)),(by first|rfl|(simp;done)|(simp [*];done)),H',⟨by have:=qX.out;first|omega|exact Nat.le_refl _⟩,by repeat (first|exact aU.refl _|apply aU.step)⟩
      case rest =>
       clear JB
       obtain ⟨kq,JJ,rfl,HA,JA,⟨mc4,rfl⟩⟩:=hcut
       cases kq with
       | zero=>exact absurd HA.out (by simp [bM.j1])
       | succ vZ =>
        have H:=HA.out
        clear HA
        simp only [bM.j1] at H
        by_cases c7:JJ=true
        ·
         subst c7
         have H1:(some false)=some r:=by rw [if_pos rfl] at H;exact H
         clear H
         have H:=H1
         clear H1
         obtain rfl:=Option.some.inj H
         go_wp2
         go_ret
         exact ⟨by first|rfl|(simp;done)|(simp [*];done),by repeat (first|exact aU.refl _|apply aU.step)⟩
        ·
         replace c7:=Bool.eq_false_iff.mpr c7
         subst c7
         have H1:(bM.l1 vZ l0 (dZ ByteArray.empty l0 jd) l0 (l0.length:Int) jd ((dZ ByteArray.empty l0 jd).size:Int) 0)=some r:=by rw [if_neg (show ¬ (false=true) by decide)] at H;exact H
         clear H
         have H:=H1
         clear H1
         have H':=ae.mk H
         clear H
         go_wp2
         go_loopg [21] vZ (fun kq v21 w'=>∃ (kP:Int),v21=.int .i64 kP∧ae (bM.l1 kq l0 (dZ ByteArray.empty l0 jd) l0 (l0.length:Int) jd ((dZ ByteArray.empty l0 jd).size:Int) kP=some r)∧ae (kq≤vZ)∧aU w w')
         case atStart=>exact ⟨(0),(by first|rfl|(simp;done)|(simp [*];done)),H',⟨Nat.le_refl _⟩,by repeat (first|exact aU.refl _|apply aU.step)⟩
         case round =>
          clear H'
          obtain ⟨kP,rfl,HA,xH,⟨m3,rfl⟩⟩:=hrel
          cases gk with
          | zero=>exact absurd HA.out (by simp [bM.l1])
          | succ k3 =>
           have H:=HA.out
           clear HA
           simp only [bM.l1] at H
           by_cases c8:kP < ((dZ ByteArray.empty l0 jd).size:Int)
           ·
            rw [if_pos c8] at H
            have pU:decide (kP < ((dZ ByteArray.empty l0 jd).size:Int))=true:=decide_eq_true c8
            clear c8
            by_cases c9:0≤kP
            ·
             rw [if_pos c9] at H
             have Fz:decide (0≤kP)=true:=decide_eq_true c9
             clear c9
             by_cases c10:kP < ((dZ ByteArray.empty l0 jd).size:Int)
             ·
              rw [if_pos c10] at H
              have pW:decide (kP < ((dZ ByteArray.empty l0 jd).size:Int))=true:=decide_eq_true c10
              clear c10
              by_cases c12:(bt (dZ ByteArray.empty l0 jd) kP)=105
              ·
               rw [if_pos c12] at H
               have xq:((bt (dZ ByteArray.empty l0 jd) kP) == 105)=true:=beq_iff_eq.mpr c12
               have RP:((bt (dZ ByteArray.empty l0 jd) kP) != 105)=false:=bne_eq_false_iff_eq.mpr c12
               clear c12
               have H':=ae.mk H
               clear H
               have p11:0≤(kP:Int):=of_decide_eq_true (by first|(with_reducible assumption)|assumption)
               have q11:kP < ((dZ ByteArray.empty l0 jd).size:Int):=of_decide_eq_true (by first|(with_reducible assumption)|assumption)
               have ac6:=kY (dZ ByteArray.empty l0 jd) kP
               replace p11:=eq_true p11
               replace q11:=eq_true q11
               go_wp2
               go_roundg k3
               case measure=>have:=qX.out;have:=JA.out;have:=xH.out;omega
               case rel=>exact ⟨(wrap64 (kP+1)),(by first|rfl|(simp;done)|(simp [*];done)),H',⟨by have:=qX.out;have:=JA.out;have:=xH.out;omega⟩,by repeat (first|exact aU.refl _|apply aU.step)⟩
              ·
               rw [if_neg c12] at H
               have xq:((bt (dZ ByteArray.empty l0 jd) kP) == 105)=false:=beq_eq_false_iff_ne.mpr c12
               have RP:((bt (dZ ByteArray.empty l0 jd) kP) != 105)=true:=bne_iff_ne.mpr c12
               replace H:=Option.bind_eq_some_iff.mp H
               obtain ⟨t102,agO,H⟩:=H
               replace H:(if t102 < 0 then (some false) else (bM.l1 k3 l0 (dZ ByteArray.empty l0 jd) l0 (l0.length:Int) jd ((dZ ByteArray.empty l0 jd).size:Int) (wrap64 (kP+1))))=some r:=H
               have A14:=ae.mk agO
               clear agO
               by_cases c15:t102 < 0
               ·
                rw [if_pos c15] at H
                have qR:decide (t102 < 0)=true:=decide_eq_true c15
                clear c15
                obtain rfl:=Option.some.inj H
                have p11:0≤(kP:Int):=of_decide_eq_true (by first|(with_reducible assumption)|assumption)
                have q11:kP < ((dZ ByteArray.empty l0 jd).size:Int):=of_decide_eq_true (by first|(with_reducible assumption)|assumption)
                have ac6:=kY (dZ ByteArray.empty l0 jd) kP
                replace p11:=eq_true p11
                replace q11:=eq_true q11
                have p13:0≤(kP:Int):=of_decide_eq_true (by first|(with_reducible assumption)|assumption)
                have q13:kP < ((dZ ByteArray.empty l0 jd).size:Int):=of_decide_eq_true (by first|(with_reducible assumption)|assumption)
                have UI:=kY (dZ ByteArray.empty l0 jd) kP
                replace p13:=eq_true p13
                replace q13:=eq_true q13
                go_wp2_with (first|(go_at_call 51;(with_reducible refine (jK.calls (bt (dZ ByteArray.empty l0 jd) kP) (l0.length:Int) t102 _ A14.out).mono ?_);rintro e w' ⟨rfl,⟨nd,rfl⟩⟩))
                go_ret
                exact ⟨by first|rfl|(simp;done)|(simp [*];done),by repeat (first|exact aU.refl _|apply aU.step)⟩
               ·
                rw [if_neg c15] at H
                have qR:decide (t102 < 0)=false:=decide_eq_false c15
                clear c15
                have H':=ae.mk H
                clear H
                have p11:0≤(kP:Int):=of_decide_eq_true (by first|(with_reducible assumption)|assumption)
                have q11:kP < ((dZ ByteArray.empty l0 jd).size:Int):=of_decide_eq_true (by first|(with_reducible assumption)|assumption)
                have ac6:=kY (dZ ByteArray.empty l0 jd) kP
                replace p11:=eq_true p11
                replace q11:=eq_true q11
                have p13:0≤(kP:Int):=of_decide_eq_true (by first|(with_reducible assumption)|assumption)
                have q13:kP < ((dZ ByteArray.empty l0 jd).size:Int):=of_decide_eq_true (by first|(with_reducible assumption)|assumption)
                have UI:=kY (dZ ByteArray.empty l0 jd) kP
                replace p13:=eq_true p13
                replace q13:=eq_true q13
                go_wp2_with (first|(go_at_call 51;(with_reducible refine (jK.calls (bt (dZ ByteArray.empty l0 jd) kP) (l0.length:Int) t102 _ A14.out).mono ?_);rintro e w' ⟨rfl,⟨nd,rfl⟩⟩))
                go_roundg k3
                case measure=>have:=qX.out;have:=JA.out;have:=xH.out;omega
                case rel=>exact ⟨(wrap64 (kP+1)),(by first|rfl|(simp;done)|(simp [*];done)),H',⟨by have:=qX.out;have:=JA.out;have:=xH.out;omega⟩,by repeat (first|exact aU.refl _|apply aU.step)⟩
             ·
              rw [if_neg c10] at H
              exact absurd H (by simp)
            ·
             rw [if_neg c9] at H
             exact absurd H (by simp)
           ·
            rw [if_neg c8] at H
            have pU:decide (kP < ((dZ ByteArray.empty l0 jd).size:Int))=false:=decide_eq_false c8
            clear c8
            have H':=ae.mk H
            clear H
            go_wp2
            go_roundg k3
            case measure=>have:=qX.out;have:=JA.out;have:=xH.out;omega
            case rel=>exact ⟨(wrap64 (jd+1)),(by first|rfl|(simp;done)|(simp [*];done)),H',⟨by have:=qX.out;have:=JA.out;have:=xH.out;omega⟩,by repeat (first|exact aU.refl _|apply aU.step)⟩
     ·
      rw [if_neg c4] at H
      exact absurd H (by simp)
    ·
     rw [if_neg c3] at H
     exact absurd H (by simp)
   ·
    rw [if_neg c2] at H
    have FB:decide (jd < (l0.length:Int))=false:=decide_eq_false c2
    clear c2
    by_cases c16:(l0.length:Int) ≥ 1
    ·
     rw [if_pos c16] at H
     have BZ:decide (1≤(l0.length:Int))=true:=decide_eq_true c16
     have afx:decide (1≤l0.length)=true:=decide_eq_true (by omega)
     clear c16
     obtain rfl:=Option.some.inj H
     go_wp2
     go_ret
     exact ⟨by first|rfl|(simp;done)|(simp [*];done),by repeat (first|exact aU.refl _|apply aU.step)⟩
    ·
     rw [if_neg c16] at H
     have BZ:decide (1≤(l0.length:Int))=false:=decide_eq_false c16
     have afx:decide (1≤l0.length)=false:=decide_eq_false (by omega)
     clear c16
     obtain rfl:=Option.some.inj H
     go_wp2
     go_ret
     exact ⟨by first|rfl|(simp;done)|(simp [*];done),by repeat (first|exact aU.refl _|apply aU.step)⟩
def fK.l0:Nat→List ByteArray→ByteArray→Int→Int→Option (Bool)
 | 0,_,_,_,_=>none
 | k+1,x0,x1,x7,x8=>if x8 < x7 then (if 0≤x8 then (if x8 < (x1.size:Int) then ((jK.f (bt x1 x8) (x0.length:Int)).bind fun t103=>(if t103 < 0 then (some false) else (fK.l0 k x0 x1 x7 (wrap64 (x8+1))))) else (none)) else (none)) else ((bM.f k x0).bind fun t104=>(some t104))
def fK.f (k:Nat) (l0:List ByteArray) (a1:ByteArray):Option (Bool):=fK.l0 k l0 a1 (a1.size:Int) 0
theorem fK.iF:∀ k,(∀ y0 y1 y2 y3,dP (fK.l0 k y0 y1 y2 y3) (fK.l0 (k+1) y0 y1 y2 y3))
 | 0=>fun _ _ _ _ r h=>by simp [fK.l0] at h
 | k+1=>by
  have lW:=fK.iF k
  ·
   intro y0 y1 y2 y3
   unfold fK.l0
   repeat' with_reducible first|apply lW|apply bM.mono|exact dP.refl _|exact dP.none _|refine dP.ite ?_ ?_|refine dP.bind ?_ (fun _=>?_)
theorem fK.mono:∀ a0 a1 k,dP (fK.f k a0 a1) (fK.f (k+1) a0 a1):=by
 intro a0 a1 k
 have lW:=fK.iF k
 unfold fK.f
 repeat' with_reducible first|apply lW|apply bM.mono|exact dP.refl _|exact dP.none _|refine dP.ite ?_ ?_|refine dP.bind ?_ (fun _=>?_)
set_option maxHeartbeats 8000000 in
set_option maxRecDepth 100000 in
theorem fK.calls (k:Nat) (A0:Option Addr) (c0:Nat) (l0:List ByteArray) (a1:ByteArray) (r:Bool) (w:World) (hr0:Kd.C Kd.string w A0 l0.length l0) (hc0:l0.length≤c0) (h:fK.f k l0 a1=some r) :
  Calls Tryd.prog 32 #[.slice A0 l0.length c0,.string a1] w fun e w'=>e=.returned (.bool r)∧aU w w':=by
 have HR0:=ae.mk hr0
 have tX:=ae.mk hc0
 clear hr0 hc0
 have H:(fK.l0 k l0 a1 (a1.size:Int) 0)=some r:=h
 clear h
 have H':=ae.mk H
 clear H
 go_enter Tryd.func32,Tryd.ntmps32
 go_wp2
 go_loopg [8] k (fun kq v8 w'=>∃ (jd:Int),v8=.int .i64 jd∧ae (fK.l0 kq l0 a1 (a1.size:Int) jd=some r)∧ae (kq≤k)∧aU w w')
 case atStart=>exact ⟨(0),(by first|rfl|(simp;done)|(simp [*];done)),H',⟨Nat.le_refl _⟩,by repeat (first|exact aU.refl _|apply aU.step)⟩
 case round =>
  clear H'
  obtain ⟨jd,rfl,HA,qX,⟨m1,rfl⟩⟩:=hrel
  cases gk with
  | zero=>exact absurd HA.out (by simp [fK.l0])
  | succ k1 =>
   have H:=HA.out
   clear HA
   simp only [fK.l0] at H
   by_cases c3:jd < (a1.size:Int)
   ·
    rw [if_pos c3] at H
    have oG:decide (jd < (a1.size:Int))=true:=decide_eq_true c3
    clear c3
    by_cases c4:0≤jd
    ·
     rw [if_pos c4] at H
     have oD:decide (0≤jd)=true:=decide_eq_true c4
     clear c4
     by_cases c5:jd < (a1.size:Int)
     ·
      rw [if_pos c5] at H
      have rU:decide (jd < (a1.size:Int))=true:=decide_eq_true c5
      clear c5
      replace H:=Option.bind_eq_some_iff.mp H
      obtain ⟨t103,A70,H⟩:=H
      replace H:(if t103 < 0 then (some false) else (fK.l0 k1 l0 a1 (a1.size:Int) (wrap64 (jd+1))))=some r:=H
      have A7:=ae.mk A70
      clear A70
      by_cases c8:t103 < 0
      ·
       rw [if_pos c8] at H
       have pU:decide (t103 < 0)=true:=decide_eq_true c8
       clear c8
       obtain rfl:=Option.some.inj H
       have p6:0≤(jd:Int):=of_decide_eq_true (by first|(with_reducible assumption)|assumption)
       have q6:jd < (a1.size:Int):=of_decide_eq_true (by first|(with_reducible assumption)|assumption)
       have hx6:=kY a1 jd
       replace p6:=eq_true p6
       replace q6:=eq_true q6
       go_wp2_with (first|((with_reducible refine bz (f:=51) rfl ?_);refine dV (some 16) rfl rfl Tryd.func51 (by kernel_rfl) rfl #[.int .u8 (bt a1 jd),.int .i64 (l0.length:Int)] rfl (by (try simp only [List.map_toArray,List.map_cons,List.map_nil]);first|done|rfl|(simp only [List.length_drop,List.length_take];rfl)) ?_;(with_reducible refine (jK.calls (bt a1 jd) (l0.length:Int) t103 _ A7.out).mono ?_);rintro e w' ⟨rfl,⟨nd,rfl⟩⟩;refine ⟨_,rfl,?_⟩))
       go_ret
       exact ⟨by first|rfl|(simp;done)|(simp [*];done),by repeat (first|exact aU.refl _|apply aU.step)⟩
      ·
       rw [if_neg c8] at H
       have pU:decide (t103 < 0)=false:=decide_eq_false c8
       clear c8
       have H':=ae.mk H
       clear H
       have p6:0≤(jd:Int):=of_decide_eq_true (by first|(with_reducible assumption)|assumption)
       have q6:jd < (a1.size:Int):=of_decide_eq_true (by first|(with_reducible assumption)|assumption)
       have hx6:=kY a1 jd
       replace p6:=eq_true p6
       replace q6:=eq_true q6
       go_wp2_with (first|((with_reducible refine bz (f:=51) rfl ?_);refine dV (some 16) rfl rfl Tryd.func51 (by kernel_rfl) rfl #[.int .u8 (bt a1 jd),.int .i64 (l0.length:Int)] rfl (by (try simp only [List.map_toArray,List.map_cons,List.map_nil]);first|done|rfl|(simp only [List.length_drop,List.length_take];rfl)) ?_;(with_reducible refine (jK.calls (bt a1 jd) (l0.length:Int) t103 _ A7.out).mono ?_);rintro e w' ⟨rfl,⟨nd,rfl⟩⟩;refine ⟨_,rfl,?_⟩))
       go_roundg k1
       case measure=>have:=qX.out;omega
       case rel=>exact ⟨(wrap64 (jd+1)),(by first|rfl|(simp;done)|(simp [*];done)),H',⟨by have:=qX.out;omega⟩,by repeat (first|exact aU.refl _|apply aU.step)⟩
     ·
      rw [if_neg c5] at H
      exact absurd H (by simp)
    ·
     rw [if_neg c4] at H
     exact absurd H (by simp)
   ·
    rw [if_neg c3] at H
    have oG:decide (jd < (a1.size:Int))=false:=decide_eq_false c3
    clear c3
    replace H:=Option.bind_eq_some_iff.mp H
    obtain ⟨t104,Pe,H⟩:=H
    replace H:(some t104)=some r:=H
    have A9:=ae.mk Pe
    clear Pe
    obtain rfl:=Option.some.inj H
    go_wp2_with (first|((with_reducible refine bz (f:=52) rfl ?_);refine dV (some 20) rfl rfl Tryd.func52 (by kernel_rfl) rfl #[.slice A0 l0.length c0] rfl (by (try simp only [List.map_toArray,List.map_cons,List.map_nil]);first|done|rfl|(simp only [List.length_drop,List.length_take];rfl)) ?_;(with_reducible refine (bM.calls k1 _ _ l0 t104 _ ?df ?dA A9.out).mono ?_);(case df=>repeat (first|exact HR0.out|(with_reducible refine Kd.bQ ?_ _)|(with_reducible refine Kd.bP ?_ _)|(with_reducible refine Kd.dF ?_)));(case dA=>exact tX.out);rintro e w' ⟨rfl,⟨nd,rfl⟩⟩;refine ⟨_,rfl,?_⟩))
    go_ret
    exact ⟨by first|rfl|(simp;done)|(simp [*];done),by repeat (first|exact aU.refl _|apply aU.step)⟩
def iZ.f (k:Nat) (l0:List ByteArray) (a1:ByteArray) (a2:Int):Option (Int):=if (wrap64 (a2)) ≥ (a1.size:Int) then (some (-1)) else (if 0≤(wrap64 (a2)) then (if (wrap64 (a2))≤(wrap64 ((wrap64 (a2))+1)) then (if (wrap64 ((wrap64 (a2))+1))≤(a1.size:Int) then ((fK.f k l0 (a1.extract ((wrap64 (a2)):Int).toNat ((wrap64 ((wrap64 (a2))+1)):Int).toNat)).bind fun t105=>(if t105=true then (if 0≤a2 then (if a2 < (a1.size:Int) then (some (((bt a1 a2) - 48) % 256)) else (none)) else (none)) else (some (-1)))) else (none)) else (none)) else (none))
theorem iZ.mono:∀ a0 a1 a2 k,dP (iZ.f k a0 a1 a2) (iZ.f (k+1) a0 a1 a2):=by
 intro a0 a1 a2 k
 unfold iZ.f
 repeat' with_reducible first|apply fK.mono|exact dP.refl _|exact dP.none _|refine dP.ite ?_ ?_|refine dP.bind ?_ (fun _=>?_)
set_option maxHeartbeats 8000000 in
set_option maxRecDepth 100000 in
theorem iZ.calls (k:Nat) (A0:Option Addr) (c0:Nat) (l0:List ByteArray) (a1:ByteArray) (a2:Int) (r:Int) (w:World) (hr0:Kd.C Kd.string w A0 l0.length l0) (hc0:l0.length≤c0) (h:iZ.f k l0 a1 a2=some r) :
  Calls Tryd.prog 61 #[.slice A0 l0.length c0,.string a1,.int .u8 a2] w fun e w'=>e=.returned (.int .i64 r)∧aU w w':=by
 have HR0:=ae.mk hr0
 have tX:=ae.mk hc0
 clear hr0 hc0
 have H:(if (wrap64 (a2)) ≥ (a1.size:Int) then (some (-1)) else (if 0≤(wrap64 (a2)) then (if (wrap64 (a2))≤(wrap64 ((wrap64 (a2))+1)) then (if (wrap64 ((wrap64 (a2))+1))≤(a1.size:Int) then ((fK.f k l0 (a1.extract ((wrap64 (a2)):Int).toNat ((wrap64 ((wrap64 (a2))+1)):Int).toNat)).bind fun t105=>(if t105=true then (if 0≤a2 then (if a2 < (a1.size:Int) then (some (((bt a1 a2) - 48) % 256)) else (none)) else (none)) else (some (-1)))) else (none)) else (none)) else (none)))=some r:=h
 clear h
 by_cases c4:(wrap64 (a2)) ≥ (a1.size:Int)
 ·
  rw [if_pos c4] at H
  have oD:decide ((a1.size:Int)≤(wrap64 (a2)))=true:=decide_eq_true c4
  clear c4
  obtain rfl:=Option.some.inj H
  go_enter Tryd.func61,Tryd.ntmps61
  go_wp2
  go_ret
  exact ⟨by first|rfl|(simp;done)|(simp [*];done),by repeat (first|exact aU.refl _|apply aU.step)⟩
 ·
  rw [if_neg c4] at H
  have oD:decide ((a1.size:Int)≤(wrap64 (a2)))=false:=decide_eq_false c4
  clear c4
  obtain ⟨uq,yR⟩:∃ j_:Int,(wrap64 (a2))=j_:=⟨_,rfl⟩
  replace H:(if 0≤(uq) then (if (uq)≤(wrap64 ((uq)+1)) then (if (wrap64 ((uq)+1))≤(a1.size:Int) then ((fK.f k l0 (a1.extract ((uq):Int).toNat ((wrap64 ((uq)+1)):Int).toNat)).bind fun t105=>(if t105=true then (if 0≤a2 then (if a2 < (a1.size:Int) then (some (((bt a1 a2) - 48) % 256)) else (none)) else (none)) else (some (-1)))) else (none)) else (none)) else (none))=some r:=by first|(rw [yR] at H;exact H)|(simp only [yR] at H ⊢;exact H)
  (try rw [yR] at oD)
  have adG:(IntKind.i64.wrap (a2))=uq:=(bT _).trans yR
  by_cases c6:0≤(uq)
  ·
   rw [if_pos c6] at H
   have oK:=eq_true c6
   have yT:decide (0≤(uq))=true:=decide_eq_true c6
   clear c6
   by_cases c7:(uq)≤(wrap64 ((uq)+1))
   ·
    rw [if_pos c7] at H
    have oQ:=eq_true c7
    have yw:decide ((uq)≤(wrap64 ((uq)+1)))=true:=decide_eq_true c7
    by_cases c8:(wrap64 ((uq)+1))≤(a1.size:Int)
    ·
     rw [if_pos c8] at H
     have pU:=eq_true c8
     have zN:decide ((wrap64 ((uq)+1))≤(a1.size:Int))=true:=decide_eq_true c8
     replace H:=Option.bind_eq_some_iff.mp H
     obtain ⟨t105,Pe,H⟩:=H
     replace H:(if t105=true then (if 0≤a2 then (if a2 < (a1.size:Int) then (some (((bt a1 a2) - 48) % 256)) else (none)) else (none)) else (some (-1)))=some r:=H
     have A9:=ae.mk Pe
     clear Pe
     by_cases c10:t105=true
     ·
      subst c10
      have H1:(if 0≤a2 then (if a2 < (a1.size:Int) then (some (((bt a1 a2) - 48) % 256)) else (none)) else (none))=some r:=by rw [if_pos rfl] at H;exact H
      clear H
      have H:=H1
      clear H1
      by_cases c11:0≤a2
      ·
       rw [if_pos c11] at H
       have vz:decide (0≤a2)=true:=decide_eq_true c11
       clear c11
       by_cases c12:a2 < (a1.size:Int)
       ·
        rw [if_pos c12] at H
        have xq:decide (a2 < (a1.size:Int))=true:=decide_eq_true c12
        clear c12
        obtain rfl:=Option.some.inj H
        go_enter Tryd.func61,Tryd.ntmps61
        go_wp2_with (first|(go_at_call 32;(with_reducible refine (fK.calls k _ _ l0 (a1.extract ((uq):Int).toNat ((wrap64 ((uq)+1)):Int).toNat) true _ ?df ?dA A9.out).mono ?_);(case df=>repeat (first|exact HR0.out|(with_reducible refine Kd.bQ ?_ _)|(with_reducible refine Kd.bP ?_ _)|(with_reducible refine Kd.dF ?_)));(case dA=>exact tX.out);rintro e w' ⟨rfl,⟨nd,rfl⟩⟩;have p13:0≤(a2:Int):=of_decide_eq_true (by first|(with_reducible assumption)|assumption);have q13:a2 < (a1.size:Int):=of_decide_eq_true (by first|(with_reducible assumption)|assumption);have UI:=kY a1 a2;replace p13:=eq_true p13;replace q13:=eq_true q13))
        go_ret
        exact ⟨by first|rfl|(simp;done)|(simp only [← yR] <;> (first|rfl|simp))|(simp [*];done),by repeat (first|exact aU.refl _|apply aU.step)⟩
       ·
        rw [if_neg c12] at H
        exact absurd H (by simp)
      ·
       rw [if_neg c11] at H
       exact absurd H (by simp)
     ·
      replace c10:=Bool.eq_false_iff.mpr c10
      subst c10
      have H1:(some (-1))=some r:=by rw [if_neg (show ¬ (false=true) by decide)] at H;exact H
      clear H
      have H:=H1
      clear H1
      obtain rfl:=Option.some.inj H
      go_enter Tryd.func61,Tryd.ntmps61
      go_wp2_with (first|(go_at_call 32;(with_reducible refine (fK.calls k _ _ l0 (a1.extract ((uq):Int).toNat ((wrap64 ((uq)+1)):Int).toNat) false _ ?df ?dA A9.out).mono ?_);(case df=>repeat (first|exact HR0.out|(with_reducible refine Kd.bQ ?_ _)|(with_reducible refine Kd.bP ?_ _)|(with_reducible refine Kd.dF ?_)));(case dA=>exact tX.out);rintro e w' ⟨rfl,⟨nd,rfl⟩⟩))
      go_ret
      exact ⟨by first|rfl|(simp;done)|(simp only [← yR] <;> (first|rfl|simp))|(simp [*];done),by repeat (first|exact aU.refl _|apply aU.step)⟩
    ·
     rw [if_neg c8] at H
     exact absurd H (by simp)
   ·
    rw [if_neg c7] at H
    exact absurd H (by simp)
  ·
   rw [if_neg c6] at H
   exact absurd H (by simp)
def gG.f (k:Nat) (aZ:List ByteArray) (aV:ByteArray) (aW:ByteArray) (aI:List (iD)) (a1:Int):Option (Int):=(iZ.f k aZ aV a1).bind fun t107=>(some t107)
theorem gG.mono:∀ a0 a1 a2 a3 a4 k,dP (gG.f k a0 a1 a2 a3 a4) (gG.f (k+1) a0 a1 a2 a3 a4):=by
 intro a0 a1 a2 a3 a4 k
 unfold gG.f
 repeat' with_reducible first|apply iZ.mono|exact dP.refl _|exact dP.none _|refine dP.ite ?_ ?_|refine dP.bind ?_ (fun _=>?_)
set_option maxHeartbeats 8000000 in
set_option maxRecDepth 100000 in
theorem gG.calls (k:Nat) (eu:Option Addr) (ed:Nat) (aZ:List ByteArray) (aV:ByteArray) (aW:ByteArray) (gm:Option Addr) (eX:Nat) (aI:List (iD)) (a1:Int) (r:Int) (w:World) (jV:Kd.C Kd.string w eu aZ.length aZ) (jX:aZ.length≤ed) (jU:Kd.C uD w gm aI.length aI) (jW:aI.length≤eX) (h:gG.f k aZ aV aW aI a1=some r) :
  Calls Tryd.prog 36 #[.agg #[.slice eu aZ.length ed,.string aV,.string aW,.slice gm aI.length eX],.int .u8 a1] w fun e w'=>e=.returned (.int .i64 r)∧Below w.heap.size w w':=by
 have yP:=Tryd.underlying25
 have iI:=ae.mk jV
 have iL:=ae.mk jX
 clear jV jX
 have jR:=ae.mk jU
 have kK:=ae.mk jW
 clear jU jW
 have HB:=ae.mk (Below.refl w.heap.size w)
 have H:((iZ.f k aZ aV a1).bind fun t107=>(some t107))=some r:=h
 clear h
 replace H:=Option.bind_eq_some_iff.mp H
 obtain ⟨t107,yF,H⟩:=H
 replace H:(some t107)=some r:=H
 have A3:=ae.mk yF
 clear yF
 obtain rfl:=Option.some.inj H
 go_enter Tryd.func36,Tryd.ntmps36
 go_wp2_with (first|((with_reducible refine bD (N:=2) rfl ?_);refine fG ?hg (N:=2) ?hd (cs:=#[.slice eu aZ.length ed,.string aV,.string aW,.slice gm aI.length eX]) (t:=25) ?hr ?_;(case hd=>rfl);(case hg=>rfl);(case hr=>first|(go_simp;done)|(go_simp;rfl));intro G5 hg w4 hbox hb;have dX:=ae.mk (bn (by repeat (first|(with_reducible first|exact HB.out|apply ah|apply ag|apply ai)|exact HB.out)) hb);have dW:=ae.mk (hbox);have dU:=ae.mk ((by rw [hg];exact (bY (by repeat (first|(with_reducible first|exact HB.out|apply ah|apply ag|apply ai)|exact HB.out))):w.heap.size≤G5));have iq:=dU;clear HB;have HB:=dX;have zJ:=dW;have aqR:=dU;have age:=iq;clear dX dW dU iq;clear hb hbox hg;have BO:w4.cell? ⟨G5,0,none⟩=some (.slice eu aZ.length ed):=(ax zJ.out 0).trans rfl;have BN:w4.cell? ⟨G5,1,none⟩=some (.string aV):=(ax zJ.out 1).trans rfl;have BM:w4.cell? ⟨G5,2,none⟩=some (.string aW):=(ax zJ.out 2).trans rfl;have BL:w4.cell? ⟨G5,3,none⟩=some (.slice gm aI.length eX):=(ax zJ.out 3).trans rfl;have BK:=aC zJ.out 0;have BJ:=aC zJ.out 1;have BI:=aC zJ.out 2;have BH:=aC zJ.out 3)|((with_reducible refine bz (f:=61) rfl ?_);refine dV (some 10) rfl rfl Tryd.func61 (by kernel_rfl) rfl #[.slice eu aZ.length ed,.string aV,.int .u8 a1] rfl (by (try simp only [List.map_toArray,List.map_cons,List.map_nil]);first|done|rfl|(simp only [List.length_drop,List.length_take];rfl)) ?_;(with_reducible refine (iZ.calls k _ _ aZ aV a1 t107 _ ?df ?dA A3.out).mono ?_);(case df=>repeat (first|exact (Kd.bJ iI.out HB.out)|(with_reducible refine Kd.bQ ?_ _)|(with_reducible refine Kd.bP ?_ _)|(with_reducible refine Kd.dF ?_)));(case dA=>exact iL.out);rintro e w' ⟨rfl,⟨nd,rfl⟩⟩;refine ⟨_,rfl,?_⟩))
 go_ret
 exact ⟨by first|rfl|(simp [aQ,aN] <;> rfl)|(simp [*,aQ,aN] <;> rfl),by repeat (first|(with_reducible first|exact HB.out|apply ah|apply ag|apply ai|refine aj ?_ age.out)|exact HB.out)⟩
def dH.l0:Nat→List Int→Int→Int→Option (Bool)
 | 0,_,_,_=>none
 | k+1,x5,x6,x7=>if x7 < x6 then (if 0≤x7 then (if x7 < (x5.length:Int) then (if (rd x5 x7) ≥ 8 then (some false) else (dH.l0 k x5 x6 (wrap64 (x7+1)))) else (none)) else (none)) else (some true)
def dH.f (k:Nat) (l0:List Int):Option (Bool):=dH.l0 k l0 (l0.length:Int) 0
theorem dH.iF:∀ k,(∀ y0 y1 y2,dP (dH.l0 k y0 y1 y2) (dH.l0 (k+1) y0 y1 y2))
 | 0=>fun _ _ _ r h=>by simp [dH.l0] at h
 | k+1=>by
  have lW:=dH.iF k
  ·
   intro y0 y1 y2
   unfold dH.l0
   repeat' with_reducible first|apply lW|exact dP.refl _|exact dP.none _|refine dP.ite ?_ ?_|refine dP.bind ?_ (fun _=>?_)
theorem dH.mono:∀ a0 k,dP (dH.f k a0) (dH.f (k+1) a0):=by
 intro a0 k
 have lW:=dH.iF k
 unfold dH.f
 repeat' with_reducible first|apply lW|exact dP.refl _|exact dP.none _|refine dP.ite ?_ ?_|refine dP.bind ?_ (fun _=>?_)
set_option maxHeartbeats 8000000 in
set_option maxRecDepth 100000 in
theorem dH.calls (k:Nat) (A0:Option Addr) (c0:Nat) (l0:List Int) (r:Bool) (w:World) (hr0:Kd.C (Kd.int .u8) w A0 l0.length l0) (hc0:l0.length≤c0) (h:dH.f k l0=some r) :
  Calls Tryd.prog 55 #[.slice A0 l0.length c0] w fun e w'=>e=.returned (.bool r)∧aU w w':=by
 have HR0:=ae.mk hr0
 have tX:=ae.mk hc0
 clear hr0 hc0
 have H:(dH.l0 k l0 (l0.length:Int) 0)=some r:=h
 clear h
 have H':=ae.mk H
 clear H
 go_enter Tryd.func55,Tryd.ntmps55
 go_wp2
 go_loopg [7] k (fun kq v7 w'=>∃ (sN:Int),v7=.int .i64 sN∧ae (dH.l0 kq l0 (l0.length:Int) sN=some r)∧ae (kq≤k)∧aU w w')
 case atStart=>exact ⟨(0),(by first|rfl|(simp;done)|(simp [*];done)),H',⟨Nat.le_refl _⟩,by repeat (first|exact aU.refl _|apply aU.step)⟩
 case round =>
  clear H'
  obtain ⟨sN,rfl,HA,qX,⟨m1,rfl⟩⟩:=hrel
  cases gk with
  | zero=>exact absurd HA.out (by simp [dH.l0])
  | succ k1 =>
   have H:=HA.out
   clear HA
   simp only [dH.l0] at H
   by_cases c2:sN < (l0.length:Int)
   ·
    rw [if_pos c2] at H
    have FB:decide (sN < (l0.length:Int))=true:=decide_eq_true c2
    clear c2
    by_cases c3:0≤sN
    ·
     rw [if_pos c3] at H
     have oG:decide (0≤sN)=true:=decide_eq_true c3
     clear c3
     by_cases c4:sN < (l0.length:Int)
     ·
      rw [if_pos c4] at H
      have oD:decide (sN < (l0.length:Int))=true:=decide_eq_true c4
      clear c4
      by_cases c5:(rd l0 sN) ≥ 8
      ·
       rw [if_pos c5] at H
       have rU:decide (8≤(rd l0 sN))=true:=decide_eq_true c5
       clear c5
       obtain rfl:=Option.some.inj H
       have IV:0≤(sN:Int):=of_decide_eq_true (by first|(with_reducible assumption)|assumption)
       have IG:sN < (l0.length:Int):=of_decide_eq_true (by first|(with_reducible assumption)|assumption)
       obtain ⟨afF,e108,UJ⟩:=Kd.rV HR0.out sN IV IG
       cases e108
       replace IV:=eq_true IV
       replace IG:=eq_true IG
       go_wp2
       go_ret
       exact ⟨by first|rfl|(simp;done)|(simp [*];done),by repeat (first|exact aU.refl _|apply aU.step)⟩
      ·
       rw [if_neg c5] at H
       have rU:decide (8≤(rd l0 sN))=false:=decide_eq_false c5
       clear c5
       have H':=ae.mk H
       clear H
       have IV:0≤(sN:Int):=of_decide_eq_true (by first|(with_reducible assumption)|assumption)
       have IG:sN < (l0.length:Int):=of_decide_eq_true (by first|(with_reducible assumption)|assumption)
       obtain ⟨afF,e108,UJ⟩:=Kd.rV HR0.out sN IV IG
       cases e108
       replace IV:=eq_true IV
       replace IG:=eq_true IG
       go_wp2
       go_roundg k1
       case measure=>have:=qX.out;omega
       case rel=>exact ⟨(wrap64 (sN+1)),(by first|rfl|(simp;done)|(simp [*];done)),H',⟨by have:=qX.out;omega⟩,by repeat (first|exact aU.refl _|apply aU.step)⟩
     ·
      rw [if_neg c4] at H
      exact absurd H (by simp)
    ·
     rw [if_neg c3] at H
     exact absurd H (by simp)
   ·
    rw [if_neg c2] at H
    have FB:decide (sN < (l0.length:Int))=false:=decide_eq_false c2
    clear c2
    obtain rfl:=Option.some.inj H
    go_wp2
    go_ret
    exact ⟨by first|rfl|(simp;done)|(simp [*];done),by repeat (first|exact aU.refl _|apply aU.step)⟩
def iw.f (a0:Int) (a1:Int):Option (Bool):=if a0 ≥ 0 then (some (a0 == a1)) else (some false)
set_option maxHeartbeats 8000000 in
set_option maxRecDepth 100000 in
theorem iw.calls (a0:Int) (a1:Int) (r:Bool) (w:World) (h:iw.f a0 a1=some r) :
  Calls Tryd.prog 56 #[.int .i64 a0,.int .i64 a1] w fun e w'=>e=.returned (.bool r)∧aU w w':=by
 have H:(if a0 ≥ 0 then (some (a0 == a1)) else (some false))=some r:=h
 clear h
 by_cases c3:a0 ≥ 0
 ·
  rw [if_pos c3] at H
  have oG:decide (0≤a0)=true:=decide_eq_true c3
  clear c3
  obtain rfl:=Option.some.inj H
  go_enter Tryd.func56,Tryd.ntmps56
  go_wp2
  go_ret
  exact ⟨by first|rfl|(simp;done)|(simp [*];done),by repeat (first|exact aU.refl _|apply aU.step)⟩
 ·
  rw [if_neg c3] at H
  have oG:decide (0≤a0)=false:=decide_eq_false c3
  clear c3
  obtain rfl:=Option.some.inj H
  go_enter Tryd.func56,Tryd.ntmps56
  go_wp2
  go_ret
  exact ⟨by first|rfl|(simp;done)|(simp [*];done),by repeat (first|exact aU.refl _|apply aU.step)⟩
def lL.f (k:Nat) (l0:List ByteArray) (a1:Int):Option (ByteArray):=(bM.f k l0).bind fun t109=>(if t109=true then (if a1 < 0 then (some (⟨#[]⟩:ByteArray)) else (if a1 ≥ (l0.length:Int) then (some (⟨#[]⟩:ByteArray)) else (if 0≤a1 then (if a1 < (l0.length:Int) then (some (dZ ByteArray.empty l0 a1)) else (none)) else (none)))) else (some (⟨#[]⟩:ByteArray)))
theorem lL.mono:∀ a0 a1 k,dP (lL.f k a0 a1) (lL.f (k+1) a0 a1):=by
 intro a0 a1 k
 unfold lL.f
 repeat' with_reducible first|apply bM.mono|exact dP.refl _|exact dP.none _|refine dP.ite ?_ ?_|refine dP.bind ?_ (fun _=>?_)
set_option maxHeartbeats 8000000 in
set_option maxRecDepth 100000 in
theorem lL.calls (k:Nat) (A0:Option Addr) (c0:Nat) (l0:List ByteArray) (a1:Int) (r:ByteArray) (w:World) (hr0:Kd.C Kd.string w A0 l0.length l0) (hc0:l0.length≤c0) (h:lL.f k l0 a1=some r) :
  Calls Tryd.prog 60 #[.slice A0 l0.length c0,.int .i64 a1] w fun e w'=>e=.returned (.string r)∧aU w w':=by
 have HR0:=ae.mk hr0
 have tX:=ae.mk hc0
 clear hr0 hc0
 have H:((bM.f k l0).bind fun t109=>(if t109=true then (if a1 < 0 then (some (⟨#[]⟩:ByteArray)) else (if a1 ≥ (l0.length:Int) then (some (⟨#[]⟩:ByteArray)) else (if 0≤a1 then (if a1 < (l0.length:Int) then (some (dZ ByteArray.empty l0 a1)) else (none)) else (none)))) else (some (⟨#[]⟩:ByteArray))))=some r:=h
 clear h
 replace H:=Option.bind_eq_some_iff.mp H
 obtain ⟨t109,yF,H⟩:=H
 replace H:(if t109=true then (if a1 < 0 then (some (⟨#[]⟩:ByteArray)) else (if a1 ≥ (l0.length:Int) then (some (⟨#[]⟩:ByteArray)) else (if 0≤a1 then (if a1 < (l0.length:Int) then (some (dZ ByteArray.empty l0 a1)) else (none)) else (none)))) else (some (⟨#[]⟩:ByteArray)))=some r:=H
 have A3:=ae.mk yF
 clear yF
 by_cases c4:t109=true
 ·
  subst c4
  have H1:(if a1 < 0 then (some (⟨#[]⟩:ByteArray)) else (if a1 ≥ (l0.length:Int) then (some (⟨#[]⟩:ByteArray)) else (if 0≤a1 then (if a1 < (l0.length:Int) then (some (dZ ByteArray.empty l0 a1)) else (none)) else (none))))=some r:=by rw [if_pos rfl] at H;exact H
  clear H
  have H:=H1
  clear H1
  by_cases c5:a1 < 0
  ·
   rw [if_pos c5] at H
   have rU:decide (a1 < 0)=true:=decide_eq_true c5
   clear c5
   obtain rfl:=Option.some.inj H
   go_enter Tryd.func60,Tryd.ntmps60
   go_wp2_with (first|((with_reducible refine bz (f:=52) rfl ?_);refine dV (some 6) rfl rfl Tryd.func52 (by kernel_rfl) rfl #[.slice A0 l0.length c0] rfl (by (try simp only [List.map_toArray,List.map_cons,List.map_nil]);first|done|rfl|(simp only [List.length_drop,List.length_take];rfl)) ?_;(with_reducible refine (bM.calls k _ _ l0 true _ ?df ?dA A3.out).mono ?_);(case df=>repeat (first|exact HR0.out|(with_reducible refine Kd.bQ ?_ _)|(with_reducible refine Kd.bP ?_ _)|(with_reducible refine Kd.dF ?_)));(case dA=>exact tX.out);rintro e w' ⟨rfl,⟨nd,rfl⟩⟩;refine ⟨_,rfl,?_⟩))
   go_ret
   exact ⟨by first|rfl|(simp;done)|(simp [*];done),by repeat (first|exact aU.refl _|apply aU.step)⟩
  ·
   rw [if_neg c5] at H
   have rU:decide (a1 < 0)=false:=decide_eq_false c5
   clear c5
   by_cases c6:a1 ≥ (l0.length:Int)
   ·
    rw [if_pos c6] at H
    have oK:decide ((l0.length:Int)≤a1)=true:=decide_eq_true c6
    clear c6
    obtain rfl:=Option.some.inj H
    go_enter Tryd.func60,Tryd.ntmps60
    go_wp2_with (first|((with_reducible refine bz (f:=52) rfl ?_);refine dV (some 6) rfl rfl Tryd.func52 (by kernel_rfl) rfl #[.slice A0 l0.length c0] rfl (by (try simp only [List.map_toArray,List.map_cons,List.map_nil]);first|done|rfl|(simp only [List.length_drop,List.length_take];rfl)) ?_;(with_reducible refine (bM.calls k _ _ l0 true _ ?df ?dA A3.out).mono ?_);(case df=>repeat (first|exact HR0.out|(with_reducible refine Kd.bQ ?_ _)|(with_reducible refine Kd.bP ?_ _)|(with_reducible refine Kd.dF ?_)));(case dA=>exact tX.out);rintro e w' ⟨rfl,⟨nd,rfl⟩⟩;refine ⟨_,rfl,?_⟩))
    go_ret
    exact ⟨by first|rfl|(simp;done)|(simp [*];done),by repeat (first|exact aU.refl _|apply aU.step)⟩
   ·
    rw [if_neg c6] at H
    have oK:decide ((l0.length:Int)≤a1)=false:=decide_eq_false c6
    clear c6
    by_cases c7:0≤a1
    ·
     rw [if_pos c7] at H
     have oQ:decide (0≤a1)=true:=decide_eq_true c7
     clear c7
     by_cases c8:a1 < (l0.length:Int)
     ·
      rw [if_pos c8] at H
      have pU:decide (a1 < (l0.length:Int))=true:=decide_eq_true c8
      clear c8
      obtain rfl:=Option.some.inj H
      go_enter Tryd.func60,Tryd.ntmps60
      go_wp2_with (first|((with_reducible refine bz (f:=52) rfl ?_);refine dV (some 6) rfl rfl Tryd.func52 (by kernel_rfl) rfl #[.slice A0 l0.length c0] rfl (by (try simp only [List.map_toArray,List.map_cons,List.map_nil]);first|done|rfl|(simp only [List.length_drop,List.length_take];rfl)) ?_;(with_reducible refine (bM.calls k _ _ l0 true _ ?df ?dA A3.out).mono ?_);(case df=>repeat (first|exact HR0.out|(with_reducible refine Kd.bQ ?_ _)|(with_reducible refine Kd.bP ?_ _)|(with_reducible refine Kd.dF ?_)));(case dA=>exact tX.out);rintro e w' ⟨rfl,⟨nd,rfl⟩⟩;refine ⟨_,rfl,?_⟩;have aaB:0≤(a1:Int):=of_decide_eq_true (by first|(with_reducible assumption)|assumption);have aar:a1 < (l0.length:Int):=of_decide_eq_true (by first|(with_reducible assumption)|assumption);obtain ⟨aqc,anV,ag1⟩:=Kd.kT HR0.out a1 aaB aar;cases anV;replace aaB:=eq_true aaB;replace aar:=eq_true aar))
      go_ret
      exact ⟨by first|rfl|(simp;done)|(simp [*];done),by repeat (first|exact aU.refl _|apply aU.step)⟩
     ·
      rw [if_neg c8] at H
      exact absurd H (by simp)
    ·
     rw [if_neg c7] at H
     exact absurd H (by simp)
 ·
  replace c4:=Bool.eq_false_iff.mpr c4
  subst c4
  have H1:(some (⟨#[]⟩:ByteArray))=some r:=by rw [if_neg (show ¬ (false=true) by decide)] at H;exact H
  clear H
  have H:=H1
  clear H1
  obtain rfl:=Option.some.inj H
  go_enter Tryd.func60,Tryd.ntmps60
  go_wp2_with (first|((with_reducible refine bz (f:=52) rfl ?_);refine dV (some 6) rfl rfl Tryd.func52 (by kernel_rfl) rfl #[.slice A0 l0.length c0] rfl (by (try simp only [List.map_toArray,List.map_cons,List.map_nil]);first|done|rfl|(simp only [List.length_drop,List.length_take];rfl)) ?_;(with_reducible refine (bM.calls k _ _ l0 false _ ?df ?dA A3.out).mono ?_);(case df=>repeat (first|exact HR0.out|(with_reducible refine Kd.bQ ?_ _)|(with_reducible refine Kd.bP ?_ _)|(with_reducible refine Kd.dF ?_)));(case dA=>exact tX.out);rintro e w' ⟨rfl,⟨nd,rfl⟩⟩;refine ⟨_,rfl,?_⟩))
  go_ret
  exact ⟨by first|rfl|(simp;done)|(simp [*];done),by repeat (first|exact aU.refl _|apply aU.step)⟩
def jO.f (k:Nat) (l0:List ByteArray) (a1:Int):Option (Int):=(lL.f k l0 a1).bind fun t111=>(some (t111.size:Int))
theorem jO.mono:∀ a0 a1 k,dP (jO.f k a0 a1) (jO.f (k+1) a0 a1):=by
 intro a0 a1 k
 unfold jO.f
 repeat' with_reducible first|apply lL.mono|exact dP.refl _|exact dP.none _|refine dP.ite ?_ ?_|refine dP.bind ?_ (fun _=>?_)
set_option maxHeartbeats 8000000 in
set_option maxRecDepth 100000 in
theorem jO.calls (k:Nat) (A0:Option Addr) (c0:Nat) (l0:List ByteArray) (a1:Int) (r:Int) (w:World) (hr0:Kd.C Kd.string w A0 l0.length l0) (hc0:l0.length≤c0) (h:jO.f k l0 a1=some r) :
  Calls Tryd.prog 35 #[.slice A0 l0.length c0,.int .i64 a1] w fun e w'=>e=.returned (.int .i64 r)∧aU w w':=by
 have HR0:=ae.mk hr0
 have tX:=ae.mk hc0
 clear hr0 hc0
 have H:((lL.f k l0 a1).bind fun t111=>(some (t111.size:Int)))=some r:=h
 clear h
 replace H:=Option.bind_eq_some_iff.mp H
 obtain ⟨t111,yF,H⟩:=H
 replace H:(some (t111.size:Int))=some r:=H
 have A3:=ae.mk yF
 clear yF
 obtain rfl:=Option.some.inj H
 go_enter Tryd.func35,Tryd.ntmps35
 go_wp2_with (first|((with_reducible refine bz (f:=60) rfl ?_);refine dV (some 7) rfl rfl Tryd.func60 (by kernel_rfl) rfl #[.slice A0 l0.length c0,.int .i64 a1] rfl (by (try simp only [List.map_toArray,List.map_cons,List.map_nil]);first|done|rfl|(simp only [List.length_drop,List.length_take];rfl)) ?_;(with_reducible refine (lL.calls k _ _ l0 a1 t111 _ ?df ?dA A3.out).mono ?_);(case df=>repeat (first|exact HR0.out|(with_reducible refine Kd.bQ ?_ _)|(with_reducible refine Kd.bP ?_ _)|(with_reducible refine Kd.dF ?_)));(case dA=>exact tX.out);rintro e w' ⟨rfl,⟨nd,rfl⟩⟩;refine ⟨_,rfl,?_⟩))
 go_ret
 exact ⟨by first|rfl|(simp;done)|(simp [*];done),by repeat (first|exact aU.refl _|apply aU.step)⟩
end Go.Proofs.YtlemecdddhdagaaDoor.P
end
