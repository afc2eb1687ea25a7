/- Parts of the proof of ModelRight: what the functions that it reaches compute, and plain facts about that. -/
import Derived.Test.YtlemecdddhdagaaDoorVab
set_option linter.unusedVariables false
set_option linter.unusedSimpArgs false
section
namespace Go.Proofs.YtlemecdddhdagaaDoor.P
open Go.RowKit Go.Proofs.ag.bI Go.Proofs.ag.dM Go.Proofs.ag.dZ
attribute [local go_sem] kU kS lW lV jS jR kT kR
def jy.f (a0:Int) (a1:Int):Option (Int):=if (wrap64 ((wrap64 (a0)) - 48)) ≥ 0 then (if (wrap64 ((wrap64 (a0)) - 48)) < a1 then (some (wrap64 ((wrap64 (a0)) - 48))) else (some (-1))) else (some (-1))
set_option maxHeartbeats 8000000 in
set_option maxRecDepth 100000 in
theorem jy.calls (a0:Int) (a1:Int) (r:Int) (w:World) (h:jy.f a0 a1=some r) :
  Calls Tryd.prog 51 #[.int .u8 a0,.int .i64 a1] w fun e w'=>e=.returned (.int .i64 r)∧aT w w':=by
 have H:(if (wrap64 ((wrap64 (a0)) - 48)) ≥ 0 then (if (wrap64 ((wrap64 (a0)) - 48)) < a1 then (some (wrap64 ((wrap64 (a0)) - 48))) else (some (-1))) else (some (-1)))=some r:=h
 clear h
 by_cases c3:(wrap64 ((wrap64 (a0)) - 48)) ≥ 0
 ·
  rw [if_pos c3] at H
  have nN:decide (0≤(wrap64 ((wrap64 (a0)) - 48)))=true:=decide_eq_true c3
  clear c3
  by_cases c4:(wrap64 ((wrap64 (a0)) - 48)) < a1
  ·
   rw [if_pos c4] at H
   have nM:decide ((wrap64 ((wrap64 (a0)) - 48)) < a1)=true:=decide_eq_true c4
   clear c4
   obtain rfl:=Option.some.inj H
   go_enter Tryd.func51,Tryd.ntmps51
   go_wp2
   go_ret
   exact ⟨by first|rfl|(simp;done)|(simp [*];done),by repeat (first|exact aT.refl _|apply aT.step)⟩
  ·
   rw [if_neg c4] at H
   have nM:decide ((wrap64 ((wrap64 (a0)) - 48)) < a1)=false:=decide_eq_false c4
   clear c4
   obtain rfl:=Option.some.inj H
   go_enter Tryd.func51,Tryd.ntmps51
   go_wp2
   go_ret
   exact ⟨by first|rfl|(simp;done)|(simp [*];done),by repeat (first|exact aT.refl _|apply aT.step)⟩
 ·
  rw [if_neg c3] at H
  have nN:decide (0≤(wrap64 ((wrap64 (a0)) - 48)))=false:=decide_eq_false c3
  clear c3
  obtain rfl:=Option.some.inj H
  go_enter Tryd.func51,Tryd.ntmps51
  go_wp2
  go_ret
  exact ⟨by first|rfl|(simp;done)|(simp [*];done),by repeat (first|exact aT.refl _|apply aT.step)⟩
mutual
def bP.l0:Nat→List ByteArray→List ByteArray→Int→Int→Option (Bool)
 | 0,_,_,_,_=>none
 | k+1,x0,x6,x7,x8=>if x8 < x7 then (if 0≤x8 then (if x8 < (x6.length:Int) then (if (dW ByteArray.empty x6 x8).toList=([]:List UInt8) then (bP.j1 k x0 (dW ByteArray.empty x6 x8) x6 x7 x8 true) else (bP.j1 k x0 (dW ByteArray.empty x6 x8) x6 x7 x8 (decide (((dW ByteArray.empty x6 x8).size:Int) > 6)))) else (none)) else (none)) else (if (x0.length:Int) ≥ 1 then (some (decide ((x0.length:Int)≤8))) else (some false))
def bP.j1:Nat→List ByteArray→ByteArray→List ByteArray→Int→Int→Bool→Option (Bool)
 | 0,_,_,_,_,_,_=>none
 | k+1,x0,x4,x6,x7,x8,x18=>if x18=true then (some false) else (bP.l1 k x0 x4 x6 x7 x8 (x4.size:Int) 0)
def bP.l1:Nat→List ByteArray→ByteArray→List ByteArray→Int→Int→Int→Int→Option (Bool)
 | 0,_,_,_,_,_,_,_=>none
 | k+1,x0,x4,x6,x7,x8,x20,QF=>if QF < x20 then (if 0≤QF then (if QF < (x4.size:Int) then (if (bt x4 QF)=105 then (bP.l1 k x0 x4 x6 x7 x8 x20 (wrap64 (QF+1))) else ((jy.f (bt x4 QF) (x0.length:Int)).bind fun t102=>(if t102 < 0 then (some false) else (bP.l1 k x0 x4 x6 x7 x8 x20 (wrap64 (QF+1)))))) else (none)) else (none)) else (bP.l0 k x0 x6 x7 (wrap64 (x8+1)))
end
def bP.f (k:Nat) (l0:List ByteArray):Option (Bool):=bP.l0 k l0 l0 (l0.length:Int) 0
theorem bP.gY:∀ k,(∀ y0 y1 y2 y3,dN (bP.l0 k y0 y1 y2 y3) (bP.l0 (k+1) y0 y1 y2 y3))∧(∀ y0 y1 y2 y3 y4 y5,dN (bP.j1 k y0 y1 y2 y3 y4 y5) (bP.j1 (k+1) y0 y1 y2 y3 y4 y5))∧(∀ y0 y1 y2 y3 y4 y5 y6,dN (bP.l1 k y0 y1 y2 y3 y4 y5 y6) (bP.l1 (k+1) y0 y1 y2 y3 y4 y5 y6))
 | 0=>⟨fun _ _ _ _ r h=>by simp [bP.l0] at h,fun _ _ _ _ _ _ r h=>by simp [bP.j1] at h,fun _ _ _ _ _ _ _ r h=>by simp [bP.l1] at h⟩
 | k+1=>by
  obtain ⟨lF,ih1,ih2⟩:=bP.gY k
  refine ⟨?_,?_,?_⟩
  ·
   intro y0 y1 y2 y3
   unfold bP.l0
   repeat' with_reducible first|apply lF|apply ih1|apply ih2|exact dN.refl _|exact dN.none _|refine dN.ite ?_ ?_|refine dN.bind ?_ (fun _=>?_)
  ·
   intro y0 y1 y2 y3 y4 y5
   unfold bP.j1
   repeat' with_reducible first|apply lF|apply ih1|apply ih2|exact dN.refl _|exact dN.none _|refine dN.ite ?_ ?_|refine dN.bind ?_ (fun _=>?_)
  ·
   intro y0 y1 y2 y3 y4 y5 y6
   unfold bP.l1
   repeat' with_reducible first|apply lF|apply ih1|apply ih2|exact dN.refl _|exact dN.none _|refine dN.ite ?_ ?_|refine dN.bind ?_ (fun _=>?_)
theorem bP.mono:∀ a0 k,dN (bP.f k a0) (bP.f (k+1) a0):=by
 intro a0 k
 obtain ⟨lF,ih1,ih2⟩:=bP.gY k
 unfold bP.f
 repeat' with_reducible first|apply lF|apply ih1|apply ih2|exact dN.refl _|exact dN.none _|refine dN.ite ?_ ?_|refine dN.bind ?_ (fun _=>?_)
set_option maxHeartbeats 8000000 in
set_option maxRecDepth 100000 in
theorem bP.calls (k:Nat) (A0:Option Addr) (c0:Nat) (l0:List ByteArray) (r:Bool) (w:World) (hr0:Kd.C Kd.string w A0 l0.length l0) (hc0:l0.length≤c0) (h:bP.f k l0=some r) :
  Calls Tryd.prog 52 #[.slice A0 l0.length c0] w fun e w'=>e=.returned (.bool r)∧aT w w':=by
 have HR0:=ae.mk hr0
 have tY:=ae.mk hc0
 clear hr0 hc0
 have H:(bP.l0 k l0 l0 (l0.length:Int) 0)=some r:=h
 clear h
 have H':=ae.mk H
 clear H
 go_enter Tryd.func52,Tryd.ntmps52
 go_wp2
 go_loopg [8] k (fun kq v8 w'=>∃ (iT:Int),v8=.int .i64 iT∧ae (bP.l0 kq l0 l0 (l0.length:Int) iT=some r)∧ae (kq≤k)∧aT w w')
 case atStart=>exact ⟨(0),(by first|rfl|(simp;done)|(simp [*];done)),H',⟨Nat.le_refl _⟩,by repeat (first|exact aT.refl _|apply aT.step)⟩
 case round =>
  clear H'
  obtain ⟨iT,rfl,HA,rW,⟨m1,rfl⟩⟩:=hrel
  cases gk with
  | zero=>exact absurd HA.out (by simp [bP.l0])
  | succ k1 =>
   have H:=HA.out
   clear HA
   simp only [bP.l0] at H
   by_cases c2:iT < (l0.length:Int)
   ·
    rw [if_pos c2] at H
    have Ec:decide (iT < (l0.length:Int))=true:=decide_eq_true c2
    clear c2
    by_cases c3:0≤iT
    ·
     rw [if_pos c3] at H
     have nN:decide (0≤iT)=true:=decide_eq_true c3
     clear c3
     by_cases c4:iT < (l0.length:Int)
     ·
      rw [if_pos c4] at H
      have nM:decide (iT < (l0.length:Int))=true:=decide_eq_true c4
      clear c4
      have H8:=ae.mk H
      clear H
      have GN:0≤(iT:Int):=of_decide_eq_true (by first|(with_reducible assumption)|assumption)
      have Gy:iT < (l0.length:Int):=of_decide_eq_true (by first|(with_reducible assumption)|assumption)
      obtain ⟨ado,Ze,RU⟩:=Kd.jD HR0.out iT GN Gy
      cases Ze
      replace GN:=eq_true GN
      replace Gy:=eq_true Gy
      go_upto_region 4 with (fail)
      go_cut [18] (fun v18 wc=>∃ (kq:Nat) (Ii:Bool),v18=.bool Ii∧ae (bP.j1 kq l0 (dW ByteArray.empty l0 iT) l0 (l0.length:Int) iT Ii=some r)∧ae (kq≤k1)∧aT w wc)
      case first =>
       have H:=H8.out
       clear H8
       by_cases c6:(dW ByteArray.empty l0 iT).toList=([]:List UInt8)
       ·
        rw [if_pos c6] at H
        have nR:((dW ByteArray.empty l0 iT).toList == ([]:List UInt8))=true:=beq_iff_eq.mpr c6
        have xP:((dW ByteArray.empty l0 iT).toList != ([]:List UInt8))=false:=bne_eq_false_iff_eq.mpr c6
        clear c6
        (first|rw [nR]|(simp only [bG,bJ];rw [nR])|skip)
        have H':=ae.mk H
        clear H
        go_wp2
        go_meet
        case rel=>exact ⟨_,(true),(by first|rfl|(simp;done)|(simp [*];done)),H',⟨by have:=rW.out;first|omega|exact Nat.le_refl _⟩,by repeat (first|exact aT.refl _|apply aT.step)⟩
       ·
        rw [if_neg c6] at H
        have nR:((dW ByteArray.empty l0 iT).toList == ([]:List UInt8))=false:=beq_eq_false_iff_ne.mpr c6
        have xP:((dW ByteArray.empty l0 iT).toList != ([]:List UInt8))=true:=bne_iff_ne.mpr c6
        (first|rw [nR]|(simp only [bG,bJ];rw [nR])|skip)
        have H':=ae.mk H
        clear H
        go_wp2
        go_meet
        case rel=>exact ⟨_,(decide (((dW ByteArray.empty l0 iT).size:Int) > 6)),(by first|rfl|(simp;done)|(simp [*];done)),H',⟨by have:=rW.out;first|omega|exact Nat.le_refl _⟩,by repeat (first|exact aT.refl _|apply aT.step)⟩
      case rest =>
       clear H8
       obtain ⟨kq,Ii,rfl,HA,H7,⟨mc4,rfl⟩⟩:=hcut
       cases kq with
       | zero=>exact absurd HA.out (by simp [bP.j1])
       | succ uQ =>
        have H:=HA.out
        clear HA
        simp only [bP.j1] at H
        by_cases c7:Ii=true
        ·
         subst c7
         have H1:(some false)=some r:=by rw [if_pos rfl] at H;exact H
         clear H
         have H:=H1
         clear H1
         obtain rfl:=Option.some.inj H
         go_wp2
         go_ret
         exact ⟨by first|rfl|(simp;done)|(simp [*];done),by repeat (first|exact aT.refl _|apply aT.step)⟩
        ·
         replace c7:=Bool.eq_false_iff.mpr c7
         subst c7
         have H1:(bP.l1 uQ l0 (dW ByteArray.empty l0 iT) l0 (l0.length:Int) iT ((dW ByteArray.empty l0 iT).size:Int) 0)=some r:=by rw [if_neg (show ¬ (false=true) by decide)] at H;exact H
         clear H
         have H:=H1
         clear H1
         have H':=ae.mk H
         clear H
         go_wp2
         go_loopg [21] uQ (fun kq v21 w'=>∃ (jZ:Int),v21=.int .i64 jZ∧ae (bP.l1 kq l0 (dW ByteArray.empty l0 iT) l0 (l0.length:Int) iT ((dW ByteArray.empty l0 iT).size:Int) jZ=some r)∧ae (kq≤uQ)∧aT w w')
         case atStart=>exact ⟨(0),(by first|rfl|(simp;done)|(simp [*];done)),H',⟨Nat.le_refl _⟩,by repeat (first|exact aT.refl _|apply aT.step)⟩
         case round =>
          clear H'
          obtain ⟨jZ,rfl,HA,AY,⟨m3,rfl⟩⟩:=hrel
          cases gk with
          | zero=>exact absurd HA.out (by simp [bP.l1])
          | succ k3 =>
           have H:=HA.out
           clear HA
           simp only [bP.l1] at H
           by_cases c8:jZ < ((dW ByteArray.empty l0 iT).size:Int)
           ·
            rw [if_pos c8] at H
            have oU:decide (jZ < ((dW ByteArray.empty l0 iT).size:Int))=true:=decide_eq_true c8
            clear c8
            by_cases c9:0≤jZ
            ·
             rw [if_pos c9] at H
             have Eb:decide (0≤jZ)=true:=decide_eq_true c9
             clear c9
             by_cases c10:jZ < ((dW ByteArray.empty l0 iT).size:Int)
             ·
              rw [if_pos c10] at H
              have oW:decide (jZ < ((dW ByteArray.empty l0 iT).size:Int))=true:=decide_eq_true c10
              clear c10
              by_cases c12:(bt (dW ByteArray.empty l0 iT) jZ)=105
              ·
               rw [if_pos c12] at H
               have vW:((bt (dW ByteArray.empty l0 iT) jZ) == 105)=true:=beq_iff_eq.mpr c12
               have Qa:((bt (dW ByteArray.empty l0 iT) jZ) != 105)=false:=bne_eq_false_iff_eq.mpr c12
               clear c12
               have H':=ae.mk H
               clear H
               have p11:0≤(jZ:Int):=of_decide_eq_true (by first|(with_reducible assumption)|assumption)
               have q11:jZ < ((dW ByteArray.empty l0 iT).size:Int):=of_decide_eq_true (by first|(with_reducible assumption)|assumption)
               have aaO:=kL (dW ByteArray.empty l0 iT) jZ
               replace p11:=eq_true p11
               replace q11:=eq_true q11
               go_wp2
               go_roundg k3
               case measure=>have:=rW.out;have:=H7.out;have:=AY.out;omega
               case rel=>exact ⟨(wrap64 (jZ+1)),(by first|rfl|(simp;done)|(simp [*];done)),H',⟨by have:=rW.out;have:=H7.out;have:=AY.out;omega⟩,by repeat (first|exact aT.refl _|apply aT.step)⟩
              ·
               rw [if_neg c12] at H
               have vW:((bt (dW ByteArray.empty l0 iT) jZ) == 105)=false:=beq_eq_false_iff_ne.mpr c12
               have Qa:((bt (dW ByteArray.empty l0 iT) jZ) != 105)=true:=bne_iff_ne.mpr c12
               replace H:=Option.bind_eq_some_iff.mp H
               obtain ⟨t102,aeo,H⟩:=H
               replace H:(if t102 < 0 then (some false) else (bP.l1 k3 l0 (dW ByteArray.empty l0 iT) l0 (l0.length:Int) iT ((dW ByteArray.empty l0 iT).size:Int) (wrap64 (jZ+1))))=some r:=H
               have A14:=ae.mk aeo
               clear aeo
               by_cases c15:t102 < 0
               ·
                rw [if_pos c15] at H
                have ql:decide (t102 < 0)=true:=decide_eq_true c15
                clear c15
                obtain rfl:=Option.some.inj H
                have p11:0≤(jZ:Int):=of_decide_eq_true (by first|(with_reducible assumption)|assumption)
                have q11:jZ < ((dW ByteArray.empty l0 iT).size:Int):=of_decide_eq_true (by first|(with_reducible assumption)|assumption)
                have aaO:=kL (dW ByteArray.empty l0 iT) jZ
                replace p11:=eq_true p11
                replace q11:=eq_true q11
                have p13:0≤(jZ:Int):=of_decide_eq_true (by first|(with_reducible assumption)|assumption)
                have q13:jZ < ((dW ByteArray.empty l0 iT).size:Int):=of_decide_eq_true (by first|(with_reducible assumption)|assumption)
                have RQ:=kL (dW ByteArray.empty l0 iT) jZ
                replace p13:=eq_true p13
                replace q13:=eq_true q13
                go_wp2_with (first|(go_at_call 51;(with_reducible refine (jy.calls (bt (dW ByteArray.empty l0 iT) jZ) (l0.length:Int) t102 _ A14.out).mono ?_);rintro e w' ⟨rfl,⟨nd,rfl⟩⟩))
                go_ret
                exact ⟨by first|rfl|(simp;done)|(simp [*];done),by repeat (first|exact aT.refl _|apply aT.step)⟩
               ·
                rw [if_neg c15] at H
                have ql:decide (t102 < 0)=false:=decide_eq_false c15
                clear c15
                have H':=ae.mk H
                clear H
                have p11:0≤(jZ:Int):=of_decide_eq_true (by first|(with_reducible assumption)|assumption)
                have q11:jZ < ((dW ByteArray.empty l0 iT).size:Int):=of_decide_eq_true (by first|(with_reducible assumption)|assumption)
                have aaO:=kL (dW ByteArray.empty l0 iT) jZ
                replace p11:=eq_true p11
                replace q11:=eq_true q11
                have p13:0≤(jZ:Int):=of_decide_eq_true (by first|(with_reducible assumption)|assumption)
                have q13:jZ < ((dW ByteArray.empty l0 iT).size:Int):=of_decide_eq_true (by first|(with_reducible assumption)|assumption)
                have RQ:=kL (dW ByteArray.empty l0 iT) jZ
                replace p13:=eq_true p13
                replace q13:=eq_true q13
                go_wp2_with (first|(go_at_call 51;(with_reducible refine (jy.calls (bt (dW ByteArray.empty l0 iT) jZ) (l0.length:Int) t102 _ A14.out).mono ?_);rintro e w' ⟨rfl,⟨nd,rfl⟩⟩))
                go_roundg k3
                case measure=>have:=rW.out;have:=H7.out;have:=AY.out;omega
                case rel=>exact ⟨(wrap64 (jZ+1)),(by first|rfl|(simp;done)|(simp [*];done)),H',⟨by have:=rW.out;have:=H7.out;have:=AY.out;omega⟩,by repeat (first|exact aT.refl _|apply aT.step)⟩
             ·
              rw [if_neg c10] at H
              exact absurd H (by simp)
            ·
             rw [if_neg c9] at H
             exact absurd H (by simp)
           ·
            rw [if_neg c8] at H
            have oU:decide (jZ < ((dW ByteArray.empty l0 iT).size:Int))=false:=decide_eq_false c8
            clear c8
            have H':=ae.mk H
            clear H
            go_wp2
            go_roundg k3
            case measure=>have:=rW.out;have:=H7.out;have:=AY.out;omega
            case rel=>exact ⟨(wrap64 (iT+1)),(by first|rfl|(simp;done)|(simp [*];done)),H',⟨by have:=rW.out;have:=H7.out;have:=AY.out;omega⟩,by repeat (first|exact aT.refl _|apply aT.step)⟩
     ·
      rw [if_neg c4] at H
      exact absurd H (by simp)
    ·
     rw [if_neg c3] at H
     exact absurd H (by simp)
   ·
    rw [if_neg c2] at H
    have Ec:decide (iT < (l0.length:Int))=false:=decide_eq_false c2
    clear c2
    by_cases c16:(l0.length:Int) ≥ 1
    ·
     rw [if_pos c16] at H
     have Aw:decide (1≤(l0.length:Int))=true:=decide_eq_true c16
     have ade:decide (1≤l0.length)=true:=decide_eq_true (by omega)
     clear c16
     obtain rfl:=Option.some.inj H
     go_wp2
     go_ret
     exact ⟨by first|rfl|(simp;done)|(simp [*];done),by repeat (first|exact aT.refl _|apply aT.step)⟩
    ·
     rw [if_neg c16] at H
     have Aw:decide (1≤(l0.length:Int))=false:=decide_eq_false c16
     have ade:decide (1≤l0.length)=false:=decide_eq_false (by omega)
     clear c16
     obtain rfl:=Option.some.inj H
     go_wp2
     go_ret
     exact ⟨by first|rfl|(simp;done)|(simp [*];done),by repeat (first|exact aT.refl _|apply aT.step)⟩
def fJ.l0:Nat→List ByteArray→ByteArray→Int→Int→Option (Bool)
 | 0,_,_,_,_=>none
 | k+1,x0,x1,x7,x8=>if x8 < x7 then (if 0≤x8 then (if x8 < (x1.size:Int) then ((jy.f (bt x1 x8) (x0.length:Int)).bind fun t103=>(if t103 < 0 then (some false) else (fJ.l0 k x0 x1 x7 (wrap64 (x8+1))))) else (none)) else (none)) else ((bP.f k x0).bind fun t104=>(some t104))
def fJ.f (k:Nat) (l0:List ByteArray) (a1:ByteArray):Option (Bool):=fJ.l0 k l0 a1 (a1.size:Int) 0
theorem fJ.gY:∀ k,(∀ y0 y1 y2 y3,dN (fJ.l0 k y0 y1 y2 y3) (fJ.l0 (k+1) y0 y1 y2 y3))
 | 0=>fun _ _ _ _ r h=>by simp [fJ.l0] at h
 | k+1=>by
  have lF:=fJ.gY k
  ·
   intro y0 y1 y2 y3
   unfold fJ.l0
   repeat' with_reducible first|apply lF|apply bP.mono|exact dN.refl _|exact dN.none _|refine dN.ite ?_ ?_|refine dN.bind ?_ (fun _=>?_)
theorem fJ.mono:∀ a0 a1 k,dN (fJ.f k a0 a1) (fJ.f (k+1) a0 a1):=by
 intro a0 a1 k
 have lF:=fJ.gY k
 unfold fJ.f
 repeat' with_reducible first|apply lF|apply bP.mono|exact dN.refl _|exact dN.none _|refine dN.ite ?_ ?_|refine dN.bind ?_ (fun _=>?_)
set_option maxHeartbeats 8000000 in
set_option maxRecDepth 100000 in
theorem fJ.calls (k:Nat) (A0:Option Addr) (c0:Nat) (l0:List ByteArray) (a1:ByteArray) (r:Bool) (w:World) (hr0:Kd.C Kd.string w A0 l0.length l0) (hc0:l0.length≤c0) (h:fJ.f k l0 a1=some r) :
  Calls Tryd.prog 32 #[.slice A0 l0.length c0,.string a1] w fun e w'=>e=.returned (.bool r)∧aT w w':=by
 have HR0:=ae.mk hr0
 have tY:=ae.mk hc0
 clear hr0 hc0
 have H:(fJ.l0 k l0 a1 (a1.size:Int) 0)=some r:=h
 clear h
 have H':=ae.mk H
 clear H
 go_enter Tryd.func32,Tryd.ntmps32
 go_wp2
 go_loopg [8] k (fun kq v8 w'=>∃ (iT:Int),v8=.int .i64 iT∧ae (fJ.l0 kq l0 a1 (a1.size:Int) iT=some r)∧ae (kq≤k)∧aT w w')
 case atStart=>exact ⟨(0),(by first|rfl|(simp;done)|(simp [*];done)),H',⟨Nat.le_refl _⟩,by repeat (first|exact aT.refl _|apply aT.step)⟩
 case round =>
  clear H'
  obtain ⟨iT,rfl,HA,rW,⟨m1,rfl⟩⟩:=hrel
  cases gk with
  | zero=>exact absurd HA.out (by simp [fJ.l0])
  | succ k1 =>
   have H:=HA.out
   clear HA
   simp only [fJ.l0] at H
   by_cases c3:iT < (a1.size:Int)
   ·
    rw [if_pos c3] at H
    have nN:decide (iT < (a1.size:Int))=true:=decide_eq_true c3
    clear c3
    by_cases c4:0≤iT
    ·
     rw [if_pos c4] at H
     have nM:decide (0≤iT)=true:=decide_eq_true c4
     clear c4
     by_cases c5:iT < (a1.size:Int)
     ·
      rw [if_pos c5] at H
      have qO:decide (iT < (a1.size:Int))=true:=decide_eq_true c5
      clear c5
      replace H:=Option.bind_eq_some_iff.mp H
      obtain ⟨t103,Z7,H⟩:=H
      replace H:(if t103 < 0 then (some false) else (fJ.l0 k1 l0 a1 (a1.size:Int) (wrap64 (iT+1))))=some r:=H
      have A7:=ae.mk Z7
      clear Z7
      by_cases c8:t103 < 0
      ·
       rw [if_pos c8] at H
       have oU:decide (t103 < 0)=true:=decide_eq_true c8
       clear c8
       obtain rfl:=Option.some.inj H
       have p6:0≤(iT:Int):=of_decide_eq_true (by first|(with_reducible assumption)|assumption)
       have q6:iT < (a1.size:Int):=of_decide_eq_true (by first|(with_reducible assumption)|assumption)
       have hx6:=kL a1 iT
       replace p6:=eq_true p6
       replace q6:=eq_true q6
       go_wp2_with (first|((with_reducible refine bu (f:=51) rfl ?_);refine dS (some 16) rfl rfl Tryd.func51 (by kernel_rfl) rfl #[.int .u8 (bt a1 iT),.int .i64 (l0.length:Int)] rfl (by (try simp only [List.map_toArray,List.map_cons,List.map_nil]);first|done|rfl|(simp only [List.length_drop,List.length_take];rfl)) ?_;(with_reducible refine (jy.calls (bt a1 iT) (l0.length:Int) t103 _ A7.out).mono ?_);rintro e w' ⟨rfl,⟨nd,rfl⟩⟩;refine ⟨_,rfl,?_⟩))
       go_ret
       exact ⟨by first|rfl|(simp;done)|(simp [*];done),by repeat (first|exact aT.refl _|apply aT.step)⟩
      ·
       rw [if_neg c8] at H
       have oU:decide (t103 < 0)=false:=decide_eq_false c8
       clear c8
       have H':=ae.mk H
       clear H
       have p6:0≤(iT:Int):=of_decide_eq_true (by first|(with_reducible assumption)|assumption)
       have q6:iT < (a1.size:Int):=of_decide_eq_true (by first|(with_reducible assumption)|assumption)
       have hx6:=kL a1 iT
       replace p6:=eq_true p6
       replace q6:=eq_true q6
       go_wp2_with (first|((with_reducible refine bu (f:=51) rfl ?_);refine dS (some 16) rfl rfl Tryd.func51 (by kernel_rfl) rfl #[.int .u8 (bt a1 iT),.int .i64 (l0.length:Int)] rfl (by (try simp only [List.map_toArray,List.map_cons,List.map_nil]);first|done|rfl|(simp only [List.length_drop,List.length_take];rfl)) ?_;(with_reducible refine (jy.calls (bt a1 iT) (l0.length:Int) t103 _ A7.out).mono ?_);rintro e w' ⟨rfl,⟨nd,rfl⟩⟩;refine ⟨_,rfl,?_⟩))
       go_roundg k1
       case measure=>have:=rW.out;omega
       case rel=>exact ⟨(wrap64 (iT+1)),(by first|rfl|(simp;done)|(simp [*];done)),H',⟨by have:=rW.out;omega⟩,by repeat (first|exact aT.refl _|apply aT.step)⟩
     ·
      rw [if_neg c5] at H
      exact absurd H (by simp)
    ·
     rw [if_neg c4] at H
     exact absurd H (by simp)
   ·
    rw [if_neg c3] at H
    have nN:decide (iT < (a1.size:Int))=false:=decide_eq_false c3
    clear c3
    replace H:=Option.bind_eq_some_iff.mp H
    obtain ⟨t104,Np,H⟩:=H
    replace H:(some t104)=some r:=H
    have A9:=ae.mk Np
    clear Np
    obtain rfl:=Option.some.inj H
    go_wp2_with (first|((with_reducible refine bu (f:=52) rfl ?_);refine dS (some 20) rfl rfl Tryd.func52 (by kernel_rfl) rfl #[.slice A0 l0.length c0] rfl (by (try simp only [List.map_toArray,List.map_cons,List.map_nil]);first|done|rfl|(simp only [List.length_drop,List.length_take];rfl)) ?_;(with_reducible refine (bP.calls k1 _ _ l0 t104 _ ?cu ?dw A9.out).mono ?_);(case cu=>repeat (first|exact HR0.out|(with_reducible refine Kd.bT ?_ _)|(with_reducible refine Kd.bQ ?_ _)|(with_reducible refine Kd.dD ?_)));(case dw=>exact tY.out);rintro e w' ⟨rfl,⟨nd,rfl⟩⟩;refine ⟨_,rfl,?_⟩))
    go_ret
    exact ⟨by first|rfl|(simp;done)|(simp [*];done),by repeat (first|exact aT.refl _|apply aT.step)⟩
def iO.f (k:Nat) (l0:List ByteArray) (a1:ByteArray) (a2:Int):Option (Int):=if (wrap64 (a2)) ≥ (a1.size:Int) then (some (-1)) else (if 0≤(wrap64 (a2)) then (if (wrap64 (a2))≤(wrap64 ((wrap64 (a2))+1)) then (if (wrap64 ((wrap64 (a2))+1))≤(a1.size:Int) then ((fJ.f k l0 (a1.extract ((wrap64 (a2)):Int).toNat ((wrap64 ((wrap64 (a2))+1)):Int).toNat)).bind fun t105=>(if t105=true then (if 0≤a2 then (if a2 < (a1.size:Int) then (some (((bt a1 a2) - 48) % 256)) else (none)) else (none)) else (some (-1)))) else (none)) else (none)) else (none))
theorem iO.mono:∀ a0 a1 a2 k,dN (iO.f k a0 a1 a2) (iO.f (k+1) a0 a1 a2):=by
 intro a0 a1 a2 k
 unfold iO.f
 repeat' with_reducible first|apply fJ.mono|exact dN.refl _|exact dN.none _|refine dN.ite ?_ ?_|refine dN.bind ?_ (fun _=>?_)
set_option maxHeartbeats 8000000 in
set_option maxRecDepth 100000 in
theorem iO.calls (k:Nat) (A0:Option Addr) (c0:Nat) (l0:List ByteArray) (a1:ByteArray) (a2:Int) (r:Int) (w:World) (hr0:Kd.C Kd.string w A0 l0.length l0) (hc0:l0.length≤c0) (h:iO.f k l0 a1 a2=some r) :
  Calls Tryd.prog 61 #[.slice A0 l0.length c0,.string a1,.int .u8 a2] w fun e w'=>e=.returned (.int .i64 r)∧aT w w':=by
 have HR0:=ae.mk hr0
 have tY:=ae.mk hc0
 clear hr0 hc0
 have H:(if (wrap64 (a2)) ≥ (a1.size:Int) then (some (-1)) else (if 0≤(wrap64 (a2)) then (if (wrap64 (a2))≤(wrap64 ((wrap64 (a2))+1)) then (if (wrap64 ((wrap64 (a2))+1))≤(a1.size:Int) then ((fJ.f k l0 (a1.extract ((wrap64 (a2)):Int).toNat ((wrap64 ((wrap64 (a2))+1)):Int).toNat)).bind fun t105=>(if t105=true then (if 0≤a2 then (if a2 < (a1.size:Int) then (some (((bt a1 a2) - 48) % 256)) else (none)) else (none)) else (some (-1)))) else (none)) else (none)) else (none)))=some r:=h
 clear h
 by_cases c4:(wrap64 (a2)) ≥ (a1.size:Int)
 ·
  rw [if_pos c4] at H
  have nM:decide ((a1.size:Int)≤(wrap64 (a2)))=true:=decide_eq_true c4
  clear c4
  obtain rfl:=Option.some.inj H
  go_enter Tryd.func61,Tryd.ntmps61
  go_wp2
  go_ret
  exact ⟨by first|rfl|(simp;done)|(simp [*];done),by repeat (first|exact aT.refl _|apply aT.step)⟩
 ·
  rw [if_neg c4] at H
  have nM:decide ((a1.size:Int)≤(wrap64 (a2)))=false:=decide_eq_false c4
  clear c4
  obtain ⟨sQ,xN⟩:∃ j_:Int,(wrap64 (a2))=j_:=⟨_,rfl⟩
  replace H:(if 0≤(sQ) then (if (sQ)≤(wrap64 ((sQ)+1)) then (if (wrap64 ((sQ)+1))≤(a1.size:Int) then ((fJ.f k l0 (a1.extract ((sQ):Int).toNat ((wrap64 ((sQ)+1)):Int).toNat)).bind fun t105=>(if t105=true then (if 0≤a2 then (if a2 < (a1.size:Int) then (some (((bt a1 a2) - 48) % 256)) else (none)) else (none)) else (some (-1)))) else (none)) else (none)) else (none))=some r:=by first|(rw [xN] at H;exact H)|(simp only [xN] at H ⊢;exact H)
  (try rw [xN] at nM)
  have abg:(IntKind.i64.wrap (a2))=sQ:=(bG _).trans xN
  by_cases c6:0≤(sQ)
  ·
   rw [if_pos c6] at H
   have nR:=eq_true c6
   have xP:decide (0≤(sQ))=true:=decide_eq_true c6
   clear c6
   by_cases c7:(sQ)≤(wrap64 ((sQ)+1))
   ·
    rw [if_pos c7] at H
    have nV:=eq_true c7
    have xn:decide ((sQ)≤(wrap64 ((sQ)+1)))=true:=decide_eq_true c7
    by_cases c8:(wrap64 ((sQ)+1))≤(a1.size:Int)
    ·
     rw [if_pos c8] at H
     have oU:=eq_true c8
     have yH:decide ((wrap64 ((sQ)+1))≤(a1.size:Int))=true:=decide_eq_true c8
     replace H:=Option.bind_eq_some_iff.mp H
     obtain ⟨t105,Np,H⟩:=H
     replace H:(if t105=true then (if 0≤a2 then (if a2 < (a1.size:Int) then (some (((bt a1 a2) - 48) % 256)) else (none)) else (none)) else (some (-1)))=some r:=H
     have A9:=ae.mk Np
     clear Np
     by_cases c10:t105=true
     ·
      subst c10
      have H1:(if 0≤a2 then (if a2 < (a1.size:Int) then (some (((bt a1 a2) - 48) % 256)) else (none)) else (none))=some r:=by rw [if_pos rfl] at H;exact H
      clear H
      have H:=H1
      clear H1
      by_cases c11:0≤a2
      ·
       rw [if_pos c11] at H
       have uz:decide (0≤a2)=true:=decide_eq_true c11
       clear c11
       by_cases c12:a2 < (a1.size:Int)
       ·
        rw [if_pos c12] at H
        have vW:decide (a2 < (a1.size:Int))=true:=decide_eq_true c12
        clear c12
        obtain rfl:=Option.some.inj H
        go_enter Tryd.func61,Tryd.ntmps61
        go_wp2_with (first|(go_at_call 32;(with_reducible refine (fJ.calls k _ _ l0 (a1.extract ((sQ):Int).toNat ((wrap64 ((sQ)+1)):Int).toNat) true _ ?cu ?dw A9.out).mono ?_);(case cu=>repeat (first|exact HR0.out|(with_reducible refine Kd.bT ?_ _)|(with_reducible refine Kd.bQ ?_ _)|(with_reducible refine Kd.dD ?_)));(case dw=>exact tY.out);rintro e w' ⟨rfl,⟨nd,rfl⟩⟩;have p13:0≤(a2:Int):=of_decide_eq_true (by first|(with_reducible assumption)|assumption);have q13:a2 < (a1.size:Int):=of_decide_eq_true (by first|(with_reducible assumption)|assumption);have RQ:=kL a1 a2;replace p13:=eq_true p13;replace q13:=eq_true q13))
        go_ret
        exact ⟨by first|rfl|(simp;done)|(simp only [← xN] <;> (first|rfl|simp))|(simp [*];done),by repeat (first|exact aT.refl _|apply aT.step)⟩
       ·
        rw [if_neg c12] at H
        exact absurd H (by simp)
      ·
       rw [if_neg c11] at H
       exact absurd H (by simp)
     ·
      replace c10:=Bool.eq_false_iff.mpr c10
      subst c10
      have H1:(some (-1))=some r:=by rw [if_neg (show ¬ (false=true) by decide)] at H;exact H
      clear H
      have H:=H1
      clear H1
      obtain rfl:=Option.some.inj H
      go_enter Tryd.func61,Tryd.ntmps61
      go_wp2_with (first|(go_at_call 32;(with_reducible refine (fJ.calls k _ _ l0 (a1.extract ((sQ):Int).toNat ((wrap64 ((sQ)+1)):Int).toNat) false _ ?cu ?dw A9.out).mono ?_);(case cu=>repeat (first|exact HR0.out|(with_reducible refine Kd.bT ?_ _)|(with_reducible refine Kd.bQ ?_ _)|(with_reducible refine Kd.dD ?_)));(case dw=>exact tY.out);rintro e w' ⟨rfl,⟨nd,rfl⟩⟩))
      go_ret
      exact ⟨by first|rfl|(simp;done)|(simp only [← xN] <;> (first|rfl|simp))|(simp [*];done),by repeat (first|exact aT.refl _|apply aT.step)⟩
    ·
     rw [if_neg c8] at H
     exact absurd H (by simp)
   ·
    rw [if_neg c7] at H
    exact absurd H (by simp)
  ·
   rw [if_neg c6] at H
   exact absurd H (by simp)
def gu.f (k:Nat) (aY:List ByteArray) (aU:ByteArray) (aV:ByteArray) (aI:List (gZ)) (a1:Int):Option (Int):=(iO.f k aY aU a1).bind fun t107=>(some t107)
theorem gu.mono:∀ a0 a1 a2 a3 a4 k,dN (gu.f k a0 a1 a2 a3 a4) (gu.f (k+1) a0 a1 a2 a3 a4):=by
 intro a0 a1 a2 a3 a4 k
 unfold gu.f
 repeat' with_reducible first|apply iO.mono|exact dN.refl _|exact dN.none _|refine dN.ite ?_ ?_|refine dN.bind ?_ (fun _=>?_)
set_option maxHeartbeats 8000000 in
set_option maxRecDepth 100000 in
theorem gu.calls (k:Nat) (eu:Option Addr) (ed:Nat) (aY:List ByteArray) (aU:ByteArray) (aV:ByteArray) (fV:Option Addr) (eX:Nat) (aI:List (gZ)) (a1:Int) (r:Int) (w:World) (jK:Kd.C Kd.string w eu aY.length aY) (jM:aY.length≤ed) (jJ:Kd.C tZ w fV aI.length aI) (jL:aI.length≤eX) (h:gu.f k aY aU aV aI a1=some r) :
  Calls Tryd.prog 36 #[.agg #[.slice eu aY.length ed,.string aU,.string aV,.slice fV aI.length eX],.int .u8 a1] w fun e w'=>e=.returned (.int .i64 r)∧Below w.heap.size w w':=by
 have xM:=Tryd.underlying25
 have iq:=ae.mk jK
 have iC:=ae.mk jM
 clear jK jM
 have jG:=ae.mk jJ
 have jW:=ae.mk jL
 clear jJ jL
 have HB:=ae.mk (Below.refl w.heap.size w)
 have H:((iO.f k aY aU a1).bind fun t107=>(some t107))=some r:=h
 clear h
 replace H:=Option.bind_eq_some_iff.mp H
 obtain ⟨t107,xB,H⟩:=H
 replace H:(some t107)=some r:=H
 have A3:=ae.mk xB
 clear xB
 obtain rfl:=Option.some.inj H
 go_enter Tryd.func36,Tryd.ntmps36
 go_wp2_with (first|((with_reducible refine dL (N:=2) rfl ?_);refine fF ?hg (N:=2) ?hd (cs:=#[.slice eu aY.length ed,.string aU,.string aV,.slice fV aI.length eX]) (t:=25) ?hr ?_;(case hd=>rfl);(case hg=>rfl);(case hr=>first|(go_simp;done)|(go_simp;rfl));intro Ff hg w4 hbox hb;have dV:=ae.mk (bg (by repeat (first|(with_reducible first|exact HB.out|apply ah|apply af|apply ai)|exact HB.out)) hb);have dU:=ae.mk (hbox);have dR:=ae.mk ((by rw [hg];exact (bW (by repeat (first|(with_reducible first|exact HB.out|apply ah|apply af|apply ai)|exact HB.out))):w.heap.size≤Ff));have gQ:=dR;clear HB;have HB:=dV;have yC:=dU;have an7:=dR;have adO:=gQ;clear dV dU dR gQ;clear hb hbox hg;have Aj:w4.cell? ⟨Ff,0,none⟩=some (.slice eu aY.length ed):=(ax yC.out 0).trans rfl;have Ai:w4.cell? ⟨Ff,1,none⟩=some (.string aU):=(ax yC.out 1).trans rfl;have Ah:w4.cell? ⟨Ff,2,none⟩=some (.string aV):=(ax yC.out 2).trans rfl;have Ag:w4.cell? ⟨Ff,3,none⟩=some (.slice fV aI.length eX):=(ax yC.out 3).trans rfl;have Af:=aC yC.out 0;have Ae:=aC yC.out 1;have Ad:=aC yC.out 2;have Ac:=aC yC.out 3)|((with_reducible refine bu (f:=61) rfl ?_);refine dS (some 10) rfl rfl Tryd.func61 (by kernel_rfl) rfl #[.slice eu aY.length ed,.string aU,.int .u8 a1] rfl (by (try simp only [List.map_toArray,List.map_cons,List.map_nil]);first|done|rfl|(simp only [List.length_drop,List.length_take];rfl)) ?_;(with_reducible refine (iO.calls k _ _ aY aU a1 t107 _ ?cu ?dw A3.out).mono ?_);(case cu=>repeat (first|exact (Kd.bK iq.out HB.out)|(with_reducible refine Kd.bT ?_ _)|(with_reducible refine Kd.bQ ?_ _)|(with_reducible refine Kd.dD ?_)));(case dw=>exact iC.out);rintro e w' ⟨rfl,⟨nd,rfl⟩⟩;refine ⟨_,rfl,?_⟩))
 go_ret
 exact ⟨by first|rfl|(simp [aQ,aN] <;> rfl)|(simp [*,aQ,aN] <;> rfl),by repeat (first|(with_reducible first|exact HB.out|apply ah|apply af|apply ai|refine aj ?_ adO.out)|exact HB.out)⟩
def dF.l0:Nat→List Int→Int→Int→Option (Bool)
 | 0,_,_,_=>none
 | k+1,x5,x6,x7=>if x7 < x6 then (if 0≤x7 then (if x7 < (x5.length:Int) then (if (rd x5 x7) ≥ 8 then (some false) else (dF.l0 k x5 x6 (wrap64 (x7+1)))) else (none)) else (none)) else (some true)
def dF.f (k:Nat) (l0:List Int):Option (Bool):=dF.l0 k l0 (l0.length:Int) 0
theorem dF.gY:∀ k,(∀ y0 y1 y2,dN (dF.l0 k y0 y1 y2) (dF.l0 (k+1) y0 y1 y2))
 | 0=>fun _ _ _ r h=>by simp [dF.l0] at h
 | k+1=>by
  have lF:=dF.gY k
  ·
   intro y0 y1 y2
   unfold dF.l0
   repeat' with_reducible first|apply lF|exact dN.refl _|exact dN.none _|refine dN.ite ?_ ?_|refine dN.bind ?_ (fun _=>?_)
theorem dF.mono:∀ a0 k,dN (dF.f k a0) (dF.f (k+1) a0):=by
 intro a0 k
 have lF:=dF.gY k
 unfold dF.f
 repeat' with_reducible first|apply lF|exact dN.refl _|exact dN.none _|refine dN.ite ?_ ?_|refine dN.bind ?_ (fun _=>?_)
set_option maxHeartbeats 8000000 in
set_option maxRecDepth 100000 in
theorem dF.calls (k:Nat) (A0:Option Addr) (c0:Nat) (l0:List Int) (r:Bool) (w:World) (hr0:Kd.C (Kd.int .u8) w A0 l0.length l0) (hc0:l0.length≤c0) (h:dF.f k l0=some r) :
  Calls Tryd.prog 55 #[.slice A0 l0.length c0] w fun e w'=>e=.returned (.bool r)∧aT w w':=by
 have HR0:=ae.mk hr0
 have tY:=ae.mk hc0
 clear hr0 hc0
 have H:(dF.l0 k l0 (l0.length:Int) 0)=some r:=h
 clear h
 have H':=ae.mk H
 clear H
 go_enter Tryd.func55,Tryd.ntmps55
 go_wp2
 go_loopg [7] k (fun kq v7 w'=>∃ (ry:Int),v7=.int .i64 ry∧ae (dF.l0 kq l0 (l0.length:Int) ry=some r)∧ae (kq≤k)∧aT w w')
 case atStart=>exact ⟨(0),(by first|rfl|(simp;done)|(simp [*];done)),H',⟨Nat.le_refl _⟩,by repeat (first|exact aT.refl _|apply aT.step)⟩
 case round =>
  clear H'
  obtain ⟨ry,rfl,HA,rW,⟨m1,rfl⟩⟩:=hrel
  cases gk with
  | zero=>exact absurd HA.out (by simp [dF.l0])
  | succ k1 =>
   have H:=HA.out
   clear HA
   simp only [dF.l0] at H
   by_cases c2:ry < (l0.length:Int)
   ·
    rw [if_pos c2] at H
    have Ec:decide (ry < (l0.length:Int))=true:=decide_eq_true c2
    clear c2
    by_cases c3:0≤ry
    ·
     rw [if_pos c3] at H
     have nN:decide (0≤ry)=true:=decide_eq_true c3
     clear c3
     by_cases c4:ry < (l0.length:Int)
     ·
      rw [if_pos c4] at H
      have nM:decide (ry < (l0.length:Int))=true:=decide_eq_true c4
      clear c4
      by_cases c5:(rd l0 ry) ≥ 8
      ·
       rw [if_pos c5] at H
       have qO:decide (8≤(rd l0 ry))=true:=decide_eq_true c5
       clear c5
       obtain rfl:=Option.some.inj H
       have GM:0≤(ry:Int):=of_decide_eq_true (by first|(with_reducible assumption)|assumption)
       have Gx:ry < (l0.length:Int):=of_decide_eq_true (by first|(with_reducible assumption)|assumption)
       obtain ⟨adn,e108,RS⟩:=Kd.tu HR0.out ry GM Gx
       cases e108
       replace GM:=eq_true GM
       replace Gx:=eq_true Gx
       go_wp2
       go_ret
       exact ⟨by first|rfl|(simp;done)|(simp [*];done),by repeat (first|exact aT.refl _|apply aT.step)⟩
      ·
       rw [if_neg c5] at H
       have qO:decide (8≤(rd l0 ry))=false:=decide_eq_false c5
       clear c5
       have H':=ae.mk H
       clear H
       have GM:0≤(ry:Int):=of_decide_eq_true (by first|(with_reducible assumption)|assumption)
       have Gx:ry < (l0.length:Int):=of_decide_eq_true (by first|(with_reducible assumption)|assumption)
       obtain ⟨adn,e108,RS⟩:=Kd.tu HR0.out ry GM Gx
       cases e108
       replace GM:=eq_true GM
       replace Gx:=eq_true Gx
       go_wp2
       go_roundg k1
       case measure=>have:=rW.out;omega
       case rel=>exact ⟨(wrap64 (ry+1)),(by first|rfl|(simp;done)|(simp [*];done)),H',⟨by have:=rW.out;omega⟩,by repeat (first|exact aT.refl _|apply aT.step)⟩
     ·
      rw [if_neg c4] at H
      exact absurd H (by simp)
    ·
     rw [if_neg c3] at H
     exact absurd H (by simp)
   ·
    rw [if_neg c2] at H
    have Ec:decide (ry < (l0.length:Int))=false:=decide_eq_false c2
    clear c2
    obtain rfl:=Option.some.inj H
    go_wp2
    go_ret
    exact ⟨by first|rfl|(simp;done)|(simp [*];done),by repeat (first|exact aT.refl _|apply aT.step)⟩
def gU.f (a0:Int) (a1:Int):Option (Bool):=if a0 ≥ 0 then (some (a0 == a1)) else (some false)
set_option maxHeartbeats 8000000 in
set_option maxRecDepth 100000 in
theorem gU.calls (a0:Int) (a1:Int) (r:Bool) (w:World) (h:gU.f a0 a1=some r) :
  Calls Tryd.prog 56 #[.int .i64 a0,.int .i64 a1] w fun e w'=>e=.returned (.bool r)∧aT w w':=by
 have H:(if a0 ≥ 0 then (some (a0 == a1)) else (some false))=some r:=h
 clear h
 by_cases c3:a0 ≥ 0
 ·
  rw [if_pos c3] at H
  have nN:decide (0≤a0)=true:=decide_eq_true c3
  clear c3
  obtain rfl:=Option.some.inj H
  go_enter Tryd.func56,Tryd.ntmps56
  go_wp2
  go_ret
  exact ⟨by first|rfl|(simp;done)|(simp [*];done),by repeat (first|exact aT.refl _|apply aT.step)⟩
 ·
  rw [if_neg c3] at H
  have nN:decide (0≤a0)=false:=decide_eq_false c3
  clear c3
  obtain rfl:=Option.some.inj H
  go_enter Tryd.func56,Tryd.ntmps56
  go_wp2
  go_ret
  exact ⟨by first|rfl|(simp;done)|(simp [*];done),by repeat (first|exact aT.refl _|apply aT.step)⟩
def kY.f (k:Nat) (l0:List ByteArray) (a1:Int):Option (ByteArray):=(bP.f k l0).bind fun t109=>(if t109=true then (if a1 < 0 then (some (⟨#[]⟩:ByteArray)) else (if a1 ≥ (l0.length:Int) then (some (⟨#[]⟩:ByteArray)) else (if 0≤a1 then (if a1 < (l0.length:Int) then (some (dW ByteArray.empty l0 a1)) else (none)) else (none)))) else (some (⟨#[]⟩:ByteArray)))
theorem kY.mono:∀ a0 a1 k,dN (kY.f k a0 a1) (kY.f (k+1) a0 a1):=by
 intro a0 a1 k
 unfold kY.f
 repeat' with_reducible first|apply bP.mono|exact dN.refl _|exact dN.none _|refine dN.ite ?_ ?_|refine dN.bind ?_ (fun _=>?_)
set_option maxHeartbeats 8000000 in
set_option maxRecDepth 100000 in
theorem kY.calls (k:Nat) (A0:Option Addr) (c0:Nat) (l0:List ByteArray) (a1:Int) (r:ByteArray) (w:World) (hr0:Kd.C Kd.string w A0 l0.length l0) (hc0:l0.length≤c0) (h:kY.f k l0 a1=some r) :
  Calls Tryd.prog 60 #[.slice A0 l0.length c0,.int .i64 a1] w fun e w'=>e=.returned (.string r)∧aT w w':=by
 have HR0:=ae.mk hr0
 have tY:=ae.mk hc0
 clear hr0 hc0
 have H:((bP.f k l0).bind fun t109=>(if t109=true then (if a1 < 0 then (some (⟨#[]⟩:ByteArray)) else (if a1 ≥ (l0.length:Int) then (some (⟨#[]⟩:ByteArray)) else (if 0≤a1 then (if a1 < (l0.length:Int) then (some (dW ByteArray.empty l0 a1)) else (none)) else (none)))) else (some (⟨#[]⟩:ByteArray))))=some r:=h
 clear h
 replace H:=Option.bind_eq_some_iff.mp H
 obtain ⟨t109,xB,H⟩:=H
 replace H:(if t109=true then (if a1 < 0 then (some (⟨#[]⟩:ByteArray)) else (if a1 ≥ (l0.length:Int) then (some (⟨#[]⟩:ByteArray)) else (if 0≤a1 then (if a1 < (l0.length:Int) then (some (dW ByteArray.empty l0 a1)) else (none)) else (none)))) else (some (⟨#[]⟩:ByteArray)))=some r:=H
 have A3:=ae.mk xB
 clear xB
 by_cases c4:t109=true
 ·
  subst c4
  have H1:(if a1 < 0 then (some (⟨#[]⟩:ByteArray)) else (if a1 ≥ (l0.length:Int) then (some (⟨#[]⟩:ByteArray)) else (if 0≤a1 then (if a1 < (l0.length:Int) then (some (dW ByteArray.empty l0 a1)) else (none)) else (none))))=some r:=by rw [if_pos rfl] at H;exact H
  clear H
  have H:=H1
  clear H1
  by_cases c5:a1 < 0
  ·
   rw [if_pos c5] at H
   have qO:decide (a1 < 0)=true:=decide_eq_true c5
   clear c5
   obtain rfl:=Option.some.inj H
   go_enter Tryd.func60,Tryd.ntmps60
   go_wp2_with (first|((with_reducible refine bu (f:=52) rfl ?_);refine dS (some 6) rfl rfl Tryd.func52 (by kernel_rfl) rfl #[.slice A0 l0.length c0] rfl (by (try simp only [List.map_toArray,List.map_cons,List.map_nil]);first|done|rfl|(simp only [List.length_drop,List.length_take];rfl)) ?_;(with_reducible refine (bP.calls k _ _ l0 true _ ?cu ?dw A3.out).mono ?_);(case cu=>repeat (first|exact HR0.out|(with_reducible refine Kd.bT ?_ _)|(with_reducible refine Kd.bQ ?_ _)|(with_reducible refine Kd.dD ?_)));(case dw=>exact tY.out);rintro e w' ⟨rfl,⟨nd,rfl⟩⟩;refine ⟨_,rfl,?_⟩))
   go_ret
   exact ⟨by first|rfl|(simp;done)|(simp [*];done),by repeat (first|exact aT.refl _|apply aT.step)⟩
  ·
   rw [if_neg c5] at H
   have qO:decide (a1 < 0)=false:=decide_eq_false c5
   clear c5
   by_cases c6:a1 ≥ (l0.length:Int)
   ·
    rw [if_pos c6] at H
    have nR:decide ((l0.length:Int)≤a1)=true:=decide_eq_true c6
    clear c6
    obtain rfl:=Option.some.inj H
    go_enter Tryd.func60,Tryd.ntmps60
    go_wp2_with (first|((with_reducible refine bu (f:=52) rfl ?_);refine dS (some 6) rfl rfl Tryd.func52 (by kernel_rfl) rfl #[.slice A0 l0.length c0] rfl (by (try simp only [List.map_toArray,List.map_cons,List.map_nil]);first|done|rfl|(simp only [List.length_drop,List.length_take];rfl)) ?_;(with_reducible refine (bP.calls k _ _ l0 true _ ?cu ?dw A3.out).mono ?_);(case cu=>repeat (first|exact HR0.out|(with_reducible refine Kd.bT ?_ _)|(with_reducible refine Kd.bQ ?_ _)|(with_reducible refine Kd.dD ?_)));(case dw=>exact tY.out);rintro e w' ⟨rfl,⟨nd,rfl⟩⟩;refine ⟨_,rfl,?_⟩))
    go_ret
    exact ⟨by first|rfl|(simp;done)|(simp [*];done),by repeat (first|exact aT.refl _|apply aT.step)⟩
   ·
    rw [if_neg c6] at H
    have nR:decide ((l0.length:Int)≤a1)=false:=decide_eq_false c6
    clear c6
    by_cases c7:0≤a1
    ·
     rw [if_pos c7] at H
     have nV:decide (0≤a1)=true:=decide_eq_true c7
     clear c7
     by_cases c8:a1 < (l0.length:Int)
     ·
      rw [if_pos c8] at H
      have oU:decide (a1 < (l0.length:Int))=true:=decide_eq_true c8
      clear c8
      obtain rfl:=Option.some.inj H
      go_enter Tryd.func60,Tryd.ntmps60
      go_wp2_with (first|((with_reducible refine bu (f:=52) rfl ?_);refine dS (some 6) rfl rfl Tryd.func52 (by kernel_rfl) rfl #[.slice A0 l0.length c0] rfl (by (try simp only [List.map_toArray,List.map_cons,List.map_nil]);first|done|rfl|(simp only [List.length_drop,List.length_take];rfl)) ?_;(with_reducible refine (bP.calls k _ _ l0 true _ ?cu ?dw A3.out).mono ?_);(case cu=>repeat (first|exact HR0.out|(with_reducible refine Kd.bT ?_ _)|(with_reducible refine Kd.bQ ?_ _)|(with_reducible refine Kd.dD ?_)));(case dw=>exact tY.out);rintro e w' ⟨rfl,⟨nd,rfl⟩⟩;refine ⟨_,rfl,?_⟩;have YE:0≤(a1:Int):=of_decide_eq_true (by first|(with_reducible assumption)|assumption);have Yu:a1 < (l0.length:Int):=of_decide_eq_true (by first|(with_reducible assumption)|assumption);obtain ⟨ano,alb,aez⟩:=Kd.jD HR0.out a1 YE Yu;cases alb;replace YE:=eq_true YE;replace Yu:=eq_true Yu))
      go_ret
      exact ⟨by first|rfl|(simp;done)|(simp [*];done),by repeat (first|exact aT.refl _|apply aT.step)⟩
     ·
      rw [if_neg c8] at H
      exact absurd H (by simp)
    ·
     rw [if_neg c7] at H
     exact absurd H (by simp)
 ·
  replace c4:=Bool.eq_false_iff.mpr c4
  subst c4
  have H1:(some (⟨#[]⟩:ByteArray))=some r:=by rw [if_neg (show ¬ (false=true) by decide)] at H;exact H
  clear H
  have H:=H1
  clear H1
  obtain rfl:=Option.some.inj H
  go_enter Tryd.func60,Tryd.ntmps60
  go_wp2_with (first|((with_reducible refine bu (f:=52) rfl ?_);refine dS (some 6) rfl rfl Tryd.func52 (by kernel_rfl) rfl #[.slice A0 l0.length c0] rfl (by (try simp only [List.map_toArray,List.map_cons,List.map_nil]);first|done|rfl|(simp only [List.length_drop,List.length_take];rfl)) ?_;(with_reducible refine (bP.calls k _ _ l0 false _ ?cu ?dw A3.out).mono ?_);(case cu=>repeat (first|exact HR0.out|(with_reducible refine Kd.bT ?_ _)|(with_reducible refine Kd.bQ ?_ _)|(with_reducible refine Kd.dD ?_)));(case dw=>exact tY.out);rintro e w' ⟨rfl,⟨nd,rfl⟩⟩;refine ⟨_,rfl,?_⟩))
  go_ret
  exact ⟨by first|rfl|(simp;done)|(simp [*];done),by repeat (first|exact aT.refl _|apply aT.step)⟩
def jC.f (k:Nat) (l0:List ByteArray) (a1:Int):Option (Int):=(kY.f k l0 a1).bind fun t111=>(some (t111.size:Int))
theorem jC.mono:∀ a0 a1 k,dN (jC.f k a0 a1) (jC.f (k+1) a0 a1):=by
 intro a0 a1 k
 unfold jC.f
 repeat' with_reducible first|apply kY.mono|exact dN.refl _|exact dN.none _|refine dN.ite ?_ ?_|refine dN.bind ?_ (fun _=>?_)
set_option maxHeartbeats 8000000 in
set_option maxRecDepth 100000 in
theorem jC.calls (k:Nat) (A0:Option Addr) (c0:Nat) (l0:List ByteArray) (a1:Int) (r:Int) (w:World) (hr0:Kd.C Kd.string w A0 l0.length l0) (hc0:l0.length≤c0) (h:jC.f k l0 a1=some r) :
  Calls Tryd.prog 35 #[.slice A0 l0.length c0,.int .i64 a1] w fun e w'=>e=.returned (.int .i64 r)∧aT w w':=by
 have HR0:=ae.mk hr0
 have tY:=ae.mk hc0
 clear hr0 hc0
 have H:((kY.f k l0 a1).bind fun t111=>(some (t111.size:Int)))=some r:=h
 clear h
 replace H:=Option.bind_eq_some_iff.mp H
 obtain ⟨t111,xB,H⟩:=H
 replace H:(some (t111.size:Int))=some r:=H
 have A3:=ae.mk xB
 clear xB
 obtain rfl:=Option.some.inj H
 go_enter Tryd.func35,Tryd.ntmps35
 go_wp2_with (first|((with_reducible refine bu (f:=60) rfl ?_);refine dS (some 7) rfl rfl Tryd.func60 (by kernel_rfl) rfl #[.slice A0 l0.length c0,.int .i64 a1] rfl (by (try simp only [List.map_toArray,List.map_cons,List.map_nil]);first|done|rfl|(simp only [List.length_drop,List.length_take];rfl)) ?_;(with_reducible refine (kY.calls k _ _ l0 a1 t111 _ ?cu ?dw A3.out).mono ?_);(case cu=>repeat (first|exact HR0.out|(with_reducible refine Kd.bT ?_ _)|(with_reducible refine Kd.bQ ?_ _)|(with_reducible refine Kd.dD ?_)));(case dw=>exact tY.out);rintro e w' ⟨rfl,⟨nd,rfl⟩⟩;refine ⟨_,rfl,?_⟩))
 go_ret
 exact ⟨by first|rfl|(simp;done)|(simp [*];done),by repeat (first|exact aT.refl _|apply aT.step)⟩
end Go.Proofs.YtlemecdddhdagaaDoor.P
end
