/- Parts of the proof of ModelMakes: what the functions that it reaches compute, and plain facts about that. -/
import Derived.Test.YtlemecdddhdagaaDoorXab
set_option linter.unusedVariables false
set_option linter.unusedSimpArgs false
section
namespace Go.Proofs.YtlemecdddhdagaaDoor.P
open Go.RowKit Go.Proofs.ag.bH Go.Proofs.ag.dM Go.Proofs.ag.dY
attribute [local go_sem] kR kP lU lT jM jL kQ kN
def jl.f (a0:Int) (a1:Int):Option (Int):=if (wrap64 ((wrap64 (a0)) - 48)) ≥ 0 then (if (wrap64 ((wrap64 (a0)) - 48)) < a1 then (some (wrap64 ((wrap64 (a0)) - 48))) else (some (-1))) else (some (-1))
set_option maxHeartbeats 8000000 in
set_option maxRecDepth 100000 in
theorem jl.calls (a0:Int) (a1:Int) (r:Int) (w:World) (h:jl.f a0 a1=some r) :
  Calls Tryd.prog 51 #[.int .u8 a0,.int .i64 a1] w fun e w'=>e=.returned (.int .i64 r)∧aV w w':=by
 have H:(if (wrap64 ((wrap64 (a0)) - 48)) ≥ 0 then (if (wrap64 ((wrap64 (a0)) - 48)) < a1 then (some (wrap64 ((wrap64 (a0)) - 48))) else (some (-1))) else (some (-1)))=some r:=h
 clear h
 by_cases c3:(wrap64 ((wrap64 (a0)) - 48)) ≥ 0
 ·
  rw [if_pos c3] at H
  have nS:decide (0≤(wrap64 ((wrap64 (a0)) - 48)))=true:=decide_eq_true c3
  clear c3
  by_cases c4:(wrap64 ((wrap64 (a0)) - 48)) < a1
  ·
   rw [if_pos c4] at H
   have nR:decide ((wrap64 ((wrap64 (a0)) - 48)) < a1)=true:=decide_eq_true c4
   clear c4
   obtain rfl:=Option.some.inj H
   go_enter Tryd.func51,Tryd.ntmps51
   go_wp2
   go_ret
   exact ⟨by first|rfl|(simp;done)|(simp [*];done),by repeat (first|exact aV.refl _|apply aV.step)⟩
  ·
   rw [if_neg c4] at H
   have nR:decide ((wrap64 ((wrap64 (a0)) - 48)) < a1)=false:=decide_eq_false c4
   clear c4
   obtain rfl:=Option.some.inj H
   go_enter Tryd.func51,Tryd.ntmps51
   go_wp2
   go_ret
   exact ⟨by first|rfl|(simp;done)|(simp [*];done),by repeat (first|exact aV.refl _|apply aV.step)⟩
 ·
  rw [if_neg c3] at H
  have nS:decide (0≤(wrap64 ((wrap64 (a0)) - 48)))=false:=decide_eq_false c3
  clear c3
  obtain rfl:=Option.some.inj H
  go_enter Tryd.func51,Tryd.ntmps51
  go_wp2
  go_ret
  exact ⟨by first|rfl|(simp;done)|(simp [*];done),by repeat (first|exact aV.refl _|apply aV.step)⟩
mutual
def bI.l0:Nat→List ByteArray→List ByteArray→Int→Int→Option (Bool)
 | 0,_,_,_,_=>none
 | k+1,x0,x6,x7,x8=>if x8 < x7 then (if 0≤x8 then (if x8 < (x6.length:Int) then (if (dV ByteArray.empty x6 x8).toList=([]:List UInt8) then (bI.j1 k x0 (dV ByteArray.empty x6 x8) x6 x7 x8 true) else (bI.j1 k x0 (dV ByteArray.empty x6 x8) x6 x7 x8 (decide (((dV ByteArray.empty x6 x8).size:Int) > 6)))) else (none)) else (none)) else (if (x0.length:Int) ≥ 1 then (some (decide ((x0.length:Int)≤8))) else (some false))
def bI.j1:Nat→List ByteArray→ByteArray→List ByteArray→Int→Int→Bool→Option (Bool)
 | 0,_,_,_,_,_,_=>none
 | k+1,x0,x4,x6,x7,x8,x18=>if x18=true then (some false) else (bI.l1 k x0 x4 x6 x7 x8 (x4.size:Int) 0)
def bI.l1:Nat→List ByteArray→ByteArray→List ByteArray→Int→Int→Int→Int→Option (Bool)
 | 0,_,_,_,_,_,_,_=>none
 | k+1,x0,x4,x6,x7,x8,x20,P7=>if P7 < x20 then (if 0≤P7 then (if P7 < (x4.size:Int) then (if (bt x4 P7)=105 then (bI.l1 k x0 x4 x6 x7 x8 x20 (wrap64 (P7+1))) else ((jl.f (bt x4 P7) (x0.length:Int)).bind fun t102=>(if t102 < 0 then (some false) else (bI.l1 k x0 x4 x6 x7 x8 x20 (wrap64 (P7+1)))))) else (none)) else (none)) else (bI.l0 k x0 x6 x7 (wrap64 (x8+1)))
end
def bI.f (k:Nat) (l0:List ByteArray):Option (Bool):=bI.l0 k l0 l0 (l0.length:Int) 0
theorem bI.gZ:∀ k,(∀ y0 y1 y2 y3,dK (bI.l0 k y0 y1 y2 y3) (bI.l0 (k+1) y0 y1 y2 y3))∧(∀ y0 y1 y2 y3 y4 y5,dK (bI.j1 k y0 y1 y2 y3 y4 y5) (bI.j1 (k+1) y0 y1 y2 y3 y4 y5))∧(∀ y0 y1 y2 y3 y4 y5 y6,dK (bI.l1 k y0 y1 y2 y3 y4 y5 y6) (bI.l1 (k+1) y0 y1 y2 y3 y4 y5 y6))
 | 0=>⟨fun _ _ _ _ r h=>by simp [bI.l0] at h,fun _ _ _ _ _ _ r h=>by simp [bI.j1] at h,fun _ _ _ _ _ _ _ r h=>by simp [bI.l1] at h⟩
 | k+1=>by
  obtain ⟨lu,ih1,ih2⟩:=bI.gZ k
  refine ⟨?_,?_,?_⟩
  ·
   intro y0 y1 y2 y3
   unfold bI.l0
   repeat' with_reducible first|apply lu|apply ih1|apply ih2|exact dK.refl _|exact dK.none _|refine dK.ite ?_ ?_|refine dK.bind ?_ (fun _=>?_)
  ·
   intro y0 y1 y2 y3 y4 y5
   unfold bI.j1
   repeat' with_reducible first|apply lu|apply ih1|apply ih2|exact dK.refl _|exact dK.none _|refine dK.ite ?_ ?_|refine dK.bind ?_ (fun _=>?_)
  ·
   intro y0 y1 y2 y3 y4 y5 y6
   unfold bI.l1
   repeat' with_reducible first|apply lu|apply ih1|apply ih2|exact dK.refl _|exact dK.none _|refine dK.ite ?_ ?_|refine dK.bind ?_ (fun _=>?_)
theorem bI.mono:∀ a0 k,dK (bI.f k a0) (bI.f (k+1) a0):=by
 intro a0 k
 obtain ⟨lu,ih1,ih2⟩:=bI.gZ k
 unfold bI.f
 repeat' with_reducible first|apply lu|apply ih1|apply ih2|exact dK.refl _|exact dK.none _|refine dK.ite ?_ ?_|refine dK.bind ?_ (fun _=>?_)
set_option maxHeartbeats 8000000 in
set_option maxRecDepth 100000 in
theorem bI.calls (k:Nat) (A0:Option Addr) (c0:Nat) (l0:List ByteArray) (r:Bool) (w:World) (hr0:Kd.C Kd.string w A0 l0.length l0) (hc0:l0.length≤c0) (h:bI.f k l0=some r) :
  Calls Tryd.prog 52 #[.slice A0 l0.length c0] w fun e w'=>e=.returned (.bool r)∧aV w w':=by
 have HR0:=ae.mk hr0
 have tC:=ae.mk hc0
 clear hr0 hc0
 have H:(bI.l0 k l0 l0 (l0.length:Int) 0)=some r:=h
 clear h
 have H':=ae.mk H
 clear H
 go_enter Tryd.func52,Tryd.ntmps52
 go_wp2
 go_loopg [8] k (fun kq v8 w'=>∃ (iT:Int),v8=.int .i64 iT∧ae (bI.l0 kq l0 l0 (l0.length:Int) iT=some r)∧ae (kq≤k)∧aV w w')
 case atStart=>exact ⟨(0),(by first|rfl|(simp;done)|(simp [*];done)),H',⟨Nat.le_refl _⟩,by repeat (first|exact aV.refl _|apply aV.step)⟩
 case round =>
  clear H'
  obtain ⟨iT,rfl,HA,tq,⟨m1,rfl⟩⟩:=hrel
  cases gk with
  | zero=>exact absurd HA.out (by simp [bI.l0])
  | succ k1 =>
   have H:=HA.out
   clear HA
   simp only [bI.l0] at H
   by_cases c2:iT < (l0.length:Int)
   ·
    rw [if_pos c2] at H
    have DF:decide (iT < (l0.length:Int))=true:=decide_eq_true c2
    clear c2
    by_cases c3:0≤iT
    ·
     rw [if_pos c3] at H
     have nS:decide (0≤iT)=true:=decide_eq_true c3
     clear c3
     by_cases c4:iT < (l0.length:Int)
     ·
      rw [if_pos c4] at H
      have nR:decide (iT < (l0.length:Int))=true:=decide_eq_true c4
      clear c4
      have GX:=ae.mk H
      clear H
      have F7:0≤(iT:Int):=of_decide_eq_true (by first|(with_reducible assumption)|assumption)
      have FW:iT < (l0.length:Int):=of_decide_eq_true (by first|(with_reducible assumption)|assumption)
      obtain ⟨acz,Yv,QU⟩:=Kd.kC HR0.out iT F7 FW
      cases Yv
      replace F7:=eq_true F7
      replace FW:=eq_true FW
      go_upto_region 4 with (fail)
      go_cut [18] (fun v18 wc=>∃ (kq:Nat) (Hf:Bool),v18=.bool Hf∧ae (bI.j1 kq l0 (dV ByteArray.empty l0 iT) l0 (l0.length:Int) iT Hf=some r)∧ae (kq≤k1)∧aV w wc)
      case first =>
       have H:=GX.out
       clear GX
       by_cases c6:(dV ByteArray.empty l0 iT).toList=([]:List UInt8)
       ·
        rw [if_pos c6] at H
        have nP:((dV ByteArray.empty l0 iT).toList == ([]:List UInt8))=true:=beq_iff_eq.mpr c6
        have xE:((dV ByteArray.empty l0 iT).toList != ([]:List UInt8))=false:=bne_eq_false_iff_eq.mpr c6
        clear c6
        (first|rw [nP]|(simp only [bY,bZ];rw [nP])|skip)
        have H':=ae.mk H
        clear H
        go_wp2
        go_meet
        case rel=>exact ⟨_,(true),(by first|rfl|(simp;done)|(simp [*];done)),H',⟨by have:=tq.out;first|omega|exact Nat.le_refl _⟩,by repeat (first|exact aV.refl _|apply aV.step)⟩
       ·
        rw [if_neg c6] at H
        have nP:((dV ByteArray.empty l0 iT).toList == ([]:List UInt8))=false:=beq_eq_false_iff_ne.mpr c6
        have xE:((dV ByteArray.empty l0 iT).toList != ([]:List UInt8))=true:=bne_iff_ne.mpr c6
        (first|rw [nP]|(simp only [bY,bZ];rw [nP])|skip)
        have H':=ae.mk H
        clear H
        go_wp2
        go_meet
        case rel=>exact ⟨_,(decide (((dV ByteArray.empty l0 iT).size:Int) > 6)),(by first|rfl|(simp;done)|(simp [*];done)),H',⟨by have:=tq.out;first|omega|exact Nat.le_refl _⟩,by repeat (first|exact aV.refl _|apply aV.step)⟩
      case rest =>
       clear GX
       obtain ⟨kq,Hf,rfl,HA,GV,⟨mc4,rfl⟩⟩:=hcut
       cases kq with
       | zero=>exact absurd HA.out (by simp [bI.j1])
       | succ uI =>
        have H:=HA.out
        clear HA
        simp only [bI.j1] at H
        by_cases c7:Hf=true
        ·
         subst c7
         have H1:(some false)=some r:=by rw [if_pos rfl] at H;exact H
         clear H
         have H:=H1
         clear H1
         obtain rfl:=Option.some.inj H
         go_wp2
         go_ret
         exact ⟨by first|rfl|(simp;done)|(simp [*];done),by repeat (first|exact aV.refl _|apply aV.step)⟩
        ·
         replace c7:=Bool.eq_false_iff.mpr c7
         subst c7
         have H1:(bI.l1 uI l0 (dV ByteArray.empty l0 iT) l0 (l0.length:Int) iT ((dV ByteArray.empty l0 iT).size:Int) 0)=some r:=by rw [if_neg (show ¬ (false=true) by decide)] at H;exact H
         clear H
         have H:=H1
         clear H1
         have H':=ae.mk H
         clear H
         go_wp2
         go_loopg [21] uI (fun kq v21 w'=>∃ (jW:Int),v21=.int .i64 jW∧ae (bI.l1 kq l0 (dV ByteArray.empty l0 iT) l0 (l0.length:Int) iT ((dV ByteArray.empty l0 iT).size:Int) jW=some r)∧ae (kq≤uI)∧aV w w')
         case atStart=>exact ⟨(0),(by first|rfl|(simp;done)|(simp [*];done)),H',⟨Nat.le_refl _⟩,by repeat (first|exact aV.refl _|apply aV.step)⟩
         case round =>
          clear H'
          obtain ⟨jW,rfl,HA,Am,⟨m3,rfl⟩⟩:=hrel
          cases gk with
          | zero=>exact absurd HA.out (by simp [bI.l1])
          | succ k3 =>
           have H:=HA.out
           clear HA
           simp only [bI.l1] at H
           by_cases c8:jW < ((dV ByteArray.empty l0 iT).size:Int)
           ·
            rw [if_pos c8] at H
            have oL:decide (jW < ((dV ByteArray.empty l0 iT).size:Int))=true:=decide_eq_true c8
            clear c8
            by_cases c9:0≤jW
            ·
             rw [if_pos c9] at H
             have DD:decide (0≤jW)=true:=decide_eq_true c9
             clear c9
             by_cases c10:jW < ((dV ByteArray.empty l0 iT).size:Int)
             ·
              rw [if_pos c10] at H
              have oN:decide (jW < ((dV ByteArray.empty l0 iT).size:Int))=true:=decide_eq_true c10
              clear c10
              by_cases c12:(bt (dV ByteArray.empty l0 iT) jW)=105
              ·
               rw [if_pos c12] at H
               have vJ:((bt (dV ByteArray.empty l0 iT) jW) == 105)=true:=beq_iff_eq.mpr c12
               have Pq:((bt (dV ByteArray.empty l0 iT) jW) != 105)=false:=bne_eq_false_iff_eq.mpr c12
               clear c12
               have H':=ae.mk H
               clear H
               have p11:0≤(jW:Int):=of_decide_eq_true (by first|(with_reducible assumption)|assumption)
               have q11:jW < ((dV ByteArray.empty l0 iT).size:Int):=of_decide_eq_true (by first|(with_reducible assumption)|assumption)
               have Z4:=kF (dV ByteArray.empty l0 iT) jW
               replace p11:=eq_true p11
               replace q11:=eq_true q11
               go_wp2
               go_roundg k3
               case measure=>have:=tq.out;have:=GV.out;have:=Am.out;omega
               case rel=>exact ⟨(wrap64 (jW+1)),(by first|rfl|(simp;done)|(simp [*];done)),H',⟨by have:=tq.out;have:=GV.out;have:=Am.out;omega⟩,by repeat (first|exact aV.refl _|apply aV.step)⟩
              ·
               rw [if_neg c12] at H
               have vJ:((bt (dV ByteArray.empty l0 iT) jW) == 105)=false:=beq_eq_false_iff_ne.mpr c12
               have Pq:((bt (dV ByteArray.empty l0 iT) jW) != 105)=true:=bne_iff_ne.mpr c12
               replace H:=Option.bind_eq_some_iff.mp H
               obtain ⟨t102,ady,H⟩:=H
               replace H:(if t102 < 0 then (some false) else (bI.l1 k3 l0 (dV ByteArray.empty l0 iT) l0 (l0.length:Int) iT ((dV ByteArray.empty l0 iT).size:Int) (wrap64 (jW+1))))=some r:=H
               have A14:=ae.mk ady
               clear ady
               by_cases c15:t102 < 0
               ·
                rw [if_pos c15] at H
                have qh:decide (t102 < 0)=true:=decide_eq_true c15
                clear c15
                obtain rfl:=Option.some.inj H
                have p11:0≤(jW:Int):=of_decide_eq_true (by first|(with_reducible assumption)|assumption)
                have q11:jW < ((dV ByteArray.empty l0 iT).size:Int):=of_decide_eq_true (by first|(with_reducible assumption)|assumption)
                have Z4:=kF (dV ByteArray.empty l0 iT) jW
                replace p11:=eq_true p11
                replace q11:=eq_true q11
                have p13:0≤(jW:Int):=of_decide_eq_true (by first|(with_reducible assumption)|assumption)
                have q13:jW < ((dV ByteArray.empty l0 iT).size:Int):=of_decide_eq_true (by first|(with_reducible assumption)|assumption)
                have QS:=kF (dV ByteArray.empty l0 iT) jW
                replace p13:=eq_true p13
                replace q13:=eq_true q13
                go_wp2_with (first|(go_at_call 51;(with_reducible refine (jl.calls (bt (dV ByteArray.empty l0 iT) jW) (l0.length:Int) t102 _ A14.out).mono ?_);rintro e w' ⟨rfl,⟨nd,rfl⟩⟩))
                go_ret
                exact ⟨by first|rfl|(simp;done)|(simp [*];done),by repeat (first|exact aV.refl _|apply aV.step)⟩
               ·
                rw [if_neg c15] at H
                have qh:decide (t102 < 0)=false:=decide_eq_false c15
                clear c15
                have H':=ae.mk H
                clear H
                have p11:0≤(jW:Int):=of_decide_eq_true (by first|(with_reducible assumption)|assumption)
                have q11:jW < ((dV ByteArray.empty l0 iT).size:Int):=of_decide_eq_true (by first|(with_reducible assumption)|assumption)
                have Z4:=kF (dV ByteArray.empty l0 iT) jW
                replace p11:=eq_true p11
                replace q11:=eq_true q11
                have p13:0≤(jW:Int):=of_decide_eq_true (by first|(with_reducible assumption)|assumption)
                have q13:jW < ((dV ByteArray.empty l0 iT).size:Int):=of_decide_eq_true (by first|(with_reducible assumption)|assumption)
                have QS:=kF (dV ByteArray.empty l0 iT) jW
                replace p13:=eq_true p13
                replace q13:=eq_true q13
                go_wp2_with (first|(go_at_call 51;(with_reducible refine (jl.calls (bt (dV ByteArray.empty l0 iT) jW) (l0.length:Int) t102 _ A14.out).mono ?_);rintro e w' ⟨rfl,⟨nd,rfl⟩⟩))
                go_roundg k3
                case measure=>have:=tq.out;have:=GV.out;have:=Am.out;omega
                case rel=>exact ⟨(wrap64 (jW+1)),(by first|rfl|(simp;done)|(simp [*];done)),H',⟨by have:=tq.out;have:=GV.out;have:=Am.out;omega⟩,by repeat (first|exact aV.refl _|apply aV.step)⟩
             ·
              rw [if_neg c10] at H
              exact absurd H (by simp)
            ·
             rw [if_neg c9] at H
             exact absurd H (by simp)
           ·
            rw [if_neg c8] at H
            have oL:decide (jW < ((dV ByteArray.empty l0 iT).size:Int))=false:=decide_eq_false c8
            clear c8
            have H':=ae.mk H
            clear H
            go_wp2
            go_roundg k3
            case measure=>have:=tq.out;have:=GV.out;have:=Am.out;omega
            case rel=>exact ⟨(wrap64 (iT+1)),(by first|rfl|(simp;done)|(simp [*];done)),H',⟨by have:=tq.out;have:=GV.out;have:=Am.out;omega⟩,by repeat (first|exact aV.refl _|apply aV.step)⟩
     ·
      rw [if_neg c4] at H
      exact absurd H (by simp)
    ·
     rw [if_neg c3] at H
     exact absurd H (by simp)
   ·
    rw [if_neg c2] at H
    have DF:decide (iT < (l0.length:Int))=false:=decide_eq_false c2
    clear c2
    by_cases c16:(l0.length:Int) ≥ 1
    ·
     rw [if_pos c16] at H
     have Ad:decide (1≤(l0.length:Int))=true:=decide_eq_true c16
     have acr:decide (1≤l0.length)=true:=decide_eq_true (by omega)
     clear c16
     obtain rfl:=Option.some.inj H
     go_wp2
     go_ret
     exact ⟨by first|rfl|(simp;done)|(simp [*];done),by repeat (first|exact aV.refl _|apply aV.step)⟩
    ·
     rw [if_neg c16] at H
     have Ad:decide (1≤(l0.length:Int))=false:=decide_eq_false c16
     have acr:decide (1≤l0.length)=false:=decide_eq_false (by omega)
     clear c16
     obtain rfl:=Option.some.inj H
     go_wp2
     go_ret
     exact ⟨by first|rfl|(simp;done)|(simp [*];done),by repeat (first|exact aV.refl _|apply aV.step)⟩
def fE.l0:Nat→List ByteArray→ByteArray→Int→Int→Option (Bool)
 | 0,_,_,_,_=>none
 | k+1,x0,x1,x7,x8=>if x8 < x7 then (if 0≤x8 then (if x8 < (x1.size:Int) then ((jl.f (bt x1 x8) (x0.length:Int)).bind fun t103=>(if t103 < 0 then (some false) else (fE.l0 k x0 x1 x7 (wrap64 (x8+1))))) else (none)) else (none)) else ((bI.f k x0).bind fun t104=>(some t104))
def fE.f (k:Nat) (l0:List ByteArray) (a1:ByteArray):Option (Bool):=fE.l0 k l0 a1 (a1.size:Int) 0
theorem fE.gZ:∀ k,(∀ y0 y1 y2 y3,dK (fE.l0 k y0 y1 y2 y3) (fE.l0 (k+1) y0 y1 y2 y3))
 | 0=>fun _ _ _ _ r h=>by simp [fE.l0] at h
 | k+1=>by
  have lu:=fE.gZ k
  ·
   intro y0 y1 y2 y3
   unfold fE.l0
   repeat' with_reducible first|apply lu|apply bI.mono|exact dK.refl _|exact dK.none _|refine dK.ite ?_ ?_|refine dK.bind ?_ (fun _=>?_)
theorem fE.mono:∀ a0 a1 k,dK (fE.f k a0 a1) (fE.f (k+1) a0 a1):=by
 intro a0 a1 k
 have lu:=fE.gZ k
 unfold fE.f
 repeat' with_reducible first|apply lu|apply bI.mono|exact dK.refl _|exact dK.none _|refine dK.ite ?_ ?_|refine dK.bind ?_ (fun _=>?_)
set_option maxHeartbeats 8000000 in
set_option maxRecDepth 100000 in
theorem fE.calls (k:Nat) (A0:Option Addr) (c0:Nat) (l0:List ByteArray) (a1:ByteArray) (r:Bool) (w:World) (hr0:Kd.C Kd.string w A0 l0.length l0) (hc0:l0.length≤c0) (h:fE.f k l0 a1=some r) :
  Calls Tryd.prog 32 #[.slice A0 l0.length c0,.string a1] w fun e w'=>e=.returned (.bool r)∧aV w w':=by
 have HR0:=ae.mk hr0
 have tC:=ae.mk hc0
 clear hr0 hc0
 have H:(fE.l0 k l0 a1 (a1.size:Int) 0)=some r:=h
 clear h
 have H':=ae.mk H
 clear H
 go_enter Tryd.func32,Tryd.ntmps32
 go_wp2
 go_loopg [8] k (fun kq v8 w'=>∃ (iT:Int),v8=.int .i64 iT∧ae (fE.l0 kq l0 a1 (a1.size:Int) iT=some r)∧ae (kq≤k)∧aV w w')
 case atStart=>exact ⟨(0),(by first|rfl|(simp;done)|(simp [*];done)),H',⟨Nat.le_refl _⟩,by repeat (first|exact aV.refl _|apply aV.step)⟩
 case round =>
  clear H'
  obtain ⟨iT,rfl,HA,tq,⟨m1,rfl⟩⟩:=hrel
  cases gk with
  | zero=>exact absurd HA.out (by simp [fE.l0])
  | succ k1 =>
   have H:=HA.out
   clear HA
   simp only [fE.l0] at H
   by_cases c3:iT < (a1.size:Int)
   ·
    rw [if_pos c3] at H
    have nS:decide (iT < (a1.size:Int))=true:=decide_eq_true c3
    clear c3
    by_cases c4:0≤iT
    ·
     rw [if_pos c4] at H
     have nR:decide (0≤iT)=true:=decide_eq_true c4
     clear c4
     by_cases c5:iT < (a1.size:Int)
     ·
      rw [if_pos c5] at H
      have qO:decide (iT < (a1.size:Int))=true:=decide_eq_true c5
      clear c5
      replace H:=Option.bind_eq_some_iff.mp H
      obtain ⟨t103,Zi,H⟩:=H
      replace H:(if t103 < 0 then (some false) else (fE.l0 k1 l0 a1 (a1.size:Int) (wrap64 (iT+1))))=some r:=H
      have A7:=ae.mk Zi
      clear Zi
      by_cases c8:t103 < 0
      ·
       rw [if_pos c8] at H
       have oL:decide (t103 < 0)=true:=decide_eq_true c8
       clear c8
       obtain rfl:=Option.some.inj H
       have p6:0≤(iT:Int):=of_decide_eq_true (by first|(with_reducible assumption)|assumption)
       have q6:iT < (a1.size:Int):=of_decide_eq_true (by first|(with_reducible assumption)|assumption)
       have hx6:=kF a1 iT
       replace p6:=eq_true p6
       replace q6:=eq_true q6
       go_wp2_with (first|((with_reducible refine bu (f:=51) rfl ?_);refine dQ (some 16) rfl rfl Tryd.func51 (by kernel_rfl) rfl #[.int .u8 (bt a1 iT),.int .i64 (l0.length:Int)] rfl (by (try simp only [List.map_toArray,List.map_cons,List.map_nil]);first|done|rfl|(simp only [List.length_drop,List.length_take];rfl)) ?_;(with_reducible refine (jl.calls (bt a1 iT) (l0.length:Int) t103 _ A7.out).mono ?_);rintro e w' ⟨rfl,⟨nd,rfl⟩⟩;refine ⟨_,rfl,?_⟩))
       go_ret
       exact ⟨by first|rfl|(simp;done)|(simp [*];done),by repeat (first|exact aV.refl _|apply aV.step)⟩
      ·
       rw [if_neg c8] at H
       have oL:decide (t103 < 0)=false:=decide_eq_false c8
       clear c8
       have H':=ae.mk H
       clear H
       have p6:0≤(iT:Int):=of_decide_eq_true (by first|(with_reducible assumption)|assumption)
       have q6:iT < (a1.size:Int):=of_decide_eq_true (by first|(with_reducible assumption)|assumption)
       have hx6:=kF a1 iT
       replace p6:=eq_true p6
       replace q6:=eq_true q6
       go_wp2_with (first|((with_reducible refine bu (f:=51) rfl ?_);refine dQ (some 16) rfl rfl Tryd.func51 (by kernel_rfl) rfl #[.int .u8 (bt a1 iT),.int .i64 (l0.length:Int)] rfl (by (try simp only [List.map_toArray,List.map_cons,List.map_nil]);first|done|rfl|(simp only [List.length_drop,List.length_take];rfl)) ?_;(with_reducible refine (jl.calls (bt a1 iT) (l0.length:Int) t103 _ A7.out).mono ?_);rintro e w' ⟨rfl,⟨nd,rfl⟩⟩;refine ⟨_,rfl,?_⟩))
       go_roundg k1
       case measure=>have:=tq.out;omega
       case rel=>exact ⟨(wrap64 (iT+1)),(by first|rfl|(simp;done)|(simp [*];done)),H',⟨by have:=tq.out;omega⟩,by repeat (first|exact aV.refl _|apply aV.step)⟩
     ·
      rw [if_neg c5] at H
      exact absurd H (by simp)
    ·
     rw [if_neg c4] at H
     exact absurd H (by simp)
   ·
    rw [if_neg c3] at H
    have nS:decide (iT < (a1.size:Int))=false:=decide_eq_false c3
    clear c3
    replace H:=Option.bind_eq_some_iff.mp H
    obtain ⟨t104,MC,H⟩:=H
    replace H:(some t104)=some r:=H
    have A9:=ae.mk MC
    clear MC
    obtain rfl:=Option.some.inj H
    go_wp2_with (first|((with_reducible refine bu (f:=52) rfl ?_);refine dQ (some 20) rfl rfl Tryd.func52 (by kernel_rfl) rfl #[.slice A0 l0.length c0] rfl (by (try simp only [List.map_toArray,List.map_cons,List.map_nil]);first|done|rfl|(simp only [List.length_drop,List.length_take];rfl)) ?_;(with_reducible refine (bI.calls k1 _ _ l0 t104 _ ?bW ?df A9.out).mono ?_);(case bW=>repeat (first|exact HR0.out|(with_reducible refine Kd.bM ?_ _)|(with_reducible refine Kd.bK ?_ _)|(with_reducible refine Kd.dB ?_)));(case df=>exact tC.out);rintro e w' ⟨rfl,⟨nd,rfl⟩⟩;refine ⟨_,rfl,?_⟩))
    go_ret
    exact ⟨by first|rfl|(simp;done)|(simp [*];done),by repeat (first|exact aV.refl _|apply aV.step)⟩
def iO.f (k:Nat) (l0:List ByteArray) (a1:ByteArray) (a2:Int):Option (Int):=if (wrap64 (a2)) ≥ (a1.size:Int) then (some (-1)) else (if 0≤(wrap64 (a2)) then (if (wrap64 (a2))≤(wrap64 ((wrap64 (a2))+1)) then (if (wrap64 ((wrap64 (a2))+1))≤(a1.size:Int) then ((fE.f k l0 (a1.extract ((wrap64 (a2)):Int).toNat ((wrap64 ((wrap64 (a2))+1)):Int).toNat)).bind fun t105=>(if t105=true then (if 0≤a2 then (if a2 < (a1.size:Int) then (some (((bt a1 a2) - 48) % 256)) else (none)) else (none)) else (some (-1)))) else (none)) else (none)) else (none))
theorem iO.mono:∀ a0 a1 a2 k,dK (iO.f k a0 a1 a2) (iO.f (k+1) a0 a1 a2):=by
 intro a0 a1 a2 k
 unfold iO.f
 repeat' with_reducible first|apply fE.mono|exact dK.refl _|exact dK.none _|refine dK.ite ?_ ?_|refine dK.bind ?_ (fun _=>?_)
set_option maxHeartbeats 8000000 in
set_option maxRecDepth 100000 in
theorem iO.calls (k:Nat) (A0:Option Addr) (c0:Nat) (l0:List ByteArray) (a1:ByteArray) (a2:Int) (r:Int) (w:World) (hr0:Kd.C Kd.string w A0 l0.length l0) (hc0:l0.length≤c0) (h:iO.f k l0 a1 a2=some r) :
  Calls Tryd.prog 61 #[.slice A0 l0.length c0,.string a1,.int .u8 a2] w fun e w'=>e=.returned (.int .i64 r)∧aV w w':=by
 have HR0:=ae.mk hr0
 have tC:=ae.mk hc0
 clear hr0 hc0
 have H:(if (wrap64 (a2)) ≥ (a1.size:Int) then (some (-1)) else (if 0≤(wrap64 (a2)) then (if (wrap64 (a2))≤(wrap64 ((wrap64 (a2))+1)) then (if (wrap64 ((wrap64 (a2))+1))≤(a1.size:Int) then ((fE.f k l0 (a1.extract ((wrap64 (a2)):Int).toNat ((wrap64 ((wrap64 (a2))+1)):Int).toNat)).bind fun t105=>(if t105=true then (if 0≤a2 then (if a2 < (a1.size:Int) then (some (((bt a1 a2) - 48) % 256)) else (none)) else (none)) else (some (-1)))) else (none)) else (none)) else (none)))=some r:=h
 clear h
 by_cases c4:(wrap64 (a2)) ≥ (a1.size:Int)
 ·
  rw [if_pos c4] at H
  have nR:decide ((a1.size:Int)≤(wrap64 (a2)))=true:=decide_eq_true c4
  clear c4
  obtain rfl:=Option.some.inj H
  go_enter Tryd.func61,Tryd.ntmps61
  go_wp2
  go_ret
  exact ⟨by first|rfl|(simp;done)|(simp [*];done),by repeat (first|exact aV.refl _|apply aV.step)⟩
 ·
  rw [if_neg c4] at H
  have nR:decide ((a1.size:Int)≤(wrap64 (a2)))=false:=decide_eq_false c4
  clear c4
  obtain ⟨sG,xB⟩:∃ j_:Int,(wrap64 (a2))=j_:=⟨_,rfl⟩
  replace H:(if 0≤(sG) then (if (sG)≤(wrap64 ((sG)+1)) then (if (wrap64 ((sG)+1))≤(a1.size:Int) then ((fE.f k l0 (a1.extract ((sG):Int).toNat ((wrap64 ((sG)+1)):Int).toNat)).bind fun t105=>(if t105=true then (if 0≤a2 then (if a2 < (a1.size:Int) then (some (((bt a1 a2) - 48) % 256)) else (none)) else (none)) else (some (-1)))) else (none)) else (none)) else (none))=some r:=by first|(rw [xB] at H;exact H)|(simp only [xB] at H ⊢;exact H)
  (try rw [xB] at nR)
  have aax:(IntKind.i64.wrap (a2))=sG:=(bY _).trans xB
  by_cases c6:0≤(sG)
  ·
   rw [if_pos c6] at H
   have nP:=eq_true c6
   have xE:decide (0≤(sG))=true:=decide_eq_true c6
   clear c6
   by_cases c7:(sG)≤(wrap64 ((sG)+1))
   ·
    rw [if_pos c7] at H
    have oG:=eq_true c7
    have yu:decide ((sG)≤(wrap64 ((sG)+1)))=true:=decide_eq_true c7
    by_cases c8:(wrap64 ((sG)+1))≤(a1.size:Int)
    ·
     rw [if_pos c8] at H
     have oL:=eq_true c8
     have yt:decide ((wrap64 ((sG)+1))≤(a1.size:Int))=true:=decide_eq_true c8
     replace H:=Option.bind_eq_some_iff.mp H
     obtain ⟨t105,MC,H⟩:=H
     replace H:(if t105=true then (if 0≤a2 then (if a2 < (a1.size:Int) then (some (((bt a1 a2) - 48) % 256)) else (none)) else (none)) else (some (-1)))=some r:=H
     have A9:=ae.mk MC
     clear MC
     by_cases c10:t105=true
     ·
      subst c10
      have H1:(if 0≤a2 then (if a2 < (a1.size:Int) then (some (((bt a1 a2) - 48) % 256)) else (none)) else (none))=some r:=by rw [if_pos rfl] at H;exact H
      clear H
      have H:=H1
      clear H1
      by_cases c11:0≤a2
      ·
       rw [if_pos c11] at H
       have uk:decide (0≤a2)=true:=decide_eq_true c11
       clear c11
       by_cases c12:a2 < (a1.size:Int)
       ·
        rw [if_pos c12] at H
        have vJ:decide (a2 < (a1.size:Int))=true:=decide_eq_true c12
        clear c12
        obtain rfl:=Option.some.inj H
        go_enter Tryd.func61,Tryd.ntmps61
        go_wp2_with (first|(go_at_call 32;(with_reducible refine (fE.calls k _ _ l0 (a1.extract ((sG):Int).toNat ((wrap64 ((sG)+1)):Int).toNat) true _ ?bW ?df A9.out).mono ?_);(case bW=>repeat (first|exact HR0.out|(with_reducible refine Kd.bM ?_ _)|(with_reducible refine Kd.bK ?_ _)|(with_reducible refine Kd.dB ?_)));(case df=>exact tC.out);rintro e w' ⟨rfl,⟨nd,rfl⟩⟩;have p13:0≤(a2:Int):=of_decide_eq_true (by first|(with_reducible assumption)|assumption);have q13:a2 < (a1.size:Int):=of_decide_eq_true (by first|(with_reducible assumption)|assumption);have QS:=kF a1 a2;replace p13:=eq_true p13;replace q13:=eq_true q13))
        go_ret
        exact ⟨by first|rfl|(simp;done)|(simp only [← xB] <;> (first|rfl|simp))|(simp [*];done),by repeat (first|exact aV.refl _|apply aV.step)⟩
       ·
        rw [if_neg c12] at H
        exact absurd H (by simp)
      ·
       rw [if_neg c11] at H
       exact absurd H (by simp)
     ·
      replace c10:=Bool.eq_false_iff.mpr c10
      subst c10
      have H1:(some (-1))=some r:=by rw [if_neg (show ¬ (false=true) by decide)] at H;exact H
      clear H
      have H:=H1
      clear H1
      obtain rfl:=Option.some.inj H
      go_enter Tryd.func61,Tryd.ntmps61
      go_wp2_with (first|(go_at_call 32;(with_reducible refine (fE.calls k _ _ l0 (a1.extract ((sG):Int).toNat ((wrap64 ((sG)+1)):Int).toNat) false _ ?bW ?df A9.out).mono ?_);(case bW=>repeat (first|exact HR0.out|(with_reducible refine Kd.bM ?_ _)|(with_reducible refine Kd.bK ?_ _)|(with_reducible refine Kd.dB ?_)));(case df=>exact tC.out);rintro e w' ⟨rfl,⟨nd,rfl⟩⟩))
      go_ret
      exact ⟨by first|rfl|(simp;done)|(simp only [← xB] <;> (first|rfl|simp))|(simp [*];done),by repeat (first|exact aV.refl _|apply aV.step)⟩
    ·
     rw [if_neg c8] at H
     exact absurd H (by simp)
   ·
    rw [if_neg c7] at H
    exact absurd H (by simp)
  ·
   rw [if_neg c6] at H
   exact absurd H (by simp)
def gq.f (k:Nat) (aY:List ByteArray) (aT:ByteArray) (aU:ByteArray) (aI:List (gY)) (a1:Int):Option (Int):=(iO.f k aY aT a1).bind fun t107=>(some t107)
theorem gq.mono:∀ a0 a1 a2 a3 a4 k,dK (gq.f k a0 a1 a2 a3 a4) (gq.f (k+1) a0 a1 a2 a3 a4):=by
 intro a0 a1 a2 a3 a4 k
 unfold gq.f
 repeat' with_reducible first|apply iO.mono|exact dK.refl _|exact dK.none _|refine dK.ite ?_ ?_|refine dK.bind ?_ (fun _=>?_)
set_option maxHeartbeats 8000000 in
set_option maxRecDepth 100000 in
theorem gq.calls (k:Nat) (dX:Option Addr) (dW:Nat) (aY:List ByteArray) (aT:ByteArray) (aU:ByteArray) (fQ:Option Addr) (eH:Nat) (aI:List (gY)) (a1:Int) (r:Int) (w:World) (jF:Kd.C Kd.string w dX aY.length aY) (jH:aY.length≤dW) (jE:Kd.C tu w fQ aI.length aI) (jG:aI.length≤eH) (h:gq.f k aY aT aU aI a1=some r) :
  Calls Tryd.prog 36 #[.agg #[.slice dX aY.length dW,.string aT,.string aU,.slice fQ aI.length eH],.int .u8 a1] w fun e w'=>e=.returned (.int .i64 r)∧Below w.heap.size w w':=by
 have xA:=Tryd.underlying25
 have iq:=ae.mk jF
 have iC:=ae.mk jH
 clear jF jH
 have jB:=ae.mk jE
 have jS:=ae.mk jG
 clear jE jG
 have HB:=ae.mk (Below.refl w.heap.size w)
 have H:((iO.f k aY aT a1).bind fun t107=>(some t107))=some r:=h
 clear h
 replace H:=Option.bind_eq_some_iff.mp H
 obtain ⟨t107,xh,H⟩:=H
 replace H:(some t107)=some r:=H
 have A3:=ae.mk xh
 clear xh
 obtain rfl:=Option.some.inj H
 go_enter Tryd.func36,Tryd.ntmps36
 go_wp2_with (first|((with_reducible refine dN (N:=2) rfl ?_);refine fB ?hg (N:=2) ?hd (cs:=#[.slice dX aY.length dW,.string aT,.string aU,.slice fQ aI.length eH]) (t:=25) ?hr ?_;(case hd=>rfl);(case hg=>rfl);(case hr=>first|(go_simp;done)|(go_simp;rfl));intro EJ hg w4 hbox hb;have dS:=ae.mk (bg (by repeat (first|(with_reducible first|exact HB.out|apply ah|apply af|apply ai)|exact HB.out)) hb);have dR:=ae.mk (hbox);have dO:=ae.mk ((by rw [hg];exact (bQ (by repeat (first|(with_reducible first|exact HB.out|apply ah|apply af|apply ai)|exact HB.out))):w.heap.size≤EJ));have gQ:=dO;clear HB;have HB:=dS;have yg:=dR;have am7:=dO;have acX:=gQ;clear dS dR dO gQ;clear hb hbox hg;have zV:w4.cell? ⟨EJ,0,none⟩=some (.slice dX aY.length dW):=(ax yg.out 0).trans rfl;have zU:w4.cell? ⟨EJ,1,none⟩=some (.string aT):=(ax yg.out 1).trans rfl;have zT:w4.cell? ⟨EJ,2,none⟩=some (.string aU):=(ax yg.out 2).trans rfl;have zS:w4.cell? ⟨EJ,3,none⟩=some (.slice fQ aI.length eH):=(ax yg.out 3).trans rfl;have zQ:=aC yg.out 0;have zO:=aC yg.out 1;have zN:=aC yg.out 2;have zM:=aC yg.out 3)|((with_reducible refine bu (f:=61) rfl ?_);refine dQ (some 10) rfl rfl Tryd.func61 (by kernel_rfl) rfl #[.slice dX aY.length dW,.string aT,.int .u8 a1] rfl (by (try simp only [List.map_toArray,List.map_cons,List.map_nil]);first|done|rfl|(simp only [List.length_drop,List.length_take];rfl)) ?_;(with_reducible refine (iO.calls k _ _ aY aT a1 t107 _ ?bW ?df A3.out).mono ?_);(case bW=>repeat (first|exact (Kd.bJ iq.out HB.out)|(with_reducible refine Kd.bM ?_ _)|(with_reducible refine Kd.bK ?_ _)|(with_reducible refine Kd.dB ?_)));(case df=>exact iC.out);rintro e w' ⟨rfl,⟨nd,rfl⟩⟩;refine ⟨_,rfl,?_⟩))
 go_ret
 exact ⟨by first|rfl|(simp [aQ,aN] <;> rfl)|(simp [*,aQ,aN] <;> rfl),by repeat (first|(with_reducible first|exact HB.out|apply ah|apply af|apply ai|refine aj ?_ acX.out)|exact HB.out)⟩
def dD.l0:Nat→List Int→Int→Int→Option (Bool)
 | 0,_,_,_=>none
 | k+1,x5,x6,x7=>if x7 < x6 then (if 0≤x7 then (if x7 < (x5.length:Int) then (if (rd x5 x7) ≥ 8 then (some false) else (dD.l0 k x5 x6 (wrap64 (x7+1)))) else (none)) else (none)) else (some true)
def dD.f (k:Nat) (l0:List Int):Option (Bool):=dD.l0 k l0 (l0.length:Int) 0
theorem dD.gZ:∀ k,(∀ y0 y1 y2,dK (dD.l0 k y0 y1 y2) (dD.l0 (k+1) y0 y1 y2))
 | 0=>fun _ _ _ r h=>by simp [dD.l0] at h
 | k+1=>by
  have lu:=dD.gZ k
  ·
   intro y0 y1 y2
   unfold dD.l0
   repeat' with_reducible first|apply lu|exact dK.refl _|exact dK.none _|refine dK.ite ?_ ?_|refine dK.bind ?_ (fun _=>?_)
theorem dD.mono:∀ a0 k,dK (dD.f k a0) (dD.f (k+1) a0):=by
 intro a0 k
 have lu:=dD.gZ k
 unfold dD.f
 repeat' with_reducible first|apply lu|exact dK.refl _|exact dK.none _|refine dK.ite ?_ ?_|refine dK.bind ?_ (fun _=>?_)
set_option maxHeartbeats 8000000 in
set_option maxRecDepth 100000 in
theorem dD.calls (k:Nat) (A0:Option Addr) (c0:Nat) (l0:List Int) (r:Bool) (w:World) (hr0:Kd.C (Kd.int .u8) w A0 l0.length l0) (hc0:l0.length≤c0) (h:dD.f k l0=some r) :
  Calls Tryd.prog 55 #[.slice A0 l0.length c0] w fun e w'=>e=.returned (.bool r)∧aV w w':=by
 have HR0:=ae.mk hr0
 have tC:=ae.mk hc0
 clear hr0 hc0
 have H:(dD.l0 k l0 (l0.length:Int) 0)=some r:=h
 clear h
 have H':=ae.mk H
 clear H
 go_enter Tryd.func55,Tryd.ntmps55
 go_wp2
 go_loopg [7] k (fun kq v7 w'=>∃ (rf:Int),v7=.int .i64 rf∧ae (dD.l0 kq l0 (l0.length:Int) rf=some r)∧ae (kq≤k)∧aV w w')
 case atStart=>exact ⟨(0),(by first|rfl|(simp;done)|(simp [*];done)),H',⟨Nat.le_refl _⟩,by repeat (first|exact aV.refl _|apply aV.step)⟩
 case round =>
  clear H'
  obtain ⟨rf,rfl,HA,tq,⟨m1,rfl⟩⟩:=hrel
  cases gk with
  | zero=>exact absurd HA.out (by simp [dD.l0])
  | succ k1 =>
   have H:=HA.out
   clear HA
   simp only [dD.l0] at H
   by_cases c2:rf < (l0.length:Int)
   ·
    rw [if_pos c2] at H
    have DF:decide (rf < (l0.length:Int))=true:=decide_eq_true c2
    clear c2
    by_cases c3:0≤rf
    ·
     rw [if_pos c3] at H
     have nS:decide (0≤rf)=true:=decide_eq_true c3
     clear c3
     by_cases c4:rf < (l0.length:Int)
     ·
      rw [if_pos c4] at H
      have nR:decide (rf < (l0.length:Int))=true:=decide_eq_true c4
      clear c4
      by_cases c5:(rd l0 rf) ≥ 8
      ·
       rw [if_pos c5] at H
       have qO:decide (8≤(rd l0 rf))=true:=decide_eq_true c5
       clear c5
       obtain rfl:=Option.some.inj H
       have F6:0≤(rf:Int):=of_decide_eq_true (by first|(with_reducible assumption)|assumption)
       have FV:rf < (l0.length:Int):=of_decide_eq_true (by first|(with_reducible assumption)|assumption)
       obtain ⟨acy,e108,QT⟩:=Kd.Ae HR0.out rf F6 FV
       cases e108
       replace F6:=eq_true F6
       replace FV:=eq_true FV
       go_wp2
       go_ret
       exact ⟨by first|rfl|(simp;done)|(simp [*];done),by repeat (first|exact aV.refl _|apply aV.step)⟩
      ·
       rw [if_neg c5] at H
       have qO:decide (8≤(rd l0 rf))=false:=decide_eq_false c5
       clear c5
       have H':=ae.mk H
       clear H
       have F6:0≤(rf:Int):=of_decide_eq_true (by first|(with_reducible assumption)|assumption)
       have FV:rf < (l0.length:Int):=of_decide_eq_true (by first|(with_reducible assumption)|assumption)
       obtain ⟨acy,e108,QT⟩:=Kd.Ae HR0.out rf F6 FV
       cases e108
       replace F6:=eq_true F6
       replace FV:=eq_true FV
       go_wp2
       go_roundg k1
       case measure=>have:=tq.out;omega
       case rel=>exact ⟨(wrap64 (rf+1)),(by first|rfl|(simp;done)|(simp [*];done)),H',⟨by have:=tq.out;omega⟩,by repeat (first|exact aV.refl _|apply aV.step)⟩
     ·
      rw [if_neg c4] at H
      exact absurd H (by simp)
    ·
     rw [if_neg c3] at H
     exact absurd H (by simp)
   ·
    rw [if_neg c2] at H
    have DF:decide (rf < (l0.length:Int))=false:=decide_eq_false c2
    clear c2
    obtain rfl:=Option.some.inj H
    go_wp2
    go_ret
    exact ⟨by first|rfl|(simp;done)|(simp [*];done),by repeat (first|exact aV.refl _|apply aV.step)⟩
def gU.f (a0:Int) (a1:Int):Option (Bool):=if a0 ≥ 0 then (some (a0 == a1)) else (some false)
set_option maxHeartbeats 8000000 in
set_option maxRecDepth 100000 in
theorem gU.calls (a0:Int) (a1:Int) (r:Bool) (w:World) (h:gU.f a0 a1=some r) :
  Calls Tryd.prog 56 #[.int .i64 a0,.int .i64 a1] w fun e w'=>e=.returned (.bool r)∧aV w w':=by
 have H:(if a0 ≥ 0 then (some (a0 == a1)) else (some false))=some r:=h
 clear h
 by_cases c3:a0 ≥ 0
 ·
  rw [if_pos c3] at H
  have nS:decide (0≤a0)=true:=decide_eq_true c3
  clear c3
  obtain rfl:=Option.some.inj H
  go_enter Tryd.func56,Tryd.ntmps56
  go_wp2
  go_ret
  exact ⟨by first|rfl|(simp;done)|(simp [*];done),by repeat (first|exact aV.refl _|apply aV.step)⟩
 ·
  rw [if_neg c3] at H
  have nS:decide (0≤a0)=false:=decide_eq_false c3
  clear c3
  obtain rfl:=Option.some.inj H
  go_enter Tryd.func56,Tryd.ntmps56
  go_wp2
  go_ret
  exact ⟨by first|rfl|(simp;done)|(simp [*];done),by repeat (first|exact aV.refl _|apply aV.step)⟩
def kW.f (k:Nat) (l0:List ByteArray) (a1:Int):Option (ByteArray):=(bI.f k l0).bind fun t109=>(if t109=true then (if a1 < 0 then (some (⟨#[]⟩:ByteArray)) else (if a1 ≥ (l0.length:Int) then (some (⟨#[]⟩:ByteArray)) else (if 0≤a1 then (if a1 < (l0.length:Int) then (some (dV ByteArray.empty l0 a1)) else (none)) else (none)))) else (some (⟨#[]⟩:ByteArray)))
theorem kW.mono:∀ a0 a1 k,dK (kW.f k a0 a1) (kW.f (k+1) a0 a1):=by
 intro a0 a1 k
 unfold kW.f
 repeat' with_reducible first|apply bI.mono|exact dK.refl _|exact dK.none _|refine dK.ite ?_ ?_|refine dK.bind ?_ (fun _=>?_)
set_option maxHeartbeats 8000000 in
set_option maxRecDepth 100000 in
theorem kW.calls (k:Nat) (A0:Option Addr) (c0:Nat) (l0:List ByteArray) (a1:Int) (r:ByteArray) (w:World) (hr0:Kd.C Kd.string w A0 l0.length l0) (hc0:l0.length≤c0) (h:kW.f k l0 a1=some r) :
  Calls Tryd.prog 60 #[.slice A0 l0.length c0,.int .i64 a1] w fun e w'=>e=.returned (.string r)∧aV w w':=by
 have HR0:=ae.mk hr0
 have tC:=ae.mk hc0
 clear hr0 hc0
 have H:((bI.f k l0).bind fun t109=>(if t109=true then (if a1 < 0 then (some (⟨#[]⟩:ByteArray)) else (if a1 ≥ (l0.length:Int) then (some (⟨#[]⟩:ByteArray)) else (if 0≤a1 then (if a1 < (l0.length:Int) then (some (dV ByteArray.empty l0 a1)) else (none)) else (none)))) else (some (⟨#[]⟩:ByteArray))))=some r:=h
 clear h
 replace H:=Option.bind_eq_some_iff.mp H
 obtain ⟨t109,xh,H⟩:=H
 replace H:(if t109=true then (if a1 < 0 then (some (⟨#[]⟩:ByteArray)) else (if a1 ≥ (l0.length:Int) then (some (⟨#[]⟩:ByteArray)) else (if 0≤a1 then (if a1 < (l0.length:Int) then (some (dV ByteArray.empty l0 a1)) else (none)) else (none)))) else (some (⟨#[]⟩:ByteArray)))=some r:=H
 have A3:=ae.mk xh
 clear xh
 by_cases c4:t109=true
 ·
  subst c4
  have H1:(if a1 < 0 then (some (⟨#[]⟩:ByteArray)) else (if a1 ≥ (l0.length:Int) then (some (⟨#[]⟩:ByteArray)) else (if 0≤a1 then (if a1 < (l0.length:Int) then (some (dV ByteArray.empty l0 a1)) else (none)) else (none))))=some r:=by rw [if_pos rfl] at H;exact H
  clear H
  have H:=H1
  clear H1
  by_cases c5:a1 < 0
  ·
   rw [if_pos c5] at H
   have qO:decide (a1 < 0)=true:=decide_eq_true c5
   clear c5
   obtain rfl:=Option.some.inj H
   go_enter Tryd.func60,Tryd.ntmps60
   go_wp2_with (first|((with_reducible refine bu (f:=52) rfl ?_);refine dQ (some 6) rfl rfl Tryd.func52 (by kernel_rfl) rfl #[.slice A0 l0.length c0] rfl (by (try simp only [List.map_toArray,List.map_cons,List.map_nil]);first|done|rfl|(simp only [List.length_drop,List.length_take];rfl)) ?_;(with_reducible refine (bI.calls k _ _ l0 true _ ?bW ?df A3.out).mono ?_);(case bW=>repeat (first|exact HR0.out|(with_reducible refine Kd.bM ?_ _)|(with_reducible refine Kd.bK ?_ _)|(with_reducible refine Kd.dB ?_)));(case df=>exact tC.out);rintro e w' ⟨rfl,⟨nd,rfl⟩⟩;refine ⟨_,rfl,?_⟩))
   go_ret
   exact ⟨by first|rfl|(simp;done)|(simp [*];done),by repeat (first|exact aV.refl _|apply aV.step)⟩
  ·
   rw [if_neg c5] at H
   have qO:decide (a1 < 0)=false:=decide_eq_false c5
   clear c5
   by_cases c6:a1 ≥ (l0.length:Int)
   ·
    rw [if_pos c6] at H
    have nP:decide ((l0.length:Int)≤a1)=true:=decide_eq_true c6
    clear c6
    obtain rfl:=Option.some.inj H
    go_enter Tryd.func60,Tryd.ntmps60
    go_wp2_with (first|((with_reducible refine bu (f:=52) rfl ?_);refine dQ (some 6) rfl rfl Tryd.func52 (by kernel_rfl) rfl #[.slice A0 l0.length c0] rfl (by (try simp only [List.map_toArray,List.map_cons,List.map_nil]);first|done|rfl|(simp only [List.length_drop,List.length_take];rfl)) ?_;(with_reducible refine (bI.calls k _ _ l0 true _ ?bW ?df A3.out).mono ?_);(case bW=>repeat (first|exact HR0.out|(with_reducible refine Kd.bM ?_ _)|(with_reducible refine Kd.bK ?_ _)|(with_reducible refine Kd.dB ?_)));(case df=>exact tC.out);rintro e w' ⟨rfl,⟨nd,rfl⟩⟩;refine ⟨_,rfl,?_⟩))
    go_ret
    exact ⟨by first|rfl|(simp;done)|(simp [*];done),by repeat (first|exact aV.refl _|apply aV.step)⟩
   ·
    rw [if_neg c6] at H
    have nP:decide ((l0.length:Int)≤a1)=false:=decide_eq_false c6
    clear c6
    by_cases c7:0≤a1
    ·
     rw [if_pos c7] at H
     have oG:decide (0≤a1)=true:=decide_eq_true c7
     clear c7
     by_cases c8:a1 < (l0.length:Int)
     ·
      rw [if_pos c8] at H
      have oL:decide (a1 < (l0.length:Int))=true:=decide_eq_true c8
      clear c8
      obtain rfl:=Option.some.inj H
      go_enter Tryd.func60,Tryd.ntmps60
      go_wp2_with (first|((with_reducible refine bu (f:=52) rfl ?_);refine dQ (some 6) rfl rfl Tryd.func52 (by kernel_rfl) rfl #[.slice A0 l0.length c0] rfl (by (try simp only [List.map_toArray,List.map_cons,List.map_nil]);first|done|rfl|(simp only [List.length_drop,List.length_take];rfl)) ?_;(with_reducible refine (bI.calls k _ _ l0 true _ ?bW ?df A3.out).mono ?_);(case bW=>repeat (first|exact HR0.out|(with_reducible refine Kd.bM ?_ _)|(with_reducible refine Kd.bK ?_ _)|(with_reducible refine Kd.dB ?_)));(case df=>exact tC.out);rintro e w' ⟨rfl,⟨nd,rfl⟩⟩;refine ⟨_,rfl,?_⟩;have XU:0≤(a1:Int):=of_decide_eq_true (by first|(with_reducible assumption)|assumption);have XJ:a1 < (l0.length:Int):=of_decide_eq_true (by first|(with_reducible assumption)|assumption);obtain ⟨amx,ako,adJ⟩:=Kd.kC HR0.out a1 XU XJ;cases ako;replace XU:=eq_true XU;replace XJ:=eq_true XJ))
      go_ret
      exact ⟨by first|rfl|(simp;done)|(simp [*];done),by repeat (first|exact aV.refl _|apply aV.step)⟩
     ·
      rw [if_neg c8] at H
      exact absurd H (by simp)
    ·
     rw [if_neg c7] at H
     exact absurd H (by simp)
 ·
  replace c4:=Bool.eq_false_iff.mpr c4
  subst c4
  have H1:(some (⟨#[]⟩:ByteArray))=some r:=by rw [if_neg (show ¬ (false=true) by decide)] at H;exact H
  clear H
  have H:=H1
  clear H1
  obtain rfl:=Option.some.inj H
  go_enter Tryd.func60,Tryd.ntmps60
  go_wp2_with (first|((with_reducible refine bu (f:=52) rfl ?_);refine dQ (some 6) rfl rfl Tryd.func52 (by kernel_rfl) rfl #[.slice A0 l0.length c0] rfl (by (try simp only [List.map_toArray,List.map_cons,List.map_nil]);first|done|rfl|(simp only [List.length_drop,List.length_take];rfl)) ?_;(with_reducible refine (bI.calls k _ _ l0 false _ ?bW ?df A3.out).mono ?_);(case bW=>repeat (first|exact HR0.out|(with_reducible refine Kd.bM ?_ _)|(with_reducible refine Kd.bK ?_ _)|(with_reducible refine Kd.dB ?_)));(case df=>exact tC.out);rintro e w' ⟨rfl,⟨nd,rfl⟩⟩;refine ⟨_,rfl,?_⟩))
  go_ret
  exact ⟨by first|rfl|(simp;done)|(simp [*];done),by repeat (first|exact aV.refl _|apply aV.step)⟩
def jv.f (k:Nat) (l0:List ByteArray) (a1:Int):Option (Int):=(kW.f k l0 a1).bind fun t111=>(some (t111.size:Int))
theorem jv.mono:∀ a0 a1 k,dK (jv.f k a0 a1) (jv.f (k+1) a0 a1):=by
 intro a0 a1 k
 unfold jv.f
 repeat' with_reducible first|apply kW.mono|exact dK.refl _|exact dK.none _|refine dK.ite ?_ ?_|refine dK.bind ?_ (fun _=>?_)
set_option maxHeartbeats 8000000 in
set_option maxRecDepth 100000 in
theorem jv.calls (k:Nat) (A0:Option Addr) (c0:Nat) (l0:List ByteArray) (a1:Int) (r:Int) (w:World) (hr0:Kd.C Kd.string w A0 l0.length l0) (hc0:l0.length≤c0) (h:jv.f k l0 a1=some r) :
  Calls Tryd.prog 35 #[.slice A0 l0.length c0,.int .i64 a1] w fun e w'=>e=.returned (.int .i64 r)∧aV w w':=by
 have HR0:=ae.mk hr0
 have tC:=ae.mk hc0
 clear hr0 hc0
 have H:((kW.f k l0 a1).bind fun t111=>(some (t111.size:Int)))=some r:=h
 clear h
 replace H:=Option.bind_eq_some_iff.mp H
 obtain ⟨t111,xh,H⟩:=H
 replace H:(some (t111.size:Int))=some r:=H
 have A3:=ae.mk xh
 clear xh
 obtain rfl:=Option.some.inj H
 go_enter Tryd.func35,Tryd.ntmps35
 go_wp2_with (first|((with_reducible refine bu (f:=60) rfl ?_);refine dQ (some 7) rfl rfl Tryd.func60 (by kernel_rfl) rfl #[.slice A0 l0.length c0,.int .i64 a1] rfl (by (try simp only [List.map_toArray,List.map_cons,List.map_nil]);first|done|rfl|(simp only [List.length_drop,List.length_take];rfl)) ?_;(with_reducible refine (kW.calls k _ _ l0 a1 t111 _ ?bW ?df A3.out).mono ?_);(case bW=>repeat (first|exact HR0.out|(with_reducible refine Kd.bM ?_ _)|(with_reducible refine Kd.bK ?_ _)|(with_reducible refine Kd.dB ?_)));(case df=>exact tC.out);rintro e w' ⟨rfl,⟨nd,rfl⟩⟩;refine ⟨_,rfl,?_⟩))
 go_ret
 exact ⟨by first|rfl|(simp;done)|(simp [*];done),by repeat (first|exact aV.refl _|apply aV.step)⟩
end Go.Proofs.YtlemecdddhdagaaDoor.P
end
