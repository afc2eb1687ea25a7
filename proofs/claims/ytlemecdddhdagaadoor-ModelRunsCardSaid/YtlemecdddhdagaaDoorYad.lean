/- Parts of the proof of ModelRuns: what the functions that it reaches compute, and plain facts about that. -/
import Derived.Test.YtlemecdddhdagaaDoorYab
set_option linter.unusedVariables false
set_option linter.unusedSimpArgs false
section
namespace Go.Proofs.YtlemecdddhdagaaDoor.P
open Go.RowKit Go.Proofs.af.bD Go.Proofs.af.dB Go.Proofs.af.dM
attribute [local go_sem] lq lg mG mF jY jX lh kZ
def jD.f (a0:Int) (a1:Int):Option (Int):=if (wrap64 ((wrap64 (a0)) - 48)) ≥ 0 then (if (wrap64 ((wrap64 (a0)) - 48)) < a1 then (some (wrap64 ((wrap64 (a0)) - 48))) else (some (-1))) else (some (-1))
set_option maxHeartbeats 8000000 in
set_option maxRecDepth 100000 in
theorem jD.calls (a0:Int) (a1:Int) (r:Int) (w:World) (h:jD.f a0 a1=some r) :
  Calls Tryd.prog 51 #[.int .u8 a0,.int .i64 a1] w fun e w'=>e=.returned (.int .i64 r)∧aT w w':=by
 have H:(if (wrap64 ((wrap64 (a0)) - 48)) ≥ 0 then (if (wrap64 ((wrap64 (a0)) - 48)) < a1 then (some (wrap64 ((wrap64 (a0)) - 48))) else (some (-1))) else (some (-1)))=some r:=h
 clear h
 by_cases c3:(wrap64 ((wrap64 (a0)) - 48)) ≥ 0
 ·
  rw [if_pos c3] at H
  have ou:decide (0≤(wrap64 ((wrap64 (a0)) - 48)))=true:=decide_eq_true c3
  clear c3
  by_cases c4:(wrap64 ((wrap64 (a0)) - 48)) < a1
  ·
   rw [if_pos c4] at H
   have oq:decide ((wrap64 ((wrap64 (a0)) - 48)) < a1)=true:=decide_eq_true c4
   clear c4
   obtain rfl:=Option.some.inj H
   go_enter Tryd.func51,Tryd.ntmps51
   go_wp2
   go_ret
   exact ⟨by first|rfl|(simp;done)|(simp [*];done),by repeat (first|exact aT.refl _|apply aT.step)⟩
  ·
   rw [if_neg c4] at H
   have oq:decide ((wrap64 ((wrap64 (a0)) - 48)) < a1)=false:=decide_eq_false c4
   clear c4
   obtain rfl:=Option.some.inj H
   go_enter Tryd.func51,Tryd.ntmps51
   go_wp2
   go_ret
   exact ⟨by first|rfl|(simp;done)|(simp [*];done),by repeat (first|exact aT.refl _|apply aT.step)⟩
 ·
  rw [if_neg c3] at H
  have ou:decide (0≤(wrap64 ((wrap64 (a0)) - 48)))=false:=decide_eq_false c3
  clear c3
  obtain rfl:=Option.some.inj H
  go_enter Tryd.func51,Tryd.ntmps51
  go_wp2
  go_ret
  exact ⟨by first|rfl|(simp;done)|(simp [*];done),by repeat (first|exact aT.refl _|apply aT.step)⟩
mutual
def bM.l0:Nat→List ByteArray→List ByteArray→Int→Int→Option (Bool)
 | 0,_,_,_,_=>none
 | k+1,x0,x6,x7,x8=>if x8 < x7 then (if 0≤x8 then (if x8 < (x6.length:Int) then (if (dY ByteArray.empty x6 x8).toList=([]:List UInt8) then (bM.j1 k x0 (dY ByteArray.empty x6 x8) x6 x7 x8 true) else (bM.j1 k x0 (dY ByteArray.empty x6 x8) x6 x7 x8 (decide (((dY ByteArray.empty x6 x8).size:Int) > 6)))) else (none)) else (none)) else (if (x0.length:Int) ≥ 1 then (some (decide ((x0.length:Int)≤8))) else (some false))
def bM.j1:Nat→List ByteArray→ByteArray→List ByteArray→Int→Int→Bool→Option (Bool)
 | 0,_,_,_,_,_,_=>none
 | k+1,x0,x4,x6,x7,x8,x18=>if x18=true then (some false) else (bM.l1 k x0 x4 x6 x7 x8 (x4.size:Int) 0)
def bM.l1:Nat→List ByteArray→ByteArray→List ByteArray→Int→Int→Int→Int→Option (Bool)
 | 0,_,_,_,_,_,_,_=>none
 | k+1,x0,x4,x6,x7,x8,x20,SH=>if SH < x20 then (if 0≤SH then (if SH < (x4.size:Int) then (if (bt x4 SH)=105 then (bM.l1 k x0 x4 x6 x7 x8 x20 (wrap64 (SH+1))) else ((jD.f (bt x4 SH) (x0.length:Int)).bind fun t102=>(if t102 < 0 then (some false) else (bM.l1 k x0 x4 x6 x7 x8 x20 (wrap64 (SH+1)))))) else (none)) else (none)) else (bM.l0 k x0 x6 x7 (wrap64 (x8+1)))
end
def bM.f (k:Nat) (l0:List ByteArray):Option (Bool):=bM.l0 k l0 l0 (l0.length:Int) 0
theorem bM.iD:∀ k,(∀ y0 y1 y2 y3,dO (bM.l0 k y0 y1 y2 y3) (bM.l0 (k+1) y0 y1 y2 y3))∧(∀ y0 y1 y2 y3 y4 y5,dO (bM.j1 k y0 y1 y2 y3 y4 y5) (bM.j1 (k+1) y0 y1 y2 y3 y4 y5))∧(∀ y0 y1 y2 y3 y4 y5 y6,dO (bM.l1 k y0 y1 y2 y3 y4 y5 y6) (bM.l1 (k+1) y0 y1 y2 y3 y4 y5 y6))
 | 0=>⟨fun _ _ _ _ r h=>by simp [bM.l0] at h,fun _ _ _ _ _ _ r h=>by simp [bM.j1] at h,fun _ _ _ _ _ _ _ r h=>by simp [bM.l1] at h⟩
 | k+1=>by
  obtain ⟨lS,ih1,ih2⟩:=bM.iD k
  refine ⟨?_,?_,?_⟩
  ·
   intro y0 y1 y2 y3
   unfold bM.l0
   repeat' with_reducible first|apply lS|apply ih1|apply ih2|exact dO.refl _|exact dO.none _|refine dO.ite ?_ ?_|refine dO.bind ?_ (fun _=>?_)
  ·
   intro y0 y1 y2 y3 y4 y5
   unfold bM.j1
   repeat' with_reducible first|apply lS|apply ih1|apply ih2|exact dO.refl _|exact dO.none _|refine dO.ite ?_ ?_|refine dO.bind ?_ (fun _=>?_)
  ·
   intro y0 y1 y2 y3 y4 y5 y6
   unfold bM.l1
   repeat' with_reducible first|apply lS|apply ih1|apply ih2|exact dO.refl _|exact dO.none _|refine dO.ite ?_ ?_|refine dO.bind ?_ (fun _=>?_)
theorem bM.mono:∀ a0 k,dO (bM.f k a0) (bM.f (k+1) a0):=by
 intro a0 k
 obtain ⟨lS,ih1,ih2⟩:=bM.iD k
 unfold bM.f
 repeat' with_reducible first|apply lS|apply ih1|apply ih2|exact dO.refl _|exact dO.none _|refine dO.ite ?_ ?_|refine dO.bind ?_ (fun _=>?_)
set_option maxHeartbeats 8000000 in
set_option maxRecDepth 100000 in
theorem bM.calls (k:Nat) (A0:Option Addr) (c0:Nat) (l0:List ByteArray) (r:Bool) (w:World) (hr0:Kd.C Kd.string w A0 l0.length l0) (hc0:l0.length≤c0) (h:bM.f k l0=some r) :
  Calls Tryd.prog 52 #[.slice A0 l0.length c0] w fun e w'=>e=.returned (.bool r)∧aT w w':=by
 have HR0:=ae.mk hr0
 have sZ:=ae.mk hc0
 clear hr0 hc0
 have H:(bM.l0 k l0 l0 (l0.length:Int) 0)=some r:=h
 clear h
 have H':=ae.mk H
 clear H
 go_enter Tryd.func52,Tryd.ntmps52
 go_wp2
 go_loopg [8] k (fun kq v8 w'=>∃ (jc:Int),v8=.int .i64 jc∧ae (bM.l0 kq l0 l0 (l0.length:Int) jc=some r)∧ae (kq≤k)∧aT w w')
 case atStart=>exact ⟨(0),(by first|rfl|(simp;done)|(simp [*];done)),H',⟨Nat.le_refl _⟩,by repeat (first|exact aT.refl _|apply aT.step)⟩
 case round =>
  clear H'
  obtain ⟨jc,rfl,HA,qO,⟨m1,rfl⟩⟩:=hrel
  cases gk with
  | zero=>exact absurd HA.out (by simp [bM.l0])
  | succ k1 =>
   have H:=HA.out
   clear HA
   simp only [bM.l0] at H
   by_cases c2:jc < (l0.length:Int)
   ·
    rw [if_pos c2] at H
    have EW:decide (jc < (l0.length:Int))=true:=decide_eq_true c2
    clear c2
    by_cases c3:0≤jc
    ·
     rw [if_pos c3] at H
     have ou:decide (0≤jc)=true:=decide_eq_true c3
     clear c3
     by_cases c4:jc < (l0.length:Int)
     ·
      rw [if_pos c4] at H
      have oq:decide (jc < (l0.length:Int))=true:=decide_eq_true c4
      clear c4
      have Jk:=ae.mk H
      clear H
      have Iz:0≤(jc:Int):=of_decide_eq_true (by first|(with_reducible assumption)|assumption)
      have Ii:jc < (l0.length:Int):=of_decide_eq_true (by first|(with_reducible assumption)|assumption)
      obtain ⟨aeK,aau,Uh⟩:=Kd.kN HR0.out jc Iz Ii
      cases aau
      replace Iz:=eq_true Iz
      replace Ii:=eq_true Ii
      go_upto_region 4 with (fail)
      go_cut [18] (fun v18 wc=>∃ (kq:Nat) (Js:Bool),v18=.bool Js∧ae (bM.j1 kq l0 (dY ByteArray.empty l0 jc) l0 (l0.length:Int) jc Js=some r)∧ae (kq≤k1)∧aT w wc)
      case first =>
       have H:=Jk.out
       clear Jk
       by_cases c6:(dY ByteArray.empty l0 jc).toList=([]:List UInt8)
       ·
        rw [if_pos c6] at H
        have oH:((dY ByteArray.empty l0 jc).toList == ([]:List UInt8))=true:=beq_iff_eq.mpr c6
        have yC:((dY ByteArray.empty l0 jc).toList != ([]:List UInt8))=false:=bne_eq_false_iff_eq.mpr c6
        clear c6
        (first|rw [oH]|(simp only [bW,cu];rw [oH])|skip)
        have H':=ae.mk H
        clear H
        go_wp2
        go_meet
        case rel=>exact ⟨_,(true),(by first|rfl|(simp;done)|(simp [*];done)),H',⟨by have:=qO.out;first|omega|exact Nat.le_refl _⟩,by repeat (first|exact aT.refl _|apply aT.step)⟩
       ·
        rw [if_neg c6] at H
        have oH:((dY ByteArray.empty l0 jc).toList == ([]:List UInt8))=false:=beq_eq_false_iff_ne.mpr c6
        have yC:((dY ByteArray.empty l0 jc).toList != ([]:List UInt8))=true:=bne_iff_ne.mpr c6
        (first|rw [oH]|(simp only [bW,cu];rw [oH])|skip)
        have H':=ae.mk H
        clear H
        go_wp2
        go_meet
        case rel=>exact ⟨_,(decide (((dY ByteArray.empty l0 jc).size:Int) > 6)),(by first|rfl|(simp;done)|(simp [*];done)),H',⟨by have:=qO.out;first|omega|exact Nat.le_refl _⟩,by repeat (first|exact aT.refl _|apply aT.step)⟩
      case rest =>
       clear Jk
       obtain ⟨kq,Js,rfl,HA,Jj,⟨mc4,rfl⟩⟩:=hcut
       cases kq with
       | zero=>exact absurd HA.out (by simp [bM.j1])
       | succ vK =>
        have H:=HA.out
        clear HA
        simp only [bM.j1] at H
        by_cases c7:Js=true
        ·
         subst c7
         have H1:(some false)=some r:=by rw [if_pos rfl] at H;exact H
         clear H
         have H:=H1
         clear H1
         obtain rfl:=Option.some.inj H
         go_wp2
         go_ret
         exact ⟨by first|rfl|(simp;done)|(simp [*];done),by repeat (first|exact aT.refl _|apply aT.step)⟩
        ·
         replace c7:=Bool.eq_false_iff.mpr c7
         subst c7
         have H1:(bM.l1 vK l0 (dY ByteArray.empty l0 jc) l0 (l0.length:Int) jc ((dY ByteArray.empty l0 jc).size:Int) 0)=some r:=by rw [if_neg (show ¬ (false=true) by decide)] at H;exact H
         clear H
         have H:=H1
         clear H1
         have H':=ae.mk H
         clear H
         go_wp2
         go_loopg [21] vK (fun kq v21 w'=>∃ (kJ:Int),v21=.int .i64 kJ∧ae (bM.l1 kq l0 (dY ByteArray.empty l0 jc) l0 (l0.length:Int) jc ((dY ByteArray.empty l0 jc).size:Int) kJ=some r)∧ae (kq≤vK)∧aT w w')
         case atStart=>exact ⟨(0),(by first|rfl|(simp;done)|(simp [*];done)),H',⟨Nat.le_refl _⟩,by repeat (first|exact aT.refl _|apply aT.step)⟩
         case round =>
          clear H'
          obtain ⟨kJ,rfl,HA,xZ,⟨m3,rfl⟩⟩:=hrel
          cases gk with
          | zero=>exact absurd HA.out (by simp [bM.l1])
          | succ k3 =>
           have H:=HA.out
           clear HA
           simp only [bM.l1] at H
           by_cases c8:kJ < ((dY ByteArray.empty l0 jc).size:Int)
           ·
            rw [if_pos c8] at H
            have pM:decide (kJ < ((dY ByteArray.empty l0 jc).size:Int))=true:=decide_eq_true c8
            clear c8
            by_cases c9:0≤kJ
            ·
             rw [if_pos c9] at H
             have EU:decide (0≤kJ)=true:=decide_eq_true c9
             clear c9
             by_cases c10:kJ < ((dY ByteArray.empty l0 jc).size:Int)
             ·
              rw [if_pos c10] at H
              have pR:decide (kJ < ((dY ByteArray.empty l0 jc).size:Int))=true:=decide_eq_true c10
              clear c10
              by_cases c12:(bt (dY ByteArray.empty l0 jc) kJ)=105
              ·
               rw [if_pos c12] at H
               have wY:((bt (dY ByteArray.empty l0 jc) kJ) == 105)=true:=beq_iff_eq.mpr c12
               have Ri:((bt (dY ByteArray.empty l0 jc) kJ) != 105)=false:=bne_eq_false_iff_eq.mpr c12
               clear c12
               have H':=ae.mk H
               clear H
               have p11:0≤(kJ:Int):=of_decide_eq_true (by first|(with_reducible assumption)|assumption)
               have q11:kJ < ((dY ByteArray.empty l0 jc).size:Int):=of_decide_eq_true (by first|(with_reducible assumption)|assumption)
               have acb:=kR (dY ByteArray.empty l0 jc) kJ
               replace p11:=eq_true p11
               replace q11:=eq_true q11
               go_wp2
               go_roundg k3
               case measure=>have:=qO.out;have:=Jj.out;have:=xZ.out;omega
               case rel=>exact ⟨(wrap64 (kJ+1)),(by first|rfl|(simp;done)|(simp [*];done)),H',⟨by have:=qO.out;have:=Jj.out;have:=xZ.out;omega⟩,by repeat (first|exact aT.refl _|apply aT.step)⟩
              ·
               rw [if_neg c12] at H
               have wY:((bt (dY ByteArray.empty l0 jc) kJ) == 105)=false:=beq_eq_false_iff_ne.mpr c12
               have Ri:((bt (dY ByteArray.empty l0 jc) kJ) != 105)=true:=bne_iff_ne.mpr c12
               replace H:=Option.bind_eq_some_iff.mp H
               obtain ⟨t102,afU,H⟩:=H
               replace H:(if t102 < 0 then (some false) else (bM.l1 k3 l0 (dY ByteArray.empty l0 jc) l0 (l0.length:Int) jc ((dY ByteArray.empty l0 jc).size:Int) (wrap64 (kJ+1))))=some r:=H
               have A14:=ae.mk afU
               clear afU
               by_cases c15:t102 < 0
               ·
                rw [if_pos c15] at H
                have qK:decide (t102 < 0)=true:=decide_eq_true c15
                clear c15
                obtain rfl:=Option.some.inj H
                have p11:0≤(kJ:Int):=of_decide_eq_true (by first|(with_reducible assumption)|assumption)
                have q11:kJ < ((dY ByteArray.empty l0 jc).size:Int):=of_decide_eq_true (by first|(with_reducible assumption)|assumption)
                have acb:=kR (dY ByteArray.empty l0 jc) kJ
                replace p11:=eq_true p11
                replace q11:=eq_true q11
                have p13:0≤(kJ:Int):=of_decide_eq_true (by first|(with_reducible assumption)|assumption)
                have q13:kJ < ((dY ByteArray.empty l0 jc).size:Int):=of_decide_eq_true (by first|(with_reducible assumption)|assumption)
                have Uf:=kR (dY ByteArray.empty l0 jc) kJ
                replace p13:=eq_true p13
                replace q13:=eq_true q13
                go_wp2_with (first|(go_at_call 51;(with_reducible refine (jD.calls (bt (dY ByteArray.empty l0 jc) kJ) (l0.length:Int) t102 _ A14.out).mono ?_);rintro e w' ⟨rfl,⟨nd,rfl⟩⟩))
                go_ret
                exact ⟨by first|rfl|(simp;done)|(simp [*];done),by repeat (first|exact aT.refl _|apply aT.step)⟩
               ·
                rw [if_neg c15] at H
                have qK:decide (t102 < 0)=false:=decide_eq_false c15
                clear c15
                have H':=ae.mk H
                clear H
                have p11:0≤(kJ:Int):=of_decide_eq_true (by first|(with_reducible assumption)|assumption)
                have q11:kJ < ((dY ByteArray.empty l0 jc).size:Int):=of_decide_eq_true (by first|(with_reducible assumption)|assumption)
                have acb:=kR (dY ByteArray.empty l0 jc) kJ
                replace p11:=eq_true p11
                replace q11:=eq_true q11
                have p13:0≤(kJ:Int):=of_decide_eq_true (by first|(with_reducible assumption)|assumption)
                have q13:kJ < ((dY ByteArray.empty l0 jc).size:Int):=of_decide_eq_true (by first|(with_reducible assumption)|assumption)
                have Uf:=kR (dY ByteArray.empty l0 jc) kJ
                replace p13:=eq_true p13
                replace q13:=eq_true q13
                go_wp2_with (first|(go_at_call 51;(with_reducible refine (jD.calls (bt (dY ByteArray.empty l0 jc) kJ) (l0.length:Int) t102 _ A14.out).mono ?_);rintro e w' ⟨rfl,⟨nd,rfl⟩⟩))
                go_roundg k3
                case measure=>have:=qO.out;have:=Jj.out;have:=xZ.out;omega
                case rel=>exact ⟨(wrap64 (kJ+1)),(by first|rfl|(simp;done)|(simp [*];done)),H',⟨by have:=qO.out;have:=Jj.out;have:=xZ.out;omega⟩,by repeat (first|exact aT.refl _|apply aT.step)⟩
             ·
              rw [if_neg c10] at H
              exact absurd H (by simp)
            ·
             rw [if_neg c9] at H
             exact absurd H (by simp)
           ·
            rw [if_neg c8] at H
            have pM:decide (kJ < ((dY ByteArray.empty l0 jc).size:Int))=false:=decide_eq_false c8
            clear c8
            have H':=ae.mk H
            clear H
            go_wp2
            go_roundg k3
            case measure=>have:=qO.out;have:=Jj.out;have:=xZ.out;omega
            case rel=>exact ⟨(wrap64 (jc+1)),(by first|rfl|(simp;done)|(simp [*];done)),H',⟨by have:=qO.out;have:=Jj.out;have:=xZ.out;omega⟩,by repeat (first|exact aT.refl _|apply aT.step)⟩
     ·
      rw [if_neg c4] at H
      exact absurd H (by simp)
    ·
     rw [if_neg c3] at H
     exact absurd H (by simp)
   ·
    rw [if_neg c2] at H
    have EW:decide (jc < (l0.length:Int))=false:=decide_eq_false c2
    clear c2
    by_cases c16:(l0.length:Int) ≥ 1
    ·
     rw [if_pos c16] at H
     have Bo:decide (1≤(l0.length:Int))=true:=decide_eq_true c16
     have aeB:decide (1≤l0.length)=true:=decide_eq_true (by omega)
     clear c16
     obtain rfl:=Option.some.inj H
     go_wp2
     go_ret
     exact ⟨by first|rfl|(simp;done)|(simp [*];done),by repeat (first|exact aT.refl _|apply aT.step)⟩
    ·
     rw [if_neg c16] at H
     have Bo:decide (1≤(l0.length:Int))=false:=decide_eq_false c16
     have aeB:decide (1≤l0.length)=false:=decide_eq_false (by omega)
     clear c16
     obtain rfl:=Option.some.inj H
     go_wp2
     go_ret
     exact ⟨by first|rfl|(simp;done)|(simp [*];done),by repeat (first|exact aT.refl _|apply aT.step)⟩
def fJ.l0:Nat→List ByteArray→ByteArray→Int→Int→Option (Bool)
 | 0,_,_,_,_=>none
 | k+1,x0,x1,x7,x8=>if x8 < x7 then (if 0≤x8 then (if x8 < (x1.size:Int) then ((jD.f (bt x1 x8) (x0.length:Int)).bind fun t103=>(if t103 < 0 then (some false) else (fJ.l0 k x0 x1 x7 (wrap64 (x8+1))))) else (none)) else (none)) else ((bM.f k x0).bind fun t104=>(some t104))
def fJ.f (k:Nat) (l0:List ByteArray) (a1:ByteArray):Option (Bool):=fJ.l0 k l0 a1 (a1.size:Int) 0
theorem fJ.iD:∀ k,(∀ y0 y1 y2 y3,dO (fJ.l0 k y0 y1 y2 y3) (fJ.l0 (k+1) y0 y1 y2 y3))
 | 0=>fun _ _ _ _ r h=>by simp [fJ.l0] at h
 | k+1=>by
  have lS:=fJ.iD k
  ·
   intro y0 y1 y2 y3
   unfold fJ.l0
   repeat' with_reducible first|apply lS|apply bM.mono|exact dO.refl _|exact dO.none _|refine dO.ite ?_ ?_|refine dO.bind ?_ (fun _=>?_)
theorem fJ.mono:∀ a0 a1 k,dO (fJ.f k a0 a1) (fJ.f (k+1) a0 a1):=by
 intro a0 a1 k
 have lS:=fJ.iD k
 unfold fJ.f
 repeat' with_reducible first|apply lS|apply bM.mono|exact dO.refl _|exact dO.none _|refine dO.ite ?_ ?_|refine dO.bind ?_ (fun _=>?_)
set_option maxHeartbeats 8000000 in
set_option maxRecDepth 100000 in
theorem fJ.calls (k:Nat) (A0:Option Addr) (c0:Nat) (l0:List ByteArray) (a1:ByteArray) (r:Bool) (w:World) (hr0:Kd.C Kd.string w A0 l0.length l0) (hc0:l0.length≤c0) (h:fJ.f k l0 a1=some r) :
  Calls Tryd.prog 32 #[.slice A0 l0.length c0,.string a1] w fun e w'=>e=.returned (.bool r)∧aT w w':=by
 have HR0:=ae.mk hr0
 have sZ:=ae.mk hc0
 clear hr0 hc0
 have H:(fJ.l0 k l0 a1 (a1.size:Int) 0)=some r:=h
 clear h
 have H':=ae.mk H
 clear H
 go_enter Tryd.func32,Tryd.ntmps32
 go_wp2
 go_loopg [8] k (fun kq v8 w'=>∃ (jc:Int),v8=.int .i64 jc∧ae (fJ.l0 kq l0 a1 (a1.size:Int) jc=some r)∧ae (kq≤k)∧aT w w')
 case atStart=>exact ⟨(0),(by first|rfl|(simp;done)|(simp [*];done)),H',⟨Nat.le_refl _⟩,by repeat (first|exact aT.refl _|apply aT.step)⟩
 case round =>
  clear H'
  obtain ⟨jc,rfl,HA,qO,⟨m1,rfl⟩⟩:=hrel
  cases gk with
  | zero=>exact absurd HA.out (by simp [fJ.l0])
  | succ k1 =>
   have H:=HA.out
   clear HA
   simp only [fJ.l0] at H
   by_cases c3:jc < (a1.size:Int)
   ·
    rw [if_pos c3] at H
    have ou:decide (jc < (a1.size:Int))=true:=decide_eq_true c3
    clear c3
    by_cases c4:0≤jc
    ·
     rw [if_pos c4] at H
     have oq:decide (0≤jc)=true:=decide_eq_true c4
     clear c4
     by_cases c5:jc < (a1.size:Int)
     ·
      rw [if_pos c5] at H
      have rG:decide (jc < (a1.size:Int))=true:=decide_eq_true c5
      clear c5
      replace H:=Option.bind_eq_some_iff.mp H
      obtain ⟨t103,A70,H⟩:=H
      replace H:(if t103 < 0 then (some false) else (fJ.l0 k1 l0 a1 (a1.size:Int) (wrap64 (jc+1))))=some r:=H
      have A7:=ae.mk A70
      clear A70
      by_cases c8:t103 < 0
      ·
       rw [if_pos c8] at H
       have pM:decide (t103 < 0)=true:=decide_eq_true c8
       clear c8
       obtain rfl:=Option.some.inj H
       have p6:0≤(jc:Int):=of_decide_eq_true (by first|(with_reducible assumption)|assumption)
       have q6:jc < (a1.size:Int):=of_decide_eq_true (by first|(with_reducible assumption)|assumption)
       have hx6:=kR a1 jc
       replace p6:=eq_true p6
       replace q6:=eq_true q6
       go_wp2_with (first|((with_reducible refine bz (f:=51) rfl ?_);refine dS (some 16) rfl rfl Tryd.func51 (by kernel_rfl) rfl #[.int .u8 (bt a1 jc),.int .i64 (l0.length:Int)] rfl (by (try simp only [List.map_toArray,List.map_cons,List.map_nil]);first|done|rfl|(simp only [List.length_drop,List.length_take];rfl)) ?_;(with_reducible refine (jD.calls (bt a1 jc) (l0.length:Int) t103 _ A7.out).mono ?_);rintro e w' ⟨rfl,⟨nd,rfl⟩⟩;refine ⟨_,rfl,?_⟩))
       go_ret
       exact ⟨by first|rfl|(simp;done)|(simp [*];done),by repeat (first|exact aT.refl _|apply aT.step)⟩
      ·
       rw [if_neg c8] at H
       have pM:decide (t103 < 0)=false:=decide_eq_false c8
       clear c8
       have H':=ae.mk H
       clear H
       have p6:0≤(jc:Int):=of_decide_eq_true (by first|(with_reducible assumption)|assumption)
       have q6:jc < (a1.size:Int):=of_decide_eq_true (by first|(with_reducible assumption)|assumption)
       have hx6:=kR a1 jc
       replace p6:=eq_true p6
       replace q6:=eq_true q6
       go_wp2_with (first|((with_reducible refine bz (f:=51) rfl ?_);refine dS (some 16) rfl rfl Tryd.func51 (by kernel_rfl) rfl #[.int .u8 (bt a1 jc),.int .i64 (l0.length:Int)] rfl (by (try simp only [List.map_toArray,List.map_cons,List.map_nil]);first|done|rfl|(simp only [List.length_drop,List.length_take];rfl)) ?_;(with_reducible refine (jD.calls (bt a1 jc) (l0.length:Int) t103 _ A7.out).mono ?_);rintro e w' ⟨rfl,⟨nd,rfl⟩⟩;refine ⟨_,rfl,?_⟩))
       go_roundg k1
       case measure=>have:=qO.out;omega
       case rel=>exact ⟨(wrap64 (jc+1)),(by first|rfl|(simp;done)|(simp [*];done)),H',⟨by have:=qO.out;omega⟩,by repeat (first|exact aT.refl _|apply aT.step)⟩
     ·
      rw [if_neg c5] at H
      exact absurd H (by simp)
    ·
     rw [if_neg c4] at H
     exact absurd H (by simp)
   ·
    rw [if_neg c3] at H
    have ou:decide (jc < (a1.size:Int))=false:=decide_eq_false c3
    clear c3
    replace H:=Option.bind_eq_some_iff.mp H
    obtain ⟨t104,OT,H⟩:=H
    replace H:(some t104)=some r:=H
    have A9:=ae.mk OT
    clear OT
    obtain rfl:=Option.some.inj H
    go_wp2_with (first|((with_reducible refine bz (f:=52) rfl ?_);refine dS (some 20) rfl rfl Tryd.func52 (by kernel_rfl) rfl #[.slice A0 l0.length c0] rfl (by (try simp only [List.map_toArray,List.map_cons,List.map_nil]);first|done|rfl|(simp only [List.length_drop,List.length_take];rfl)) ?_;(with_reducible refine (bM.calls k1 _ _ l0 t104 _ ?bZ ?dh A9.out).mono ?_);(case bZ=>repeat (first|exact HR0.out|(with_reducible refine Kd.bP ?_ _)|(with_reducible refine Kd.bQ ?_ _)|(with_reducible refine Kd.dD ?_)));(case dh=>exact sZ.out);rintro e w' ⟨rfl,⟨nd,rfl⟩⟩;refine ⟨_,rfl,?_⟩))
    go_ret
    exact ⟨by first|rfl|(simp;done)|(simp [*];done),by repeat (first|exact aT.refl _|apply aT.step)⟩
def iY.f (k:Nat) (l0:List ByteArray) (a1:ByteArray) (a2:Int):Option (Int):=if (wrap64 (a2)) ≥ (a1.size:Int) then (some (-1)) else (if 0≤(wrap64 (a2)) then (if (wrap64 (a2))≤(wrap64 ((wrap64 (a2))+1)) then (if (wrap64 ((wrap64 (a2))+1))≤(a1.size:Int) then ((fJ.f k l0 (a1.extract ((wrap64 (a2)):Int).toNat ((wrap64 ((wrap64 (a2))+1)):Int).toNat)).bind fun t105=>(if t105=true then (if 0≤a2 then (if a2 < (a1.size:Int) then (some (((bt a1 a2) - 48) % 256)) else (none)) else (none)) else (some (-1)))) else (none)) else (none)) else (none))
theorem iY.mono:∀ a0 a1 a2 k,dO (iY.f k a0 a1 a2) (iY.f (k+1) a0 a1 a2):=by
 intro a0 a1 a2 k
 unfold iY.f
 repeat' with_reducible first|apply fJ.mono|exact dO.refl _|exact dO.none _|refine dO.ite ?_ ?_|refine dO.bind ?_ (fun _=>?_)
set_option maxHeartbeats 8000000 in
set_option maxRecDepth 100000 in
theorem iY.calls (k:Nat) (A0:Option Addr) (c0:Nat) (l0:List ByteArray) (a1:ByteArray) (a2:Int) (r:Int) (w:World) (hr0:Kd.C Kd.string w A0 l0.length l0) (hc0:l0.length≤c0) (h:iY.f k l0 a1 a2=some r) :
  Calls Tryd.prog 61 #[.slice A0 l0.length c0,.string a1,.int .u8 a2] w fun e w'=>e=.returned (.int .i64 r)∧aT w w':=by
 have HR0:=ae.mk hr0
 have sZ:=ae.mk hc0
 clear hr0 hc0
 have H:(if (wrap64 (a2)) ≥ (a1.size:Int) then (some (-1)) else (if 0≤(wrap64 (a2)) then (if (wrap64 (a2))≤(wrap64 ((wrap64 (a2))+1)) then (if (wrap64 ((wrap64 (a2))+1))≤(a1.size:Int) then ((fJ.f k l0 (a1.extract ((wrap64 (a2)):Int).toNat ((wrap64 ((wrap64 (a2))+1)):Int).toNat)).bind fun t105=>(if t105=true then (if 0≤a2 then (if a2 < (a1.size:Int) then (some (((bt a1 a2) - 48) % 256)) else (none)) else (none)) else (some (-1)))) else (none)) else (none)) else (none)))=some r:=h
 clear h
 by_cases c4:(wrap64 (a2)) ≥ (a1.size:Int)
 ·
  rw [if_pos c4] at H
  have oq:decide ((a1.size:Int)≤(wrap64 (a2)))=true:=decide_eq_true c4
  clear c4
  obtain rfl:=Option.some.inj H
  go_enter Tryd.func61,Tryd.ntmps61
  go_wp2
  go_ret
  exact ⟨by first|rfl|(simp;done)|(simp [*];done),by repeat (first|exact aT.refl _|apply aT.step)⟩
 ·
  rw [if_neg c4] at H
  have oq:decide ((a1.size:Int)≤(wrap64 (a2)))=false:=decide_eq_false c4
  clear c4
  obtain ⟨ug,yA⟩:∃ j_:Int,(wrap64 (a2))=j_:=⟨_,rfl⟩
  replace H:(if 0≤(ug) then (if (ug)≤(wrap64 ((ug)+1)) then (if (wrap64 ((ug)+1))≤(a1.size:Int) then ((fJ.f k l0 (a1.extract ((ug):Int).toNat ((wrap64 ((ug)+1)):Int).toNat)).bind fun t105=>(if t105=true then (if 0≤a2 then (if a2 < (a1.size:Int) then (some (((bt a1 a2) - 48) % 256)) else (none)) else (none)) else (some (-1)))) else (none)) else (none)) else (none))=some r:=by first|(rw [yA] at H;exact H)|(simp only [yA] at H ⊢;exact H)
  (try rw [yA] at oq)
  have acI:(IntKind.i64.wrap (a2))=ug:=(bW _).trans yA
  by_cases c6:0≤(ug)
  ·
   rw [if_pos c6] at H
   have oH:=eq_true c6
   have yC:decide (0≤(ug))=true:=decide_eq_true c6
   clear c6
   by_cases c7:(ug)≤(wrap64 ((ug)+1))
   ·
    rw [if_pos c7] at H
    have oM:=eq_true c7
    have xR:decide ((ug)≤(wrap64 ((ug)+1)))=true:=decide_eq_true c7
    by_cases c8:(wrap64 ((ug)+1))≤(a1.size:Int)
    ·
     rw [if_pos c8] at H
     have pM:=eq_true c8
     have zh:decide ((wrap64 ((ug)+1))≤(a1.size:Int))=true:=decide_eq_true c8
     replace H:=Option.bind_eq_some_iff.mp H
     obtain ⟨t105,OT,H⟩:=H
     replace H:(if t105=true then (if 0≤a2 then (if a2 < (a1.size:Int) then (some (((bt a1 a2) - 48) % 256)) else (none)) else (none)) else (some (-1)))=some r:=H
     have A9:=ae.mk OT
     clear OT
     by_cases c10:t105=true
     ·
      subst c10
      have H1:(if 0≤a2 then (if a2 < (a1.size:Int) then (some (((bt a1 a2) - 48) % 256)) else (none)) else (none))=some r:=by rw [if_pos rfl] at H;exact H
      clear H
      have H:=H1
      clear H1
      by_cases c11:0≤a2
      ·
       rw [if_pos c11] at H
       have uU:decide (0≤a2)=true:=decide_eq_true c11
       clear c11
       by_cases c12:a2 < (a1.size:Int)
       ·
        rw [if_pos c12] at H
        have wY:decide (a2 < (a1.size:Int))=true:=decide_eq_true c12
        clear c12
        obtain rfl:=Option.some.inj H
        go_enter Tryd.func61,Tryd.ntmps61
        go_wp2_with (first|(go_at_call 32;(with_reducible refine (fJ.calls k _ _ l0 (a1.extract ((ug):Int).toNat ((wrap64 ((ug)+1)):Int).toNat) true _ ?bZ ?dh A9.out).mono ?_);(case bZ=>repeat (first|exact HR0.out|(with_reducible refine Kd.bP ?_ _)|(with_reducible refine Kd.bQ ?_ _)|(with_reducible refine Kd.dD ?_)));(case dh=>exact sZ.out);rintro e w' ⟨rfl,⟨nd,rfl⟩⟩;have p13:0≤(a2:Int):=of_decide_eq_true (by first|(with_reducible assumption)|assumption);have q13:a2 < (a1.size:Int):=of_decide_eq_true (by first|(with_reducible assumption)|assumption);have Uf:=kR a1 a2;replace p13:=eq_true p13;replace q13:=eq_true q13))
        go_ret
        exact ⟨by first|rfl|(simp;done)|(simp only [← yA] <;> (first|rfl|simp))|(simp [*];done),by repeat (first|exact aT.refl _|apply aT.step)⟩
       ·
        rw [if_neg c12] at H
        exact absurd H (by simp)
      ·
       rw [if_neg c11] at H
       exact absurd H (by simp)
     ·
      replace c10:=Bool.eq_false_iff.mpr c10
      subst c10
      have H1:(some (-1))=some r:=by rw [if_neg (show ¬ (false=true) by decide)] at H;exact H
      clear H
      have H:=H1
      clear H1
      obtain rfl:=Option.some.inj H
      go_enter Tryd.func61,Tryd.ntmps61
      go_wp2_with (first|(go_at_call 32;(with_reducible refine (fJ.calls k _ _ l0 (a1.extract ((ug):Int).toNat ((wrap64 ((ug)+1)):Int).toNat) false _ ?bZ ?dh A9.out).mono ?_);(case bZ=>repeat (first|exact HR0.out|(with_reducible refine Kd.bP ?_ _)|(with_reducible refine Kd.bQ ?_ _)|(with_reducible refine Kd.dD ?_)));(case dh=>exact sZ.out);rintro e w' ⟨rfl,⟨nd,rfl⟩⟩))
      go_ret
      exact ⟨by first|rfl|(simp;done)|(simp only [← yA] <;> (first|rfl|simp))|(simp [*];done),by repeat (first|exact aT.refl _|apply aT.step)⟩
    ·
     rw [if_neg c8] at H
     exact absurd H (by simp)
   ·
    rw [if_neg c7] at H
    exact absurd H (by simp)
  ·
   rw [if_neg c6] at H
   exact absurd H (by simp)
def gB.f (k:Nat) (aZ:List ByteArray) (aU:ByteArray) (aV:ByteArray) (aI:List (iw)) (a1:Int):Option (Int):=(iY.f k aZ aU a1).bind fun t107=>(some t107)
theorem gB.mono:∀ a0 a1 a2 a3 a4 k,dO (gB.f k a0 a1 a2 a3 a4) (gB.f (k+1) a0 a1 a2 a3 a4):=by
 intro a0 a1 a2 a3 a4 k
 unfold gB.f
 repeat' with_reducible first|apply iY.mono|exact dO.refl _|exact dO.none _|refine dO.ite ?_ ?_|refine dO.bind ?_ (fun _=>?_)
set_option maxHeartbeats 8000000 in
set_option maxRecDepth 100000 in
theorem gB.calls (k:Nat) (ed:Option Addr) (dZ:Nat) (aZ:List ByteArray) (aU:ByteArray) (aV:ByteArray) (gm:Option Addr) (eU:Nat) (aI:List (iw)) (a1:Int) (r:Int) (w:World) (jO:Kd.C Kd.string w ed aZ.length aZ) (jQ:aZ.length≤dZ) (jM:Kd.C uq w gm aI.length aI) (jP:aI.length≤eU) (h:gB.f k aZ aU aV aI a1=some r) :
  Calls Tryd.prog 36 #[.agg #[.slice ed aZ.length dZ,.string aU,.string aV,.slice gm aI.length eU],.int .u8 a1] w fun e w'=>e=.returned (.int .i64 r)∧Below w.heap.size w w':=by
 have yx:=Tryd.underlying25
 have iH:=ae.mk jO
 have iK:=ae.mk jQ
 clear jO jQ
 have jJ:=ae.mk jM
 have kC:=ae.mk jP
 clear jM jP
 have HB:=ae.mk (Below.refl w.heap.size w)
 have H:((iY.f k aZ aU a1).bind fun t107=>(some t107))=some r:=h
 clear h
 replace H:=Option.bind_eq_some_iff.mp H
 obtain ⟨t107,yc,H⟩:=H
 replace H:(some t107)=some r:=H
 have A3:=ae.mk yc
 clear yc
 obtain rfl:=Option.some.inj H
 go_enter Tryd.func36,Tryd.ntmps36
 go_wp2_with (first|((with_reducible refine bI (N:=2) rfl ?_);refine fF ?hg (N:=2) ?hd (cs:=#[.slice ed aZ.length dZ,.string aU,.string aV,.slice gm aI.length eU]) (t:=25) ?hr ?_;(case hd=>rfl);(case hg=>rfl);(case hr=>first|(go_simp;done)|(go_simp;rfl));intro Gw hg w4 hbox hb;have dV:=ae.mk (bn (by repeat (first|(with_reducible first|exact HB.out|apply ah|apply ag|apply ai)|exact HB.out)) hb);have dU:=ae.mk (hbox);have dR:=ae.mk ((by rw [hg];exact (bU (by repeat (first|(with_reducible first|exact HB.out|apply ah|apply ag|apply ai)|exact HB.out))):w.heap.size≤Gw));have gZ:=dR;clear HB;have HB:=dV;have yZ:=dU;have apZ:=dR;have afm:=gZ;clear dV dU dR gZ;clear hb hbox hg;have Be:w4.cell? ⟨Gw,0,none⟩=some (.slice ed aZ.length dZ):=(ax yZ.out 0).trans rfl;have Bd:w4.cell? ⟨Gw,1,none⟩=some (.string aU):=(ax yZ.out 1).trans rfl;have Bc:w4.cell? ⟨Gw,2,none⟩=some (.string aV):=(ax yZ.out 2).trans rfl;have Ba:w4.cell? ⟨Gw,3,none⟩=some (.slice gm aI.length eU):=(ax yZ.out 3).trans rfl;have AZ:=aC yZ.out 0;have AY:=aC yZ.out 1;have AX:=aC yZ.out 2;have AQ:=aC yZ.out 3)|((with_reducible refine bz (f:=61) rfl ?_);refine dS (some 10) rfl rfl Tryd.func61 (by kernel_rfl) rfl #[.slice ed aZ.length dZ,.string aU,.int .u8 a1] rfl (by (try simp only [List.map_toArray,List.map_cons,List.map_nil]);first|done|rfl|(simp only [List.length_drop,List.length_take];rfl)) ?_;(with_reducible refine (iY.calls k _ _ aZ aU a1 t107 _ ?bZ ?dh A3.out).mono ?_);(case bZ=>repeat (first|exact (Kd.bJ iH.out HB.out)|(with_reducible refine Kd.bP ?_ _)|(with_reducible refine Kd.bQ ?_ _)|(with_reducible refine Kd.dD ?_)));(case dh=>exact iK.out);rintro e w' ⟨rfl,⟨nd,rfl⟩⟩;refine ⟨_,rfl,?_⟩))
 go_ret
 exact ⟨by first|rfl|(simp [aQ,aN] <;> rfl)|(simp [*,aQ,aN] <;> rfl),by repeat (first|(with_reducible first|exact HB.out|apply ah|apply ag|apply ai|refine aj ?_ afm.out)|exact HB.out)⟩
def dG.l0:Nat→List Int→Int→Int→Option (Bool)
 | 0,_,_,_=>none
 | k+1,x5,x6,x7=>if x7 < x6 then (if 0≤x7 then (if x7 < (x5.length:Int) then (if (rd x5 x7) ≥ 8 then (some false) else (dG.l0 k x5 x6 (wrap64 (x7+1)))) else (none)) else (none)) else (some true)
def dG.f (k:Nat) (l0:List Int):Option (Bool):=dG.l0 k l0 (l0.length:Int) 0
theorem dG.iD:∀ k,(∀ y0 y1 y2,dO (dG.l0 k y0 y1 y2) (dG.l0 (k+1) y0 y1 y2))
 | 0=>fun _ _ _ r h=>by simp [dG.l0] at h
 | k+1=>by
  have lS:=dG.iD k
  ·
   intro y0 y1 y2
   unfold dG.l0
   repeat' with_reducible first|apply lS|exact dO.refl _|exact dO.none _|refine dO.ite ?_ ?_|refine dO.bind ?_ (fun _=>?_)
theorem dG.mono:∀ a0 k,dO (dG.f k a0) (dG.f (k+1) a0):=by
 intro a0 k
 have lS:=dG.iD k
 unfold dG.f
 repeat' with_reducible first|apply lS|exact dO.refl _|exact dO.none _|refine dO.ite ?_ ?_|refine dO.bind ?_ (fun _=>?_)
set_option maxHeartbeats 8000000 in
set_option maxRecDepth 100000 in
theorem dG.calls (k:Nat) (A0:Option Addr) (c0:Nat) (l0:List Int) (r:Bool) (w:World) (hr0:Kd.C (Kd.int .u8) w A0 l0.length l0) (hc0:l0.length≤c0) (h:dG.f k l0=some r) :
  Calls Tryd.prog 55 #[.slice A0 l0.length c0] w fun e w'=>e=.returned (.bool r)∧aT w w':=by
 have HR0:=ae.mk hr0
 have sZ:=ae.mk hc0
 clear hr0 hc0
 have H:(dG.l0 k l0 (l0.length:Int) 0)=some r:=h
 clear h
 have H':=ae.mk H
 clear H
 go_enter Tryd.func55,Tryd.ntmps55
 go_wp2
 go_loopg [7] k (fun kq v7 w'=>∃ (rZ:Int),v7=.int .i64 rZ∧ae (dG.l0 kq l0 (l0.length:Int) rZ=some r)∧ae (kq≤k)∧aT w w')
 case atStart=>exact ⟨(0),(by first|rfl|(simp;done)|(simp [*];done)),H',⟨Nat.le_refl _⟩,by repeat (first|exact aT.refl _|apply aT.step)⟩
 case round =>
  clear H'
  obtain ⟨rZ,rfl,HA,qO,⟨m1,rfl⟩⟩:=hrel
  cases gk with
  | zero=>exact absurd HA.out (by simp [dG.l0])
  | succ k1 =>
   have H:=HA.out
   clear HA
   simp only [dG.l0] at H
   by_cases c2:rZ < (l0.length:Int)
   ·
    rw [if_pos c2] at H
    have EW:decide (rZ < (l0.length:Int))=true:=decide_eq_true c2
    clear c2
    by_cases c3:0≤rZ
    ·
     rw [if_pos c3] at H
     have ou:decide (0≤rZ)=true:=decide_eq_true c3
     clear c3
     by_cases c4:rZ < (l0.length:Int)
     ·
      rw [if_pos c4] at H
      have oq:decide (rZ < (l0.length:Int))=true:=decide_eq_true c4
      clear c4
      by_cases c5:(rd l0 rZ) ≥ 8
      ·
       rw [if_pos c5] at H
       have rG:decide (8≤(rd l0 rZ))=true:=decide_eq_true c5
       clear c5
       obtain rfl:=Option.some.inj H
       have Iy:0≤(rZ:Int):=of_decide_eq_true (by first|(with_reducible assumption)|assumption)
       have Ih:rZ < (l0.length:Int):=of_decide_eq_true (by first|(with_reducible assumption)|assumption)
       obtain ⟨aeJ,e108,Ug⟩:=Kd.rH HR0.out rZ Iy Ih
       cases e108
       replace Iy:=eq_true Iy
       replace Ih:=eq_true Ih
       go_wp2
       go_ret
       exact ⟨by first|rfl|(simp;done)|(simp [*];done),by repeat (first|exact aT.refl _|apply aT.step)⟩
      ·
       rw [if_neg c5] at H
       have rG:decide (8≤(rd l0 rZ))=false:=decide_eq_false c5
       clear c5
       have H':=ae.mk H
       clear H
       have Iy:0≤(rZ:Int):=of_decide_eq_true (by first|(with_reducible assumption)|assumption)
       have Ih:rZ < (l0.length:Int):=of_decide_eq_true (by first|(with_reducible assumption)|assumption)
       obtain ⟨aeJ,e108,Ug⟩:=Kd.rH HR0.out rZ Iy Ih
       cases e108
       replace Iy:=eq_true Iy
       replace Ih:=eq_true Ih
       go_wp2
       go_roundg k1
       case measure=>have:=qO.out;omega
       case rel=>exact ⟨(wrap64 (rZ+1)),(by first|rfl|(simp;done)|(simp [*];done)),H',⟨by have:=qO.out;omega⟩,by repeat (first|exact aT.refl _|apply aT.step)⟩
     ·
      rw [if_neg c4] at H
      exact absurd H (by simp)
    ·
     rw [if_neg c3] at H
     exact absurd H (by simp)
   ·
    rw [if_neg c2] at H
    have EW:decide (rZ < (l0.length:Int))=false:=decide_eq_false c2
    clear c2
    obtain rfl:=Option.some.inj H
    go_wp2
    go_ret
    exact ⟨by first|rfl|(simp;done)|(simp [*];done),by repeat (first|exact aT.refl _|apply aT.step)⟩
def ig.f (a0:Int) (a1:Int):Option (Bool):=if a0 ≥ 0 then (some (a0 == a1)) else (some false)
set_option maxHeartbeats 8000000 in
set_option maxRecDepth 100000 in
theorem ig.calls (a0:Int) (a1:Int) (r:Bool) (w:World) (h:ig.f a0 a1=some r) :
  Calls Tryd.prog 56 #[.int .i64 a0,.int .i64 a1] w fun e w'=>e=.returned (.bool r)∧aT w w':=by
 have H:(if a0 ≥ 0 then (some (a0 == a1)) else (some false))=some r:=h
 clear h
 by_cases c3:a0 ≥ 0
 ·
  rw [if_pos c3] at H
  have ou:decide (0≤a0)=true:=decide_eq_true c3
  clear c3
  obtain rfl:=Option.some.inj H
  go_enter Tryd.func56,Tryd.ntmps56
  go_wp2
  go_ret
  exact ⟨by first|rfl|(simp;done)|(simp [*];done),by repeat (first|exact aT.refl _|apply aT.step)⟩
 ·
  rw [if_neg c3] at H
  have ou:decide (0≤a0)=false:=decide_eq_false c3
  clear c3
  obtain rfl:=Option.some.inj H
  go_enter Tryd.func56,Tryd.ntmps56
  go_wp2
  go_ret
  exact ⟨by first|rfl|(simp;done)|(simp [*];done),by repeat (first|exact aT.refl _|apply aT.step)⟩
def lH.f (k:Nat) (l0:List ByteArray) (a1:Int):Option (ByteArray):=(bM.f k l0).bind fun t109=>(if t109=true then (if a1 < 0 then (some (⟨#[]⟩:ByteArray)) else (if a1 ≥ (l0.length:Int) then (some (⟨#[]⟩:ByteArray)) else (if 0≤a1 then (if a1 < (l0.length:Int) then (some (dY ByteArray.empty l0 a1)) else (none)) else (none)))) else (some (⟨#[]⟩:ByteArray)))
theorem lH.mono:∀ a0 a1 k,dO (lH.f k a0 a1) (lH.f (k+1) a0 a1):=by
 intro a0 a1 k
 unfold lH.f
 repeat' with_reducible first|apply bM.mono|exact dO.refl _|exact dO.none _|refine dO.ite ?_ ?_|refine dO.bind ?_ (fun _=>?_)
set_option maxHeartbeats 8000000 in
set_option maxRecDepth 100000 in
theorem lH.calls (k:Nat) (A0:Option Addr) (c0:Nat) (l0:List ByteArray) (a1:Int) (r:ByteArray) (w:World) (hr0:Kd.C Kd.string w A0 l0.length l0) (hc0:l0.length≤c0) (h:lH.f k l0 a1=some r) :
  Calls Tryd.prog 60 #[.slice A0 l0.length c0,.int .i64 a1] w fun e w'=>e=.returned (.string r)∧aT w w':=by
 have HR0:=ae.mk hr0
 have sZ:=ae.mk hc0
 clear hr0 hc0
 have H:((bM.f k l0).bind fun t109=>(if t109=true then (if a1 < 0 then (some (⟨#[]⟩:ByteArray)) else (if a1 ≥ (l0.length:Int) then (some (⟨#[]⟩:ByteArray)) else (if 0≤a1 then (if a1 < (l0.length:Int) then (some (dY ByteArray.empty l0 a1)) else (none)) else (none)))) else (some (⟨#[]⟩:ByteArray))))=some r:=h
 clear h
 replace H:=Option.bind_eq_some_iff.mp H
 obtain ⟨t109,yc,H⟩:=H
 replace H:(if t109=true then (if a1 < 0 then (some (⟨#[]⟩:ByteArray)) else (if a1 ≥ (l0.length:Int) then (some (⟨#[]⟩:ByteArray)) else (if 0≤a1 then (if a1 < (l0.length:Int) then (some (dY ByteArray.empty l0 a1)) else (none)) else (none)))) else (some (⟨#[]⟩:ByteArray)))=some r:=H
 have A3:=ae.mk yc
 clear yc
 by_cases c4:t109=true
 ·
  subst c4
  have H1:(if a1 < 0 then (some (⟨#[]⟩:ByteArray)) else (if a1 ≥ (l0.length:Int) then (some (⟨#[]⟩:ByteArray)) else (if 0≤a1 then (if a1 < (l0.length:Int) then (some (dY ByteArray.empty l0 a1)) else (none)) else (none))))=some r:=by rw [if_pos rfl] at H;exact H
  clear H
  have H:=H1
  clear H1
  by_cases c5:a1 < 0
  ·
   rw [if_pos c5] at H
   have rG:decide (a1 < 0)=true:=decide_eq_true c5
   clear c5
   obtain rfl:=Option.some.inj H
   go_enter Tryd.func60,Tryd.ntmps60
   go_wp2_with (first|((with_reducible refine bz (f:=52) rfl ?_);refine dS (some 6) rfl rfl Tryd.func52 (by kernel_rfl) rfl #[.slice A0 l0.length c0] rfl (by (try simp only [List.map_toArray,List.map_cons,List.map_nil]);first|done|rfl|(simp only [List.length_drop,List.length_take];rfl)) ?_;(with_reducible refine (bM.calls k _ _ l0 true _ ?bZ ?dh A3.out).mono ?_);(case bZ=>repeat (first|exact HR0.out|(with_reducible refine Kd.bP ?_ _)|(with_reducible refine Kd.bQ ?_ _)|(with_reducible refine Kd.dD ?_)));(case dh=>exact sZ.out);rintro e w' ⟨rfl,⟨nd,rfl⟩⟩;refine ⟨_,rfl,?_⟩))
   go_ret
   exact ⟨by first|rfl|(simp;done)|(simp [*];done),by repeat (first|exact aT.refl _|apply aT.step)⟩
  ·
   rw [if_neg c5] at H
   have rG:decide (a1 < 0)=false:=decide_eq_false c5
   clear c5
   by_cases c6:a1 ≥ (l0.length:Int)
   ·
    rw [if_pos c6] at H
    have oH:decide ((l0.length:Int)≤a1)=true:=decide_eq_true c6
    clear c6
    obtain rfl:=Option.some.inj H
    go_enter Tryd.func60,Tryd.ntmps60
    go_wp2_with (first|((with_reducible refine bz (f:=52) rfl ?_);refine dS (some 6) rfl rfl Tryd.func52 (by kernel_rfl) rfl #[.slice A0 l0.length c0] rfl (by (try simp only [List.map_toArray,List.map_cons,List.map_nil]);first|done|rfl|(simp only [List.length_drop,List.length_take];rfl)) ?_;(with_reducible refine (bM.calls k _ _ l0 true _ ?bZ ?dh A3.out).mono ?_);(case bZ=>repeat (first|exact HR0.out|(with_reducible refine Kd.bP ?_ _)|(with_reducible refine Kd.bQ ?_ _)|(with_reducible refine Kd.dD ?_)));(case dh=>exact sZ.out);rintro e w' ⟨rfl,⟨nd,rfl⟩⟩;refine ⟨_,rfl,?_⟩))
    go_ret
    exact ⟨by first|rfl|(simp;done)|(simp [*];done),by repeat (first|exact aT.refl _|apply aT.step)⟩
   ·
    rw [if_neg c6] at H
    have oH:decide ((l0.length:Int)≤a1)=false:=decide_eq_false c6
    clear c6
    by_cases c7:0≤a1
    ·
     rw [if_pos c7] at H
     have oM:decide (0≤a1)=true:=decide_eq_true c7
     clear c7
     by_cases c8:a1 < (l0.length:Int)
     ·
      rw [if_pos c8] at H
      have pM:decide (a1 < (l0.length:Int))=true:=decide_eq_true c8
      clear c8
      obtain rfl:=Option.some.inj H
      go_enter Tryd.func60,Tryd.ntmps60
      go_wp2_with (first|((with_reducible refine bz (f:=52) rfl ?_);refine dS (some 6) rfl rfl Tryd.func52 (by kernel_rfl) rfl #[.slice A0 l0.length c0] rfl (by (try simp only [List.map_toArray,List.map_cons,List.map_nil]);first|done|rfl|(simp only [List.length_drop,List.length_take];rfl)) ?_;(with_reducible refine (bM.calls k _ _ l0 true _ ?bZ ?dh A3.out).mono ?_);(case bZ=>repeat (first|exact HR0.out|(with_reducible refine Kd.bP ?_ _)|(with_reducible refine Kd.bQ ?_ _)|(with_reducible refine Kd.dD ?_)));(case dh=>exact sZ.out);rintro e w' ⟨rfl,⟨nd,rfl⟩⟩;refine ⟨_,rfl,?_⟩;have ZN:0≤(a1:Int):=of_decide_eq_true (by first|(with_reducible assumption)|assumption);have ZG:a1 < (l0.length:Int):=of_decide_eq_true (by first|(with_reducible assumption)|assumption);obtain ⟨apm,am0,af7⟩:=Kd.kN HR0.out a1 ZN ZG;cases am0;replace ZN:=eq_true ZN;replace ZG:=eq_true ZG))
      go_ret
      exact ⟨by first|rfl|(simp;done)|(simp [*];done),by repeat (first|exact aT.refl _|apply aT.step)⟩
     ·
      rw [if_neg c8] at H
      exact absurd H (by simp)
    ·
     rw [if_neg c7] at H
     exact absurd H (by simp)
 ·
  replace c4:=Bool.eq_false_iff.mpr c4
  subst c4
  have H1:(some (⟨#[]⟩:ByteArray))=some r:=by rw [if_neg (show ¬ (false=true) by decide)] at H;exact H
  clear H
  have H:=H1
  clear H1
  obtain rfl:=Option.some.inj H
  go_enter Tryd.func60,Tryd.ntmps60
  go_wp2_with (first|((with_reducible refine bz (f:=52) rfl ?_);refine dS (some 6) rfl rfl Tryd.func52 (by kernel_rfl) rfl #[.slice A0 l0.length c0] rfl (by (try simp only [List.map_toArray,List.map_cons,List.map_nil]);first|done|rfl|(simp only [List.length_drop,List.length_take];rfl)) ?_;(with_reducible refine (bM.calls k _ _ l0 false _ ?bZ ?dh A3.out).mono ?_);(case bZ=>repeat (first|exact HR0.out|(with_reducible refine Kd.bP ?_ _)|(with_reducible refine Kd.bQ ?_ _)|(with_reducible refine Kd.dD ?_)));(case dh=>exact sZ.out);rintro e w' ⟨rfl,⟨nd,rfl⟩⟩;refine ⟨_,rfl,?_⟩))
  go_ret
  exact ⟨by first|rfl|(simp;done)|(simp [*];done),by repeat (first|exact aT.refl _|apply aT.step)⟩
def jG.f (k:Nat) (l0:List ByteArray) (a1:Int):Option (Int):=(lH.f k l0 a1).bind fun t111=>(some (t111.size:Int))
theorem jG.mono:∀ a0 a1 k,dO (jG.f k a0 a1) (jG.f (k+1) a0 a1):=by
 intro a0 a1 k
 unfold jG.f
 repeat' with_reducible first|apply lH.mono|exact dO.refl _|exact dO.none _|refine dO.ite ?_ ?_|refine dO.bind ?_ (fun _=>?_)
set_option maxHeartbeats 8000000 in
set_option maxRecDepth 100000 in
theorem jG.calls (k:Nat) (A0:Option Addr) (c0:Nat) (l0:List ByteArray) (a1:Int) (r:Int) (w:World) (hr0:Kd.C Kd.string w A0 l0.length l0) (hc0:l0.length≤c0) (h:jG.f k l0 a1=some r) :
  Calls Tryd.prog 35 #[.slice A0 l0.length c0,.int .i64 a1] w fun e w'=>e=.returned (.int .i64 r)∧aT w w':=by
 have HR0:=ae.mk hr0
 have sZ:=ae.mk hc0
 clear hr0 hc0
 have H:((lH.f k l0 a1).bind fun t111=>(some (t111.size:Int)))=some r:=h
 clear h
 replace H:=Option.bind_eq_some_iff.mp H
 obtain ⟨t111,yc,H⟩:=H
 replace H:(some (t111.size:Int))=some r:=H
 have A3:=ae.mk yc
 clear yc
 obtain rfl:=Option.some.inj H
 go_enter Tryd.func35,Tryd.ntmps35
 go_wp2_with (first|((with_reducible refine bz (f:=60) rfl ?_);refine dS (some 7) rfl rfl Tryd.func60 (by kernel_rfl) rfl #[.slice A0 l0.length c0,.int .i64 a1] rfl (by (try simp only [List.map_toArray,List.map_cons,List.map_nil]);first|done|rfl|(simp only [List.length_drop,List.length_take];rfl)) ?_;(with_reducible refine (lH.calls k _ _ l0 a1 t111 _ ?bZ ?dh A3.out).mono ?_);(case bZ=>repeat (first|exact HR0.out|(with_reducible refine Kd.bP ?_ _)|(with_reducible refine Kd.bQ ?_ _)|(with_reducible refine Kd.dD ?_)));(case dh=>exact sZ.out);rintro e w' ⟨rfl,⟨nd,rfl⟩⟩;refine ⟨_,rfl,?_⟩))
 go_ret
 exact ⟨by first|rfl|(simp;done)|(simp [*];done),by repeat (first|exact aT.refl _|apply aT.step)⟩
end Go.Proofs.YtlemecdddhdagaaDoor.P
end
