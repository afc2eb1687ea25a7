/- Parts of the proof of FullTrue: what the functions that it reaches compute, and plain facts about that. -/
import Derived.Test.YtbmhmlgfpijmhaaDoorFab
set_option linter.unusedVariables false
set_option linter.unusedSimpArgs false
section
namespace Go.Proofs.YtbmhmlgfpijmhaaDoor.P
open Go.RowKit Go.Proofs.af.bG Go.Proofs.af.dD Go.Proofs.af.dM
attribute [local go_sem] kF kD lK lJ jH jG kE kC
def kV.f (a0:Int) (a1:Int):Option (Int):=if (wrap64 ((wrap64 (a0)) - 48)) ≥ 0 then (if (wrap64 ((wrap64 (a0)) - 48)) < a1 then (some (wrap64 ((wrap64 (a0)) - 48))) else (some (-1))) else (some (-1))
set_option maxHeartbeats 8000000 in
set_option maxRecDepth 100000 in
theorem kV.calls (a0:Int) (a1:Int) (r:Int) (w:World) (h:kV.f a0 a1=some r) :
  Calls Tryd.prog 51 #[.int .u8 a0,.int .i64 a1] w fun e w'=>e=.returned (.int .i64 r)∧aV w w':=by
 have H:(if (wrap64 ((wrap64 (a0)) - 48)) ≥ 0 then (if (wrap64 ((wrap64 (a0)) - 48)) < a1 then (some (wrap64 ((wrap64 (a0)) - 48))) else (some (-1))) else (some (-1)))=some r:=h
 clear h
 by_cases c3:(wrap64 ((wrap64 (a0)) - 48)) ≥ 0
 ·
  rw [if_pos c3] at H
  have oQ:decide (0≤(wrap64 ((wrap64 (a0)) - 48)))=true:=decide_eq_true c3
  clear c3
  by_cases c4:(wrap64 ((wrap64 (a0)) - 48)) < a1
  ·
   rw [if_pos c4] at H
   have oG:decide ((wrap64 ((wrap64 (a0)) - 48)) < a1)=true:=decide_eq_true c4
   clear c4
   obtain rfl:=Option.some.inj H
   go_enter Tryd.func51,Tryd.ntmps51
   go_wp2
   go_ret
   exact ⟨by first|rfl|(simp;done)|(simp [*];done),by repeat (first|exact aV.refl _|apply aV.step)⟩
  ·
   rw [if_neg c4] at H
   have oG:decide ((wrap64 ((wrap64 (a0)) - 48)) < a1)=false:=decide_eq_false c4
   clear c4
   obtain rfl:=Option.some.inj H
   go_enter Tryd.func51,Tryd.ntmps51
   go_wp2
   go_ret
   exact ⟨by first|rfl|(simp;done)|(simp [*];done),by repeat (first|exact aV.refl _|apply aV.step)⟩
 ·
  rw [if_neg c3] at H
  have oQ:decide (0≤(wrap64 ((wrap64 (a0)) - 48)))=false:=decide_eq_false c3
  clear c3
  obtain rfl:=Option.some.inj H
  go_enter Tryd.func51,Tryd.ntmps51
  go_wp2
  go_ret
  exact ⟨by first|rfl|(simp;done)|(simp [*];done),by repeat (first|exact aV.refl _|apply aV.step)⟩
mutual
def bJ.l0:Nat→List ByteArray→List ByteArray→Int→Int→Option (Bool)
 | 0,_,_,_,_=>none
 | k+1,x0,x6,x7,x8=>if x8 < x7 then (if 0≤x8 then (if x8 < (x6.length:Int) then (if (dV ByteArray.empty x6 x8).toList=([]:List UInt8) then (bJ.j1 k x0 (dV ByteArray.empty x6 x8) x6 x7 x8 true) else (bJ.j1 k x0 (dV ByteArray.empty x6 x8) x6 x7 x8 (decide (((dV ByteArray.empty x6 x8).size:Int) > 6)))) else (none)) else (none)) else (if (x0.length:Int) ≥ 1 then (some (decide ((x0.length:Int)≤8))) else (some false))
def bJ.j1:Nat→List ByteArray→ByteArray→List ByteArray→Int→Int→Bool→Option (Bool)
 | 0,_,_,_,_,_,_=>none
 | k+1,x0,x4,x6,x7,x8,x18=>if x18=true then (some false) else (bJ.l1 k x0 x4 x6 x7 x8 (x4.size:Int) 0)
def bJ.l1:Nat→List ByteArray→ByteArray→List ByteArray→Int→Int→Int→Int→Option (Bool)
 | 0,_,_,_,_,_,_,_=>none
 | k+1,x0,x4,x6,x7,x8,x20,VP=>if VP < x20 then (if 0≤VP then (if VP < (x4.size:Int) then (if (bt x4 VP)=105 then (bJ.l1 k x0 x4 x6 x7 x8 x20 (wrap64 (VP+1))) else ((kV.f (bt x4 VP) (x0.length:Int)).bind fun t102=>(if t102 < 0 then (some false) else (bJ.l1 k x0 x4 x6 x7 x8 x20 (wrap64 (VP+1)))))) else (none)) else (none)) else (bJ.l0 k x0 x6 x7 (wrap64 (x8+1)))
end
def bJ.f (k:Nat) (l0:List ByteArray):Option (Bool):=bJ.l0 k l0 l0 (l0.length:Int) 0
theorem bJ.iq:∀ k,(∀ y0 y1 y2 y3,dN (bJ.l0 k y0 y1 y2 y3) (bJ.l0 (k+1) y0 y1 y2 y3))∧(∀ y0 y1 y2 y3 y4 y5,dN (bJ.j1 k y0 y1 y2 y3 y4 y5) (bJ.j1 (k+1) y0 y1 y2 y3 y4 y5))∧(∀ y0 y1 y2 y3 y4 y5 y6,dN (bJ.l1 k y0 y1 y2 y3 y4 y5 y6) (bJ.l1 (k+1) y0 y1 y2 y3 y4 y5 y6))
 | 0=>⟨fun _ _ _ _ r h=>by simp [bJ.l0] at h,fun _ _ _ _ _ _ r h=>by simp [bJ.j1] at h,fun _ _ _ _ _ _ _ r h=>by simp [bJ.l1] at h⟩
 | k+1=>by
  obtain ⟨kZ,ih1,ih2⟩:=bJ.iq k
  refine ⟨?_,?_,?_⟩
  ·
   intro y0 y1 y2 y3
   unfold bJ.l0
   repeat' with_reducible first|apply kZ|apply ih1|apply ih2|exact dN.refl _|exact dN.none _|refine dN.ite ?_ ?_|refine dN.bind ?_ (fun _=>?_)
  ·
   intro y0 y1 y2 y3 y4 y5
   unfold bJ.j1
   repeat' with_reducible first|apply kZ|apply ih1|apply ih2|exact dN.refl _|exact dN.none _|refine dN.ite ?_ ?_|refine dN.bind ?_ (fun _=>?_)
  ·
   intro y0 y1 y2 y3 y4 y5 y6
   unfold bJ.l1
   repeat' with_reducible first|apply kZ|apply ih1|apply ih2|exact dN.refl _|exact dN.none _|refine dN.ite ?_ ?_|refine dN.bind ?_ (fun _=>?_)
theorem bJ.mono:∀ a0 k,dN (bJ.f k a0) (bJ.f (k+1) a0):=by
 intro a0 k
 obtain ⟨kZ,ih1,ih2⟩:=bJ.iq k
 unfold bJ.f
 repeat' with_reducible first|apply kZ|apply ih1|apply ih2|exact dN.refl _|exact dN.none _|refine dN.ite ?_ ?_|refine dN.bind ?_ (fun _=>?_)
set_option maxHeartbeats 8000000 in
set_option maxRecDepth 100000 in
theorem bJ.calls (k:Nat) (A0:Option Addr) (c0:Nat) (l0:List ByteArray) (r:Bool) (w:World) (hr0:Kd.C Kd.string w A0 l0.length l0) (hc0:l0.length≤c0) (h:bJ.f k l0=some r) :
  Calls Tryd.prog 43 #[.slice A0 l0.length c0] w fun e w'=>e=.returned (.bool r)∧aV w w':=by
 have HR0:=ae.mk hr0
 have vS:=ae.mk hc0
 clear hr0 hc0
 have H:(bJ.l0 k l0 l0 (l0.length:Int) 0)=some r:=h
 clear h
 have H':=ae.mk H
 clear H
 go_enter Tryd.func43,Tryd.ntmps43
 go_wp2
 go_loopg [8] k (fun kq v8 w'=>∃ (iU:Int),v8=.int .i64 iU∧ae (bJ.l0 kq l0 l0 (l0.length:Int) iU=some r)∧ae (kq≤k)∧aV w w')
 case atStart=>exact ⟨(0),(by first|rfl|(simp;done)|(simp [*];done)),H',⟨Nat.le_refl _⟩,by repeat (first|exact aV.refl _|apply aV.step)⟩
 case round =>
  clear H'
  obtain ⟨iU,rfl,HA,rD,⟨m1,rfl⟩⟩:=hrel
  cases gk with
  | zero=>exact absurd HA.out (by simp [bJ.l0])
  | succ k1 =>
   have H:=HA.out
   clear HA
   simp only [bJ.l0] at H
   by_cases c2:iU < (l0.length:Int)
   ·
    rw [if_pos c2] at H
    have FC:decide (iU < (l0.length:Int))=true:=decide_eq_true c2
    clear c2
    by_cases c3:0≤iU
    ·
     rw [if_pos c3] at H
     have oQ:decide (0≤iU)=true:=decide_eq_true c3
     clear c3
     by_cases c4:iU < (l0.length:Int)
     ·
      rw [if_pos c4] at H
      have oG:decide (iU < (l0.length:Int))=true:=decide_eq_true c4
      clear c4
      have O8:=ae.mk H
      clear H
      have WH:0≤(iU:Int):=of_decide_eq_true (by first|(with_reducible assumption)|assumption)
      have Wp:iU < (l0.length:Int):=of_decide_eq_true (by first|(with_reducible assumption)|assumption)
      obtain ⟨ai6,ahj,abu⟩:=Kd.kU HR0.out iU WH Wp
      cases ahj
      replace WH:=eq_true WH
      replace Wp:=eq_true Wp
      go_upto_region 4 with (fail)
      go_cut [18] (fun v18 wc=>∃ (kq:Nat) (H5:Bool),v18=.bool H5∧ae (bJ.j1 kq l0 (dV ByteArray.empty l0 iU) l0 (l0.length:Int) iU H5=some r)∧ae (kq≤k1)∧aV w wc)
      case first =>
       have H:=O8.out
       clear O8
       by_cases c6:(dV ByteArray.empty l0 iU).toList=([]:List UInt8)
       ·
        rw [if_pos c6] at H
        have oP:((dV ByteArray.empty l0 iU).toList == ([]:List UInt8))=true:=beq_iff_eq.mpr c6
        have xw:((dV ByteArray.empty l0 iU).toList != ([]:List UInt8))=false:=bne_eq_false_iff_eq.mpr c6
        clear c6
        (first|rw [oP]|(simp only [bY,bZ];rw [oP])|skip)
        have H':=ae.mk H
        clear H
        go_wp2
        go_meet
        case rel=>exact ⟨_,(true),(by first|rfl|(simp;done)|(simp [*];done)),H',⟨by have:=rD.out;first|omega|exact Nat.le_refl _⟩,by repeat (first|exact aV.refl _|apply aV.step)⟩
       ·
        rw [if_neg c6] at H
        have oP:((dV ByteArray.empty l0 iU).toList == ([]:List UInt8))=false:=beq_eq_false_iff_ne.mpr c6
        have xw:((dV ByteArray.empty l0 iU).toList != ([]:List UInt8))=true:=bne_iff_ne.mpr c6
        (first|rw [oP]|(simp only [bY,bZ];rw [oP])|skip)
        have H':=ae.mk H
        clear H
        go_wp2
        go_meet
        case rel=>exact ⟨_,(decide (((dV ByteArray.empty l0 iU).size:Int) > 6)),(by first|rfl|(simp;done)|(simp [*];done)),H',⟨by have:=rD.out;first|omega|exact Nat.le_refl _⟩,by repeat (first|exact aV.refl _|apply aV.step)⟩
      case rest =>
       clear O8
       obtain ⟨kq,H5,rfl,HA,MC,⟨mc4,rfl⟩⟩:=hcut
       cases kq with
       | zero=>exact absurd HA.out (by simp [bJ.j1])
       | succ yB =>
        have H:=HA.out
        clear HA
        simp only [bJ.j1] at H
        by_cases c7:H5=true
        ·
         subst c7
         have H1:(some false)=some r:=by rw [if_pos rfl] at H;exact H
         clear H
         have H:=H1
         clear H1
         obtain rfl:=Option.some.inj H
         go_wp2
         go_ret
         exact ⟨by first|rfl|(simp;done)|(simp [*];done),by repeat (first|exact aV.refl _|apply aV.step)⟩
        ·
         replace c7:=Bool.eq_false_iff.mpr c7
         subst c7
         have H1:(bJ.l1 yB l0 (dV ByteArray.empty l0 iU) l0 (l0.length:Int) iU ((dV ByteArray.empty l0 iU).size:Int) 0)=some r:=by rw [if_neg (show ¬ (false=true) by decide)] at H;exact H
         clear H
         have H:=H1
         clear H1
         have H':=ae.mk H
         clear H
         go_wp2
         go_loopg [21] yB (fun kq v21 w'=>∃ (jT:Int),v21=.int .i64 jT∧ae (bJ.l1 kq l0 (dV ByteArray.empty l0 iU) l0 (l0.length:Int) iU ((dV ByteArray.empty l0 iU).size:Int) jT=some r)∧ae (kq≤yB)∧aV w w')
         case atStart=>exact ⟨(0),(by first|rfl|(simp;done)|(simp [*];done)),H',⟨Nat.le_refl _⟩,by repeat (first|exact aV.refl _|apply aV.step)⟩
         case round =>
          clear H'
          obtain ⟨jT,rfl,HA,yl,⟨m3,rfl⟩⟩:=hrel
          cases gk with
          | zero=>exact absurd HA.out (by simp [bJ.l1])
          | succ k3 =>
           have H:=HA.out
           clear HA
           simp only [bJ.l1] at H
           by_cases c8:jT < ((dV ByteArray.empty l0 iU).size:Int)
           ·
            rw [if_pos c8] at H
            have qU:decide (jT < ((dV ByteArray.empty l0 iU).size:Int))=true:=decide_eq_true c8
            clear c8
            by_cases c9:0≤jT
            ·
             rw [if_pos c9] at H
             have Fv:decide (0≤jT)=true:=decide_eq_true c9
             clear c9
             by_cases c10:jT < ((dV ByteArray.empty l0 iU).size:Int)
             ·
              rw [if_pos c10] at H
              have oU:decide (jT < ((dV ByteArray.empty l0 iU).size:Int))=true:=decide_eq_true c10
              clear c10
              by_cases c12:(bt (dV ByteArray.empty l0 iU) jT)=105
              ·
               rw [if_pos c12] at H
               have um:((bt (dV ByteArray.empty l0 iU) jT) == 105)=true:=beq_iff_eq.mpr c12
               have OH:((bt (dV ByteArray.empty l0 iU) jT) != 105)=false:=bne_eq_false_iff_eq.mpr c12
               clear c12
               have H':=ae.mk H
               clear H
               have p11:0≤(jT:Int):=of_decide_eq_true (by first|(with_reducible assumption)|assumption)
               have q11:jT < ((dV ByteArray.empty l0 iU).size:Int):=of_decide_eq_true (by first|(with_reducible assumption)|assumption)
               have YY:=kP (dV ByteArray.empty l0 iU) jT
               replace p11:=eq_true p11
               replace q11:=eq_true q11
               go_wp2
               go_roundg k3
               case measure=>have:=rD.out;have:=MC.out;have:=yl.out;omega
               case rel=>exact ⟨(wrap64 (jT+1)),(by first|rfl|(simp;done)|(simp [*];done)),H',⟨by have:=rD.out;have:=MC.out;have:=yl.out;omega⟩,by repeat (first|exact aV.refl _|apply aV.step)⟩
              ·
               rw [if_neg c12] at H
               have um:((bt (dV ByteArray.empty l0 iU) jT) == 105)=false:=beq_eq_false_iff_ne.mpr c12
               have OH:((bt (dV ByteArray.empty l0 iU) jT) != 105)=true:=bne_iff_ne.mpr c12
               replace H:=Option.bind_eq_some_iff.mp H
               obtain ⟨t102,Pv,H⟩:=H
               replace H:(if t102 < 0 then (some false) else (bJ.l1 k3 l0 (dV ByteArray.empty l0 iU) l0 (l0.length:Int) iU ((dV ByteArray.empty l0 iU).size:Int) (wrap64 (jT+1))))=some r:=H
               have Yu:=ae.mk Pv
               clear Pv
               by_cases c15:t102 < 0
               ·
                rw [if_pos c15] at H
                have qF:decide (t102 < 0)=true:=decide_eq_true c15
                clear c15
                obtain rfl:=Option.some.inj H
                have p11:0≤(jT:Int):=of_decide_eq_true (by first|(with_reducible assumption)|assumption)
                have q11:jT < ((dV ByteArray.empty l0 iU).size:Int):=of_decide_eq_true (by first|(with_reducible assumption)|assumption)
                have YY:=kP (dV ByteArray.empty l0 iU) jT
                replace p11:=eq_true p11
                replace q11:=eq_true q11
                have p13:0≤(jT:Int):=of_decide_eq_true (by first|(with_reducible assumption)|assumption)
                have q13:jT < ((dV ByteArray.empty l0 iU).size:Int):=of_decide_eq_true (by first|(with_reducible assumption)|assumption)
                have Qi:=kP (dV ByteArray.empty l0 iU) jT
                replace p13:=eq_true p13
                replace q13:=eq_true q13
                go_wp2_with (first|(go_at_call 51;(with_reducible refine (kV.calls (bt (dV ByteArray.empty l0 iU) jT) (l0.length:Int) t102 _ Yu.out).mono ?_);rintro e w' ⟨rfl,⟨nd,rfl⟩⟩))
                go_ret
                exact ⟨by first|rfl|(simp;done)|(simp [*];done),by repeat (first|exact aV.refl _|apply aV.step)⟩
               ·
                rw [if_neg c15] at H
                have qF:decide (t102 < 0)=false:=decide_eq_false c15
                clear c15
                have H':=ae.mk H
                clear H
                have p11:0≤(jT:Int):=of_decide_eq_true (by first|(with_reducible assumption)|assumption)
                have q11:jT < ((dV ByteArray.empty l0 iU).size:Int):=of_decide_eq_true (by first|(with_reducible assumption)|assumption)
                have YY:=kP (dV ByteArray.empty l0 iU) jT
                replace p11:=eq_true p11
                replace q11:=eq_true q11
                have p13:0≤(jT:Int):=of_decide_eq_true (by first|(with_reducible assumption)|assumption)
                have q13:jT < ((dV ByteArray.empty l0 iU).size:Int):=of_decide_eq_true (by first|(with_reducible assumption)|assumption)
                have Qi:=kP (dV ByteArray.empty l0 iU) jT
                replace p13:=eq_true p13
                replace q13:=eq_true q13
                go_wp2_with (first|(go_at_call 51;(with_reducible refine (kV.calls (bt (dV ByteArray.empty l0 iU) jT) (l0.length:Int) t102 _ Yu.out).mono ?_);rintro e w' ⟨rfl,⟨nd,rfl⟩⟩))
                go_roundg k3
                case measure=>have:=rD.out;have:=MC.out;have:=yl.out;omega
                case rel=>exact ⟨(wrap64 (jT+1)),(by first|rfl|(simp;done)|(simp [*];done)),H',⟨by have:=rD.out;have:=MC.out;have:=yl.out;omega⟩,by repeat (first|exact aV.refl _|apply aV.step)⟩
             ·
              rw [if_neg c10] at H
              exact absurd H (by simp)
            ·
             rw [if_neg c9] at H
             exact absurd H (by simp)
           ·
            rw [if_neg c8] at H
            have qU:decide (jT < ((dV ByteArray.empty l0 iU).size:Int))=false:=decide_eq_false c8
            clear c8
            have H':=ae.mk H
            clear H
            go_wp2
            go_roundg k3
            case measure=>have:=rD.out;have:=MC.out;have:=yl.out;omega
            case rel=>exact ⟨(wrap64 (iU+1)),(by first|rfl|(simp;done)|(simp [*];done)),H',⟨by have:=rD.out;have:=MC.out;have:=yl.out;omega⟩,by repeat (first|exact aV.refl _|apply aV.step)⟩
     ·
      rw [if_neg c4] at H
      exact absurd H (by simp)
    ·
     rw [if_neg c3] at H
     exact absurd H (by simp)
   ·
    rw [if_neg c2] at H
    have FC:decide (iU < (l0.length:Int))=false:=decide_eq_false c2
    clear c2
    by_cases c16:(l0.length:Int) ≥ 1
    ·
     rw [if_pos c16] at H
     have xP:decide (1≤(l0.length:Int))=true:=decide_eq_true c16
     have KH:decide (1≤l0.length)=true:=decide_eq_true (by omega)
     clear c16
     obtain rfl:=Option.some.inj H
     go_wp2
     go_ret
     exact ⟨by first|rfl|(simp;done)|(simp [*];done),by repeat (first|exact aV.refl _|apply aV.step)⟩
    ·
     rw [if_neg c16] at H
     have xP:decide (1≤(l0.length:Int))=false:=decide_eq_false c16
     have KH:decide (1≤l0.length)=false:=decide_eq_false (by omega)
     clear c16
     obtain rfl:=Option.some.inj H
     go_wp2
     go_ret
     exact ⟨by first|rfl|(simp;done)|(simp [*];done),by repeat (first|exact aV.refl _|apply aV.step)⟩
def oL.f (k:Nat) (l0:List ByteArray) (a1:Int):Option (ByteArray):=(bJ.f k l0).bind fun t103=>(if t103=true then (if a1 < 0 then (some (⟨#[]⟩:ByteArray)) else (if a1 ≥ (l0.length:Int) then (some (⟨#[]⟩:ByteArray)) else (if 0≤a1 then (if a1 < (l0.length:Int) then (some (dV ByteArray.empty l0 a1)) else (none)) else (none)))) else (some (⟨#[]⟩:ByteArray)))
theorem oL.mono:∀ a0 a1 k,dN (oL.f k a0 a1) (oL.f (k+1) a0 a1):=by
 intro a0 a1 k
 unfold oL.f
 repeat' with_reducible first|apply bJ.mono|exact dN.refl _|exact dN.none _|refine dN.ite ?_ ?_|refine dN.bind ?_ (fun _=>?_)
set_option maxHeartbeats 8000000 in
set_option maxRecDepth 100000 in
theorem oL.calls (k:Nat) (A0:Option Addr) (c0:Nat) (l0:List ByteArray) (a1:Int) (r:ByteArray) (w:World) (hr0:Kd.C Kd.string w A0 l0.length l0) (hc0:l0.length≤c0) (h:oL.f k l0 a1=some r) :
  Calls Tryd.prog 31 #[.slice A0 l0.length c0,.int .i64 a1] w fun e w'=>e=.returned (.string r)∧aV w w':=by
 have HR0:=ae.mk hr0
 have vS:=ae.mk hc0
 clear hr0 hc0
 have H:((bJ.f k l0).bind fun t103=>(if t103=true then (if a1 < 0 then (some (⟨#[]⟩:ByteArray)) else (if a1 ≥ (l0.length:Int) then (some (⟨#[]⟩:ByteArray)) else (if 0≤a1 then (if a1 < (l0.length:Int) then (some (dV ByteArray.empty l0 a1)) else (none)) else (none)))) else (some (⟨#[]⟩:ByteArray))))=some r:=h
 clear h
 replace H:=Option.bind_eq_some_iff.mp H
 obtain ⟨t103,wW,H⟩:=H
 replace H:(if t103=true then (if a1 < 0 then (some (⟨#[]⟩:ByteArray)) else (if a1 ≥ (l0.length:Int) then (some (⟨#[]⟩:ByteArray)) else (if 0≤a1 then (if a1 < (l0.length:Int) then (some (dV ByteArray.empty l0 a1)) else (none)) else (none)))) else (some (⟨#[]⟩:ByteArray)))=some r:=H
 have A3:=ae.mk wW
 clear wW
 by_cases c4:t103=true
 ·
  subst c4
  have H1:(if a1 < 0 then (some (⟨#[]⟩:ByteArray)) else (if a1 ≥ (l0.length:Int) then (some (⟨#[]⟩:ByteArray)) else (if 0≤a1 then (if a1 < (l0.length:Int) then (some (dV ByteArray.empty l0 a1)) else (none)) else (none))))=some r:=by rw [if_pos rfl] at H;exact H
  clear H
  have H:=H1
  clear H1
  by_cases c5:a1 < 0
  ·
   rw [if_pos c5] at H
   have qB:decide (a1 < 0)=true:=decide_eq_true c5
   clear c5
   obtain rfl:=Option.some.inj H
   go_enter Tryd.func31,Tryd.ntmps31
   go_wp2_with (first|((with_reducible refine bT (f:=43) rfl ?_);refine gp (some 6) rfl rfl Tryd.func43 (by kernel_rfl) rfl #[.slice A0 l0.length c0] rfl (by (try simp only [List.map_toArray,List.map_cons,List.map_nil]);first|done|rfl|(simp only [List.length_drop,List.length_take];rfl)) ?_;(with_reducible refine (bJ.calls k _ _ l0 true _ ?dR ?dU A3.out).mono ?_);(case dR=>repeat (first|exact HR0.out|(with_reducible refine Kd.dA ?_ _)|(with_reducible refine Kd.dL ?_ _)|(with_reducible refine Kd.dW ?_)));(case dU=>exact vS.out);rintro e w' ⟨rfl,⟨nd,rfl⟩⟩;refine ⟨_,rfl,?_⟩))
   go_ret
   exact ⟨by first|rfl|(simp;done)|(simp [*];done),by repeat (first|exact aV.refl _|apply aV.step)⟩
  ·
   rw [if_neg c5] at H
   have qB:decide (a1 < 0)=false:=decide_eq_false c5
   clear c5
   by_cases c6:a1 ≥ (l0.length:Int)
   ·
    rw [if_pos c6] at H
    have oP:decide ((l0.length:Int)≤a1)=true:=decide_eq_true c6
    clear c6
    obtain rfl:=Option.some.inj H
    go_enter Tryd.func31,Tryd.ntmps31
    go_wp2_with (first|((with_reducible refine bT (f:=43) rfl ?_);refine gp (some 6) rfl rfl Tryd.func43 (by kernel_rfl) rfl #[.slice A0 l0.length c0] rfl (by (try simp only [List.map_toArray,List.map_cons,List.map_nil]);first|done|rfl|(simp only [List.length_drop,List.length_take];rfl)) ?_;(with_reducible refine (bJ.calls k _ _ l0 true _ ?dR ?dU A3.out).mono ?_);(case dR=>repeat (first|exact HR0.out|(with_reducible refine Kd.dA ?_ _)|(with_reducible refine Kd.dL ?_ _)|(with_reducible refine Kd.dW ?_)));(case dU=>exact vS.out);rintro e w' ⟨rfl,⟨nd,rfl⟩⟩;refine ⟨_,rfl,?_⟩))
    go_ret
    exact ⟨by first|rfl|(simp;done)|(simp [*];done),by repeat (first|exact aV.refl _|apply aV.step)⟩
   ·
    rw [if_neg c6] at H
    have oP:decide ((l0.length:Int)≤a1)=false:=decide_eq_false c6
    clear c6
    by_cases c7:0≤a1
    ·
     rw [if_pos c7] at H
     have pJ:decide (0≤a1)=true:=decide_eq_true c7
     clear c7
     by_cases c8:a1 < (l0.length:Int)
     ·
      rw [if_pos c8] at H
      have qU:decide (a1 < (l0.length:Int))=true:=decide_eq_true c8
      clear c8
      obtain rfl:=Option.some.inj H
      go_enter Tryd.func31,Tryd.ntmps31
      go_wp2_with (first|((with_reducible refine bT (f:=43) rfl ?_);refine gp (some 6) rfl rfl Tryd.func43 (by kernel_rfl) rfl #[.slice A0 l0.length c0] rfl (by (try simp only [List.map_toArray,List.map_cons,List.map_nil]);first|done|rfl|(simp only [List.length_drop,List.length_take];rfl)) ?_;(with_reducible refine (bJ.calls k _ _ l0 true _ ?dR ?dU A3.out).mono ?_);(case dR=>repeat (first|exact HR0.out|(with_reducible refine Kd.dA ?_ _)|(with_reducible refine Kd.dL ?_ _)|(with_reducible refine Kd.dW ?_)));(case dU=>exact vS.out);rintro e w' ⟨rfl,⟨nd,rfl⟩⟩;refine ⟨_,rfl,?_⟩;have WG:0≤(a1:Int):=of_decide_eq_true (by first|(with_reducible assumption)|assumption);have Wn:a1 < (l0.length:Int):=of_decide_eq_true (by first|(with_reducible assumption)|assumption);obtain ⟨ai5,ahi,abt⟩:=Kd.kU HR0.out a1 WG Wn;cases ahi;replace WG:=eq_true WG;replace Wn:=eq_true Wn))
      go_ret
      exact ⟨by first|rfl|(simp;done)|(simp [*];done),by repeat (first|exact aV.refl _|apply aV.step)⟩
     ·
      rw [if_neg c8] at H
      exact absurd H (by simp)
    ·
     rw [if_neg c7] at H
     exact absurd H (by simp)
 ·
  replace c4:=Bool.eq_false_iff.mpr c4
  subst c4
  have H1:(some (⟨#[]⟩:ByteArray))=some r:=by rw [if_neg (show ¬ (false=true) by decide)] at H;exact H
  clear H
  have H:=H1
  clear H1
  obtain rfl:=Option.some.inj H
  go_enter Tryd.func31,Tryd.ntmps31
  go_wp2_with (first|((with_reducible refine bT (f:=43) rfl ?_);refine gp (some 6) rfl rfl Tryd.func43 (by kernel_rfl) rfl #[.slice A0 l0.length c0] rfl (by (try simp only [List.map_toArray,List.map_cons,List.map_nil]);first|done|rfl|(simp only [List.length_drop,List.length_take];rfl)) ?_;(with_reducible refine (bJ.calls k _ _ l0 false _ ?dR ?dU A3.out).mono ?_);(case dR=>repeat (first|exact HR0.out|(with_reducible refine Kd.dA ?_ _)|(with_reducible refine Kd.dL ?_ _)|(with_reducible refine Kd.dW ?_)));(case dU=>exact vS.out);rintro e w' ⟨rfl,⟨nd,rfl⟩⟩;refine ⟨_,rfl,?_⟩))
  go_ret
  exact ⟨by first|rfl|(simp;done)|(simp [*];done),by repeat (first|exact aV.refl _|apply aV.step)⟩
def jc.f (k:Nat) (l0:List ByteArray) (a1:Int):Option (Int):=(oL.f k l0 a1).bind fun t105=>(some (t105.size:Int))
theorem jc.mono:∀ a0 a1 k,dN (jc.f k a0 a1) (jc.f (k+1) a0 a1):=by
 intro a0 a1 k
 unfold jc.f
 repeat' with_reducible first|apply oL.mono|exact dN.refl _|exact dN.none _|refine dN.ite ?_ ?_|refine dN.bind ?_ (fun _=>?_)
set_option maxHeartbeats 8000000 in
set_option maxRecDepth 100000 in
theorem jc.calls (k:Nat) (A0:Option Addr) (c0:Nat) (l0:List ByteArray) (a1:Int) (r:Int) (w:World) (hr0:Kd.C Kd.string w A0 l0.length l0) (hc0:l0.length≤c0) (h:jc.f k l0 a1=some r) :
  Calls Tryd.prog 20 #[.slice A0 l0.length c0,.int .i64 a1] w fun e w'=>e=.returned (.int .i64 r)∧aV w w':=by
 have HR0:=ae.mk hr0
 have vS:=ae.mk hc0
 clear hr0 hc0
 have H:((oL.f k l0 a1).bind fun t105=>(some (t105.size:Int)))=some r:=h
 clear h
 replace H:=Option.bind_eq_some_iff.mp H
 obtain ⟨t105,wW,H⟩:=H
 replace H:(some (t105.size:Int))=some r:=H
 have A3:=ae.mk wW
 clear wW
 obtain rfl:=Option.some.inj H
 go_enter Tryd.func20,Tryd.ntmps20
 go_wp2_with (first|((with_reducible refine bT (f:=31) rfl ?_);refine gp (some 7) rfl rfl Tryd.func31 (by kernel_rfl) rfl #[.slice A0 l0.length c0,.int .i64 a1] rfl (by (try simp only [List.map_toArray,List.map_cons,List.map_nil]);first|done|rfl|(simp only [List.length_drop,List.length_take];rfl)) ?_;(with_reducible refine (oL.calls k _ _ l0 a1 t105 _ ?dR ?dU A3.out).mono ?_);(case dR=>repeat (first|exact HR0.out|(with_reducible refine Kd.dA ?_ _)|(with_reducible refine Kd.dL ?_ _)|(with_reducible refine Kd.dW ?_)));(case dU=>exact vS.out);rintro e w' ⟨rfl,⟨nd,rfl⟩⟩;refine ⟨_,rfl,?_⟩))
 go_ret
 exact ⟨by first|rfl|(simp;done)|(simp [*];done),by repeat (first|exact aV.refl _|apply aV.step)⟩
def gJ.l0:Nat→List ByteArray→ByteArray→Int→Int→Option (Bool)
 | 0,_,_,_,_=>none
 | k+1,x0,x1,x7,x8=>if x8 < x7 then (if 0≤x8 then (if x8 < (x1.size:Int) then ((kV.f (bt x1 x8) (x0.length:Int)).bind fun t106=>(if t106 < 0 then (some false) else (gJ.l0 k x0 x1 x7 (wrap64 (x8+1))))) else (none)) else (none)) else ((bJ.f k x0).bind fun t107=>(some t107))
def gJ.f (k:Nat) (l0:List ByteArray) (a1:ByteArray):Option (Bool):=gJ.l0 k l0 a1 (a1.size:Int) 0
theorem gJ.iq:∀ k,(∀ y0 y1 y2 y3,dN (gJ.l0 k y0 y1 y2 y3) (gJ.l0 (k+1) y0 y1 y2 y3))
 | 0=>fun _ _ _ _ r h=>by simp [gJ.l0] at h
 | k+1=>by
  have kZ:=gJ.iq k
  ·
   intro y0 y1 y2 y3
   unfold gJ.l0
   repeat' with_reducible first|apply kZ|apply bJ.mono|exact dN.refl _|exact dN.none _|refine dN.ite ?_ ?_|refine dN.bind ?_ (fun _=>?_)
theorem gJ.mono:∀ a0 a1 k,dN (gJ.f k a0 a1) (gJ.f (k+1) a0 a1):=by
 intro a0 a1 k
 have kZ:=gJ.iq k
 unfold gJ.f
 repeat' with_reducible first|apply kZ|apply bJ.mono|exact dN.refl _|exact dN.none _|refine dN.ite ?_ ?_|refine dN.bind ?_ (fun _=>?_)
set_option maxHeartbeats 8000000 in
set_option maxRecDepth 100000 in
theorem gJ.calls (k:Nat) (A0:Option Addr) (c0:Nat) (l0:List ByteArray) (a1:ByteArray) (r:Bool) (w:World) (hr0:Kd.C Kd.string w A0 l0.length l0) (hc0:l0.length≤c0) (h:gJ.f k l0 a1=some r) :
  Calls Tryd.prog 44 #[.slice A0 l0.length c0,.string a1] w fun e w'=>e=.returned (.bool r)∧aV w w':=by
 have HR0:=ae.mk hr0
 have vS:=ae.mk hc0
 clear hr0 hc0
 have H:(gJ.l0 k l0 a1 (a1.size:Int) 0)=some r:=h
 clear h
 have H':=ae.mk H
 clear H
 go_enter Tryd.func44,Tryd.ntmps44
 go_wp2
 go_loopg [8] k (fun kq v8 w'=>∃ (iU:Int),v8=.int .i64 iU∧ae (gJ.l0 kq l0 a1 (a1.size:Int) iU=some r)∧ae (kq≤k)∧aV w w')
 case atStart=>exact ⟨(0),(by first|rfl|(simp;done)|(simp [*];done)),H',⟨Nat.le_refl _⟩,by repeat (first|exact aV.refl _|apply aV.step)⟩
 case round =>
  clear H'
  obtain ⟨iU,rfl,HA,rD,⟨m1,rfl⟩⟩:=hrel
  cases gk with
  | zero=>exact absurd HA.out (by simp [gJ.l0])
  | succ k1 =>
   have H:=HA.out
   clear HA
   simp only [gJ.l0] at H
   by_cases c3:iU < (a1.size:Int)
   ·
    rw [if_pos c3] at H
    have oQ:decide (iU < (a1.size:Int))=true:=decide_eq_true c3
    clear c3
    by_cases c4:0≤iU
    ·
     rw [if_pos c4] at H
     have oG:decide (0≤iU)=true:=decide_eq_true c4
     clear c4
     by_cases c5:iU < (a1.size:Int)
     ·
      rw [if_pos c5] at H
      have qB:decide (iU < (a1.size:Int))=true:=decide_eq_true c5
      clear c5
      replace H:=Option.bind_eq_some_iff.mp H
      obtain ⟨t106,VK,H⟩:=H
      replace H:(if t106 < 0 then (some false) else (gJ.l0 k1 l0 a1 (a1.size:Int) (wrap64 (iU+1))))=some r:=H
      have A7:=ae.mk VK
      clear VK
      by_cases c8:t106 < 0
      ·
       rw [if_pos c8] at H
       have qU:decide (t106 < 0)=true:=decide_eq_true c8
       clear c8
       obtain rfl:=Option.some.inj H
       have p6:0≤(iU:Int):=of_decide_eq_true (by first|(with_reducible assumption)|assumption)
       have q6:iU < (a1.size:Int):=of_decide_eq_true (by first|(with_reducible assumption)|assumption)
       have hx6:=kP a1 iU
       replace p6:=eq_true p6
       replace q6:=eq_true q6
       go_wp2_with (first|((with_reducible refine bT (f:=51) rfl ?_);refine gp (some 16) rfl rfl Tryd.func51 (by kernel_rfl) rfl #[.int .u8 (bt a1 iU),.int .i64 (l0.length:Int)] rfl (by (try simp only [List.map_toArray,List.map_cons,List.map_nil]);first|done|rfl|(simp only [List.length_drop,List.length_take];rfl)) ?_;(with_reducible refine (kV.calls (bt a1 iU) (l0.length:Int) t106 _ A7.out).mono ?_);rintro e w' ⟨rfl,⟨nd,rfl⟩⟩;refine ⟨_,rfl,?_⟩))
       go_ret
       exact ⟨by first|rfl|(simp;done)|(simp [*];done),by repeat (first|exact aV.refl _|apply aV.step)⟩
      ·
       rw [if_neg c8] at H
       have qU:decide (t106 < 0)=false:=decide_eq_false c8
       clear c8
       have H':=ae.mk H
       clear H
       have p6:0≤(iU:Int):=of_decide_eq_true (by first|(with_reducible assumption)|assumption)
       have q6:iU < (a1.size:Int):=of_decide_eq_true (by first|(with_reducible assumption)|assumption)
       have hx6:=kP a1 iU
       replace p6:=eq_true p6
       replace q6:=eq_true q6
       go_wp2_with (first|((with_reducible refine bT (f:=51) rfl ?_);refine gp (some 16) rfl rfl Tryd.func51 (by kernel_rfl) rfl #[.int .u8 (bt a1 iU),.int .i64 (l0.length:Int)] rfl (by (try simp only [List.map_toArray,List.map_cons,List.map_nil]);first|done|rfl|(simp only [List.length_drop,List.length_take];rfl)) ?_;(with_reducible refine (kV.calls (bt a1 iU) (l0.length:Int) t106 _ A7.out).mono ?_);rintro e w' ⟨rfl,⟨nd,rfl⟩⟩;refine ⟨_,rfl,?_⟩))
       go_roundg k1
       case measure=>have:=rD.out;omega
       case rel=>exact ⟨(wrap64 (iU+1)),(by first|rfl|(simp;done)|(simp [*];done)),H',⟨by have:=rD.out;omega⟩,by repeat (first|exact aV.refl _|apply aV.step)⟩
     ·
      rw [if_neg c5] at H
      exact absurd H (by simp)
    ·
     rw [if_neg c4] at H
     exact absurd H (by simp)
   ·
    rw [if_neg c3] at H
    have oQ:decide (iU < (a1.size:Int))=false:=decide_eq_false c3
    clear c3
    replace H:=Option.bind_eq_some_iff.mp H
    obtain ⟨t107,KR,H⟩:=H
    replace H:(some t107)=some r:=H
    have A9:=ae.mk KR
    clear KR
    obtain rfl:=Option.some.inj H
    go_wp2_with (first|((with_reducible refine bT (f:=43) rfl ?_);refine gp (some 20) rfl rfl Tryd.func43 (by kernel_rfl) rfl #[.slice A0 l0.length c0] rfl (by (try simp only [List.map_toArray,List.map_cons,List.map_nil]);first|done|rfl|(simp only [List.length_drop,List.length_take];rfl)) ?_;(with_reducible refine (bJ.calls k1 _ _ l0 t107 _ ?dR ?dU A9.out).mono ?_);(case dR=>repeat (first|exact HR0.out|(with_reducible refine Kd.dA ?_ _)|(with_reducible refine Kd.dL ?_ _)|(with_reducible refine Kd.dW ?_)));(case dU=>exact vS.out);rintro e w' ⟨rfl,⟨nd,rfl⟩⟩;refine ⟨_,rfl,?_⟩))
    go_ret
    exact ⟨by first|rfl|(simp;done)|(simp [*];done),by repeat (first|exact aV.refl _|apply aV.step)⟩
def jE.f (k:Nat) (l0:List ByteArray) (a1:ByteArray) (a2:Int):Option (Int):=if (wrap64 (a2)) ≥ (a1.size:Int) then (some (-1)) else (if 0≤(wrap64 (a2)) then (if (wrap64 (a2))≤(wrap64 ((wrap64 (a2))+1)) then (if (wrap64 ((wrap64 (a2))+1))≤(a1.size:Int) then ((gJ.f k l0 (a1.extract ((wrap64 (a2)):Int).toNat ((wrap64 ((wrap64 (a2))+1)):Int).toNat)).bind fun t108=>(if t108=true then (if 0≤a2 then (if a2 < (a1.size:Int) then (some (((bt a1 a2) - 48) % 256)) else (none)) else (none)) else (some (-1)))) else (none)) else (none)) else (none))
theorem jE.mono:∀ a0 a1 a2 k,dN (jE.f k a0 a1 a2) (jE.f (k+1) a0 a1 a2):=by
 intro a0 a1 a2 k
 unfold jE.f
 repeat' with_reducible first|apply gJ.mono|exact dN.refl _|exact dN.none _|refine dN.ite ?_ ?_|refine dN.bind ?_ (fun _=>?_)
set_option maxHeartbeats 8000000 in
set_option maxRecDepth 100000 in
theorem jE.calls (k:Nat) (A0:Option Addr) (c0:Nat) (l0:List ByteArray) (a1:ByteArray) (a2:Int) (r:Int) (w:World) (hr0:Kd.C Kd.string w A0 l0.length l0) (hc0:l0.length≤c0) (h:jE.f k l0 a1 a2=some r) :
  Calls Tryd.prog 32 #[.slice A0 l0.length c0,.string a1,.int .u8 a2] w fun e w'=>e=.returned (.int .i64 r)∧aV w w':=by
 have HR0:=ae.mk hr0
 have vS:=ae.mk hc0
 clear hr0 hc0
 have H:(if (wrap64 (a2)) ≥ (a1.size:Int) then (some (-1)) else (if 0≤(wrap64 (a2)) then (if (wrap64 (a2))≤(wrap64 ((wrap64 (a2))+1)) then (if (wrap64 ((wrap64 (a2))+1))≤(a1.size:Int) then ((gJ.f k l0 (a1.extract ((wrap64 (a2)):Int).toNat ((wrap64 ((wrap64 (a2))+1)):Int).toNat)).bind fun t108=>(if t108=true then (if 0≤a2 then (if a2 < (a1.size:Int) then (some (((bt a1 a2) - 48) % 256)) else (none)) else (none)) else (some (-1)))) else (none)) else (none)) else (none)))=some r:=h
 clear h
 by_cases c4:(wrap64 (a2)) ≥ (a1.size:Int)
 ·
  rw [if_pos c4] at H
  have oG:decide ((a1.size:Int)≤(wrap64 (a2)))=true:=decide_eq_true c4
  clear c4
  obtain rfl:=Option.some.inj H
  go_enter Tryd.func32,Tryd.ntmps32
  go_wp2
  go_ret
  exact ⟨by first|rfl|(simp;done)|(simp [*];done),by repeat (first|exact aV.refl _|apply aV.step)⟩
 ·
  rw [if_neg c4] at H
  have oG:decide ((a1.size:Int)≤(wrap64 (a2)))=false:=decide_eq_false c4
  clear c4
  obtain ⟨sW,xn⟩:∃ j_:Int,(wrap64 (a2))=j_:=⟨_,rfl⟩
  replace H:(if 0≤(sW) then (if (sW)≤(wrap64 ((sW)+1)) then (if (wrap64 ((sW)+1))≤(a1.size:Int) then ((gJ.f k l0 (a1.extract ((sW):Int).toNat ((wrap64 ((sW)+1)):Int).toNat)).bind fun t108=>(if t108=true then (if 0≤a2 then (if a2 < (a1.size:Int) then (some (((bt a1 a2) - 48) % 256)) else (none)) else (none)) else (some (-1)))) else (none)) else (none)) else (none))=some r:=by first|(rw [xn] at H;exact H)|(simp only [xn] at H ⊢;exact H)
  (try rw [xn] at oG)
  have Zq:(IntKind.i64.wrap (a2))=sW:=(bY _).trans xn
  by_cases c6:0≤(sW)
  ·
   rw [if_pos c6] at H
   have oP:=eq_true c6
   have xw:decide (0≤(sW))=true:=decide_eq_true c6
   clear c6
   by_cases c7:(sW)≤(wrap64 ((sW)+1))
   ·
    rw [if_pos c7] at H
    have pJ:=eq_true c7
    have zL:decide ((sW)≤(wrap64 ((sW)+1)))=true:=decide_eq_true c7
    by_cases c8:(wrap64 ((sW)+1))≤(a1.size:Int)
    ·
     rw [if_pos c8] at H
     have qU:=eq_true c8
     have Ed:decide ((wrap64 ((sW)+1))≤(a1.size:Int))=true:=decide_eq_true c8
     replace H:=Option.bind_eq_some_iff.mp H
     obtain ⟨t108,KR,H⟩:=H
     replace H:(if t108=true then (if 0≤a2 then (if a2 < (a1.size:Int) then (some (((bt a1 a2) - 48) % 256)) else (none)) else (none)) else (some (-1)))=some r:=H
     have A9:=ae.mk KR
     clear KR
     by_cases c10:t108=true
     ·
      subst c10
      have H1:(if 0≤a2 then (if a2 < (a1.size:Int) then (some (((bt a1 a2) - 48) % 256)) else (none)) else (none))=some r:=by rw [if_pos rfl] at H;exact H
      clear H
      have H:=H1
      clear H1
      by_cases c11:0≤a2
      ·
       rw [if_pos c11] at H
       have uo:decide (0≤a2)=true:=decide_eq_true c11
       clear c11
       by_cases c12:a2 < (a1.size:Int)
       ·
        rw [if_pos c12] at H
        have um:decide (a2 < (a1.size:Int))=true:=decide_eq_true c12
        clear c12
        obtain rfl:=Option.some.inj H
        go_enter Tryd.func32,Tryd.ntmps32
        go_wp2_with (first|(go_at_call 44;(with_reducible refine (gJ.calls k _ _ l0 (a1.extract ((sW):Int).toNat ((wrap64 ((sW)+1)):Int).toNat) true _ ?dR ?dU A9.out).mono ?_);(case dR=>repeat (first|exact HR0.out|(with_reducible refine Kd.dA ?_ _)|(with_reducible refine Kd.dL ?_ _)|(with_reducible refine Kd.dW ?_)));(case dU=>exact vS.out);rintro e w' ⟨rfl,⟨nd,rfl⟩⟩;have p13:0≤(a2:Int):=of_decide_eq_true (by first|(with_reducible assumption)|assumption);have q13:a2 < (a1.size:Int):=of_decide_eq_true (by first|(with_reducible assumption)|assumption);have Qi:=kP a1 a2;replace p13:=eq_true p13;replace q13:=eq_true q13))
        go_ret
        exact ⟨by first|rfl|(simp;done)|(simp only [← xn] <;> (first|rfl|simp))|(simp [*];done),by repeat (first|exact aV.refl _|apply aV.step)⟩
       ·
        rw [if_neg c12] at H
        exact absurd H (by simp)
      ·
       rw [if_neg c11] at H
       exact absurd H (by simp)
     ·
      replace c10:=Bool.eq_false_iff.mpr c10
      subst c10
      have H1:(some (-1))=some r:=by rw [if_neg (show ¬ (false=true) by decide)] at H;exact H
      clear H
      have H:=H1
      clear H1
      obtain rfl:=Option.some.inj H
      go_enter Tryd.func32,Tryd.ntmps32
      go_wp2_with (first|(go_at_call 44;(with_reducible refine (gJ.calls k _ _ l0 (a1.extract ((sW):Int).toNat ((wrap64 ((sW)+1)):Int).toNat) false _ ?dR ?dU A9.out).mono ?_);(case dR=>repeat (first|exact HR0.out|(with_reducible refine Kd.dA ?_ _)|(with_reducible refine Kd.dL ?_ _)|(with_reducible refine Kd.dW ?_)));(case dU=>exact vS.out);rintro e w' ⟨rfl,⟨nd,rfl⟩⟩))
      go_ret
      exact ⟨by first|rfl|(simp;done)|(simp only [← xn] <;> (first|rfl|simp))|(simp [*];done),by repeat (first|exact aV.refl _|apply aV.step)⟩
    ·
     rw [if_neg c8] at H
     exact absurd H (by simp)
   ·
    rw [if_neg c7] at H
    exact absurd H (by simp)
  ·
   rw [if_neg c6] at H
   exact absurd H (by simp)
def iL.f (k:Nat) (bC:List ByteArray) (aY:ByteArray) (aZ:ByteArray) (aJ:List (iG)) (a1:Int):Option (Int):=(jE.f k bC aY a1).bind fun t110=>(some t110)
theorem iL.mono:∀ a0 a1 a2 a3 a4 k,dN (iL.f k a0 a1 a2 a3 a4) (iL.f (k+1) a0 a1 a2 a3 a4):=by
 intro a0 a1 a2 a3 a4 k
 unfold iL.f
 repeat' with_reducible first|apply jE.mono|exact dN.refl _|exact dN.none _|refine dN.ite ?_ ?_|refine dN.bind ?_ (fun _=>?_)
set_option maxHeartbeats 8000000 in
set_option maxRecDepth 100000 in
theorem iL.calls (k:Nat) (eP:Option Addr) (eH:Nat) (bC:List ByteArray) (aY:ByteArray) (aZ:ByteArray) (gy:Option Addr) (fB:Nat) (aJ:List (iG)) (a1:Int) (r:Int) (w:World) (jV:Kd.C Kd.string w eP bC.length bC) (jX:bC.length≤eH) (jU:Kd.C k39 w gy aJ.length aJ) (jW:aJ.length≤fB) (h:iL.f k bC aY aZ aJ a1=some r) :
  Calls Tryd.prog 21 #[.agg #[.slice eP bC.length eH,.string aY,.string aZ,.slice gy aJ.length fB],.int .u8 a1] w fun e w'=>e=.returned (.int .i64 r)∧Below w.heap.size w w':=by
 have yj:=Tryd.underlying25
 have ji:=ae.mk jV
 have jr:=ae.mk jX
 clear jV jX
 have jR:=ae.mk jU
 have lD:=ae.mk jW
 clear jU jW
 have HB:=ae.mk (Below.refl w.heap.size w)
 have H:((jE.f k bC aY a1).bind fun t110=>(some t110))=some r:=h
 clear h
 replace H:=Option.bind_eq_some_iff.mp H
 obtain ⟨t110,wW,H⟩:=H
 replace H:(some t110)=some r:=H
 have A3:=ae.mk wW
 clear wW
 obtain rfl:=Option.some.inj H
 go_enter Tryd.func21,Tryd.ntmps21
 go_wp2_with (first|((with_reducible refine bI (N:=2) rfl ?_);refine dZ ?hg (N:=2) ?hd (cs:=#[.slice eP bC.length eH,.string aY,.string aZ,.slice gy aJ.length fB]) (t:=25) ?hr ?_;(case hd=>rfl);(case hg=>rfl);(case hr=>first|(go_simp;done)|(go_simp;rfl));intro Fa hg w4 hbox hb;have eU:=ae.mk (bz (by repeat (first|(with_reducible first|exact HB.out|apply ay|apply ai|apply ax)|exact HB.out)) hb);have eQ:=ae.mk (hbox);have eu:=ae.mk ((by rw [hg];exact (cu (by repeat (first|(with_reducible first|exact HB.out|apply ay|apply ai|apply ax)|exact HB.out))):w.heap.size≤Fa));have ig:=eu;clear HB;have HB:=eU;have xZ:=eQ;have ajF:=eu;have aaS:=ig;clear eU eQ eu ig;clear hb hbox hg;have zH:w4.cell? ⟨Fa,0,none⟩=some (.slice eP bC.length eH):=(ah xZ.out 0).trans rfl;have zG:w4.cell? ⟨Fa,1,none⟩=some (.string aY):=(ah xZ.out 1).trans rfl;have zF:w4.cell? ⟨Fa,2,none⟩=some (.string aZ):=(ah xZ.out 2).trans rfl;have zD:w4.cell? ⟨Fa,3,none⟩=some (.slice gy aJ.length fB):=(ah xZ.out 3).trans rfl;have zC:=ag xZ.out 0;have zB:=ag xZ.out 1;have zA:=ag xZ.out 2;have zy:=ag xZ.out 3)|((with_reducible refine bT (f:=32) rfl ?_);refine gp (some 10) rfl rfl Tryd.func32 (by kernel_rfl) rfl #[.slice eP bC.length eH,.string aY,.int .u8 a1] rfl (by (try simp only [List.map_toArray,List.map_cons,List.map_nil]);first|done|rfl|(simp only [List.length_drop,List.length_take];rfl)) ?_;(with_reducible refine (jE.calls k _ _ bC aY a1 t110 _ ?dR ?dU A3.out).mono ?_);(case dR=>repeat (first|exact (Kd.bW ji.out HB.out)|(with_reducible refine Kd.dA ?_ _)|(with_reducible refine Kd.dL ?_ _)|(with_reducible refine Kd.dW ?_)));(case dU=>exact jr.out);rintro e w' ⟨rfl,⟨nd,rfl⟩⟩;refine ⟨_,rfl,?_⟩))
 go_ret
 exact ⟨by first|rfl|(simp [aT,aQ] <;> rfl)|(simp [*,aT,aQ] <;> rfl),by repeat (first|(with_reducible first|exact HB.out|apply ay|apply ai|apply ax|refine aA ?_ aaS.out)|exact HB.out)⟩
end Go.Proofs.YtbmhmlgfpijmhaaDoor.P
end
