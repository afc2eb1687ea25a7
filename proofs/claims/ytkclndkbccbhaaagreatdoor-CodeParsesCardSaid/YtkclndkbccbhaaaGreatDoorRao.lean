/- Parts of the proof of CodeParses: what the functions that it reaches compute, and plain facts about that. -/
import Derived.Test.YtkclndkbccbhaaaGreatDoorRac
import Derived.Test.YtkclndkbccbhaaaGreatDoorRad
import Derived.Test.YtkclndkbccbhaaaGreatDoorRag
import Derived.Test.YtkclndkbccbhaaaGreatDoorRal
import Derived.Test.YtkclndkbccbhaaaGreatDoorRan
set_option linter.unusedVariables false
set_option linter.unusedSimpArgs false
section
namespace Go.Proofs.YtkclndkbccbhaaaGreatDoor.P
open Go.RowKit Go.Proofs.ag.bK Go.Proofs.ag.dV Go.Proofs.ag.fE
attribute [local go_sem] lI lG ny ni jW jV lH lF
attribute [local go_sem high] Nk
def lY.f (k:Nat) (gW:Int) (bU:Int) (bV:Int) (ik:Int) (iI:Int):Option (Bool):=(jl.f gW).bind fun acm=>(if acm.1.toList=([]:List UInt8) then (some false) else ((ed.f k gW bU bV ik iI).bind fun t233=>((aG.f k t233).bind fun Fv=>(if Fv.2.2.2.2.2=true then (some (Fv.1 == gW && (Fv.2.1 == bU && (Fv.2.2.1 == bV && (Fv.2.2.2.1 == ik && (Fv.2.2.2.2.1 == iI)))))) else (some false)))))
theorem lY.mono:∀ a0 a1 a2 a3 a4 k,dC (lY.f k a0 a1 a2 a3 a4) (lY.f (k+1) a0 a1 a2 a3 a4):=by
 intro a0 a1 a2 a3 a4 k
 unfold lY.f
 repeat' with_reducible first|apply ed.mono|apply aG.mono|exact dC.refl _|exact dC.none _|refine dC.ite ?_ ?_|refine dC.bind ?_ (fun _=>?_)
def bg.l0:Nat→ByteArray→Int→Option (Bool)
 | 0,_,_=>none
 | k+1,x0,x3=>if x3 < (x0.size:Int) then (if 0≤x3 then (if (bt x0 x3) ≥ 97 then (if (bt x0 x3)≤122 then (bg.l0 k x0 (wrap64 (x3+1))) else (if (bt x0 x3) ≥ 48 then (if (bt x0 x3)≤57 then (bg.l0 k x0 (wrap64 (x3+1))) else (if ((bt x0 x3)=45) then (bg.l0 k x0 (wrap64 (x3+1))) else (some false))) else (if ((bt x0 x3)=45) then (bg.l0 k x0 (wrap64 (x3+1))) else (some false)))) else (if (bt x0 x3) ≥ 48 then (if (bt x0 x3)≤57 then (bg.l0 k x0 (wrap64 (x3+1))) else (if ((bt x0 x3)=45) then (bg.l0 k x0 (wrap64 (x3+1))) else (some false))) else (if ((bt x0 x3)=45) then (bg.l0 k x0 (wrap64 (x3+1))) else (some false)))) else (none)) else (if (x0.size:Int) ≥ 1 then (some (decide ((x0.size:Int)≤30))) else (some false))
def bg.f (k:Nat) (a0:ByteArray):Option (Bool):=bg.l0 k a0 0
theorem bg.iq:∀ k,(∀ y0 y1,dC (bg.l0 k y0 y1) (bg.l0 (k+1) y0 y1))
 | 0=>fun _ _ r h=>by simp [bg.l0] at h
 | k+1=>by
  have jY:=bg.iq k
  ·
   intro y0 y1
   unfold bg.l0
   repeat' with_reducible first|apply jY|exact dC.refl _|exact dC.none _|refine dC.ite ?_ ?_|refine dC.bind ?_ (fun _=>?_)
theorem bg.mono:∀ a0 k,dC (bg.f k a0) (bg.f (k+1) a0):=by
 intro a0 k
 have jY:=bg.iq k
 unfold bg.f
 repeat' with_reducible first|apply jY|exact dC.refl _|exact dC.none _|refine dC.ite ?_ ?_|refine dC.bind ?_ (fun _=>?_)
set_option maxHeartbeats 8000000 in
set_option maxRecDepth 100000 in
theorem bg.calls (k:Nat) (a0:ByteArray) (r:Bool) (w:World) (h:bg.f k a0=some r) :
  Calls Tryz.prog 36 #[.string a0] w fun e w'=>e=.returned (.bool r)∧bz w w':=by
 have H:(bg.l0 k a0 0)=some r:=h
 clear h
 have H':=ae.mk H
 clear H
 go_enter Tryz.func36,Tryz.ntmps36
 go_wp2
 go_loopg [3] k (fun kq v3 w'=>∃ (fM:Int),v3=.int .i64 fM∧ae (bg.l0 kq a0 fM=some r)∧ae (kq≤k)∧bz w w')
 case atStart=>exact ⟨(0),(by first|rfl|(simp;done)|(simp [*];done)),H',⟨Nat.le_refl _⟩,by repeat (first|exact bz.refl _|apply bz.step)⟩
 case round =>
  clear H'
  obtain ⟨fM,rfl,HA,pJ,⟨m1,rfl⟩⟩:=hrel
  cases gk with
  | zero=>exact absurd HA.out (by simp [bg.l0])
  | succ k1 =>
   have H:=HA.out
   clear HA
   simp only [bg.l0] at H
   by_cases c2:fM < (a0.size:Int)
   ·
    rw [if_pos c2] at H
    have uS:decide (fM < (a0.size:Int))=true:=decide_eq_true c2
    clear c2
    by_cases c3:0≤fM
    ·
     rw [if_pos c3] at H
     have rW:decide (0≤fM)=true:=decide_eq_true c3
     clear c3
     by_cases c5:(bt a0 fM) ≥ 97
     ·
      rw [if_pos c5] at H
      have wX:decide (97≤(bt a0 fM))=true:=decide_eq_true c5
      clear c5
      by_cases c6:(bt a0 fM)≤122
      ·
       rw [if_pos c6] at H
       have oP:decide ((bt a0 fM)≤122)=true:=decide_eq_true c6
       clear c6
       have H':=ae.mk H
       clear H
       have p4:0≤(fM:Int):=of_decide_eq_true (by first|(with_reducible assumption)|assumption)
       have q4:fM < (a0.size:Int):=of_decide_eq_true (by first|(with_reducible assumption)|assumption)
       have hx4:=kS a0 fM
       replace p4:=eq_true p4
       replace q4:=eq_true q4
       go_wp2
       go_roundg k1
       case measure=>have:=pJ.out;omega
       case rel=>exact ⟨(wrap64 (fM+1)),(by first|rfl|(simp;done)|(simp [*];done)),H',⟨by have:=pJ.out;omega⟩,by repeat (first|exact bz.refl _|apply bz.step)⟩
      ·
       rw [if_neg c6] at H
       have oP:decide ((bt a0 fM)≤122)=false:=decide_eq_false c6
       clear c6
       by_cases c7:(bt a0 fM) ≥ 48
       ·
        rw [if_pos c7] at H
        have qR:decide (48≤(bt a0 fM))=true:=decide_eq_true c7
        clear c7
        by_cases c8:(bt a0 fM)≤57
        ·
         rw [if_pos c8] at H
         have ry:decide ((bt a0 fM)≤57)=true:=decide_eq_true c8
         clear c8
         have H':=ae.mk H
         clear H
         have p4:0≤(fM:Int):=of_decide_eq_true (by first|(with_reducible assumption)|assumption)
         have q4:fM < (a0.size:Int):=of_decide_eq_true (by first|(with_reducible assumption)|assumption)
         have hx4:=kS a0 fM
         replace p4:=eq_true p4
         replace q4:=eq_true q4
         go_wp2
         go_roundg k1
         case measure=>have:=pJ.out;omega
         case rel=>exact ⟨(wrap64 (fM+1)),(by first|rfl|(simp;done)|(simp [*];done)),H',⟨by have:=pJ.out;omega⟩,by repeat (first|exact bz.refl _|apply bz.step)⟩
        ·
         rw [if_neg c8] at H
         have ry:decide ((bt a0 fM)≤57)=false:=decide_eq_false c8
         clear c8
         by_cases c9:((bt a0 fM)=45)
         ·
          rw [if_pos c9] at H
          have EF:((bt a0 fM) == 45)=true:=beq_iff_eq.mpr c9
          have JV:((bt a0 fM) != 45)=false:=bne_eq_false_iff_eq.mpr c9
          clear c9
          have H':=ae.mk H
          clear H
          have p4:0≤(fM:Int):=of_decide_eq_true (by first|(with_reducible assumption)|assumption)
          have q4:fM < (a0.size:Int):=of_decide_eq_true (by first|(with_reducible assumption)|assumption)
          have hx4:=kS a0 fM
          replace p4:=eq_true p4
          replace q4:=eq_true q4
          go_wp2
          go_roundg k1
          case measure=>have:=pJ.out;omega
          case rel=>exact ⟨(wrap64 (fM+1)),(by first|rfl|(simp;done)|(simp [*];done)),H',⟨by have:=pJ.out;omega⟩,by repeat (first|exact bz.refl _|apply bz.step)⟩
         ·
          rw [if_neg c9] at H
          have EF:((bt a0 fM) == 45)=false:=beq_eq_false_iff_ne.mpr c9
          have JV:((bt a0 fM) != 45)=true:=bne_iff_ne.mpr c9
          obtain rfl:=Option.some.inj H
          have p4:0≤(fM:Int):=of_decide_eq_true (by first|(with_reducible assumption)|assumption)
          have q4:fM < (a0.size:Int):=of_decide_eq_true (by first|(with_reducible assumption)|assumption)
          have hx4:=kS a0 fM
          replace p4:=eq_true p4
          replace q4:=eq_true q4
          go_wp2
          go_ret
          exact ⟨by first|rfl|(simp;done)|(simp [*];done),by repeat (first|exact bz.refl _|apply bz.step)⟩
       ·
        rw [if_neg c7] at H
        have qR:decide (48≤(bt a0 fM))=false:=decide_eq_false c7
        clear c7
        by_cases c10:((bt a0 fM)=45)
        ·
         rw [if_pos c10] at H
         have mM:((bt a0 fM) == 45)=true:=beq_iff_eq.mpr c10
         have ui:((bt a0 fM) != 45)=false:=bne_eq_false_iff_eq.mpr c10
         clear c10
         have H':=ae.mk H
         clear H
         have p4:0≤(fM:Int):=of_decide_eq_true (by first|(with_reducible assumption)|assumption)
         have q4:fM < (a0.size:Int):=of_decide_eq_true (by first|(with_reducible assumption)|assumption)
         have hx4:=kS a0 fM
         replace p4:=eq_true p4
         replace q4:=eq_true q4
         go_wp2
         go_roundg k1
         case measure=>have:=pJ.out;omega
         case rel=>exact ⟨(wrap64 (fM+1)),(by first|rfl|(simp;done)|(simp [*];done)),H',⟨by have:=pJ.out;omega⟩,by repeat (first|exact bz.refl _|apply bz.step)⟩
        ·
         rw [if_neg c10] at H
         have mM:((bt a0 fM) == 45)=false:=beq_eq_false_iff_ne.mpr c10
         have ui:((bt a0 fM) != 45)=true:=bne_iff_ne.mpr c10
         obtain rfl:=Option.some.inj H
         have p4:0≤(fM:Int):=of_decide_eq_true (by first|(with_reducible assumption)|assumption)
         have q4:fM < (a0.size:Int):=of_decide_eq_true (by first|(with_reducible assumption)|assumption)
         have hx4:=kS a0 fM
         replace p4:=eq_true p4
         replace q4:=eq_true q4
         go_wp2
         go_ret
         exact ⟨by first|rfl|(simp;done)|(simp [*];done),by repeat (first|exact bz.refl _|apply bz.step)⟩
     ·
      rw [if_neg c5] at H
      have wX:decide (97≤(bt a0 fM))=false:=decide_eq_false c5
      clear c5
      by_cases c11:(bt a0 fM) ≥ 48
      ·
       rw [if_pos c11] at H
       have uF:decide (48≤(bt a0 fM))=true:=decide_eq_true c11
       clear c11
       by_cases c12:(bt a0 fM)≤57
       ·
        rw [if_pos c12] at H
        have BJ:decide ((bt a0 fM)≤57)=true:=decide_eq_true c12
        clear c12
        have H':=ae.mk H
        clear H
        have p4:0≤(fM:Int):=of_decide_eq_true (by first|(with_reducible assumption)|assumption)
        have q4:fM < (a0.size:Int):=of_decide_eq_true (by first|(with_reducible assumption)|assumption)
        have hx4:=kS a0 fM
        replace p4:=eq_true p4
        replace q4:=eq_true q4
        go_wp2
        go_roundg k1
        case measure=>have:=pJ.out;omega
        case rel=>exact ⟨(wrap64 (fM+1)),(by first|rfl|(simp;done)|(simp [*];done)),H',⟨by have:=pJ.out;omega⟩,by repeat (first|exact bz.refl _|apply bz.step)⟩
       ·
        rw [if_neg c12] at H
        have BJ:decide ((bt a0 fM)≤57)=false:=decide_eq_false c12
        clear c12
        by_cases c13:((bt a0 fM)=45)
        ·
         rw [if_pos c13] at H
         have uh:((bt a0 fM) == 45)=true:=beq_iff_eq.mpr c13
         have IW:((bt a0 fM) != 45)=false:=bne_eq_false_iff_eq.mpr c13
         clear c13
         have H':=ae.mk H
         clear H
         have p4:0≤(fM:Int):=of_decide_eq_true (by first|(with_reducible assumption)|assumption)
         have q4:fM < (a0.size:Int):=of_decide_eq_true (by first|(with_reducible assumption)|assumption)
         have hx4:=kS a0 fM
         replace p4:=eq_true p4
         replace q4:=eq_true q4
         go_wp2
         go_roundg k1
         case measure=>have:=pJ.out;omega
         case rel=>exact ⟨(wrap64 (fM+1)),(by first|rfl|(simp;done)|(simp [*];done)),H',⟨by have:=pJ.out;omega⟩,by repeat (first|exact bz.refl _|apply bz.step)⟩
        ·
         rw [if_neg c13] at H
         have uh:((bt a0 fM) == 45)=false:=beq_eq_false_iff_ne.mpr c13
         have IW:((bt a0 fM) != 45)=true:=bne_iff_ne.mpr c13
         obtain rfl:=Option.some.inj H
         have p4:0≤(fM:Int):=of_decide_eq_true (by first|(with_reducible assumption)|assumption)
         have q4:fM < (a0.size:Int):=of_decide_eq_true (by first|(with_reducible assumption)|assumption)
         have hx4:=kS a0 fM
         replace p4:=eq_true p4
         replace q4:=eq_true q4
         go_wp2
         go_ret
         exact ⟨by first|rfl|(simp;done)|(simp [*];done),by repeat (first|exact bz.refl _|apply bz.step)⟩
      ·
       rw [if_neg c11] at H
       have uF:decide (48≤(bt a0 fM))=false:=decide_eq_false c11
       clear c11
       by_cases c14:((bt a0 fM)=45)
       ·
        rw [if_pos c14] at H
        have vH:((bt a0 fM) == 45)=true:=beq_iff_eq.mpr c14
        have Fq:((bt a0 fM) != 45)=false:=bne_eq_false_iff_eq.mpr c14
        clear c14
        have H':=ae.mk H
        clear H
        have p4:0≤(fM:Int):=of_decide_eq_true (by first|(with_reducible assumption)|assumption)
        have q4:fM < (a0.size:Int):=of_decide_eq_true (by first|(with_reducible assumption)|assumption)
        have hx4:=kS a0 fM
        replace p4:=eq_true p4
        replace q4:=eq_true q4
        go_wp2
        go_roundg k1
        case measure=>have:=pJ.out;omega
        case rel=>exact ⟨(wrap64 (fM+1)),(by first|rfl|(simp;done)|(simp [*];done)),H',⟨by have:=pJ.out;omega⟩,by repeat (first|exact bz.refl _|apply bz.step)⟩
       ·
        rw [if_neg c14] at H
        have vH:((bt a0 fM) == 45)=false:=beq_eq_false_iff_ne.mpr c14
        have Fq:((bt a0 fM) != 45)=true:=bne_iff_ne.mpr c14
        obtain rfl:=Option.some.inj H
        have p4:0≤(fM:Int):=of_decide_eq_true (by first|(with_reducible assumption)|assumption)
        have q4:fM < (a0.size:Int):=of_decide_eq_true (by first|(with_reducible assumption)|assumption)
        have hx4:=kS a0 fM
        replace p4:=eq_true p4
        replace q4:=eq_true q4
        go_wp2
        go_ret
        exact ⟨by first|rfl|(simp;done)|(simp [*];done),by repeat (first|exact bz.refl _|apply bz.step)⟩
    ·
     rw [if_neg c3] at H
     exact absurd H (by simp)
   ·
    rw [if_neg c2] at H
    have uS:decide (fM < (a0.size:Int))=false:=decide_eq_false c2
    clear c2
    by_cases c15:(a0.size:Int) ≥ 1
    ·
     rw [if_pos c15] at H
     have vG:decide (1≤(a0.size:Int))=true:=decide_eq_true c15
     have IV:decide (1≤a0.size)=true:=decide_eq_true (by omega)
     clear c15
     obtain rfl:=Option.some.inj H
     go_wp2
     go_ret
     exact ⟨by first|rfl|(simp;done)|(simp [*];done),by repeat (first|exact bz.refl _|apply bz.step)⟩
    ·
     rw [if_neg c15] at H
     have vG:decide (1≤(a0.size:Int))=false:=decide_eq_false c15
     have IV:decide (1≤a0.size)=false:=decide_eq_false (by omega)
     clear c15
     obtain rfl:=Option.some.inj H
     go_wp2
     go_ret
     exact ⟨by first|rfl|(simp;done)|(simp [*];done),by repeat (first|exact bz.refl _|apply bz.step)⟩
def aV.l0:Nat→ByteArray→Int→Option (Bool)
 | 0,_,_=>none
 | k+1,x0,x3=>if x3 < (x0.size:Int) then (if 0≤x3 then (if (bt x0 x3)=45 then (some false) else (aV.l0 k x0 (wrap64 (x3+1)))) else (none)) else (if x0.toList=([]:List UInt8) then (some true) else ((bg.f k x0).bind fun t243=>(some t243)))
def aV.f (k:Nat) (a0:ByteArray):Option (Bool):=aV.l0 k a0 0
theorem aV.iq:∀ k,(∀ y0 y1,dC (aV.l0 k y0 y1) (aV.l0 (k+1) y0 y1))
 | 0=>fun _ _ r h=>by simp [aV.l0] at h
 | k+1=>by
  have jY:=aV.iq k
  ·
   intro y0 y1
   unfold aV.l0
   repeat' with_reducible first|apply jY|apply bg.mono|exact dC.refl _|exact dC.none _|refine dC.ite ?_ ?_|refine dC.bind ?_ (fun _=>?_)
theorem aV.mono:∀ a0 k,dC (aV.f k a0) (aV.f (k+1) a0):=by
 intro a0 k
 have jY:=aV.iq k
 unfold aV.f
 repeat' with_reducible first|apply jY|apply bg.mono|exact dC.refl _|exact dC.none _|refine dC.ite ?_ ?_|refine dC.bind ?_ (fun _=>?_)
set_option maxHeartbeats 8000000 in
set_option maxRecDepth 100000 in
theorem aV.calls (k:Nat) (a0:ByteArray) (r:Bool) (w:World) (h:aV.f k a0=some r) :
  Calls Tryz.prog 43 #[.string a0] w fun e w'=>e=.returned (.bool r)∧bz w w':=by
 have H:(aV.l0 k a0 0)=some r:=h
 clear h
 have H':=ae.mk H
 clear H
 go_enter Tryz.func43,Tryz.ntmps43
 go_wp2
 go_loopg [3] k (fun kq v3 w'=>∃ (fM:Int),v3=.int .i64 fM∧ae (aV.l0 kq a0 fM=some r)∧ae (kq≤k)∧bz w w')
 case atStart=>exact ⟨(0),(by first|rfl|(simp;done)|(simp [*];done)),H',⟨Nat.le_refl _⟩,by repeat (first|exact bz.refl _|apply bz.step)⟩
 case round =>
  clear H'
  obtain ⟨fM,rfl,HA,pJ,⟨m1,rfl⟩⟩:=hrel
  cases gk with
  | zero=>exact absurd HA.out (by simp [aV.l0])
  | succ k1 =>
   have H:=HA.out
   clear HA
   simp only [aV.l0] at H
   by_cases c2:fM < (a0.size:Int)
   ·
    rw [if_pos c2] at H
    have uS:decide (fM < (a0.size:Int))=true:=decide_eq_true c2
    clear c2
    by_cases c3:0≤fM
    ·
     rw [if_pos c3] at H
     have rW:decide (0≤fM)=true:=decide_eq_true c3
     clear c3
     by_cases c5:(bt a0 fM)=45
     ·
      rw [if_pos c5] at H
      have wX:((bt a0 fM) == 45)=true:=beq_iff_eq.mpr c5
      have GR:((bt a0 fM) != 45)=false:=bne_eq_false_iff_eq.mpr c5
      clear c5
      obtain rfl:=Option.some.inj H
      have p4:0≤(fM:Int):=of_decide_eq_true (by first|(with_reducible assumption)|assumption)
      have q4:fM < (a0.size:Int):=of_decide_eq_true (by first|(with_reducible assumption)|assumption)
      have hx4:=kS a0 fM
      replace p4:=eq_true p4
      replace q4:=eq_true q4
      go_wp2
      go_ret
      exact ⟨by first|rfl|(simp;done)|(simp [*];done),by repeat (first|exact bz.refl _|apply bz.step)⟩
     ·
      rw [if_neg c5] at H
      have wX:((bt a0 fM) == 45)=false:=beq_eq_false_iff_ne.mpr c5
      have GR:((bt a0 fM) != 45)=true:=bne_iff_ne.mpr c5
      have H':=ae.mk H
      clear H
      have p4:0≤(fM:Int):=of_decide_eq_true (by first|(with_reducible assumption)|assumption)
      have q4:fM < (a0.size:Int):=of_decide_eq_true (by first|(with_reducible assumption)|assumption)
      have hx4:=kS a0 fM
      replace p4:=eq_true p4
      replace q4:=eq_true q4
      go_wp2
      go_roundg k1
      case measure=>have:=pJ.out;omega
      case rel=>exact ⟨(wrap64 (fM+1)),(by first|rfl|(simp;done)|(simp [*];done)),H',⟨by have:=pJ.out;omega⟩,by repeat (first|exact bz.refl _|apply bz.step)⟩
    ·
     rw [if_neg c3] at H
     exact absurd H (by simp)
   ·
    rw [if_neg c2] at H
    have uS:decide (fM < (a0.size:Int))=false:=decide_eq_false c2
    clear c2
    by_cases c6:a0.toList=([]:List UInt8)
    ·
     rw [if_pos c6] at H
     have oP:(a0.toList == ([]:List UInt8))=true:=beq_iff_eq.mpr c6
     have zx:(a0.toList != ([]:List UInt8))=false:=bne_eq_false_iff_eq.mpr c6
     clear c6
     obtain rfl:=Option.some.inj H
     go_wp2
     go_ret
     exact ⟨by first|rfl|(simp;done)|(simp [*];done),by repeat (first|exact bz.refl _|apply bz.step)⟩
    ·
     rw [if_neg c6] at H
     have oP:(a0.toList == ([]:List UInt8))=false:=beq_eq_false_iff_ne.mpr c6
     have zx:(a0.toList != ([]:List UInt8))=true:=bne_iff_ne.mpr c6
     replace H:=Option.bind_eq_some_iff.mp H
     obtain ⟨t243,A70,H⟩:=H
     replace H:(some t243)=some r:=H
     have A7:=ae.mk A70
     clear A70
     obtain rfl:=Option.some.inj H
     go_wp2_with (first|(go_at_call 36;(with_reducible refine (bg.calls k1 a0 t243 _ A7.out).mono ?_);rintro e w' ⟨rfl,⟨nd,rfl⟩⟩))
     go_ret
     exact ⟨by first|rfl|(simp;done)|(simp [*];done),by repeat (first|exact bz.refl _|apply bz.step)⟩
end Go.Proofs.YtkclndkbccbhaaaGreatDoor.P
end
section
namespace Go.Proofs.YtkclndkbccbhaaaGreatDoor.P
open Go.RowKit Go.Proofs.ag.bK Go.Proofs.ag.dV Go.Proofs.ag.fE
attribute [local go_sem] lI lG ny ni jW jV lH lF
def bC.l0:Nat→ByteArray→List ByteArray→ByteArray→Int→Option (List ByteArray)
 | 0,_,_,_,_=>none
 | k+1,x0,x3,x4,x5=>if x5 < (x0.size:Int) then (if 0≤x5 then (if (bt x0 x5)=35 then (if x4.toList=([]:List UInt8) then (some x3) else (if x3.length < 8796093022208 then (some (x3++[x4])) else (none))) else (if (bt x0 x5)=32 then (if x4.toList=([]:List UInt8) then (bC.l0 k x0 x3 (⟨#[]⟩:ByteArray) (wrap64 (x5+1))) else (if x3.length < 8796093022208 then (bC.l0 k x0 (x3++[x4]) (⟨#[]⟩:ByteArray) (wrap64 (x5+1))) else (none))) else (if x5≤(wrap64 (x5+1)) then (if (wrap64 (x5+1))≤(x0.size:Int) then (if x4.size+(x0.extract (x5:Int).toNat ((wrap64 (x5+1)):Int).toNat).size≤9223372036854775807 then (bC.l0 k x0 x3 (x4++(x0.extract (x5:Int).toNat ((wrap64 (x5+1)):Int).toNat)) (wrap64 (x5+1))) else (none)) else (none)) else (none)))) else (none)) else (if x4.toList=([]:List UInt8) then (some x3) else (if x3.length < 8796093022208 then (some (x3++[x4])) else (none)))
def bC.f (k:Nat) (a0:ByteArray):Option (List ByteArray):=bC.l0 k a0 ([]:List ByteArray) (⟨#[]⟩:ByteArray) 0
theorem bC.iq:∀ k,(∀ y0 y1 y2 y3,dC (bC.l0 k y0 y1 y2 y3) (bC.l0 (k+1) y0 y1 y2 y3))
 | 0=>fun _ _ _ _ r h=>by simp [bC.l0] at h
 | k+1=>by
  have jY:=bC.iq k
  ·
   intro y0 y1 y2 y3
   unfold bC.l0
   repeat' with_reducible first|apply jY|exact dC.refl _|exact dC.none _|refine dC.ite ?_ ?_|refine dC.bind ?_ (fun _=>?_)
theorem bC.mono:∀ a0 k,dC (bC.f k a0) (bC.f (k+1) a0):=by
 intro a0 k
 have jY:=bC.iq k
 unfold bC.f
 repeat' with_reducible first|apply jY|exact dC.refl _|exact dC.none _|refine dC.ite ?_ ?_|refine dC.bind ?_ (fun _=>?_)
set_option maxHeartbeats 8000000 in
set_option maxRecDepth 100000 in
theorem bC.calls (k:Nat) (a0:ByteArray) (r:List ByteArray) (w:World) (h:bC.f k a0=some r) :
  Calls Tryz.prog 35 #[.string a0] w fun e w'=>∃ Df:Value,e=.returned (Df)∧Kd.R Kd.string 9 w' w.heap.size (fun _=>True) Df r∧Below w.heap.size w w':=by
 have HB:=ae.mk (Below.refl w.heap.size w)
 have H:(bC.l0 k a0 ([]:List ByteArray) (⟨#[]⟩:ByteArray) 0)=some r:=h
 clear h
 have H':=ae.mk H
 clear H
 go_enter Tryz.func35,Tryz.ntmps35
 go_wp2
 go_loopg [3,4,5] k (fun kq v3 v4 v5 w'=>∃ (fM:List ByteArray) (iT:ByteArray) (iE:Int),v4=.string iT∧v5=.int .i64 iE∧ae (bC.l0 kq a0 fM iT iE=some r)∧ae (kq≤k)∧ae (Kd.R Kd.string 9 w' w.heap.size (fun _=>True) v3 fM)∧ae (Below w.heap.size w w'))
 case atStart=>exact ⟨(([]:List ByteArray)),((⟨#[]⟩:ByteArray)),(0),(by first|rfl|(simp;done)|(simp [*];done)),(by first|rfl|(simp;done)|(simp [*];done)),H',⟨Nat.le_refl _⟩,⟨by first|exact Kd.jh _ _ _ _ _|exact Kd.oZ _ _ _ _ _|exact Kd.oQ _ _ _ _ _|exact Kd.oW _ _ _ _ _|exact Kd.oU _ _ _ _ _⟩,⟨by repeat (first|(with_reducible first|exact HB.out|apply au|apply af|apply aj)|exact HB.out)⟩⟩
 case round =>
  clear H'
  obtain ⟨fM,iT,iE,rfl,rfl,HA,pJ,EJ,HB⟩:=hrel
  cases gk with
  | zero=>exact absurd HA.out (by simp [bC.l0])
  | succ k1 =>
   have H:=HA.out
   clear HA
   simp only [bC.l0] at H
   by_cases c2:iE < (a0.size:Int)
   ·
    rw [if_pos c2] at H
    have uS:decide (iE < (a0.size:Int))=true:=decide_eq_true c2
    clear c2
    by_cases c3:0≤iE
    ·
     rw [if_pos c3] at H
     have rW:decide (0≤iE)=true:=decide_eq_true c3
     clear c3
     by_cases c5:(bt a0 iE)=35
     ·
      rw [if_pos c5] at H
      have wX:((bt a0 iE) == 35)=true:=beq_iff_eq.mpr c5
      have GR:((bt a0 iE) != 35)=false:=bne_eq_false_iff_eq.mpr c5
      clear c5
      by_cases c6:iT.toList=([]:List UInt8)
      ·
       rw [if_pos c6] at H
       have oP:(iT.toList == ([]:List UInt8))=true:=beq_iff_eq.mpr c6
       have zx:(iT.toList != ([]:List UInt8))=false:=bne_eq_false_iff_eq.mpr c6
       clear c6
       obtain rfl:=Option.some.inj H
       have p4:0≤(iE:Int):=of_decide_eq_true (by first|(with_reducible assumption)|assumption)
       have q4:iE < (a0.size:Int):=of_decide_eq_true (by first|(with_reducible assumption)|assumption)
       have hx4:=kS a0 iE
       replace p4:=eq_true p4
       replace q4:=eq_true q4
       go_wp2
       go_ret
       exact ⟨_,by first|rfl|(simp [bF,bD] <;> rfl)|(simp [*,bF,bD] <;> rfl),by (with_reducible repeat (first|apply Kd.aX|apply Kd.aY|apply Kd.bG));exact EJ.out,by repeat (first|(with_reducible first|exact HB.out|apply au|apply af|apply aj)|exact HB.out)⟩
      ·
       rw [if_neg c6] at H
       have oP:(iT.toList == ([]:List UInt8))=false:=beq_eq_false_iff_ne.mpr c6
       have zx:(iT.toList != ([]:List UInt8))=true:=bne_iff_ne.mpr c6
       by_cases c7:fM.length < 8796093022208
       ·
        rw [if_pos c7] at H
        have akq:=ae.mk c7
        clear c7
        obtain ⟨ajt,Iw⟩:∃ y_:List ByteArray,y_=(fM++[iT]):=⟨_,rfl⟩
        replace H:(some ajt)=some r:=by first|(rw [Iw];with_reducible exact H)|(have qX:=(Option.bind_some _ _).symm.trans H;rw [Iw];with_reducible exact qX)|(have qX:=(Option.bind_some _ _).symm.trans H;with_reducible exact qX)|with_reducible exact H|(rw [Iw];exact H)|exact H
        have acJ:=ae.mk Iw
        clear Iw
        obtain rfl:=Option.some.inj H
        have p4:0≤(iE:Int):=of_decide_eq_true (by first|(with_reducible assumption)|assumption)
        have q4:iE < (a0.size:Int):=of_decide_eq_true (by first|(with_reducible assumption)|assumption)
        have hx4:=kS a0 iE
        replace p4:=eq_true p4
        replace q4:=eq_true q4
        go_wp2_with (first|((with_reducible refine jm (b:=.append) (xs:=#[.tmp 35,.tmp 37]) rfl ?_);at_builtin;refine Kd.oz Kd.string (w0:=w) w.heap.size rfl (.tmp 35) (.tmp 37) 22 9 (.string ⟨#[]⟩) 16 rfl Tryz.underlying22 info9 rfl (by decide) (by omega) u3 fM iT [.string iT] (fun _=>True) (fun _=>False) rfl rfl ?aP (fun _ hk=>hk.elim) ?aF ?aO ?aB ?aS ?aL ?_;(case aP=>exact rfl);(case aB=>exact (by repeat (first|(with_reducible first|exact HB.out|apply au|apply af|apply aj)|exact HB.out)));(case aF=>exact (fun _ _=>trivial));(case aO=>exact (by (with_reducible repeat (first|apply Kd.aX|apply Kd.aY|apply Kd.bG));exact EJ.out));(case aS=>exact (aZ (by repeat (first|(with_reducible first|exact HB.out|apply au|apply af|apply aj)|exact HB.out))));(case aL=>have:=akq.out;omega);intro amK w8 ho hb hg hat;rw [← acJ.out] at ho;have dG:=ae.mk (hb);have dM:=ae.mk (ho);clear HB;clear EJ;have HB:=dG;have ac8:=dM;clear dG dM;clear ho hb hg hat))
        go_ret
        exact ⟨_,by first|rfl|(simp [bF,bD] <;> rfl)|(simp [*,bF,bD] <;> rfl),by (with_reducible repeat (first|apply Kd.aX|apply Kd.aY|apply Kd.bG));exact ac8.out,by repeat (first|(with_reducible first|exact HB.out|apply au|apply af|apply aj)|exact HB.out)⟩
       ·
        rw [if_neg c7] at H
        exact absurd H (by simp)
     ·
      rw [if_neg c5] at H
      have wX:((bt a0 iE) == 35)=false:=beq_eq_false_iff_ne.mpr c5
      have GR:((bt a0 iE) != 35)=true:=bne_iff_ne.mpr c5
      by_cases c10:(bt a0 iE)=32
      ·
       rw [if_pos c10] at H
       have mM:((bt a0 iE) == 32)=true:=beq_iff_eq.mpr c10
       have ui:((bt a0 iE) != 32)=false:=bne_eq_false_iff_eq.mpr c10
       clear c10
       by_cases c11:iT.toList=([]:List UInt8)
       ·
        rw [if_pos c11] at H
        have uF:(iT.toList == ([]:List UInt8))=true:=beq_iff_eq.mpr c11
        have BK:(iT.toList != ([]:List UInt8))=false:=bne_eq_false_iff_eq.mpr c11
        clear c11
        have H':=ae.mk H
        clear H
        have p4:0≤(iE:Int):=of_decide_eq_true (by first|(with_reducible assumption)|assumption)
        have q4:iE < (a0.size:Int):=of_decide_eq_true (by first|(with_reducible assumption)|assumption)
        have hx4:=kS a0 iE
        replace p4:=eq_true p4
        replace q4:=eq_true q4
        have p9:0≤(iE:Int):=of_decide_eq_true (by first|(with_reducible assumption)|assumption)
        have q9:iE < (a0.size:Int):=of_decide_eq_true (by first|(with_reducible assumption)|assumption)
        have hx9:=kS a0 iE
        replace p9:=eq_true p9
        replace q9:=eq_true q9
        go_wp2
        go_roundg k1
        case measure=>have:=pJ.out;omega
        case rel=>exact ⟨(fM),((⟨#[]⟩:ByteArray)),(wrap64 (iE+1)),(by first|rfl|(simp;done)|(simp [*];done)),(by first|rfl|(simp;done)|(simp [*];done)),H',⟨by have:=pJ.out;omega⟩,⟨by (with_reducible repeat (first|apply Kd.aX|apply Kd.aY|apply Kd.bG));exact EJ.out⟩,⟨by repeat (first|(with_reducible first|exact HB.out|apply au|apply af|apply aj)|exact HB.out)⟩⟩
       ·
        rw [if_neg c11] at H
        have uF:(iT.toList == ([]:List UInt8))=false:=beq_eq_false_iff_ne.mpr c11
        have BK:(iT.toList != ([]:List UInt8))=true:=bne_iff_ne.mpr c11
        by_cases c12:fM.length < 8796093022208
        ·
         rw [if_pos c12] at H
         have acZ:=ae.mk c12
         clear c12
         obtain ⟨aaX,Iu⟩:∃ y_:List ByteArray,y_=(fM++[iT]):=⟨_,rfl⟩
         replace H:(bC.l0 k1 a0 aaX (⟨#[]⟩:ByteArray) (wrap64 (iE+1)))=some r:=by first|(rw [Iu];with_reducible exact H)|(have qX:=(Option.bind_some _ _).symm.trans H;rw [Iu];with_reducible exact qX)|(have qX:=(Option.bind_some _ _).symm.trans H;with_reducible exact qX)|with_reducible exact H|(rw [Iu];exact H)|exact H
         have acI:=ae.mk Iu
         clear Iu
         have H':=ae.mk H
         clear H
         have p4:0≤(iE:Int):=of_decide_eq_true (by first|(with_reducible assumption)|assumption)
         have q4:iE < (a0.size:Int):=of_decide_eq_true (by first|(with_reducible assumption)|assumption)
         have hx4:=kS a0 iE
         replace p4:=eq_true p4
         replace q4:=eq_true q4
         have p9:0≤(iE:Int):=of_decide_eq_true (by first|(with_reducible assumption)|assumption)
         have q9:iE < (a0.size:Int):=of_decide_eq_true (by first|(with_reducible assumption)|assumption)
         have hx9:=kS a0 iE
         replace p9:=eq_true p9
         replace q9:=eq_true q9
         go_wp2_with (first|((with_reducible refine jm (b:=.append) (xs:=#[.tmp 29,.tmp 31]) rfl ?_);at_builtin;refine Kd.oz Kd.string (w0:=w) w.heap.size rfl (.tmp 29) (.tmp 31) 22 9 (.string ⟨#[]⟩) 16 rfl Tryz.underlying22 info9 rfl (by decide) (by omega) u3 fM iT [.string iT] (fun _=>True) (fun _=>False) rfl rfl ?aP (fun _ hk=>hk.elim) ?aF ?aO ?aB ?aS ?aL ?_;(case aP=>exact rfl);(case aB=>exact (by repeat (first|(with_reducible first|exact HB.out|apply au|apply af|apply aj)|exact HB.out)));(case aF=>exact (fun _ _=>trivial));(case aO=>exact (by (with_reducible repeat (first|apply Kd.aX|apply Kd.aY|apply Kd.bG));exact EJ.out));(case aS=>exact (aZ (by repeat (first|(with_reducible first|exact HB.out|apply au|apply af|apply aj)|exact HB.out))));(case aL=>have:=acZ.out;omega);intro amJ w13 ho hb hg hat;rw [← acI.out] at ho;have dG:=ae.mk (hb);have dM:=ae.mk (ho);clear HB;clear EJ;have HB:=dG;have ac7:=dM;clear dG dM;clear ho hb hg hat))
         go_roundg k1
         case measure=>have:=pJ.out;omega
         case rel=>exact ⟨(aaX),((⟨#[]⟩:ByteArray)),(wrap64 (iE+1)),(by first|rfl|(simp;done)|(simp [*];done)),(by first|rfl|(simp;done)|(simp [*];done)),H',⟨by have:=pJ.out;omega⟩,⟨by (with_reducible repeat (first|apply Kd.aX|apply Kd.aY|apply Kd.bG));exact ac7.out⟩,⟨by repeat (first|(with_reducible first|exact HB.out|apply au|apply af|apply aj)|exact HB.out)⟩⟩
        ·
         rw [if_neg c12] at H
         exact absurd H (by simp)
      ·
       rw [if_neg c10] at H
       have mM:((bt a0 iE) == 32)=false:=beq_eq_false_iff_ne.mpr c10
       have ui:((bt a0 iE) != 32)=true:=bne_iff_ne.mpr c10
       have vH:=eq_true (of_decide_eq_true (by first|(with_reducible assumption)|assumption):0≤iE)
       by_cases c15:iE≤(wrap64 (iE+1))
       ·
        rw [if_pos c15] at H
        have vG:=eq_true c15
        have IV:decide (iE≤(wrap64 (iE+1)))=true:=decide_eq_true c15
        by_cases c16:(wrap64 (iE+1))≤(a0.size:Int)
        ·
         rw [if_pos c16] at H
         have BI:=eq_true c16
         have YB:decide ((wrap64 (iE+1))≤(a0.size:Int))=true:=decide_eq_true c16
         by_cases c17:iT.size+(a0.extract (iE:Int).toNat ((wrap64 (iE+1)):Int).toNat).size≤9223372036854775807
         ·
          rw [if_pos c17] at H
          have D7:=eq_true c17
          have IU:decide (iT.size+(a0.extract (iE:Int).toNat ((wrap64 (iE+1)):Int).toNat).size≤9223372036854775807)=true:=decide_eq_true c17
          try have al4:(9223372036854775807 < iT.size+(a0.extract (iE:Int).toNat ((wrap64 (iE+1)):Int).toNat).size)=False:=eq_false (Nat.not_lt.2 c17)
          have H':=ae.mk H
          clear H
          have p4:0≤(iE:Int):=of_decide_eq_true (by first|(with_reducible assumption)|assumption)
          have q4:iE < (a0.size:Int):=of_decide_eq_true (by first|(with_reducible assumption)|assumption)
          have hx4:=kS a0 iE
          replace p4:=eq_true p4
          replace q4:=eq_true q4
          have p9:0≤(iE:Int):=of_decide_eq_true (by first|(with_reducible assumption)|assumption)
          have q9:iE < (a0.size:Int):=of_decide_eq_true (by first|(with_reducible assumption)|assumption)
          have hx9:=kS a0 iE
          replace p9:=eq_true p9
          replace q9:=eq_true q9
          go_wp2
          go_roundg k1
          case measure=>have:=pJ.out;omega
          case rel=>exact ⟨(fM),(iT++(a0.extract (iE:Int).toNat ((wrap64 (iE+1)):Int).toNat)),(wrap64 (iE+1)),(by first|rfl|(simp;done)|(simp [*];done)),(by first|rfl|(simp;done)|(simp [*];done)),H',⟨by have:=pJ.out;omega⟩,⟨by (with_reducible repeat (first|apply Kd.aX|apply Kd.aY|apply Kd.bG));exact EJ.out⟩,⟨by repeat (first|(with_reducible first|exact HB.out|apply au|apply af|apply aj)|exact HB.out)⟩⟩
         ·
          rw [if_neg c17] at H
          exact absurd H (by simp)
        ·
         rw [if_neg c16] at H
         exact absurd H (by simp)
       ·
        rw [if_neg c15] at H
        exact absurd H (by simp)
    ·
     rw [if_neg c3] at H
     exact absurd H (by simp)
   ·
    rw [if_neg c2] at H
    have uS:decide (iE < (a0.size:Int))=false:=decide_eq_false c2
    clear c2
    by_cases c18:iT.toList=([]:List UInt8)
    ·
     rw [if_pos c18] at H
     have Sl:(iT.toList == ([]:List UInt8))=true:=beq_iff_eq.mpr c18
     have Sj:(iT.toList != ([]:List UInt8))=false:=bne_eq_false_iff_eq.mpr c18
     clear c18
     obtain rfl:=Option.some.inj H
     go_wp2
     go_ret
     exact ⟨_,by first|rfl|(simp [bF,bD] <;> rfl)|(simp [*,bF,bD] <;> rfl),by (with_reducible repeat (first|apply Kd.aX|apply Kd.aY|apply Kd.bG));exact EJ.out,by repeat (first|(with_reducible first|exact HB.out|apply au|apply af|apply aj)|exact HB.out)⟩
    ·
     rw [if_neg c18] at H
     have Sl:(iT.toList == ([]:List UInt8))=false:=beq_eq_false_iff_ne.mpr c18
     have Sj:(iT.toList != ([]:List UInt8))=true:=bne_iff_ne.mpr c18
     by_cases c19:fM.length < 8796093022208
     ·
      rw [if_pos c19] at H
      have acW:=ae.mk c19
      clear c19
      obtain ⟨aju,Iy⟩:∃ y_:List ByteArray,y_=(fM++[iT]):=⟨_,rfl⟩
      replace H:(some aju)=some r:=by first|(rw [Iy];with_reducible exact H)|(have qX:=(Option.bind_some _ _).symm.trans H;rw [Iy];with_reducible exact qX)|(have qX:=(Option.bind_some _ _).symm.trans H;with_reducible exact qX)|with_reducible exact H|(rw [Iy];exact H)|exact H
      have acK:=ae.mk Iy
      clear Iy
      obtain rfl:=Option.some.inj H
      go_wp2_with (first|((with_reducible refine jm (b:=.append) (xs:=#[.tmp 35,.tmp 37]) rfl ?_);at_builtin;refine Kd.oz Kd.string (w0:=w) w.heap.size rfl (.tmp 35) (.tmp 37) 22 9 (.string ⟨#[]⟩) 16 rfl Tryz.underlying22 info9 rfl (by decide) (by omega) u3 fM iT [.string iT] (fun _=>True) (fun _=>False) rfl rfl ?aP (fun _ hk=>hk.elim) ?aF ?aO ?aB ?aS ?aL ?_;(case aP=>exact rfl);(case aB=>exact (by repeat (first|(with_reducible first|exact HB.out|apply au|apply af|apply aj)|exact HB.out)));(case aF=>exact (fun _ _=>trivial));(case aO=>exact (by (with_reducible repeat (first|apply Kd.aX|apply Kd.aY|apply Kd.bG));exact EJ.out));(case aS=>exact (aZ (by repeat (first|(with_reducible first|exact HB.out|apply au|apply af|apply aj)|exact HB.out))));(case aL=>have:=acW.out;omega);intro amL w20 ho hb hg hat;rw [← acK.out] at ho;have dG:=ae.mk (hb);have dM:=ae.mk (ho);clear HB;clear EJ;have HB:=dG;have ac9:=dM;clear dG dM;clear ho hb hg hat))
      go_ret
      exact ⟨_,by first|rfl|(simp [bF,bD] <;> rfl)|(simp [*,bF,bD] <;> rfl),by (with_reducible repeat (first|apply Kd.aX|apply Kd.aY|apply Kd.bG));exact ac9.out,by repeat (first|(with_reducible first|exact HB.out|apply au|apply af|apply aj)|exact HB.out)⟩
     ·
      rw [if_neg c19] at H
      exact absurd H (by simp)
end Go.Proofs.YtkclndkbccbhaaaGreatDoor.P
end
