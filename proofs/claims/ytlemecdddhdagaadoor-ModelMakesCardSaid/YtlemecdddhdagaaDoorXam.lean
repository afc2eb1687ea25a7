/- Parts of the proof of ModelMakes: what the functions that it reaches compute, and plain facts about that. -/
import Derived.Test.YtlemecdddhdagaaDoorXab
import Derived.Test.YtlemecdddhdagaaDoorXal
set_option linter.unusedVariables false
set_option linter.unusedSimpArgs false
section
namespace Go.Proofs.YtlemecdddhdagaaDoor.P
open Go.RowKit Go.Proofs.ag.bH Go.Proofs.ag.dM Go.Proofs.ag.dY
attribute [local go_sem] kR kP lU lT jM jL kQ kN
def dZ.f (a0:Int) (a1:Int):Option (Int):=if a0 < 48 then (some (-1)) else (if ((a0 - 48) % 256) ≥ a1 then (some (-1)) else (some ((a0 - 48) % 256)))
set_option maxHeartbeats 8000000 in
set_option maxRecDepth 100000 in
theorem dZ.calls (a0:Int) (a1:Int) (r:Int) (w:World) (h:dZ.f a0 a1=some r) :
  Calls Tryd.prog 43 #[.int .u8 a0,.int .i64 a1] w fun e w'=>e=.returned (.int .i64 r)∧aV w w':=by
 have H:(if a0 < 48 then (some (-1)) else (if ((a0 - 48) % 256) ≥ a1 then (some (-1)) else (some ((a0 - 48) % 256))))=some r:=h
 clear h
 by_cases c3:a0 < 48
 ·
  rw [if_pos c3] at H
  have nS:decide (a0 < 48)=true:=decide_eq_true c3
  clear c3
  obtain rfl:=Option.some.inj H
  go_enter Tryd.func43,Tryd.ntmps43
  go_wp2
  go_ret
  exact ⟨by first|rfl|(simp;done)|(simp [*];done),by repeat (first|exact aV.refl _|apply aV.step)⟩
 ·
  rw [if_neg c3] at H
  have nS:decide (a0 < 48)=false:=decide_eq_false c3
  clear c3
  by_cases c4:((a0 - 48) % 256) ≥ a1
  ·
   rw [if_pos c4] at H
   have nR:decide (a1≤((a0 - 48) % 256))=true:=decide_eq_true c4
   clear c4
   obtain rfl:=Option.some.inj H
   go_enter Tryd.func43,Tryd.ntmps43
   go_wp2
   go_ret
   exact ⟨by first|rfl|(simp;done)|(simp [*];done),by repeat (first|exact aV.refl _|apply aV.step)⟩
  ·
   rw [if_neg c4] at H
   have nR:decide (a1≤((a0 - 48) % 256))=false:=decide_eq_false c4
   clear c4
   obtain rfl:=Option.some.inj H
   go_enter Tryd.func43,Tryd.ntmps43
   go_wp2
   go_ret
   exact ⟨by first|rfl|(simp;done)|(simp [*];done),by repeat (first|exact aV.refl _|apply aV.step)⟩
mutual
def aK.l0:Nat→List ByteArray→Int→Option (Bool)
 | 0,_,_=>none
 | k+1,x0,x3=>if x3 < (x0.length:Int) then (if 0≤x3 then (aK.l1 k x0 x3 (dV ByteArray.empty x0 x3) 0) else (none)) else (if (x0.length:Int) ≥ 1 then (some (decide ((x0.length:Int)≤8))) else (some false))
def aK.l1:Nat→List ByteArray→Int→ByteArray→Int→Option (Bool)
 | 0,_,_,_,_=>none
 | k+1,x0,x3,x4,x5=>if x5 < (x4.size:Int) then (if 0≤x5 then (if (bt x4 x5)=105 then (aK.l1 k x0 x3 x4 (wrap64 (x5+1))) else ((dZ.f (bt x4 x5) (x0.length:Int)).bind fun t102=>(if t102 < 0 then (some false) else (aK.l1 k x0 x3 x4 (wrap64 (x5+1)))))) else (none)) else (if (x4.size:Int) < 1 then (some false) else (if (x4.size:Int) > 6 then (some false) else (aK.l0 k x0 (wrap64 (x3+1)))))
end
def aK.f (k:Nat) (l0:List ByteArray):Option (Bool):=aK.l0 k l0 0
theorem aK.gZ:∀ k,(∀ y0 y1,dK (aK.l0 k y0 y1) (aK.l0 (k+1) y0 y1))∧(∀ y0 y1 y2 y3,dK (aK.l1 k y0 y1 y2 y3) (aK.l1 (k+1) y0 y1 y2 y3))
 | 0=>⟨fun _ _ r h=>by simp [aK.l0] at h,fun _ _ _ _ r h=>by simp [aK.l1] at h⟩
 | k+1=>by
  obtain ⟨lu,ih1⟩:=aK.gZ k
  refine ⟨?_,?_⟩
  ·
   intro y0 y1
   unfold aK.l0
   repeat' with_reducible first|apply lu|apply ih1|exact dK.refl _|exact dK.none _|refine dK.ite ?_ ?_|refine dK.bind ?_ (fun _=>?_)
  ·
   intro y0 y1 y2 y3
   unfold aK.l1
   repeat' with_reducible first|apply lu|apply ih1|exact dK.refl _|exact dK.none _|refine dK.ite ?_ ?_|refine dK.bind ?_ (fun _=>?_)
theorem aK.mono:∀ a0 k,dK (aK.f k a0) (aK.f (k+1) a0):=by
 intro a0 k
 obtain ⟨lu,ih1⟩:=aK.gZ k
 unfold aK.f
 repeat' with_reducible first|apply lu|apply ih1|exact dK.refl _|exact dK.none _|refine dK.ite ?_ ?_|refine dK.bind ?_ (fun _=>?_)
set_option maxHeartbeats 8000000 in
set_option maxRecDepth 100000 in
theorem aK.calls (k:Nat) (A0:Option Addr) (c0:Nat) (l0:List ByteArray) (r:Bool) (w:World) (hr0:Kd.C Kd.string w A0 l0.length l0) (hc0:l0.length≤c0) (h:aK.f k l0=some r) :
  Calls Tryd.prog 44 #[.slice A0 l0.length c0] w fun e w'=>e=.returned (.bool r)∧aV w w':=by
 have HR0:=ae.mk hr0
 have tC:=ae.mk hc0
 clear hr0 hc0
 have H:(aK.l0 k l0 0)=some r:=h
 clear h
 have H':=ae.mk H
 clear H
 go_enter Tryd.func44,Tryd.ntmps44
 go_wp2
 go_loopg [3] k (fun kq v3 w'=>∃ (jT:Int),v3=.int .i64 jT∧ae (aK.l0 kq l0 jT=some r)∧ae (kq≤k)∧aV w w')
 case atStart=>exact ⟨(0),(by first|rfl|(simp;done)|(simp [*];done)),H',⟨Nat.le_refl _⟩,by repeat (first|exact aV.refl _|apply aV.step)⟩
 case round =>
  clear H'
  obtain ⟨jT,rfl,HA,tq,⟨m1,rfl⟩⟩:=hrel
  cases gk with
  | zero=>exact absurd HA.out (by simp [aK.l0])
  | succ k1 =>
   have H:=HA.out
   clear HA
   simp only [aK.l0] at H
   by_cases c2:jT < (l0.length:Int)
   ·
    rw [if_pos c2] at H
    have DF:decide (jT < (l0.length:Int))=true:=decide_eq_true c2
    clear c2
    by_cases c3:0≤jT
    ·
     rw [if_pos c3] at H
     have nS:decide (0≤jT)=true:=decide_eq_true c3
     clear c3
     have H':=ae.mk H
     clear H
     have F7:0≤(jT:Int):=of_decide_eq_true (by first|(with_reducible assumption)|assumption)
     have FW:jT < (l0.length:Int):=of_decide_eq_true (by first|(with_reducible assumption)|assumption)
     obtain ⟨acz,Yv,QU⟩:=Kd.kC HR0.out jT F7 FW
     cases Yv
     replace F7:=eq_true F7
     replace FW:=eq_true FW
     go_wp2
     go_loopg [5] k1 (fun kq v5 w'=>∃ (nH:Int),v5=.int .i64 nH∧ae (aK.l1 kq l0 jT (dV ByteArray.empty l0 jT) nH=some r)∧ae (kq≤k1)∧aV w w')
     case atStart=>exact ⟨(0),(by first|rfl|(simp;done)|(simp [*];done)),H',⟨Nat.le_refl _⟩,by repeat (first|exact aV.refl _|apply aV.step)⟩
     case round =>
      clear H'
      obtain ⟨nH,rfl,HA,Ap,⟨m2,rfl⟩⟩:=hrel
      cases gk with
      | zero=>exact absurd HA.out (by simp [aK.l1])
      | succ k2 =>
       have H:=HA.out
       clear HA
       simp only [aK.l1] at H
       by_cases c4:nH < ((dV ByteArray.empty l0 jT).size:Int)
       ·
        rw [if_pos c4] at H
        have nR:decide (nH < ((dV ByteArray.empty l0 jT).size:Int))=true:=decide_eq_true c4
        clear c4
        by_cases c5:0≤nH
        ·
         rw [if_pos c5] at H
         have qO:decide (0≤nH)=true:=decide_eq_true c5
         clear c5
         by_cases c7:(bt (dV ByteArray.empty l0 jT) nH)=105
         ·
          rw [if_pos c7] at H
          have oG:((bt (dV ByteArray.empty l0 jT) nH) == 105)=true:=beq_iff_eq.mpr c7
          have yu:((bt (dV ByteArray.empty l0 jT) nH) != 105)=false:=bne_eq_false_iff_eq.mpr c7
          clear c7
          have H':=ae.mk H
          clear H
          have p6:0≤(nH:Int):=of_decide_eq_true (by first|(with_reducible assumption)|assumption)
          have q6:nH < ((dV ByteArray.empty l0 jT).size:Int):=of_decide_eq_true (by first|(with_reducible assumption)|assumption)
          have hx6:=kF (dV ByteArray.empty l0 jT) nH
          replace p6:=eq_true p6
          replace q6:=eq_true q6
          go_wp2
          go_roundg k2
          case measure=>have:=tq.out;have:=Ap.out;omega
          case rel=>exact ⟨(wrap64 (nH+1)),(by first|rfl|(simp;done)|(simp [*];done)),H',⟨by have:=tq.out;have:=Ap.out;omega⟩,by repeat (first|exact aV.refl _|apply aV.step)⟩
         ·
          rw [if_neg c7] at H
          have oG:((bt (dV ByteArray.empty l0 jT) nH) == 105)=false:=beq_eq_false_iff_ne.mpr c7
          have yu:((bt (dV ByteArray.empty l0 jT) nH) != 105)=true:=bne_iff_ne.mpr c7
          replace H:=Option.bind_eq_some_iff.mp H
          obtain ⟨t102,MC,H⟩:=H
          replace H:(if t102 < 0 then (some false) else (aK.l1 k2 l0 jT (dV ByteArray.empty l0 jT) (wrap64 (nH+1))))=some r:=H
          have A9:=ae.mk MC
          clear MC
          by_cases c10:t102 < 0
          ·
           rw [if_pos c10] at H
           have oN:decide (t102 < 0)=true:=decide_eq_true c10
           clear c10
           obtain rfl:=Option.some.inj H
           have p6:0≤(nH:Int):=of_decide_eq_true (by first|(with_reducible assumption)|assumption)
           have q6:nH < ((dV ByteArray.empty l0 jT).size:Int):=of_decide_eq_true (by first|(with_reducible assumption)|assumption)
           have hx6:=kF (dV ByteArray.empty l0 jT) nH
           replace p6:=eq_true p6
           replace q6:=eq_true q6
           have p8:0≤(nH:Int):=of_decide_eq_true (by first|(with_reducible assumption)|assumption)
           have q8:nH < ((dV ByteArray.empty l0 jT).size:Int):=of_decide_eq_true (by first|(with_reducible assumption)|assumption)
           have hx8:=kF (dV ByteArray.empty l0 jT) nH
           replace p8:=eq_true p8
           replace q8:=eq_true q8
           go_wp2_with (first|(go_at_call 43;(with_reducible refine (dZ.calls (bt (dV ByteArray.empty l0 jT) nH) (l0.length:Int) t102 _ A9.out).mono ?_);rintro e w' ⟨rfl,⟨nd,rfl⟩⟩))
           go_ret
           exact ⟨by first|rfl|(simp;done)|(simp [*];done),by repeat (first|exact aV.refl _|apply aV.step)⟩
          ·
           rw [if_neg c10] at H
           have oN:decide (t102 < 0)=false:=decide_eq_false c10
           clear c10
           have H':=ae.mk H
           clear H
           have p6:0≤(nH:Int):=of_decide_eq_true (by first|(with_reducible assumption)|assumption)
           have q6:nH < ((dV ByteArray.empty l0 jT).size:Int):=of_decide_eq_true (by first|(with_reducible assumption)|assumption)
           have hx6:=kF (dV ByteArray.empty l0 jT) nH
           replace p6:=eq_true p6
           replace q6:=eq_true q6
           have p8:0≤(nH:Int):=of_decide_eq_true (by first|(with_reducible assumption)|assumption)
           have q8:nH < ((dV ByteArray.empty l0 jT).size:Int):=of_decide_eq_true (by first|(with_reducible assumption)|assumption)
           have hx8:=kF (dV ByteArray.empty l0 jT) nH
           replace p8:=eq_true p8
           replace q8:=eq_true q8
           go_wp2_with (first|(go_at_call 43;(with_reducible refine (dZ.calls (bt (dV ByteArray.empty l0 jT) nH) (l0.length:Int) t102 _ A9.out).mono ?_);rintro e w' ⟨rfl,⟨nd,rfl⟩⟩))
           go_roundg k2
           case measure=>have:=tq.out;have:=Ap.out;omega
           case rel=>exact ⟨(wrap64 (nH+1)),(by first|rfl|(simp;done)|(simp [*];done)),H',⟨by have:=tq.out;have:=Ap.out;omega⟩,by repeat (first|exact aV.refl _|apply aV.step)⟩
        ·
         rw [if_neg c5] at H
         exact absurd H (by simp)
       ·
        rw [if_neg c4] at H
        have nR:decide (nH < ((dV ByteArray.empty l0 jT).size:Int))=false:=decide_eq_false c4
        clear c4
        by_cases c11:((dV ByteArray.empty l0 jT).size:Int) < 1
        ·
         rw [if_pos c11] at H
         have uk:decide (((dV ByteArray.empty l0 jT).size:Int) < 1)=true:=decide_eq_true c11
         have BM:decide ((dV ByteArray.empty l0 jT).size < 1)=true:=decide_eq_true (by omega)
         clear c11
         obtain rfl:=Option.some.inj H
         go_wp2
         go_ret
         exact ⟨by first|rfl|(simp;done)|(simp [*];done),by repeat (first|exact aV.refl _|apply aV.step)⟩
        ·
         rw [if_neg c11] at H
         have uk:decide (((dV ByteArray.empty l0 jT).size:Int) < 1)=false:=decide_eq_false c11
         have BM:decide ((dV ByteArray.empty l0 jT).size < 1)=false:=decide_eq_false (by omega)
         clear c11
         by_cases c12:((dV ByteArray.empty l0 jT).size:Int) > 6
         ·
          rw [if_pos c12] at H
          have vJ:decide (6 < ((dV ByteArray.empty l0 jT).size:Int))=true:=decide_eq_true c12
          have Pq:decide (6 < (dV ByteArray.empty l0 jT).size)=true:=decide_eq_true (by omega)
          clear c12
          obtain rfl:=Option.some.inj H
          go_wp2
          go_ret
          exact ⟨by first|rfl|(simp;done)|(simp [*];done),by repeat (first|exact aV.refl _|apply aV.step)⟩
         ·
          rw [if_neg c12] at H
          have vJ:decide (6 < ((dV ByteArray.empty l0 jT).size:Int))=false:=decide_eq_false c12
          have Pq:decide (6 < (dV ByteArray.empty l0 jT).size)=false:=decide_eq_false (by omega)
          clear c12
          have H':=ae.mk H
          clear H
          go_wp2
          go_roundg k2
          case measure=>have:=tq.out;have:=Ap.out;omega
          case rel=>exact ⟨(wrap64 (jT+1)),(by first|rfl|(simp;done)|(simp [*];done)),H',⟨by have:=tq.out;have:=Ap.out;omega⟩,by repeat (first|exact aV.refl _|apply aV.step)⟩
    ·
     rw [if_neg c3] at H
     exact absurd H (by simp)
   ·
    rw [if_neg c2] at H
    have DF:decide (jT < (l0.length:Int))=false:=decide_eq_false c2
    clear c2
    by_cases c13:(l0.length:Int) ≥ 1
    ·
     rw [if_pos c13] at H
     have lZ:decide (1≤(l0.length:Int))=true:=decide_eq_true c13
     have wX:decide (1≤l0.length)=true:=decide_eq_true (by omega)
     clear c13
     obtain rfl:=Option.some.inj H
     go_wp2
     go_ret
     exact ⟨by first|rfl|(simp;done)|(simp [*];done),by repeat (first|exact aV.refl _|apply aV.step)⟩
    ·
     rw [if_neg c13] at H
     have lZ:decide (1≤(l0.length:Int))=false:=decide_eq_false c13
     have wX:decide (1≤l0.length)=false:=decide_eq_false (by omega)
     clear c13
     obtain rfl:=Option.some.inj H
     go_wp2
     go_ret
     exact ⟨by first|rfl|(simp;done)|(simp [*];done),by repeat (first|exact aV.refl _|apply aV.step)⟩
def aW.l0:Nat→List ByteArray→ByteArray→Int→Option (Bool)
 | 0,_,_,_=>none
 | k+1,x0,x1,x5=>if x5 < (x1.size:Int) then (if 0≤x5 then ((dZ.f (bt x1 x5) (x0.length:Int)).bind fun t103=>(if t103 < 0 then (some false) else (aW.l0 k x0 x1 (wrap64 (x5+1))))) else (none)) else ((aK.f k x0).bind fun t104=>(some t104))
def aW.f (k:Nat) (l0:List ByteArray) (a1:ByteArray):Option (Bool):=aW.l0 k l0 a1 0
theorem aW.gZ:∀ k,(∀ y0 y1 y2,dK (aW.l0 k y0 y1 y2) (aW.l0 (k+1) y0 y1 y2))
 | 0=>fun _ _ _ r h=>by simp [aW.l0] at h
 | k+1=>by
  have lu:=aW.gZ k
  ·
   intro y0 y1 y2
   unfold aW.l0
   repeat' with_reducible first|apply lu|apply aK.mono|exact dK.refl _|exact dK.none _|refine dK.ite ?_ ?_|refine dK.bind ?_ (fun _=>?_)
theorem aW.mono:∀ a0 a1 k,dK (aW.f k a0 a1) (aW.f (k+1) a0 a1):=by
 intro a0 a1 k
 have lu:=aW.gZ k
 unfold aW.f
 repeat' with_reducible first|apply lu|apply aK.mono|exact dK.refl _|exact dK.none _|refine dK.ite ?_ ?_|refine dK.bind ?_ (fun _=>?_)
set_option maxHeartbeats 8000000 in
set_option maxRecDepth 100000 in
theorem aW.calls (k:Nat) (A0:Option Addr) (c0:Nat) (l0:List ByteArray) (a1:ByteArray) (r:Bool) (w:World) (hr0:Kd.C Kd.string w A0 l0.length l0) (hc0:l0.length≤c0) (h:aW.f k l0 a1=some r) :
  Calls Tryd.prog 27 #[.slice A0 l0.length c0,.string a1] w fun e w'=>e=.returned (.bool r)∧aV w w':=by
 have HR0:=ae.mk hr0
 have tC:=ae.mk hc0
 clear hr0 hc0
 have H:(aW.l0 k l0 a1 0)=some r:=h
 clear h
 have H':=ae.mk H
 clear H
 go_enter Tryd.func27,Tryd.ntmps27
 go_wp2
 go_loopg [5] k (fun kq v5 w'=>∃ (mO:Int),v5=.int .i64 mO∧ae (aW.l0 kq l0 a1 mO=some r)∧ae (kq≤k)∧aV w w')
 case atStart=>exact ⟨(0),(by first|rfl|(simp;done)|(simp [*];done)),H',⟨Nat.le_refl _⟩,by repeat (first|exact aV.refl _|apply aV.step)⟩
 case round =>
  clear H'
  obtain ⟨mO,rfl,HA,tq,⟨m1,rfl⟩⟩:=hrel
  cases gk with
  | zero=>exact absurd HA.out (by simp [aW.l0])
  | succ k1 =>
   have H:=HA.out
   clear HA
   simp only [aW.l0] at H
   by_cases c3:mO < (a1.size:Int)
   ·
    rw [if_pos c3] at H
    have nS:decide (mO < (a1.size:Int))=true:=decide_eq_true c3
    clear c3
    by_cases c4:0≤mO
    ·
     rw [if_pos c4] at H
     have nR:decide (0≤mO)=true:=decide_eq_true c4
     clear c4
     replace H:=Option.bind_eq_some_iff.mp H
     obtain ⟨t103,KF,H⟩:=H
     replace H:(if t103 < 0 then (some false) else (aW.l0 k1 l0 a1 (wrap64 (mO+1))))=some r:=H
     have A6:=ae.mk KF
     clear KF
     by_cases c7:t103 < 0
     ·
      rw [if_pos c7] at H
      have oG:decide (t103 < 0)=true:=decide_eq_true c7
      clear c7
      obtain rfl:=Option.some.inj H
      have p5:0≤(mO:Int):=of_decide_eq_true (by first|(with_reducible assumption)|assumption)
      have q5:mO < (a1.size:Int):=of_decide_eq_true (by first|(with_reducible assumption)|assumption)
      have hx5:=kF a1 mO
      replace p5:=eq_true p5
      replace q5:=eq_true q5
      go_wp2_with (first|((with_reducible refine bu (f:=43) rfl ?_);refine dQ (some 17) rfl rfl Tryd.func43 (by kernel_rfl) rfl #[.int .u8 (bt a1 mO),.int .i64 (l0.length:Int)] rfl (by (try simp only [List.map_toArray,List.map_cons,List.map_nil]);first|done|rfl|(simp only [List.length_drop,List.length_take];rfl)) ?_;(with_reducible refine (dZ.calls (bt a1 mO) (l0.length:Int) t103 _ A6.out).mono ?_);rintro e w' ⟨rfl,⟨nd,rfl⟩⟩;refine ⟨_,rfl,?_⟩))
      go_ret
      exact ⟨by first|rfl|(simp;done)|(simp [*];done),by repeat (first|exact aV.refl _|apply aV.step)⟩
     ·
      rw [if_neg c7] at H
      have oG:decide (t103 < 0)=false:=decide_eq_false c7
      clear c7
      have H':=ae.mk H
      clear H
      have p5:0≤(mO:Int):=of_decide_eq_true (by first|(with_reducible assumption)|assumption)
      have q5:mO < (a1.size:Int):=of_decide_eq_true (by first|(with_reducible assumption)|assumption)
      have hx5:=kF a1 mO
      replace p5:=eq_true p5
      replace q5:=eq_true q5
      go_wp2_with (first|((with_reducible refine bu (f:=43) rfl ?_);refine dQ (some 17) rfl rfl Tryd.func43 (by kernel_rfl) rfl #[.int .u8 (bt a1 mO),.int .i64 (l0.length:Int)] rfl (by (try simp only [List.map_toArray,List.map_cons,List.map_nil]);first|done|rfl|(simp only [List.length_drop,List.length_take];rfl)) ?_;(with_reducible refine (dZ.calls (bt a1 mO) (l0.length:Int) t103 _ A6.out).mono ?_);rintro e w' ⟨rfl,⟨nd,rfl⟩⟩;refine ⟨_,rfl,?_⟩))
      go_roundg k1
      case measure=>have:=tq.out;omega
      case rel=>exact ⟨(wrap64 (mO+1)),(by first|rfl|(simp;done)|(simp [*];done)),H',⟨by have:=tq.out;omega⟩,by repeat (first|exact aV.refl _|apply aV.step)⟩
    ·
     rw [if_neg c4] at H
     exact absurd H (by simp)
   ·
    rw [if_neg c3] at H
    have nS:decide (mO < (a1.size:Int))=false:=decide_eq_false c3
    clear c3
    replace H:=Option.bind_eq_some_iff.mp H
    obtain ⟨t104,Xj,H⟩:=H
    replace H:(some t104)=some r:=H
    have A8:=ae.mk Xj
    clear Xj
    obtain rfl:=Option.some.inj H
    go_wp2_with (first|((with_reducible refine bu (f:=44) rfl ?_);refine dQ (some 20) rfl rfl Tryd.func44 (by kernel_rfl) rfl #[.slice A0 l0.length c0] rfl (by (try simp only [List.map_toArray,List.map_cons,List.map_nil]);first|done|rfl|(simp only [List.length_drop,List.length_take];rfl)) ?_;(with_reducible refine (aK.calls k1 _ _ l0 t104 _ ?bW ?df A8.out).mono ?_);(case bW=>repeat (first|exact HR0.out|(with_reducible refine Kd.bM ?_ _)|(with_reducible refine Kd.bK ?_ _)|(with_reducible refine Kd.dB ?_)));(case df=>exact tC.out);rintro e w' ⟨rfl,⟨nd,rfl⟩⟩;refine ⟨_,rfl,?_⟩))
    go_ret
    exact ⟨by first|rfl|(simp;done)|(simp [*];done),by repeat (first|exact aV.refl _|apply aV.step)⟩
def jq.f (a0:Int):Option (ByteArray × ByteArray):=if a0=11 then (some ((⟨#[115,116,111,114,101,112]⟩:ByteArray),(⟨#[97,110,98]⟩:ByteArray))) else (if a0=12 then (some ((⟨#[108,111,97,100,103]⟩:ByteArray),(⟨#[97,98]⟩:ByteArray))) else (if a0=13 then (some ((⟨#[115,116,111,114,101,103]⟩:ByteArray),(⟨#[97,98]⟩:ByteArray))) else (if a0=14 then (some ((⟨#[112,114,105,110,116]⟩:ByteArray),(⟨#[97]⟩:ByteArray))) else (if a0=15 then (some ((⟨#[115,97,109,101]⟩:ByteArray),(⟨#[97,98,99]⟩:ByteArray))) else (some ((⟨#[]⟩:ByteArray),(⟨#[]⟩:ByteArray)))))))
set_option maxHeartbeats 8000000 in
set_option maxRecDepth 100000 in
theorem jq.calls (a0:Int) (r1:ByteArray) (r2:ByteArray) (w:World) (h:jq.f a0=some (r1,r2)) :
  Calls Tryd.prog 63 #[.int .u8 a0] w fun e w'=>e=.returned (.tuple #[.string r1,.string r2])∧aV w w':=by
 have H:(if a0=11 then (some ((⟨#[115,116,111,114,101,112]⟩:ByteArray),(⟨#[97,110,98]⟩:ByteArray))) else (if a0=12 then (some ((⟨#[108,111,97,100,103]⟩:ByteArray),(⟨#[97,98]⟩:ByteArray))) else (if a0=13 then (some ((⟨#[115,116,111,114,101,103]⟩:ByteArray),(⟨#[97,98]⟩:ByteArray))) else (if a0=14 then (some ((⟨#[112,114,105,110,116]⟩:ByteArray),(⟨#[97]⟩:ByteArray))) else (if a0=15 then (some ((⟨#[115,97,109,101]⟩:ByteArray),(⟨#[97,98,99]⟩:ByteArray))) else (some ((⟨#[]⟩:ByteArray),(⟨#[]⟩:ByteArray))))))))=some (r1,r2):=h
 clear h
 by_cases c2:a0=11
 ·
  rw [if_pos c2] at H
  have DF:(a0 == 11)=true:=beq_iff_eq.mpr c2
  have YS:(a0 != 11)=false:=bne_eq_false_iff_eq.mpr c2
  clear c2
  simp only [Option.some.injEq,Prod.mk.injEq] at H
  obtain ⟨rfl,rfl⟩:=H
  go_enter Tryd.func63,Tryd.ntmps63
  go_wp2
  go_ret2
  exact ⟨by first|rfl|(simp;done)|(simp [*];done),by repeat (first|exact aV.refl _|apply aV.step)⟩
 ·
  rw [if_neg c2] at H
  have DF:(a0 == 11)=false:=beq_eq_false_iff_ne.mpr c2
  have YS:(a0 != 11)=true:=bne_iff_ne.mpr c2
  by_cases c3:a0=12
  ·
   rw [if_pos c3] at H
   have nS:(a0 == 12)=true:=beq_iff_eq.mpr c3
   have AV:(a0 != 12)=false:=bne_eq_false_iff_eq.mpr c3
   clear c3
   simp only [Option.some.injEq,Prod.mk.injEq] at H
   obtain ⟨rfl,rfl⟩:=H
   go_enter Tryd.func63,Tryd.ntmps63
   go_wp2
   go_ret2
   exact ⟨by first|rfl|(simp;done)|(simp [*];done),by repeat (first|exact aV.refl _|apply aV.step)⟩
  ·
   rw [if_neg c3] at H
   have nS:(a0 == 12)=false:=beq_eq_false_iff_ne.mpr c3
   have AV:(a0 != 12)=true:=bne_iff_ne.mpr c3
   by_cases c4:a0=13
   ·
    rw [if_pos c4] at H
    have nR:(a0 == 13)=true:=beq_iff_eq.mpr c4
    have Gx:(a0 != 13)=false:=bne_eq_false_iff_eq.mpr c4
    clear c4
    simp only [Option.some.injEq,Prod.mk.injEq] at H
    obtain ⟨rfl,rfl⟩:=H
    go_enter Tryd.func63,Tryd.ntmps63
    go_wp2
    go_ret2
    exact ⟨by first|rfl|(simp;done)|(simp [*];done),by repeat (first|exact aV.refl _|apply aV.step)⟩
   ·
    rw [if_neg c4] at H
    have nR:(a0 == 13)=false:=beq_eq_false_iff_ne.mpr c4
    have Gx:(a0 != 13)=true:=bne_iff_ne.mpr c4
    by_cases c5:a0=14
    ·
     rw [if_pos c5] at H
     have qO:(a0 == 14)=true:=beq_iff_eq.mpr c5
     have L9:(a0 != 14)=false:=bne_eq_false_iff_eq.mpr c5
     clear c5
     simp only [Option.some.injEq,Prod.mk.injEq] at H
     obtain ⟨rfl,rfl⟩:=H
     go_enter Tryd.func63,Tryd.ntmps63
     go_wp2
     go_ret2
     exact ⟨by first|rfl|(simp;done)|(simp [*];done),by repeat (first|exact aV.refl _|apply aV.step)⟩
    ·
     rw [if_neg c5] at H
     have qO:(a0 == 14)=false:=beq_eq_false_iff_ne.mpr c5
     have L9:(a0 != 14)=true:=bne_iff_ne.mpr c5
     by_cases c6:a0=15
     ·
      rw [if_pos c6] at H
      have nP:(a0 == 15)=true:=beq_iff_eq.mpr c6
      have xE:(a0 != 15)=false:=bne_eq_false_iff_eq.mpr c6
      clear c6
      simp only [Option.some.injEq,Prod.mk.injEq] at H
      obtain ⟨rfl,rfl⟩:=H
      go_enter Tryd.func63,Tryd.ntmps63
      go_wp2
      go_ret2
      exact ⟨by first|rfl|(simp;done)|(simp [*];done),by repeat (first|exact aV.refl _|apply aV.step)⟩
     ·
      rw [if_neg c6] at H
      have nP:(a0 == 15)=false:=beq_eq_false_iff_ne.mpr c6
      have xE:(a0 != 15)=true:=bne_iff_ne.mpr c6
      simp only [Option.some.injEq,Prod.mk.injEq] at H
      obtain ⟨rfl,rfl⟩:=H
      go_enter Tryd.func63,Tryd.ntmps63
      go_wp2
      go_ret2
      exact ⟨by first|rfl|(simp;done)|(simp [*];done),by repeat (first|exact aV.refl _|apply aV.step)⟩
def fC.f (a0:Int):Option (ByteArray × ByteArray):=if a0=1 then (some ((⟨#[115,101,116]⟩:ByteArray),(⟨#[97,110]⟩:ByteArray))) else (if a0=2 then (some ((⟨#[97,100,100]⟩:ByteArray),(⟨#[97,98,99]⟩:ByteArray))) else (if a0=3 then (some ((⟨#[106,117,109,112]⟩:ByteArray),(⟨#[110]⟩:ByteArray))) else (if a0=4 then (some ((⟨#[122,101,114,111]⟩:ByteArray),(⟨#[97,110]⟩:ByteArray))) else (if a0=5 then (some ((⟨#[110,101,119]⟩:ByteArray),(⟨#[97]⟩:ByteArray))) else (if a0=6 then (some ((⟨#[110,105,108]⟩:ByteArray),(⟨#[97]⟩:ByteArray))) else (if a0=7 then (some ((⟨#[109,111,118,101]⟩:ByteArray),(⟨#[97,98]⟩:ByteArray))) else (if a0=8 then (some ((⟨#[108,111,97,100,105]⟩:ByteArray),(⟨#[97,98,110]⟩:ByteArray))) else (if a0=9 then (some ((⟨#[115,116,111,114,101,105]⟩:ByteArray),(⟨#[97,110,98]⟩:ByteArray))) else (if a0=10 then (some ((⟨#[108,111,97,100,112]⟩:ByteArray),(⟨#[97,98,110]⟩:ByteArray))) else ((jq.f a0).bind fun Fb=>(some (Fb.1,Fb.2))))))))))))
set_option maxHeartbeats 8000000 in
set_option maxRecDepth 100000 in
theorem fC.calls (a0:Int) (r1:ByteArray) (r2:ByteArray) (w:World) (h:fC.f a0=some (r1,r2)) :
  Calls Tryd.prog 45 #[.int .u8 a0] w fun e w'=>e=.returned (.tuple #[.string r1,.string r2])∧aV w w':=by
 have H:(if a0=1 then (some ((⟨#[115,101,116]⟩:ByteArray),(⟨#[97,110]⟩:ByteArray))) else (if a0=2 then (some ((⟨#[97,100,100]⟩:ByteArray),(⟨#[97,98,99]⟩:ByteArray))) else (if a0=3 then (some ((⟨#[106,117,109,112]⟩:ByteArray),(⟨#[110]⟩:ByteArray))) else (if a0=4 then (some ((⟨#[122,101,114,111]⟩:ByteArray),(⟨#[97,110]⟩:ByteArray))) else (if a0=5 then (some ((⟨#[110,101,119]⟩:ByteArray),(⟨#[97]⟩:ByteArray))) else (if a0=6 then (some ((⟨#[110,105,108]⟩:ByteArray),(⟨#[97]⟩:ByteArray))) else (if a0=7 then (some ((⟨#[109,111,118,101]⟩:ByteArray),(⟨#[97,98]⟩:ByteArray))) else (if a0=8 then (some ((⟨#[108,111,97,100,105]⟩:ByteArray),(⟨#[97,98,110]⟩:ByteArray))) else (if a0=9 then (some ((⟨#[115,116,111,114,101,105]⟩:ByteArray),(⟨#[97,110,98]⟩:ByteArray))) else (if a0=10 then (some ((⟨#[108,111,97,100,112]⟩:ByteArray),(⟨#[97,98,110]⟩:ByteArray))) else ((jq.f a0).bind fun Fb=>(some (Fb.1,Fb.2)))))))))))))=some (r1,r2):=h
 clear h
 by_cases c2:a0=1
 ·
  rw [if_pos c2] at H
  have DF:(a0 == 1)=true:=beq_iff_eq.mpr c2
  have YS:(a0 != 1)=false:=bne_eq_false_iff_eq.mpr c2
  clear c2
  simp only [Option.some.injEq,Prod.mk.injEq] at H
  obtain ⟨rfl,rfl⟩:=H
  go_enter Tryd.func45,Tryd.ntmps45
  go_wp2
  go_ret2
  exact ⟨by first|rfl|(simp;done)|(simp [*];done),by repeat (first|exact aV.refl _|apply aV.step)⟩
 ·
  rw [if_neg c2] at H
  have DF:(a0 == 1)=false:=beq_eq_false_iff_ne.mpr c2
  have YS:(a0 != 1)=true:=bne_iff_ne.mpr c2
  by_cases c3:a0=2
  ·
   rw [if_pos c3] at H
   have nS:(a0 == 2)=true:=beq_iff_eq.mpr c3
   have AV:(a0 != 2)=false:=bne_eq_false_iff_eq.mpr c3
   clear c3
   simp only [Option.some.injEq,Prod.mk.injEq] at H
   obtain ⟨rfl,rfl⟩:=H
   go_enter Tryd.func45,Tryd.ntmps45
   go_wp2
   go_ret2
   exact ⟨by first|rfl|(simp;done)|(simp [*];done),by repeat (first|exact aV.refl _|apply aV.step)⟩
  ·
   rw [if_neg c3] at H
   have nS:(a0 == 2)=false:=beq_eq_false_iff_ne.mpr c3
   have AV:(a0 != 2)=true:=bne_iff_ne.mpr c3
   by_cases c4:a0=3
   ·
    rw [if_pos c4] at H
    have nR:(a0 == 3)=true:=beq_iff_eq.mpr c4
    have Gx:(a0 != 3)=false:=bne_eq_false_iff_eq.mpr c4
    clear c4
    simp only [Option.some.injEq,Prod.mk.injEq] at H
    obtain ⟨rfl,rfl⟩:=H
    go_enter Tryd.func45,Tryd.ntmps45
    go_wp2
    go_ret2
    exact ⟨by first|rfl|(simp;done)|(simp [*];done),by repeat (first|exact aV.refl _|apply aV.step)⟩
   ·
    rw [if_neg c4] at H
    have nR:(a0 == 3)=false:=beq_eq_false_iff_ne.mpr c4
    have Gx:(a0 != 3)=true:=bne_iff_ne.mpr c4
    by_cases c5:a0=4
    ·
     rw [if_pos c5] at H
     have qO:(a0 == 4)=true:=beq_iff_eq.mpr c5
     have L9:(a0 != 4)=false:=bne_eq_false_iff_eq.mpr c5
     clear c5
     simp only [Option.some.injEq,Prod.mk.injEq] at H
     obtain ⟨rfl,rfl⟩:=H
     go_enter Tryd.func45,Tryd.ntmps45
     go_wp2
     go_ret2
     exact ⟨by first|rfl|(simp;done)|(simp [*];done),by repeat (first|exact aV.refl _|apply aV.step)⟩
    ·
     rw [if_neg c5] at H
     have qO:(a0 == 4)=false:=beq_eq_false_iff_ne.mpr c5
     have L9:(a0 != 4)=true:=bne_iff_ne.mpr c5
     by_cases c6:a0=5
     ·
      rw [if_pos c6] at H
      have nP:(a0 == 5)=true:=beq_iff_eq.mpr c6
      have xE:(a0 != 5)=false:=bne_eq_false_iff_eq.mpr c6
      clear c6
      simp only [Option.some.injEq,Prod.mk.injEq] at H
      obtain ⟨rfl,rfl⟩:=H
      go_enter Tryd.func45,Tryd.ntmps45
      go_wp2
      go_ret2
      exact ⟨by first|rfl|(simp;done)|(simp [*];done),by repeat (first|exact aV.refl _|apply aV.step)⟩
     ·
      rw [if_neg c6] at H
      have nP:(a0 == 5)=false:=beq_eq_false_iff_ne.mpr c6
      have xE:(a0 != 5)=true:=bne_iff_ne.mpr c6
      by_cases c7:a0=6
      ·
       rw [if_pos c7] at H
       have oG:(a0 == 6)=true:=beq_iff_eq.mpr c7
       have yu:(a0 != 6)=false:=bne_eq_false_iff_eq.mpr c7
       clear c7
       simp only [Option.some.injEq,Prod.mk.injEq] at H
       obtain ⟨rfl,rfl⟩:=H
       go_enter Tryd.func45,Tryd.ntmps45
       go_wp2
       go_ret2
       exact ⟨by first|rfl|(simp;done)|(simp [*];done),by repeat (first|exact aV.refl _|apply aV.step)⟩
      ·
       rw [if_neg c7] at H
       have oG:(a0 == 6)=false:=beq_eq_false_iff_ne.mpr c7
       have yu:(a0 != 6)=true:=bne_iff_ne.mpr c7
       by_cases c8:a0=7
       ·
        rw [if_pos c8] at H
        have oL:(a0 == 7)=true:=beq_iff_eq.mpr c8
        have yt:(a0 != 7)=false:=bne_eq_false_iff_eq.mpr c8
        clear c8
        simp only [Option.some.injEq,Prod.mk.injEq] at H
        obtain ⟨rfl,rfl⟩:=H
        go_enter Tryd.func45,Tryd.ntmps45
        go_wp2
        go_ret2
        exact ⟨by first|rfl|(simp;done)|(simp [*];done),by repeat (first|exact aV.refl _|apply aV.step)⟩
       ·
        rw [if_neg c8] at H
        have oL:(a0 == 7)=false:=beq_eq_false_iff_ne.mpr c8
        have yt:(a0 != 7)=true:=bne_iff_ne.mpr c8
        by_cases c9:a0=8
        ·
         rw [if_pos c9] at H
         have DD:(a0 == 8)=true:=beq_iff_eq.mpr c9
         have VI:(a0 != 8)=false:=bne_eq_false_iff_eq.mpr c9
         clear c9
         simp only [Option.some.injEq,Prod.mk.injEq] at H
         obtain ⟨rfl,rfl⟩:=H
         go_enter Tryd.func45,Tryd.ntmps45
         go_wp2
         go_ret2
         exact ⟨by first|rfl|(simp;done)|(simp [*];done),by repeat (first|exact aV.refl _|apply aV.step)⟩
        ·
         rw [if_neg c9] at H
         have DD:(a0 == 8)=false:=beq_eq_false_iff_ne.mpr c9
         have VI:(a0 != 8)=true:=bne_iff_ne.mpr c9
         by_cases c10:a0=9
         ·
          rw [if_pos c10] at H
          have oN:(a0 == 9)=true:=beq_iff_eq.mpr c10
          have J4:(a0 != 9)=false:=bne_eq_false_iff_eq.mpr c10
          clear c10
          simp only [Option.some.injEq,Prod.mk.injEq] at H
          obtain ⟨rfl,rfl⟩:=H
          go_enter Tryd.func45,Tryd.ntmps45
          go_wp2
          go_ret2
          exact ⟨by first|rfl|(simp;done)|(simp [*];done),by repeat (first|exact aV.refl _|apply aV.step)⟩
         ·
          rw [if_neg c10] at H
          have oN:(a0 == 9)=false:=beq_eq_false_iff_ne.mpr c10
          have J4:(a0 != 9)=true:=bne_iff_ne.mpr c10
          by_cases c11:a0=10
          ·
           rw [if_pos c11] at H
           have uk:(a0 == 10)=true:=beq_iff_eq.mpr c11
           have BM:(a0 != 10)=false:=bne_eq_false_iff_eq.mpr c11
           clear c11
           simp only [Option.some.injEq,Prod.mk.injEq] at H
           obtain ⟨rfl,rfl⟩:=H
           go_enter Tryd.func45,Tryd.ntmps45
           go_wp2
           go_ret2
           exact ⟨by first|rfl|(simp;done)|(simp [*];done),by repeat (first|exact aV.refl _|apply aV.step)⟩
          ·
           rw [if_neg c11] at H
           have uk:(a0 == 10)=false:=beq_eq_false_iff_ne.mpr c11
           have BM:(a0 != 10)=true:=bne_iff_ne.mpr c11
           replace H:=Option.bind_eq_some_iff.mp H
           obtain ⟨⟨t105,t106⟩,PX,H⟩:=H
           replace H:(some (t105,t106))=some (r1,r2):=H
           have A12:=ae.mk PX
           clear PX
           simp only [Option.some.injEq,Prod.mk.injEq] at H
           obtain ⟨rfl,rfl⟩:=H
           go_enter Tryd.func45,Tryd.ntmps45
           go_wp2_with (first|((with_reducible refine bu (f:=63) rfl ?_);refine dQ (some 26) rfl rfl Tryd.func63 (by kernel_rfl) rfl #[.int .u8 a0] rfl (by (try simp only [List.map_toArray,List.map_cons,List.map_nil]);first|done|rfl|(simp only [List.length_drop,List.length_take];rfl)) ?_;(with_reducible refine (jq.calls a0 t105 t106 _ A12.out).mono ?_);rintro e w' ⟨rfl,⟨nd,rfl⟩⟩;refine ⟨_,rfl,?_⟩))
           go_ret2
           exact ⟨by first|rfl|(simp;done)|(simp [*];done),by repeat (first|exact aV.refl _|apply aV.step)⟩
end Go.Proofs.YtlemecdddhdagaaDoor.P
end
section
namespace Go.Proofs.YtlemecdddhdagaaDoor.P
open Go.RowKit Go.Proofs.ag.bH Go.Proofs.ag.dM Go.Proofs.ag.dY
attribute [local go_sem] kR kP lU lT jM jL kQ kN
mutual
def aG.j0:Nat→ByteArray→ByteArray→Bool→Option (Bool)
 | 0,_,_,_=>none
 | k+1,x0,x3,x13=>if x13=true then (if 1≤(x0.size:Int) then (aG.j1 k x0 (x0.extract 1 x0.size)) else (none)) else (aG.j1 k x0 x3)
def aG.j1:Nat→ByteArray→ByteArray→Option (Bool)
 | 0,_,_=>none
 | k+1,x0,x3=>if x3.toList=([]:List UInt8) then (aG.j2 k x3 true) else (if 0 < (x3.size:Int) then (if (bt x3 0)=48 then (if (x3.size:Int) > 1 then (aG.j2 k x3 true) else (aG.j2 k x3 (decide ((x0.size:Int) > 1)))) else (aG.j2 k x3 false)) else (none))
def aG.j2:Nat→ByteArray→Bool→Option (Bool)
 | 0,_,_=>none
 | k+1,x3,x32=>if x32=true then (some false) else (aG.l0 k x3 0)
def aG.l0:Nat→ByteArray→Int→Option (Bool)
 | 0,_,_=>none
 | k+1,x3,x4=>if x4 < (x3.size:Int) then (if 0≤x4 then (if (bt x3 x4) < 48 then (some false) else (if (bt x3 x4) > 57 then (some false) else (aG.l0 k x3 (wrap64 (x4+1))))) else (none)) else (some true)
end
def aG.f (k:Nat) (a0:ByteArray):Option (Bool):=if (a0.size:Int) > 0 then (if 0 < (a0.size:Int) then (aG.j0 k a0 a0 ((bt a0 0) == 45)) else (none)) else (aG.j0 k a0 a0 false)
theorem aG.gZ:∀ k,(∀ y0 y1 y2,dK (aG.j0 k y0 y1 y2) (aG.j0 (k+1) y0 y1 y2))∧(∀ y0 y1,dK (aG.j1 k y0 y1) (aG.j1 (k+1) y0 y1))∧(∀ y0 y1,dK (aG.j2 k y0 y1) (aG.j2 (k+1) y0 y1))∧(∀ y0 y1,dK (aG.l0 k y0 y1) (aG.l0 (k+1) y0 y1))
 | 0=>⟨fun _ _ _ r h=>by simp [aG.j0] at h,fun _ _ r h=>by simp [aG.j1] at h,fun _ _ r h=>by simp [aG.j2] at h,fun _ _ r h=>by simp [aG.l0] at h⟩
 | k+1=>by
  obtain ⟨lu,ih1,ih2,ih3⟩:=aG.gZ k
  refine ⟨?_,?_,?_,?_⟩
  ·
   intro y0 y1 y2
   unfold aG.j0
   repeat' with_reducible first|apply lu|apply ih1|apply ih2|apply ih3|exact dK.refl _|exact dK.none _|refine dK.ite ?_ ?_|refine dK.bind ?_ (fun _=>?_)
  ·
   intro y0 y1
   unfold aG.j1
   repeat' with_reducible first|apply lu|apply ih1|apply ih2|apply ih3|exact dK.refl _|exact dK.none _|refine dK.ite ?_ ?_|refine dK.bind ?_ (fun _=>?_)
  ·
   intro y0 y1
   unfold aG.j2
   repeat' with_reducible first|apply lu|apply ih1|apply ih2|apply ih3|exact dK.refl _|exact dK.none _|refine dK.ite ?_ ?_|refine dK.bind ?_ (fun _=>?_)
  ·
   intro y0 y1
   unfold aG.l0
   repeat' with_reducible first|apply lu|apply ih1|apply ih2|apply ih3|exact dK.refl _|exact dK.none _|refine dK.ite ?_ ?_|refine dK.bind ?_ (fun _=>?_)
theorem aG.mono:∀ a0 k,dK (aG.f k a0) (aG.f (k+1) a0):=by
 intro a0 k
 obtain ⟨lu,ih1,ih2,ih3⟩:=aG.gZ k
 unfold aG.f
 repeat' with_reducible first|apply lu|apply ih1|apply ih2|apply ih3|exact dK.refl _|exact dK.none _|refine dK.ite ?_ ?_|refine dK.bind ?_ (fun _=>?_)
set_option maxHeartbeats 8000000 in
set_option maxRecDepth 100000 in
theorem aG.calls (k:Nat) (a0:ByteArray) (r:Bool) (w:World) (h:aG.f k a0=some r) :
  Calls Tryd.prog 71 #[.string a0] w fun e w'=>e=.returned (.bool r)∧aV w w':=by
 have H:(if (a0.size:Int) > 0 then (if 0 < (a0.size:Int) then (aG.j0 k a0 a0 ((bt a0 0) == 45)) else (none)) else (aG.j0 k a0 a0 false))=some r:=h
 clear h
 have HC2:=ae.mk H
 clear H
 go_enter Tryd.func71,Tryd.ntmps71
 go_upto_region 2 with (fail)
 go_cut [13] (fun v13 wc=>∃ (kq:Nat) (Hq:Bool),v13=.bool Hq∧ae (aG.j0 kq a0 a0 Hq=some r)∧ae (kq≤k)∧aV w wc)
 case first =>
  have H:=HC2.out
  clear HC2
  by_cases c3:(a0.size:Int) > 0
  ·
   rw [if_pos c3] at H
   have nS:decide (0 < (a0.size:Int))=true:=decide_eq_true c3
   have AV:decide (0 < a0.size)=true:=decide_eq_true (by omega)
   clear c3
   (first|rw [nS]|(simp only [bY,bZ];rw [nS])|skip)
   by_cases c4:0 < (a0.size:Int)
   ·
    rw [if_pos c4] at H
    have nR:decide (0 < (a0.size:Int))=true:=decide_eq_true c4
    have Gx:decide (0 < a0.size)=true:=decide_eq_true (by omega)
    clear c4
    have H':=ae.mk H
    clear H
    have p5:0≤(0:Int):=(by omega)
    have q5:0 < a0.size:=(by have:(0:Int) < (a0.size:Int):=of_decide_eq_true (by first|(with_reducible assumption)|assumption);omega)
    have hx5:∀ h:0 < a0.size,((a0[0]'h).toNat:Int)=bt a0 0:=kF a0 0
    clear p5
    have qi5:(0 < (a0.size:Int))=True:=eq_true (of_decide_eq_true (by first|(with_reducible assumption)|assumption))
    replace q5:=eq_true q5
    go_wp2
    go_meet
    case rel=>exact ⟨_,(((bt a0 0) == 45)),(by first|rfl|(simp;done)|(simp [*];done)),H',⟨by first|omega|exact Nat.le_refl _⟩,by repeat (first|exact aV.refl _|apply aV.step)⟩
   ·
    rw [if_neg c4] at H
    exact absurd H (by simp)
  ·
   rw [if_neg c3] at H
   have nS:decide (0 < (a0.size:Int))=false:=decide_eq_false c3
   have AV:decide (0 < a0.size)=false:=decide_eq_false (by omega)
   clear c3
   (first|rw [nS]|(simp only [bY,bZ];rw [nS])|skip)
   have H':=ae.mk H
   clear H
   go_wp2
   go_meet
   case rel=>exact ⟨_,(false),(by first|rfl|(simp;done)|(simp [*];done)),H',⟨by first|omega|exact Nat.le_refl _⟩,by repeat (first|exact aV.refl _|apply aV.step)⟩
 case rest =>
  clear HC2
  obtain ⟨kq,Hq,rfl,HA,xK,⟨mc1,rfl⟩⟩:=hcut
  cases kq with
  | zero=>exact absurd HA.out (by simp [aG.j0])
  | succ MG =>
   have H:=HA.out
   clear HA
   simp only [aG.j0] at H
   have Zd:=ae.mk H
   clear H
   go_upto_if 13 with (fail)
   go_cut [3] (fun v3 wc=>∃ (kq:Nat) (jh:ByteArray),v3=.string jh∧ae (aG.j1 kq a0 jh=some r)∧ae (kq≤MG)∧aV w wc)
   case first =>
    have H:=Zd.out
    clear Zd
    by_cases c7:Hq=true
    ·
     subst c7
     have H1:(if 1≤(a0.size:Int) then (aG.j1 MG a0 (a0.extract 1 a0.size)) else (none))=some r:=by rw [if_pos rfl] at H;exact H
     clear H
     have H:=H1
     clear H1
     by_cases c8:1≤(a0.size:Int)
     ·
      rw [if_pos c8] at H
      have oL:=eq_true c8
      have yt:decide (1≤(a0.size:Int))=true:=decide_eq_true c8
      clear c8
      have H':=ae.mk H
      clear H
      go_wp2
      go_meet
      case rel=>exact ⟨_,(a0.extract 1 a0.size),(by first|rfl|(simp;done)|(simp [*];done)),H',⟨by have:=xK.out;first|omega|exact Nat.le_refl _⟩,by repeat (first|exact aV.refl _|apply aV.step)⟩
     ·
      rw [if_neg c8] at H
      exact absurd H (by simp)
    ·
     replace c7:=Bool.eq_false_iff.mpr c7
     subst c7
     have H1:(aG.j1 MG a0 a0)=some r:=by rw [if_neg (show ¬ (false=true) by decide)] at H;exact H
     clear H
     have H:=H1
     clear H1
     have H':=ae.mk H
     clear H
     go_wp2
     go_meet
     case rel=>exact ⟨_,(a0),(by first|rfl|(simp;done)|(simp [*];done)),H',⟨by have:=xK.out;first|omega|exact Nat.le_refl _⟩,by repeat (first|exact aV.refl _|apply aV.step)⟩
   case rest =>
    clear Zd
    obtain ⟨kq,jh,rfl,HA,GU,⟨mc5,rfl⟩⟩:=hcut
    cases kq with
    | zero=>exact absurd HA.out (by simp [aG.j1])
    | succ ZW =>
     have H:=HA.out
     clear HA
     simp only [aG.j1] at H
     have Zc:=ae.mk H
     clear H
     go_upto_region 4 with (fail)
     go_cut [32] (fun v32 wc=>∃ (kq:Nat) (G8:Bool),v32=.bool G8∧ae (aG.j2 kq jh G8=some r)∧ae (kq≤ZW)∧aV w wc)
     case first =>
      have H:=Zc.out
      clear Zc
      by_cases c10:jh.toList=([]:List UInt8)
      ·
       rw [if_pos c10] at H
       have oN:(jh.toList == ([]:List UInt8))=true:=beq_iff_eq.mpr c10
       have J4:(jh.toList != ([]:List UInt8))=false:=bne_eq_false_iff_eq.mpr c10
       clear c10
       (first|rw [oN]|(simp only [bY,bZ];rw [oN])|skip)
       have H':=ae.mk H
       clear H
       go_wp2
       go_meet
       case rel=>exact ⟨_,(true),(by first|rfl|(simp;done)|(simp [*];done)),H',⟨by have:=xK.out;have:=GU.out;first|omega|exact Nat.le_refl _⟩,by repeat (first|exact aV.refl _|apply aV.step)⟩
      ·
       rw [if_neg c10] at H
       have oN:(jh.toList == ([]:List UInt8))=false:=beq_eq_false_iff_ne.mpr c10
       have J4:(jh.toList != ([]:List UInt8))=true:=bne_iff_ne.mpr c10
       (first|rw [oN]|(simp only [bY,bZ];rw [oN])|skip)
       by_cases c11:0 < (jh.size:Int)
       ·
        rw [if_pos c11] at H
        have uk:decide (0 < (jh.size:Int))=true:=decide_eq_true c11
        have BM:decide (0 < jh.size)=true:=decide_eq_true (by omega)
        clear c11
        by_cases c13:(bt jh 0)=48
        ·
         rw [if_pos c13] at H
         have lZ:((bt jh 0) == 48)=true:=beq_iff_eq.mpr c13
         have wX:((bt jh 0) != 48)=false:=bne_eq_false_iff_eq.mpr c13
         clear c13
         by_cases c14:(jh.size:Int) > 1
         ·
          rw [if_pos c14] at H
          have BL:decide (1 < (jh.size:Int))=true:=decide_eq_true c14
          have EZ:decide (1 < jh.size)=true:=decide_eq_true (by omega)
          clear c14
          have H':=ae.mk H
          clear H
          have p12:0≤(0:Int):=(by omega)
          have q12:0 < jh.size:=(by have:(0:Int) < (jh.size:Int):=of_decide_eq_true (by first|(with_reducible assumption)|assumption);omega)
          have Ya:∀ h:0 < jh.size,((jh[0]'h).toNat:Int)=bt jh 0:=kF jh 0
          clear p12
          have ZI:(0 < (jh.size:Int))=True:=eq_true (of_decide_eq_true (by first|(with_reducible assumption)|assumption))
          replace q12:=eq_true q12
          go_wp2
          go_meet
          case rel=>exact ⟨_,(true),(by first|rfl|(simp;done)|(simp [*];done)),H',⟨by have:=xK.out;have:=GU.out;first|omega|exact Nat.le_refl _⟩,by repeat (first|exact aV.refl _|apply aV.step)⟩
         ·
          rw [if_neg c14] at H
          have BL:decide (1 < (jh.size:Int))=false:=decide_eq_false c14
          have EZ:decide (1 < jh.size)=false:=decide_eq_false (by omega)
          clear c14
          have H':=ae.mk H
          clear H
          have p12:0≤(0:Int):=(by omega)
          have q12:0 < jh.size:=(by have:(0:Int) < (jh.size:Int):=of_decide_eq_true (by first|(with_reducible assumption)|assumption);omega)
          have Ya:∀ h:0 < jh.size,((jh[0]'h).toNat:Int)=bt jh 0:=kF jh 0
          clear p12
          have ZI:(0 < (jh.size:Int))=True:=eq_true (of_decide_eq_true (by first|(with_reducible assumption)|assumption))
          replace q12:=eq_true q12
          go_wp2
          go_meet
          case rel=>exact ⟨_,(decide ((a0.size:Int) > 1)),(by first|rfl|(simp;done)|(simp [*];done)),H',⟨by have:=xK.out;have:=GU.out;first|omega|exact Nat.le_refl _⟩,by repeat (first|exact aV.refl _|apply aV.step)⟩
        ·
         rw [if_neg c13] at H
         have lZ:((bt jh 0) == 48)=false:=beq_eq_false_iff_ne.mpr c13
         have wX:((bt jh 0) != 48)=true:=bne_iff_ne.mpr c13
         have H':=ae.mk H
         clear H
         have p12:0≤(0:Int):=(by omega)
         have q12:0 < jh.size:=(by have:(0:Int) < (jh.size:Int):=of_decide_eq_true (by first|(with_reducible assumption)|assumption);omega)
         have Ya:∀ h:0 < jh.size,((jh[0]'h).toNat:Int)=bt jh 0:=kF jh 0
         clear p12
         have ZI:(0 < (jh.size:Int))=True:=eq_true (of_decide_eq_true (by first|(with_reducible assumption)|assumption))
         replace q12:=eq_true q12
         go_wp2
         go_meet
         case rel=>exact ⟨_,(false),(by first|rfl|(simp;done)|(simp [*];done)),H',⟨by have:=xK.out;have:=GU.out;first|omega|exact Nat.le_refl _⟩,by repeat (first|exact aV.refl _|apply aV.step)⟩
       ·
        rw [if_neg c11] at H
        exact absurd H (by simp)
     case rest =>
      clear Zc
      obtain ⟨kq,G8,rfl,HA,Za,⟨mc8,rfl⟩⟩:=hcut
      cases kq with
      | zero=>exact absurd HA.out (by simp [aG.j2])
      | succ kj8 =>
       have H:=HA.out
       clear HA
       simp only [aG.j2] at H
       by_cases c15:G8=true
       ·
        subst c15
        have H1:(some false)=some r:=by rw [if_pos rfl] at H;exact H
        clear H
        have H:=H1
        clear H1
        obtain rfl:=Option.some.inj H
        go_wp2
        go_ret
        exact ⟨by first|rfl|(simp;done)|(simp [*];done),by repeat (first|exact aV.refl _|apply aV.step)⟩
       ·
        replace c15:=Bool.eq_false_iff.mpr c15
        subst c15
        have H1:(aG.l0 kj8 jh 0)=some r:=by rw [if_neg (show ¬ (false=true) by decide)] at H;exact H
        clear H
        have H:=H1
        clear H1
        have H':=ae.mk H
        clear H
        go_wp2
        go_loopg [4] kj8 (fun kq v4 w'=>∃ (oh:Int),v4=.int .i64 oh∧ae (aG.l0 kq jh oh=some r)∧ae (kq≤kj8)∧aV w w')
        case atStart=>exact ⟨(0),(by first|rfl|(simp;done)|(simp [*];done)),H',⟨Nat.le_refl _⟩,by repeat (first|exact aV.refl _|apply aV.step)⟩
        case round =>
         clear H'
         obtain ⟨oh,rfl,HA,HK4,⟨m4,rfl⟩⟩:=hrel
         cases gk with
         | zero=>exact absurd HA.out (by simp [aG.l0])
         | succ k4 =>
          have H:=HA.out
          clear HA
          simp only [aG.l0] at H
          by_cases c16:oh < (jh.size:Int)
          ·
           rw [if_pos c16] at H
           have Ad:decide (oh < (jh.size:Int))=true:=decide_eq_true c16
           clear c16
           by_cases c17:0≤oh
           ·
            rw [if_pos c17] at H
            have xX:decide (0≤oh)=true:=decide_eq_true c17
            clear c17
            by_cases c19:(bt jh oh) < 48
            ·
             rw [if_pos c19] at H
             have EW:decide ((bt jh oh) < 48)=true:=decide_eq_true c19
             clear c19
             obtain rfl:=Option.some.inj H
             have Ef:0≤(oh:Int):=of_decide_eq_true (by first|(with_reducible assumption)|assumption)
             have Ec:oh < (jh.size:Int):=of_decide_eq_true (by first|(with_reducible assumption)|assumption)
             have NQ:=kF jh oh
             replace Ef:=eq_true Ef
             replace Ec:=eq_true Ec
             go_wp2
             go_ret
             exact ⟨by first|rfl|(simp;done)|(simp [*];done),by repeat (first|exact aV.refl _|apply aV.step)⟩
            ·
             rw [if_neg c19] at H
             have EW:decide ((bt jh oh) < 48)=false:=decide_eq_false c19
             clear c19
             by_cases c21:(bt jh oh) > 57
             ·
              rw [if_pos c21] at H
              have ack:decide (57 < (bt jh oh))=true:=decide_eq_true c21
              clear c21
              obtain rfl:=Option.some.inj H
              have Ef:0≤(oh:Int):=of_decide_eq_true (by first|(with_reducible assumption)|assumption)
              have Ec:oh < (jh.size:Int):=of_decide_eq_true (by first|(with_reducible assumption)|assumption)
              have NQ:=kF jh oh
              replace Ef:=eq_true Ef
              replace Ec:=eq_true Ec
              have ZL:0≤(oh:Int):=of_decide_eq_true (by first|(with_reducible assumption)|assumption)
              have ZK:oh < (jh.size:Int):=of_decide_eq_true (by first|(with_reducible assumption)|assumption)
              have ajx:=kF jh oh
              replace ZL:=eq_true ZL
              replace ZK:=eq_true ZK
              go_wp2
              go_ret
              exact ⟨by first|rfl|(simp;done)|(simp [*];done),by repeat (first|exact aV.refl _|apply aV.step)⟩
             ·
              rw [if_neg c21] at H
              have ack:decide (57 < (bt jh oh))=false:=decide_eq_false c21
              clear c21
              have H':=ae.mk H
              clear H
              have Ef:0≤(oh:Int):=of_decide_eq_true (by first|(with_reducible assumption)|assumption)
              have Ec:oh < (jh.size:Int):=of_decide_eq_true (by first|(with_reducible assumption)|assumption)
              have NQ:=kF jh oh
              replace Ef:=eq_true Ef
              replace Ec:=eq_true Ec
              have ZL:0≤(oh:Int):=of_decide_eq_true (by first|(with_reducible assumption)|assumption)
              have ZK:oh < (jh.size:Int):=of_decide_eq_true (by first|(with_reducible assumption)|assumption)
              have ajx:=kF jh oh
              replace ZL:=eq_true ZL
              replace ZK:=eq_true ZK
              go_wp2
              go_roundg k4
              case measure=>have:=xK.out;have:=GU.out;have:=Za.out;have:=HK4.out;omega
              case rel=>exact ⟨(wrap64 (oh+1)),(by first|rfl|(simp;done)|(simp [*];done)),H',⟨by have:=xK.out;have:=GU.out;have:=Za.out;have:=HK4.out;omega⟩,by repeat (first|exact aV.refl _|apply aV.step)⟩
           ·
            rw [if_neg c17] at H
            exact absurd H (by simp)
          ·
           rw [if_neg c16] at H
           have Ad:decide (oh < (jh.size:Int))=false:=decide_eq_false c16
           clear c16
           obtain rfl:=Option.some.inj H
           go_wp2
           go_ret
           exact ⟨by first|rfl|(simp;done)|(simp [*];done),by repeat (first|exact aV.refl _|apply aV.step)⟩
end Go.Proofs.YtlemecdddhdagaaDoor.P
end
