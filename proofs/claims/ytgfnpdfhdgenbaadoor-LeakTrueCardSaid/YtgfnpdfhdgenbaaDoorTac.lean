/- Parts of the proof of LeakTrue: what the functions that it reaches compute, and plain facts about that. -/
import Derived.Test.YtgfnpdfhdgenbaaDoorTab
import Derived.Laws.StructEq
import Derived.Test.YtgfnpdfhdgenbaaDoorTaa
set_option linter.unusedVariables false
set_option linter.unusedSimpArgs false
section
namespace Go.Proofs.YtgfnpdfhdgenbaaDoor.P
open Go.RowKit Go.Proofs.ae.bf Go.Proofs.ae.bY Go.Proofs.ae.cZ
attribute [local go_sem] kU kS mF mD jR jQ kT kR
def bM.l0:Nat→Int→List ByteArray→Int→Int→List ByteArray→ByteArray→ByteArray→List (gY)→Option (Bool)
 | 0,_,_,_,_,_,_,_,_=>none
 | k+1,x3,x14,x15,x16,PU,PT,PS,IQ=>if x16 < x15 then (if 0≤x16 then (if x16 < (x14.length:Int) then (bM.l0 k (wrap64 (x3+(wrap64 (((eG ByteArray.empty x14 x16).size:Int)+1)))) x14 x15 (wrap64 (x16+1)) PU PT PS IQ) else (none)) else (none)) else (if x3≤500 then (some (decide ((IQ.length:Int)≤210))) else (some false))
def bM.f (k:Nat) (bF:List ByteArray) (aZ:ByteArray) (bn:ByteArray) (aG:List (gY)):Option (Bool):=bM.l0 k (wrap64 ((aZ.size:Int)+(bn.size:Int))) bF (bF.length:Int) 0 bF aZ bn aG
theorem bM.iF:∀ k,(∀ y0 y1 y2 y3 y4 y5 y6 y7,eu (bM.l0 k y0 y1 y2 y3 y4 y5 y6 y7) (bM.l0 (k+1) y0 y1 y2 y3 y4 y5 y6 y7))
 | 0=>fun _ _ _ _ _ _ _ _ r h=>by simp [bM.l0] at h
 | k+1=>by
  have nI:=bM.iF k
  ·
   intro y0 y1 y2 y3 y4 y5 y6 y7
   unfold bM.l0
   repeat' with_reducible first|apply nI|exact eu.refl _|exact eu.none _|refine eu.ite ?_ ?_|refine eu.bind ?_ (fun _=>?_)
theorem bM.mono:∀ a0 a1 a2 a3 k,eu (bM.f k a0 a1 a2 a3) (bM.f (k+1) a0 a1 a2 a3):=by
 intro a0 a1 a2 a3 k
 have nI:=bM.iF k
 unfold bM.f
 repeat' with_reducible first|apply nI|exact eu.refl _|exact eu.none _|refine eu.ite ?_ ?_|refine eu.bind ?_ (fun _=>?_)
set_option maxHeartbeats 8000000 in
set_option maxRecDepth 100000 in
theorem bM.calls (k:Nat) (fA:Option Addr) (eY:Nat) (bF:List ByteArray) (aZ:ByteArray) (bn:ByteArray) (gz:Option Addr) (fC:Nat) (aG:List (gY)) (r:Bool) (w:World) (jX:Kd.C Kd.string w fA bF.length bF) (jZ:bF.length≤eY) (jW:Kd.C uU w gz aG.length aG) (jY:aG.length≤fC) (h:bM.f k bF aZ bn aG=some r) :
  Calls Tryd.prog 13 #[.agg #[.slice fA bF.length eY,.string aZ,.string bn,.slice gz aG.length fC]] w fun e w'=>e=.returned (.bool r)∧Below w.heap.size w w':=by
 have Ad:=Tryd.underlying25
 have jk:=af.mk jX
 have jv:=af.mk jZ
 clear jX jZ
 have jL:=af.mk jW
 have lX:=af.mk jY
 clear jW jY
 have HB:=af.mk (Below.refl w.heap.size w)
 have H:(bM.l0 k (wrap64 ((aZ.size:Int)+(bn.size:Int))) bF (bF.length:Int) 0 bF aZ bn aG)=some r:=h
 clear h
 have H':=af.mk H
 clear H
 go_enter Tryd.func13,Tryd.ntmps13
 go_wp2_with (first|((with_reducible refine bD (N:=1) rfl ?_);(try (refine iw (by rfl) ?_;dsimp only));refine ed ?hg (N:=1) ?hd (cs:=#[.slice fA bF.length eY,.string aZ,.string bn,.slice gz aG.length fC]) (t:=25) ?hr ?_;(case hd=>rfl);(case hg=>rfl);(case hr=>first|(go_simp;done)|(go_simp;rfl));intro Vg hg w2 hbox hb;have dW:=af.mk (bC (by repeat (first|(with_reducible first|exact HB.out|apply aj|apply ag|apply ak)|exact HB.out)) hb);have dV:=af.mk (hbox);have dQ:=af.mk ((by rw [hg];exact (df (by repeat (first|(with_reducible first|exact HB.out|apply aj|apply ag|apply ak)|exact HB.out))):w.heap.size≤Vg));have gK:=dQ;clear HB;have HB:=dW;have FI:=dV;have ald:=dQ;have KO:=gK;clear dW dV dQ gK;clear hb hbox hg;obtain ⟨ahd,ahc,ahb,aha,ag7,ag6,ag5,ag4⟩:=lZ FI.out))
 go_loopg [3,16] k (fun kq v3 v16 w'=>∃ (jB:Int) (qj:Int),v3=.int .i64 jB∧v16=.int .i64 qj∧af (bM.l0 kq jB bF (bF.length:Int) qj bF aZ bn aG=some r)∧af (kq≤k)∧af (w'.heap[Vg]? = some (.cells #[(.slice fA bF.length eY),.string aZ,.string bn,(.slice gz aG.length fC)] 25 (0,0)))∧af (Below w.heap.size w w'))
 case atStart=>exact ⟨(wrap64 ((aZ.size:Int)+(bn.size:Int))),(0),(by first|rfl|(simp;done)|(simp [*];done)),(by first|rfl|(simp;done)|(simp [*];done)),H',⟨Nat.le_refl _⟩,⟨by (with_reducible repeat (first|refine ai ?_ _|refine ax ?_|refine ah ?_ _));exact FI.out⟩,⟨by repeat (first|(with_reducible first|exact HB.out|apply aj|apply ag|apply ak|refine ay ?_ KO.out)|exact HB.out)⟩⟩
 case round =>
  clear H'
  obtain ⟨jB,qj,rfl,rfl,HA,uG,FI,HB⟩:=hrel
  cases gk with
  | zero=>exact absurd HA.out (by simp [bM.l0])
  | succ k1 =>
   have H:=HA.out
   clear HA
   simp only [bM.l0] at H
   by_cases c4:qj < (bF.length:Int)
   ·
    rw [if_pos c4] at H
    have qp:decide (qj < (bF.length:Int))=true:=decide_eq_true c4
    clear c4
    by_cases c5:0≤qj
    ·
     rw [if_pos c5] at H
     have qY:decide (0≤qj)=true:=decide_eq_true c5
     clear c5
     by_cases c6:qj < (bF.length:Int)
     ·
      rw [if_pos c6] at H
      have tK:decide (qj < (bF.length:Int))=true:=decide_eq_true c6
      clear c6
      have H':=af.mk H
      clear H
      have Ws:0≤(qj:Int):=of_decide_eq_true (by first|(with_reducible assumption)|assumption)
      have We:qj < (bF.length:Int):=of_decide_eq_true (by first|(with_reducible assumption)|assumption)
      obtain ⟨akD,ahI,CS⟩:=Kd.kX jk.out qj Ws We
      cases ahI
      replace CS:=(HB.out.cell (World.block_lt_of_cell? w _ CS)).trans CS
      replace Ws:=eq_true Ws
      replace We:=eq_true We
      go_wp2
      go_roundg k1
      case measure=>have:=uG.out;omega
      case rel=>exact ⟨(wrap64 (jB+(wrap64 (((eG ByteArray.empty bF qj).size:Int)+1)))),(wrap64 (qj+1)),(by first|rfl|(simp;done)|(simp [*];done)),(by first|rfl|(simp;done)|(simp [*];done)),H',⟨by have:=uG.out;omega⟩,⟨by (with_reducible repeat (first|refine ai ?_ _|refine ax ?_|refine ah ?_ _));exact FI.out⟩,⟨by repeat (first|(with_reducible first|exact HB.out|apply aj|apply ag|apply ak|refine ay ?_ KO.out)|exact HB.out)⟩⟩
     ·
      rw [if_neg c6] at H
      exact absurd H (by simp)
    ·
     rw [if_neg c5] at H
     exact absurd H (by simp)
   ·
    rw [if_neg c4] at H
    have qp:decide (qj < (bF.length:Int))=false:=decide_eq_false c4
    clear c4
    by_cases c7:jB≤500
    ·
     rw [if_pos c7] at H
     have pU:decide (jB≤500)=true:=decide_eq_true c7
     clear c7
     obtain rfl:=Option.some.inj H
     obtain ⟨Hg,Hf,He,Ha,GV,GU,GR,GN⟩:=lZ FI.out
     go_wp2
     go_ret
     exact ⟨by first|rfl|(simp [aU,aT] <;> rfl)|(simp [*,aU,aT] <;> rfl),by repeat (first|(with_reducible first|exact HB.out|apply aj|apply ag|apply ak|refine ay ?_ KO.out)|exact HB.out)⟩
    ·
     rw [if_neg c7] at H
     have pU:decide (jB≤500)=false:=decide_eq_false c7
     clear c7
     obtain rfl:=Option.some.inj H
     go_wp2
     go_ret
     exact ⟨by first|rfl|(simp [aU,aT] <;> rfl)|(simp [*,aU,aT] <;> rfl),by repeat (first|(with_reducible first|exact HB.out|apply aj|apply ag|apply ak|refine ay ?_ KO.out)|exact HB.out)⟩
def dM.f (a0:Int) (a1:Int):Option (Int):=if a0 < 48 then (some (-1)) else (if ((a0 - 48) % 256) ≥ a1 then (some (-1)) else (some ((a0 - 48) % 256)))
set_option maxHeartbeats 8000000 in
set_option maxRecDepth 100000 in
theorem dM.calls (a0:Int) (a1:Int) (r:Int) (w:World) (h:dM.f a0 a1=some r) :
  Calls Tryd.prog 18 #[.int .u8 a0,.int .i64 a1] w fun e w'=>e=.returned (.int .i64 r)∧bz w w':=by
 have H:(if a0 < 48 then (some (-1)) else (if ((a0 - 48) % 256) ≥ a1 then (some (-1)) else (some ((a0 - 48) % 256))))=some r:=h
 clear h
 by_cases c3:a0 < 48
 ·
  rw [if_pos c3] at H
  have qx:decide (a0 < 48)=true:=decide_eq_true c3
  clear c3
  obtain rfl:=Option.some.inj H
  go_enter Tryd.func18,Tryd.ntmps18
  go_wp2
  go_ret
  exact ⟨by first|rfl|(simp;done)|(simp [*];done),by repeat (first|exact bz.refl _|apply bz.step)⟩
 ·
  rw [if_neg c3] at H
  have qx:decide (a0 < 48)=false:=decide_eq_false c3
  clear c3
  by_cases c4:((a0 - 48) % 256) ≥ a1
  ·
   rw [if_pos c4] at H
   have qp:decide (a1≤((a0 - 48) % 256))=true:=decide_eq_true c4
   clear c4
   obtain rfl:=Option.some.inj H
   go_enter Tryd.func18,Tryd.ntmps18
   go_wp2
   go_ret
   exact ⟨by first|rfl|(simp;done)|(simp [*];done),by repeat (first|exact bz.refl _|apply bz.step)⟩
  ·
   rw [if_neg c4] at H
   have qp:decide (a1≤((a0 - 48) % 256))=false:=decide_eq_false c4
   clear c4
   obtain rfl:=Option.some.inj H
   go_enter Tryd.func18,Tryd.ntmps18
   go_wp2
   go_ret
   exact ⟨by first|rfl|(simp;done)|(simp [*];done),by repeat (first|exact bz.refl _|apply bz.step)⟩
mutual
def aI.l0:Nat→List ByteArray→Int→Option (Bool)
 | 0,_,_=>none
 | k+1,x0,x3=>if x3 < (x0.length:Int) then (if 0≤x3 then (aI.l1 k x0 x3 (eG ByteArray.empty x0 x3) 0) else (none)) else (if (x0.length:Int) ≥ 1 then (some (decide ((x0.length:Int)≤8))) else (some false))
def aI.l1:Nat→List ByteArray→Int→ByteArray→Int→Option (Bool)
 | 0,_,_,_,_=>none
 | k+1,x0,x3,x4,x5=>if x5 < (x4.size:Int) then (if 0≤x5 then (if (bt x4 x5)=105 then (aI.l1 k x0 x3 x4 (wrap64 (x5+1))) else ((dM.f (bt x4 x5) (x0.length:Int)).bind fun t104=>(if t104 < 0 then (some false) else (aI.l1 k x0 x3 x4 (wrap64 (x5+1)))))) else (none)) else (if (x4.size:Int) < 1 then (some false) else (if (x4.size:Int) > 6 then (some false) else (aI.l0 k x0 (wrap64 (x3+1)))))
end
def aI.f (k:Nat) (l0:List ByteArray):Option (Bool):=aI.l0 k l0 0
theorem aI.iF:∀ k,(∀ y0 y1,eu (aI.l0 k y0 y1) (aI.l0 (k+1) y0 y1))∧(∀ y0 y1 y2 y3,eu (aI.l1 k y0 y1 y2 y3) (aI.l1 (k+1) y0 y1 y2 y3))
 | 0=>⟨fun _ _ r h=>by simp [aI.l0] at h,fun _ _ _ _ r h=>by simp [aI.l1] at h⟩
 | k+1=>by
  obtain ⟨nI,ih1⟩:=aI.iF k
  refine ⟨?_,?_⟩
  ·
   intro y0 y1
   unfold aI.l0
   repeat' with_reducible first|apply nI|apply ih1|exact eu.refl _|exact eu.none _|refine eu.ite ?_ ?_|refine eu.bind ?_ (fun _=>?_)
  ·
   intro y0 y1 y2 y3
   unfold aI.l1
   repeat' with_reducible first|apply nI|apply ih1|exact eu.refl _|exact eu.none _|refine eu.ite ?_ ?_|refine eu.bind ?_ (fun _=>?_)
theorem aI.mono:∀ a0 k,eu (aI.f k a0) (aI.f (k+1) a0):=by
 intro a0 k
 obtain ⟨nI,ih1⟩:=aI.iF k
 unfold aI.f
 repeat' with_reducible first|apply nI|apply ih1|exact eu.refl _|exact eu.none _|refine eu.ite ?_ ?_|refine eu.bind ?_ (fun _=>?_)
set_option maxHeartbeats 8000000 in
set_option maxRecDepth 100000 in
theorem aI.calls (k:Nat) (A0:Option Addr) (c0:Nat) (l0:List ByteArray) (r:Bool) (w:World) (hr0:Kd.C Kd.string w A0 l0.length l0) (hc0:l0.length≤c0) (h:aI.f k l0=some r) :
  Calls Tryd.prog 26 #[.slice A0 l0.length c0] w fun e w'=>e=.returned (.bool r)∧bz w w':=by
 have HR0:=af.mk hr0
 have Ed:=af.mk hc0
 clear hr0 hc0
 have H:(aI.l0 k l0 0)=some r:=h
 clear h
 have H':=af.mk H
 clear H
 go_enter Tryd.func26,Tryd.ntmps26
 go_wp2
 go_loopg [3] k (fun kq v3 w'=>∃ (jB:Int),v3=.int .i64 jB∧af (aI.l0 kq l0 jB=some r)∧af (kq≤k)∧bz w w')
 case atStart=>exact ⟨(0),(by first|rfl|(simp;done)|(simp [*];done)),H',⟨Nat.le_refl _⟩,by repeat (first|exact bz.refl _|apply bz.step)⟩
 case round =>
  clear H'
  obtain ⟨jB,rfl,HA,uG,⟨m1,rfl⟩⟩:=hrel
  cases gk with
  | zero=>exact absurd HA.out (by simp [aI.l0])
  | succ k1 =>
   have H:=HA.out
   clear HA
   simp only [aI.l0] at H
   by_cases c2:jB < (l0.length:Int)
   ·
    rw [if_pos c2] at H
    have OD:decide (jB < (l0.length:Int))=true:=decide_eq_true c2
    clear c2
    by_cases c3:0≤jB
    ·
     rw [if_pos c3] at H
     have qx:decide (0≤jB)=true:=decide_eq_true c3
     clear c3
     have H':=af.mk H
     clear H
     have Wq:0≤(jB:Int):=of_decide_eq_true (by first|(with_reducible assumption)|assumption)
     have V9:jB < (l0.length:Int):=of_decide_eq_true (by first|(with_reducible assumption)|assumption)
     obtain ⟨akC,ahH,aa9⟩:=Kd.kX HR0.out jB Wq V9
     cases ahH
     replace Wq:=eq_true Wq
     replace V9:=eq_true V9
     go_wp2
     go_loopg [5] k1 (fun kq v5 w'=>∃ (mM:Int),v5=.int .i64 mM∧af (aI.l1 kq l0 jB (eG ByteArray.empty l0 jB) mM=some r)∧af (kq≤k1)∧bz w w')
     case atStart=>exact ⟨(0),(by first|rfl|(simp;done)|(simp [*];done)),H',⟨Nat.le_refl _⟩,by repeat (first|exact bz.refl _|apply bz.step)⟩
     case round =>
      clear H'
      obtain ⟨mM,rfl,HA,sJ,⟨m2,rfl⟩⟩:=hrel
      cases gk with
      | zero=>exact absurd HA.out (by simp [aI.l1])
      | succ k2 =>
       have H:=HA.out
       clear HA
       simp only [aI.l1] at H
       by_cases c4:mM < ((eG ByteArray.empty l0 jB).size:Int)
       ·
        rw [if_pos c4] at H
        have qp:decide (mM < ((eG ByteArray.empty l0 jB).size:Int))=true:=decide_eq_true c4
        clear c4
        by_cases c5:0≤mM
        ·
         rw [if_pos c5] at H
         have qY:decide (0≤mM)=true:=decide_eq_true c5
         clear c5
         by_cases c7:(bt (eG ByteArray.empty l0 jB) mM)=105
         ·
          rw [if_pos c7] at H
          have pU:((bt (eG ByteArray.empty l0 jB) mM) == 105)=true:=beq_iff_eq.mpr c7
          have Ai:((bt (eG ByteArray.empty l0 jB) mM) != 105)=false:=bne_eq_false_iff_eq.mpr c7
          clear c7
          have H':=af.mk H
          clear H
          have p6:0≤(mM:Int):=of_decide_eq_true (by first|(with_reducible assumption)|assumption)
          have q6:mM < ((eG ByteArray.empty l0 jB).size:Int):=of_decide_eq_true (by first|(with_reducible assumption)|assumption)
          have hx6:=lI (eG ByteArray.empty l0 jB) mM
          replace p6:=eq_true p6
          replace q6:=eq_true q6
          go_wp2
          go_roundg k2
          case measure=>have:=uG.out;have:=sJ.out;omega
          case rel=>exact ⟨(wrap64 (mM+1)),(by first|rfl|(simp;done)|(simp [*];done)),H',⟨by have:=uG.out;have:=sJ.out;omega⟩,by repeat (first|exact bz.refl _|apply bz.step)⟩
         ·
          rw [if_neg c7] at H
          have pU:((bt (eG ByteArray.empty l0 jB) mM) == 105)=false:=beq_eq_false_iff_ne.mpr c7
          have Ai:((bt (eG ByteArray.empty l0 jB) mM) != 105)=true:=bne_iff_ne.mpr c7
          replace H:=Option.bind_eq_some_iff.mp H
          obtain ⟨t104,VM,H⟩:=H
          replace H:(if t104 < 0 then (some false) else (aI.l1 k2 l0 jB (eG ByteArray.empty l0 jB) (wrap64 (mM+1))))=some r:=H
          have A9:=af.mk VM
          clear VM
          by_cases c10:t104 < 0
          ·
           rw [if_pos c10] at H
           have pX:decide (t104 < 0)=true:=decide_eq_true c10
           clear c10
           obtain rfl:=Option.some.inj H
           have p6:0≤(mM:Int):=of_decide_eq_true (by first|(with_reducible assumption)|assumption)
           have q6:mM < ((eG ByteArray.empty l0 jB).size:Int):=of_decide_eq_true (by first|(with_reducible assumption)|assumption)
           have hx6:=lI (eG ByteArray.empty l0 jB) mM
           replace p6:=eq_true p6
           replace q6:=eq_true q6
           have p8:0≤(mM:Int):=of_decide_eq_true (by first|(with_reducible assumption)|assumption)
           have q8:mM < ((eG ByteArray.empty l0 jB).size:Int):=of_decide_eq_true (by first|(with_reducible assumption)|assumption)
           have hx8:=lI (eG ByteArray.empty l0 jB) mM
           replace p8:=eq_true p8
           replace q8:=eq_true q8
           go_wp2_with (first|(go_at_call 18;(with_reducible refine (dM.calls (bt (eG ByteArray.empty l0 jB) mM) (l0.length:Int) t104 _ A9.out).mono ?_);rintro e w' ⟨rfl,⟨nd,rfl⟩⟩))
           go_ret
           exact ⟨by first|rfl|(simp;done)|(simp [*];done),by repeat (first|exact bz.refl _|apply bz.step)⟩
          ·
           rw [if_neg c10] at H
           have pX:decide (t104 < 0)=false:=decide_eq_false c10
           clear c10
           have H':=af.mk H
           clear H
           have p6:0≤(mM:Int):=of_decide_eq_true (by first|(with_reducible assumption)|assumption)
           have q6:mM < ((eG ByteArray.empty l0 jB).size:Int):=of_decide_eq_true (by first|(with_reducible assumption)|assumption)
           have hx6:=lI (eG ByteArray.empty l0 jB) mM
           replace p6:=eq_true p6
           replace q6:=eq_true q6
           have p8:0≤(mM:Int):=of_decide_eq_true (by first|(with_reducible assumption)|assumption)
           have q8:mM < ((eG ByteArray.empty l0 jB).size:Int):=of_decide_eq_true (by first|(with_reducible assumption)|assumption)
           have hx8:=lI (eG ByteArray.empty l0 jB) mM
           replace p8:=eq_true p8
           replace q8:=eq_true q8
           go_wp2_with (first|(go_at_call 18;(with_reducible refine (dM.calls (bt (eG ByteArray.empty l0 jB) mM) (l0.length:Int) t104 _ A9.out).mono ?_);rintro e w' ⟨rfl,⟨nd,rfl⟩⟩))
           go_roundg k2
           case measure=>have:=uG.out;have:=sJ.out;omega
           case rel=>exact ⟨(wrap64 (mM+1)),(by first|rfl|(simp;done)|(simp [*];done)),H',⟨by have:=uG.out;have:=sJ.out;omega⟩,by repeat (first|exact bz.refl _|apply bz.step)⟩
        ·
         rw [if_neg c5] at H
         exact absurd H (by simp)
       ·
        rw [if_neg c4] at H
        have qp:decide (mM < ((eG ByteArray.empty l0 jB).size:Int))=false:=decide_eq_false c4
        clear c4
        by_cases c11:((eG ByteArray.empty l0 jB).size:Int) < 1
        ·
         rw [if_pos c11] at H
         have uD:decide (((eG ByteArray.empty l0 jB).size:Int) < 1)=true:=decide_eq_true c11
         have Bq:decide ((eG ByteArray.empty l0 jB).size < 1)=true:=decide_eq_true (by omega)
         clear c11
         obtain rfl:=Option.some.inj H
         go_wp2
         go_ret
         exact ⟨by first|rfl|(simp;done)|(simp [*];done),by repeat (first|exact bz.refl _|apply bz.step)⟩
        ·
         rw [if_neg c11] at H
         have uD:decide (((eG ByteArray.empty l0 jB).size:Int) < 1)=false:=decide_eq_false c11
         have Bq:decide ((eG ByteArray.empty l0 jB).size < 1)=false:=decide_eq_false (by omega)
         clear c11
         by_cases c12:((eG ByteArray.empty l0 jB).size:Int) > 6
         ·
          rw [if_pos c12] at H
          have vZ:decide (6 < ((eG ByteArray.empty l0 jB).size:Int))=true:=decide_eq_true c12
          have ZL:decide (6 < (eG ByteArray.empty l0 jB).size)=true:=decide_eq_true (by omega)
          clear c12
          obtain rfl:=Option.some.inj H
          go_wp2
          go_ret
          exact ⟨by first|rfl|(simp;done)|(simp [*];done),by repeat (first|exact bz.refl _|apply bz.step)⟩
         ·
          rw [if_neg c12] at H
          have vZ:decide (6 < ((eG ByteArray.empty l0 jB).size:Int))=false:=decide_eq_false c12
          have ZL:decide (6 < (eG ByteArray.empty l0 jB).size)=false:=decide_eq_false (by omega)
          clear c12
          have H':=af.mk H
          clear H
          go_wp2
          go_roundg k2
          case measure=>have:=uG.out;have:=sJ.out;omega
          case rel=>exact ⟨(wrap64 (jB+1)),(by first|rfl|(simp;done)|(simp [*];done)),H',⟨by have:=uG.out;have:=sJ.out;omega⟩,by repeat (first|exact bz.refl _|apply bz.step)⟩
    ·
     rw [if_neg c3] at H
     exact absurd H (by simp)
   ·
    rw [if_neg c2] at H
    have OD:decide (jB < (l0.length:Int))=false:=decide_eq_false c2
    clear c2
    by_cases c13:(l0.length:Int) ≥ 1
    ·
     rw [if_pos c13] at H
     have oH:decide (1≤(l0.length:Int))=true:=decide_eq_true c13
     have E5:decide (1≤l0.length)=true:=decide_eq_true (by omega)
     clear c13
     obtain rfl:=Option.some.inj H
     go_wp2
     go_ret
     exact ⟨by first|rfl|(simp;done)|(simp [*];done),by repeat (first|exact bz.refl _|apply bz.step)⟩
    ·
     rw [if_neg c13] at H
     have oH:decide (1≤(l0.length:Int))=false:=decide_eq_false c13
     have E5:decide (1≤l0.length)=false:=decide_eq_false (by omega)
     clear c13
     obtain rfl:=Option.some.inj H
     go_wp2
     go_ret
     exact ⟨by first|rfl|(simp;done)|(simp [*];done),by repeat (first|exact bz.refl _|apply bz.step)⟩
def aN.l0:Nat→List ByteArray→ByteArray→Int→Option (Bool)
 | 0,_,_,_=>none
 | k+1,x0,x1,x5=>if x5 < (x1.size:Int) then (if 0≤x5 then ((dM.f (bt x1 x5) (x0.length:Int)).bind fun t105=>(if t105 < 0 then (some false) else (aN.l0 k x0 x1 (wrap64 (x5+1))))) else (none)) else ((aI.f k x0).bind fun t106=>(some t106))
def aN.f (k:Nat) (l0:List ByteArray) (a1:ByteArray):Option (Bool):=aN.l0 k l0 a1 0
theorem aN.iF:∀ k,(∀ y0 y1 y2,eu (aN.l0 k y0 y1 y2) (aN.l0 (k+1) y0 y1 y2))
 | 0=>fun _ _ _ r h=>by simp [aN.l0] at h
 | k+1=>by
  have nI:=aN.iF k
  ·
   intro y0 y1 y2
   unfold aN.l0
   repeat' with_reducible first|apply nI|apply aI.mono|exact eu.refl _|exact eu.none _|refine eu.ite ?_ ?_|refine eu.bind ?_ (fun _=>?_)
theorem aN.mono:∀ a0 a1 k,eu (aN.f k a0 a1) (aN.f (k+1) a0 a1):=by
 intro a0 a1 k
 have nI:=aN.iF k
 unfold aN.f
 repeat' with_reducible first|apply nI|apply aI.mono|exact eu.refl _|exact eu.none _|refine eu.ite ?_ ?_|refine eu.bind ?_ (fun _=>?_)
set_option maxHeartbeats 8000000 in
set_option maxRecDepth 100000 in
theorem aN.calls (k:Nat) (A0:Option Addr) (c0:Nat) (l0:List ByteArray) (a1:ByteArray) (r:Bool) (w:World) (hr0:Kd.C Kd.string w A0 l0.length l0) (hc0:l0.length≤c0) (h:aN.f k l0 a1=some r) :
  Calls Tryd.prog 22 #[.slice A0 l0.length c0,.string a1] w fun e w'=>e=.returned (.bool r)∧bz w w':=by
 have HR0:=af.mk hr0
 have Ed:=af.mk hc0
 clear hr0 hc0
 have H:(aN.l0 k l0 a1 0)=some r:=h
 clear h
 have H':=af.mk H
 clear H
 go_enter Tryd.func22,Tryd.ntmps22
 go_wp2
 go_loopg [5] k (fun kq v5 w'=>∃ (lY:Int),v5=.int .i64 lY∧af (aN.l0 kq l0 a1 lY=some r)∧af (kq≤k)∧bz w w')
 case atStart=>exact ⟨(0),(by first|rfl|(simp;done)|(simp [*];done)),H',⟨Nat.le_refl _⟩,by repeat (first|exact bz.refl _|apply bz.step)⟩
 case round =>
  clear H'
  obtain ⟨lY,rfl,HA,uG,⟨m1,rfl⟩⟩:=hrel
  cases gk with
  | zero=>exact absurd HA.out (by simp [aN.l0])
  | succ k1 =>
   have H:=HA.out
   clear HA
   simp only [aN.l0] at H
   by_cases c3:lY < (a1.size:Int)
   ·
    rw [if_pos c3] at H
    have qx:decide (lY < (a1.size:Int))=true:=decide_eq_true c3
    clear c3
    by_cases c4:0≤lY
    ·
     rw [if_pos c4] at H
     have qp:decide (0≤lY)=true:=decide_eq_true c4
     clear c4
     replace H:=Option.bind_eq_some_iff.mp H
     obtain ⟨t105,Pm,H⟩:=H
     replace H:(if t105 < 0 then (some false) else (aN.l0 k1 l0 a1 (wrap64 (lY+1))))=some r:=H
     have A6:=af.mk Pm
     clear Pm
     by_cases c7:t105 < 0
     ·
      rw [if_pos c7] at H
      have pU:decide (t105 < 0)=true:=decide_eq_true c7
      clear c7
      obtain rfl:=Option.some.inj H
      have p5:0≤(lY:Int):=of_decide_eq_true (by first|(with_reducible assumption)|assumption)
      have q5:lY < (a1.size:Int):=of_decide_eq_true (by first|(with_reducible assumption)|assumption)
      have hx5:=lI a1 lY
      replace p5:=eq_true p5
      replace q5:=eq_true q5
      go_wp2_with (first|((with_reducible refine bV (f:=18) rfl ?_);refine fU (some 17) rfl rfl Tryd.func18 (by kernel_rfl) rfl #[.int .u8 (bt a1 lY),.int .i64 (l0.length:Int)] rfl (by (try simp only [List.map_toArray,List.map_cons,List.map_nil]);first|done|rfl|(simp only [List.length_drop,List.length_take];rfl)) ?_;(with_reducible refine (dM.calls (bt a1 lY) (l0.length:Int) t105 _ A6.out).mono ?_);rintro e w' ⟨rfl,⟨nd,rfl⟩⟩;refine ⟨_,rfl,?_⟩))
      go_ret
      exact ⟨by first|rfl|(simp;done)|(simp [*];done),by repeat (first|exact bz.refl _|apply bz.step)⟩
     ·
      rw [if_neg c7] at H
      have pU:decide (t105 < 0)=false:=decide_eq_false c7
      clear c7
      have H':=af.mk H
      clear H
      have p5:0≤(lY:Int):=of_decide_eq_true (by first|(with_reducible assumption)|assumption)
      have q5:lY < (a1.size:Int):=of_decide_eq_true (by first|(with_reducible assumption)|assumption)
      have hx5:=lI a1 lY
      replace p5:=eq_true p5
      replace q5:=eq_true q5
      go_wp2_with (first|((with_reducible refine bV (f:=18) rfl ?_);refine fU (some 17) rfl rfl Tryd.func18 (by kernel_rfl) rfl #[.int .u8 (bt a1 lY),.int .i64 (l0.length:Int)] rfl (by (try simp only [List.map_toArray,List.map_cons,List.map_nil]);first|done|rfl|(simp only [List.length_drop,List.length_take];rfl)) ?_;(with_reducible refine (dM.calls (bt a1 lY) (l0.length:Int) t105 _ A6.out).mono ?_);rintro e w' ⟨rfl,⟨nd,rfl⟩⟩;refine ⟨_,rfl,?_⟩))
      go_roundg k1
      case measure=>have:=uG.out;omega
      case rel=>exact ⟨(wrap64 (lY+1)),(by first|rfl|(simp;done)|(simp [*];done)),H',⟨by have:=uG.out;omega⟩,by repeat (first|exact bz.refl _|apply bz.step)⟩
    ·
     rw [if_neg c4] at H
     exact absurd H (by simp)
   ·
    rw [if_neg c3] at H
    have qx:decide (lY < (a1.size:Int))=false:=decide_eq_false c3
    clear c3
    replace H:=Option.bind_eq_some_iff.mp H
    obtain ⟨t106,VN,H⟩:=H
    replace H:(some t106)=some r:=H
    have A8:=af.mk VN
    clear VN
    obtain rfl:=Option.some.inj H
    go_wp2_with (first|((with_reducible refine bV (f:=26) rfl ?_);refine fU (some 20) rfl rfl Tryd.func26 (by kernel_rfl) rfl #[.slice A0 l0.length c0] rfl (by (try simp only [List.map_toArray,List.map_cons,List.map_nil]);first|done|rfl|(simp only [List.length_drop,List.length_take];rfl)) ?_;(with_reducible refine (aI.calls k1 _ _ l0 t106 _ ?dX ?fB A8.out).mono ?_);(case dX=>repeat (first|exact HR0.out|(with_reducible refine Kd.dG ?_ _)|(with_reducible refine Kd.dH ?_ _)|(with_reducible refine Kd.dS ?_)));(case fB=>exact Ed.out);rintro e w' ⟨rfl,⟨nd,rfl⟩⟩;refine ⟨_,rfl,?_⟩))
    go_ret
    exact ⟨by first|rfl|(simp;done)|(simp [*];done),by repeat (first|exact bz.refl _|apply bz.step)⟩
def iZ.f (a0:Int):Option (ByteArray × ByteArray):=if a0=11 then (some ((⟨#[115,116,111,114,101,112]⟩:ByteArray),(⟨#[97,110,98]⟩:ByteArray))) else (if a0=12 then (some ((⟨#[108,111,97,100,103]⟩:ByteArray),(⟨#[97,98]⟩:ByteArray))) else (if a0=13 then (some ((⟨#[115,116,111,114,101,103]⟩:ByteArray),(⟨#[97,98]⟩:ByteArray))) else (if a0=14 then (some ((⟨#[112,114,105,110,116]⟩:ByteArray),(⟨#[97]⟩:ByteArray))) else (if a0=15 then (some ((⟨#[115,97,109,101]⟩:ByteArray),(⟨#[97,98,99]⟩:ByteArray))) else (some ((⟨#[]⟩:ByteArray),(⟨#[]⟩:ByteArray)))))))
set_option maxHeartbeats 8000000 in
set_option maxRecDepth 100000 in
theorem iZ.calls (a0:Int) (r1:ByteArray) (r2:ByteArray) (w:World) (h:iZ.f a0=some (r1,r2)) :
  Calls Tryd.prog 38 #[.int .u8 a0] w fun e w'=>e=.returned (.tuple #[.string r1,.string r2])∧bz w w':=by
 have H:(if a0=11 then (some ((⟨#[115,116,111,114,101,112]⟩:ByteArray),(⟨#[97,110,98]⟩:ByteArray))) else (if a0=12 then (some ((⟨#[108,111,97,100,103]⟩:ByteArray),(⟨#[97,98]⟩:ByteArray))) else (if a0=13 then (some ((⟨#[115,116,111,114,101,103]⟩:ByteArray),(⟨#[97,98]⟩:ByteArray))) else (if a0=14 then (some ((⟨#[112,114,105,110,116]⟩:ByteArray),(⟨#[97]⟩:ByteArray))) else (if a0=15 then (some ((⟨#[115,97,109,101]⟩:ByteArray),(⟨#[97,98,99]⟩:ByteArray))) else (some ((⟨#[]⟩:ByteArray),(⟨#[]⟩:ByteArray))))))))=some (r1,r2):=h
 clear h
 by_cases c2:a0=11
 ·
  rw [if_pos c2] at H
  have OD:(a0 == 11)=true:=beq_iff_eq.mpr c2
  have XF:(a0 != 11)=false:=bne_eq_false_iff_eq.mpr c2
  clear c2
  simp only [Option.some.injEq,Prod.mk.injEq] at H
  obtain ⟨rfl,rfl⟩:=H
  go_enter Tryd.func38,Tryd.ntmps38
  go_wp2
  go_ret2
  exact ⟨by first|rfl|(simp;done)|(simp [*];done),by repeat (first|exact bz.refl _|apply bz.step)⟩
 ·
  rw [if_neg c2] at H
  have OD:(a0 == 11)=false:=beq_eq_false_iff_ne.mpr c2
  have XF:(a0 != 11)=true:=bne_iff_ne.mpr c2
  by_cases c3:a0=12
  ·
   rw [if_pos c3] at H
   have qx:(a0 == 12)=true:=beq_iff_eq.mpr c3
   have DX:(a0 != 12)=false:=bne_eq_false_iff_eq.mpr c3
   clear c3
   simp only [Option.some.injEq,Prod.mk.injEq] at H
   obtain ⟨rfl,rfl⟩:=H
   go_enter Tryd.func38,Tryd.ntmps38
   go_wp2
   go_ret2
   exact ⟨by first|rfl|(simp;done)|(simp [*];done),by repeat (first|exact bz.refl _|apply bz.step)⟩
  ·
   rw [if_neg c3] at H
   have qx:(a0 == 12)=false:=beq_eq_false_iff_ne.mpr c3
   have DX:(a0 != 12)=true:=bne_iff_ne.mpr c3
   by_cases c4:a0=13
   ·
    rw [if_pos c4] at H
    have qp:(a0 == 13)=true:=beq_iff_eq.mpr c4
    have DW:(a0 != 13)=false:=bne_eq_false_iff_eq.mpr c4
    clear c4
    simp only [Option.some.injEq,Prod.mk.injEq] at H
    obtain ⟨rfl,rfl⟩:=H
    go_enter Tryd.func38,Tryd.ntmps38
    go_wp2
    go_ret2
    exact ⟨by first|rfl|(simp;done)|(simp [*];done),by repeat (first|exact bz.refl _|apply bz.step)⟩
   ·
    rw [if_neg c4] at H
    have qp:(a0 == 13)=false:=beq_eq_false_iff_ne.mpr c4
    have DW:(a0 != 13)=true:=bne_iff_ne.mpr c4
    by_cases c5:a0=14
    ·
     rw [if_pos c5] at H
     have qY:(a0 == 14)=true:=beq_iff_eq.mpr c5
     have OB:(a0 != 14)=false:=bne_eq_false_iff_eq.mpr c5
     clear c5
     simp only [Option.some.injEq,Prod.mk.injEq] at H
     obtain ⟨rfl,rfl⟩:=H
     go_enter Tryd.func38,Tryd.ntmps38
     go_wp2
     go_ret2
     exact ⟨by first|rfl|(simp;done)|(simp [*];done),by repeat (first|exact bz.refl _|apply bz.step)⟩
    ·
     rw [if_neg c5] at H
     have qY:(a0 == 14)=false:=beq_eq_false_iff_ne.mpr c5
     have OB:(a0 != 14)=true:=bne_iff_ne.mpr c5
     by_cases c6:a0=15
     ·
      rw [if_pos c6] at H
      have tK:(a0 == 15)=true:=beq_iff_eq.mpr c6
      have DV:(a0 != 15)=false:=bne_eq_false_iff_eq.mpr c6
      clear c6
      simp only [Option.some.injEq,Prod.mk.injEq] at H
      obtain ⟨rfl,rfl⟩:=H
      go_enter Tryd.func38,Tryd.ntmps38
      go_wp2
      go_ret2
      exact ⟨by first|rfl|(simp;done)|(simp [*];done),by repeat (first|exact bz.refl _|apply bz.step)⟩
     ·
      rw [if_neg c6] at H
      have tK:(a0 == 15)=false:=beq_eq_false_iff_ne.mpr c6
      have DV:(a0 != 15)=true:=bne_iff_ne.mpr c6
      simp only [Option.some.injEq,Prod.mk.injEq] at H
      obtain ⟨rfl,rfl⟩:=H
      go_enter Tryd.func38,Tryd.ntmps38
      go_wp2
      go_ret2
      exact ⟨by first|rfl|(simp;done)|(simp [*];done),by repeat (first|exact bz.refl _|apply bz.step)⟩
def dY.f (a0:Int):Option (ByteArray × ByteArray):=if a0=1 then (some ((⟨#[115,101,116]⟩:ByteArray),(⟨#[97,110]⟩:ByteArray))) else (if a0=2 then (some ((⟨#[97,100,100]⟩:ByteArray),(⟨#[97,98,99]⟩:ByteArray))) else (if a0=3 then (some ((⟨#[106,117,109,112]⟩:ByteArray),(⟨#[110]⟩:ByteArray))) else (if a0=4 then (some ((⟨#[122,101,114,111]⟩:ByteArray),(⟨#[97,110]⟩:ByteArray))) else (if a0=5 then (some ((⟨#[110,101,119]⟩:ByteArray),(⟨#[97]⟩:ByteArray))) else (if a0=6 then (some ((⟨#[110,105,108]⟩:ByteArray),(⟨#[97]⟩:ByteArray))) else (if a0=7 then (some ((⟨#[109,111,118,101]⟩:ByteArray),(⟨#[97,98]⟩:ByteArray))) else (if a0=8 then (some ((⟨#[108,111,97,100,105]⟩:ByteArray),(⟨#[97,98,110]⟩:ByteArray))) else (if a0=9 then (some ((⟨#[115,116,111,114,101,105]⟩:ByteArray),(⟨#[97,110,98]⟩:ByteArray))) else (if a0=10 then (some ((⟨#[108,111,97,100,112]⟩:ByteArray),(⟨#[97,98,110]⟩:ByteArray))) else ((iZ.f a0).bind fun Fg=>(some (Fg.1,Fg.2))))))))))))
set_option maxHeartbeats 8000000 in
set_option maxRecDepth 100000 in
theorem dY.calls (a0:Int) (r1:ByteArray) (r2:ByteArray) (w:World) (h:dY.f a0=some (r1,r2)) :
  Calls Tryd.prog 30 #[.int .u8 a0] w fun e w'=>e=.returned (.tuple #[.string r1,.string r2])∧bz w w':=by
 have H:(if a0=1 then (some ((⟨#[115,101,116]⟩:ByteArray),(⟨#[97,110]⟩:ByteArray))) else (if a0=2 then (some ((⟨#[97,100,100]⟩:ByteArray),(⟨#[97,98,99]⟩:ByteArray))) else (if a0=3 then (some ((⟨#[106,117,109,112]⟩:ByteArray),(⟨#[110]⟩:ByteArray))) else (if a0=4 then (some ((⟨#[122,101,114,111]⟩:ByteArray),(⟨#[97,110]⟩:ByteArray))) else (if a0=5 then (some ((⟨#[110,101,119]⟩:ByteArray),(⟨#[97]⟩:ByteArray))) else (if a0=6 then (some ((⟨#[110,105,108]⟩:ByteArray),(⟨#[97]⟩:ByteArray))) else (if a0=7 then (some ((⟨#[109,111,118,101]⟩:ByteArray),(⟨#[97,98]⟩:ByteArray))) else (if a0=8 then (some ((⟨#[108,111,97,100,105]⟩:ByteArray),(⟨#[97,98,110]⟩:ByteArray))) else (if a0=9 then (some ((⟨#[115,116,111,114,101,105]⟩:ByteArray),(⟨#[97,110,98]⟩:ByteArray))) else (if a0=10 then (some ((⟨#[108,111,97,100,112]⟩:ByteArray),(⟨#[97,98,110]⟩:ByteArray))) else ((iZ.f a0).bind fun Fg=>(some (Fg.1,Fg.2)))))))))))))=some (r1,r2):=h
 clear h
 by_cases c2:a0=1
 ·
  rw [if_pos c2] at H
  have OD:(a0 == 1)=true:=beq_iff_eq.mpr c2
  have XF:(a0 != 1)=false:=bne_eq_false_iff_eq.mpr c2
  clear c2
  simp only [Option.some.injEq,Prod.mk.injEq] at H
  obtain ⟨rfl,rfl⟩:=H
  go_enter Tryd.func30,Tryd.ntmps30
  go_wp2
  go_ret2
  exact ⟨by first|rfl|(simp;done)|(simp [*];done),by repeat (first|exact bz.refl _|apply bz.step)⟩
 ·
  rw [if_neg c2] at H
  have OD:(a0 == 1)=false:=beq_eq_false_iff_ne.mpr c2
  have XF:(a0 != 1)=true:=bne_iff_ne.mpr c2
  by_cases c3:a0=2
  ·
   rw [if_pos c3] at H
   have qx:(a0 == 2)=true:=beq_iff_eq.mpr c3
   have DX:(a0 != 2)=false:=bne_eq_false_iff_eq.mpr c3
   clear c3
   simp only [Option.some.injEq,Prod.mk.injEq] at H
   obtain ⟨rfl,rfl⟩:=H
   go_enter Tryd.func30,Tryd.ntmps30
   go_wp2
   go_ret2
   exact ⟨by first|rfl|(simp;done)|(simp [*];done),by repeat (first|exact bz.refl _|apply bz.step)⟩
  ·
   rw [if_neg c3] at H
   have qx:(a0 == 2)=false:=beq_eq_false_iff_ne.mpr c3
   have DX:(a0 != 2)=true:=bne_iff_ne.mpr c3
   by_cases c4:a0=3
   ·
    rw [if_pos c4] at H
    have qp:(a0 == 3)=true:=beq_iff_eq.mpr c4
    have DW:(a0 != 3)=false:=bne_eq_false_iff_eq.mpr c4
    clear c4
    simp only [Option.some.injEq,Prod.mk.injEq] at H
    obtain ⟨rfl,rfl⟩:=H
    go_enter Tryd.func30,Tryd.ntmps30
    go_wp2
    go_ret2
    exact ⟨by first|rfl|(simp;done)|(simp [*];done),by repeat (first|exact bz.refl _|apply bz.step)⟩
   ·
    rw [if_neg c4] at H
    have qp:(a0 == 3)=false:=beq_eq_false_iff_ne.mpr c4
    have DW:(a0 != 3)=true:=bne_iff_ne.mpr c4
    by_cases c5:a0=4
    ·
     rw [if_pos c5] at H
     have qY:(a0 == 4)=true:=beq_iff_eq.mpr c5
     have OB:(a0 != 4)=false:=bne_eq_false_iff_eq.mpr c5
     clear c5
     simp only [Option.some.injEq,Prod.mk.injEq] at H
     obtain ⟨rfl,rfl⟩:=H
     go_enter Tryd.func30,Tryd.ntmps30
     go_wp2
     go_ret2
     exact ⟨by first|rfl|(simp;done)|(simp [*];done),by repeat (first|exact bz.refl _|apply bz.step)⟩
    ·
     rw [if_neg c5] at H
     have qY:(a0 == 4)=false:=beq_eq_false_iff_ne.mpr c5
     have OB:(a0 != 4)=true:=bne_iff_ne.mpr c5
     by_cases c6:a0=5
     ·
      rw [if_pos c6] at H
      have tK:(a0 == 5)=true:=beq_iff_eq.mpr c6
      have DV:(a0 != 5)=false:=bne_eq_false_iff_eq.mpr c6
      clear c6
      simp only [Option.some.injEq,Prod.mk.injEq] at H
      obtain ⟨rfl,rfl⟩:=H
      go_enter Tryd.func30,Tryd.ntmps30
      go_wp2
      go_ret2
      exact ⟨by first|rfl|(simp;done)|(simp [*];done),by repeat (first|exact bz.refl _|apply bz.step)⟩
     ·
      rw [if_neg c6] at H
      have tK:(a0 == 5)=false:=beq_eq_false_iff_ne.mpr c6
      have DV:(a0 != 5)=true:=bne_iff_ne.mpr c6
      by_cases c7:a0=6
      ·
       rw [if_pos c7] at H
       have pU:(a0 == 6)=true:=beq_iff_eq.mpr c7
       have Ai:(a0 != 6)=false:=bne_eq_false_iff_eq.mpr c7
       clear c7
       simp only [Option.some.injEq,Prod.mk.injEq] at H
       obtain ⟨rfl,rfl⟩:=H
       go_enter Tryd.func30,Tryd.ntmps30
       go_wp2
       go_ret2
       exact ⟨by first|rfl|(simp;done)|(simp [*];done),by repeat (first|exact bz.refl _|apply bz.step)⟩
      ·
       rw [if_neg c7] at H
       have pU:(a0 == 6)=false:=beq_eq_false_iff_ne.mpr c7
       have Ai:(a0 != 6)=true:=bne_iff_ne.mpr c7
       by_cases c8:a0=7
       ·
        rw [if_pos c8] at H
        have vY:(a0 == 7)=true:=beq_iff_eq.mpr c8
        have ES:(a0 != 7)=false:=bne_eq_false_iff_eq.mpr c8
        clear c8
        simp only [Option.some.injEq,Prod.mk.injEq] at H
        obtain ⟨rfl,rfl⟩:=H
        go_enter Tryd.func30,Tryd.ntmps30
        go_wp2
        go_ret2
        exact ⟨by first|rfl|(simp;done)|(simp [*];done),by repeat (first|exact bz.refl _|apply bz.step)⟩
       ·
        rw [if_neg c8] at H
        have vY:(a0 == 7)=false:=beq_eq_false_iff_ne.mpr c8
        have ES:(a0 != 7)=true:=bne_iff_ne.mpr c8
        by_cases c9:a0=8
        ·
         rw [if_pos c9] at H
         have OA:(a0 == 8)=true:=beq_iff_eq.mpr c9
         have XA:(a0 != 8)=false:=bne_eq_false_iff_eq.mpr c9
         clear c9
         simp only [Option.some.injEq,Prod.mk.injEq] at H
         obtain ⟨rfl,rfl⟩:=H
         go_enter Tryd.func30,Tryd.ntmps30
         go_wp2
         go_ret2
         exact ⟨by first|rfl|(simp;done)|(simp [*];done),by repeat (first|exact bz.refl _|apply bz.step)⟩
        ·
         rw [if_neg c9] at H
         have OA:(a0 == 8)=false:=beq_eq_false_iff_ne.mpr c9
         have XA:(a0 != 8)=true:=bne_iff_ne.mpr c9
         by_cases c10:a0=9
         ·
          rw [if_pos c10] at H
          have pX:(a0 == 9)=true:=beq_iff_eq.mpr c10
          have OG:(a0 != 9)=false:=bne_eq_false_iff_eq.mpr c10
          clear c10
          simp only [Option.some.injEq,Prod.mk.injEq] at H
          obtain ⟨rfl,rfl⟩:=H
          go_enter Tryd.func30,Tryd.ntmps30
          go_wp2
          go_ret2
          exact ⟨by first|rfl|(simp;done)|(simp [*];done),by repeat (first|exact bz.refl _|apply bz.step)⟩
         ·
          rw [if_neg c10] at H
          have pX:(a0 == 9)=false:=beq_eq_false_iff_ne.mpr c10
          have OG:(a0 != 9)=true:=bne_iff_ne.mpr c10
          by_cases c11:a0=10
          ·
           rw [if_pos c11] at H
           have uD:(a0 == 10)=true:=beq_iff_eq.mpr c11
           have Bq:(a0 != 10)=false:=bne_eq_false_iff_eq.mpr c11
           clear c11
           simp only [Option.some.injEq,Prod.mk.injEq] at H
           obtain ⟨rfl,rfl⟩:=H
           go_enter Tryd.func30,Tryd.ntmps30
           go_wp2
           go_ret2
           exact ⟨by first|rfl|(simp;done)|(simp [*];done),by repeat (first|exact bz.refl _|apply bz.step)⟩
          ·
           rw [if_neg c11] at H
           have uD:(a0 == 10)=false:=beq_eq_false_iff_ne.mpr c11
           have Bq:(a0 != 10)=true:=bne_iff_ne.mpr c11
           replace H:=Option.bind_eq_some_iff.mp H
           obtain ⟨⟨t107,t108⟩,aaU,H⟩:=H
           replace H:(some (t107,t108))=some (r1,r2):=H
           have A12:=af.mk aaU
           clear aaU
           simp only [Option.some.injEq,Prod.mk.injEq] at H
           obtain ⟨rfl,rfl⟩:=H
           go_enter Tryd.func30,Tryd.ntmps30
           go_wp2_with (first|((with_reducible refine bV (f:=38) rfl ?_);refine fU (some 26) rfl rfl Tryd.func38 (by kernel_rfl) rfl #[.int .u8 a0] rfl (by (try simp only [List.map_toArray,List.map_cons,List.map_nil]);first|done|rfl|(simp only [List.length_drop,List.length_take];rfl)) ?_;(with_reducible refine (iZ.calls a0 t107 t108 _ A12.out).mono ?_);rintro e w' ⟨rfl,⟨nd,rfl⟩⟩;refine ⟨_,rfl,?_⟩))
           go_ret2
           exact ⟨by first|rfl|(simp;done)|(simp [*];done),by repeat (first|exact bz.refl _|apply bz.step)⟩
end Go.Proofs.YtgfnpdfhdgenbaaDoor.P
end
section
namespace Go.Proofs.ae.bf
open Go.RowKit
section
variable {P:Program} {d:Nat} {xs ys:Array Value} {f:Field} {fs:List Field} {a b:Value} {r s:Bool} {w:World}
theorem Ob (hn:(f.name == "_")=false) (ha:(part f.type xs f.offset).run P w=.ok a w) (hb:(part f.type ys f.offset).run P w=.ok b w) (he:(Op.equalIn d f.type a b).run P w=.ok r w):(Op.eqFields d xs ys [f]).run P w=.ok r w:=by
  have hn':f.name ≠ "_":=by simpa using hn
  simp only [Op.eqFields,if_pos hn',Sem.run_bind,ha,hb,he,Result.andThen_ok]
  cases r <;> simp
theorem vW (hn:(f.name == "_")=false) (ha:(part f.type xs f.offset).run P w=.ok a w) (hb:(part f.type ys f.offset).run P w=.ok b w) (he:(Op.equalIn d f.type a b).run P w=.ok r w) (hr:(Op.eqFields d xs ys fs).run P w=.ok s w):(Op.eqFields d xs ys (f :: fs)).run P w=.ok (r && s) w:=by
  have hn':f.name ≠ "_":=by simpa using hn
  rw [Op.eqFields]
  simp only [if_pos hn',Sem.run_bind,ha,hb,he,Result.andThen_ok]
  cases r
  · simp
  · simpa using hr
theorem Xu {t:TypeId} {fs:Array Field} (hu:P.underlying t=some (.struct fs)) (hp:P.stoodInHeld t=false) (h:(Op.eqFields d xs ys fs.toList).run P w=.ok r w):(Op.equalIn (d+1) t (.agg xs) (.agg ys)).run P w=.ok r w:=by
  have hf:P.fieldsOf t=fs:=by simp [Program.fieldsOf,hu]
  rw [run_equalIn_struct (P:=P) w d t xs ys (by rw [hf];exact hu) hp,hf]
  exact h
end
end Go.Proofs.ae.bf
end
section
namespace Go.Proofs.YtgfnpdfhdgenbaaDoor.P
open Go.RowKit Go.Proofs.ae.bf Go.Proofs.ae.bY Go.Proofs.ae.cZ
attribute [local go_sem] kU kS mF mD jR jQ kT kR
theorem Zn (d:Nat) (w:World) (x0 y0:Int) (x1 y1:Int) (x2 y2:Int) (x3 y3:Int) (x4 y4:Int) :
  (Op.equalIn (d+2) 45 (.agg #[.int .u8 x0,.int .u8 x1,.int .u8 x2,.int .u8 x3,.int .i64 x4]) (.agg #[.int .u8 y0,.int .u8 y1,.int .u8 y2,.int .u8 y3,.int .i64 y4])).run Tryd.prog w=.ok (x0 == y0 && (x1 == y1 && (x2 == y2 && (x3 == y3 && (x4 == y4))))) w:=by
 refine Xu Tryd.underlying45 (by kernel_rfl) ?_
 refine vW (by rfl) (by go_simp;rfl) (by go_simp;rfl) (by go_simp) ?_
 refine vW (by rfl) (by go_simp;rfl) (by go_simp;rfl) (by go_simp) ?_
 refine vW (by rfl) (by go_simp;rfl) (by go_simp;rfl) (by go_simp) ?_
 refine vW (by rfl) (by go_simp;rfl) (by go_simp;rfl) (by go_simp) ?_
 exact Ob (by rfl) (by go_simp;rfl) (by go_simp;rfl) (by go_simp)
end Go.Proofs.YtgfnpdfhdgenbaaDoor.P
end
section
namespace Go.Proofs.YtgfnpdfhdgenbaaDoor.P
open Go.RowKit Go.Proofs.ae.bf Go.Proofs.ae.bY Go.Proofs.ae.cZ
attribute [local go_sem] kU kS mF mD jR jQ kT kR
mutual
def az.j0:Nat→ByteArray→ByteArray→Bool→Option (Bool)
 | 0,_,_,_=>none
 | k+1,x0,x3,x13=>if x13=true then (if 1≤(x0.size:Int) then (az.j1 k x0 (x0.extract 1 x0.size)) else (none)) else (az.j1 k x0 x3)
def az.j1:Nat→ByteArray→ByteArray→Option (Bool)
 | 0,_,_=>none
 | k+1,x0,x3=>if x3.toList=([]:List UInt8) then (az.j2 k x3 true) else (if 0 < (x3.size:Int) then (if (bt x3 0)=48 then (if (x3.size:Int) > 1 then (az.j2 k x3 true) else (az.j2 k x3 (decide ((x0.size:Int) > 1)))) else (az.j2 k x3 false)) else (none))
def az.j2:Nat→ByteArray→Bool→Option (Bool)
 | 0,_,_=>none
 | k+1,x3,x32=>if x32=true then (some false) else (az.l0 k x3 0)
def az.l0:Nat→ByteArray→Int→Option (Bool)
 | 0,_,_=>none
 | k+1,x3,x4=>if x4 < (x3.size:Int) then (if 0≤x4 then (if (bt x3 x4) < 48 then (some false) else (if (bt x3 x4) > 57 then (some false) else (az.l0 k x3 (wrap64 (x4+1))))) else (none)) else (some true)
end
def az.f (k:Nat) (a0:ByteArray):Option (Bool):=if (a0.size:Int) > 0 then (if 0 < (a0.size:Int) then (az.j0 k a0 a0 ((bt a0 0) == 45)) else (none)) else (az.j0 k a0 a0 false)
theorem az.iF:∀ k,(∀ y0 y1 y2,eu (az.j0 k y0 y1 y2) (az.j0 (k+1) y0 y1 y2))∧(∀ y0 y1,eu (az.j1 k y0 y1) (az.j1 (k+1) y0 y1))∧(∀ y0 y1,eu (az.j2 k y0 y1) (az.j2 (k+1) y0 y1))∧(∀ y0 y1,eu (az.l0 k y0 y1) (az.l0 (k+1) y0 y1))
 | 0=>⟨fun _ _ _ r h=>by simp [az.j0] at h,fun _ _ r h=>by simp [az.j1] at h,fun _ _ r h=>by simp [az.j2] at h,fun _ _ r h=>by simp [az.l0] at h⟩
 | k+1=>by
  obtain ⟨nI,ih1,ih2,ih3⟩:=az.iF k
  refine ⟨?_,?_,?_,?_⟩
  ·
   intro y0 y1 y2
   unfold az.j0
   repeat' with_reducible first|apply nI|apply ih1|apply ih2|apply ih3|exact eu.refl _|exact eu.none _|refine eu.ite ?_ ?_|refine eu.bind ?_ (fun _=>?_)
  ·
   intro y0 y1
   unfold az.j1
   repeat' with_reducible first|apply nI|apply ih1|apply ih2|apply ih3|exact eu.refl _|exact eu.none _|refine eu.ite ?_ ?_|refine eu.bind ?_ (fun _=>?_)
  ·
   intro y0 y1
   unfold az.j2
   repeat' with_reducible first|apply nI|apply ih1|apply ih2|apply ih3|exact eu.refl _|exact eu.none _|refine eu.ite ?_ ?_|refine eu.bind ?_ (fun _=>?_)
  ·
   intro y0 y1
   unfold az.l0
   repeat' with_reducible first|apply nI|apply ih1|apply ih2|apply ih3|exact eu.refl _|exact eu.none _|refine eu.ite ?_ ?_|refine eu.bind ?_ (fun _=>?_)
theorem az.mono:∀ a0 k,eu (az.f k a0) (az.f (k+1) a0):=by
 intro a0 k
 obtain ⟨nI,ih1,ih2,ih3⟩:=az.iF k
 unfold az.f
 repeat' with_reducible first|apply nI|apply ih1|apply ih2|apply ih3|exact eu.refl _|exact eu.none _|refine eu.ite ?_ ?_|refine eu.bind ?_ (fun _=>?_)
set_option maxHeartbeats 8000000 in
set_option maxRecDepth 100000 in
theorem az.calls (k:Nat) (a0:ByteArray) (r:Bool) (w:World) (h:az.f k a0=some r) :
  Calls Tryd.prog 43 #[.string a0] w fun e w'=>e=.returned (.bool r)∧bz w w':=by
 have H:(if (a0.size:Int) > 0 then (if 0 < (a0.size:Int) then (az.j0 k a0 a0 ((bt a0 0) == 45)) else (none)) else (az.j0 k a0 a0 false))=some r:=h
 clear h
 have HC2:=af.mk H
 clear H
 go_enter Tryd.func43,Tryd.ntmps43
 go_upto_region 2 with (fail)
 go_cut [13] (fun v13 wc=>∃ (kq:Nat) (IA:Bool),v13=.bool IA∧af (az.j0 kq a0 a0 IA=some r)∧af (kq≤k)∧bz w wc)
 case first =>
  have H:=HC2.out
  clear HC2
  by_cases c3:(a0.size:Int) > 0
  ·
   rw [if_pos c3] at H
   have qx:decide (0 < (a0.size:Int))=true:=decide_eq_true c3
   have DX:decide (0 < a0.size)=true:=decide_eq_true (by omega)
   clear c3
   (first|rw [qx]|(simp only [aX,aY];rw [qx])|skip)
   by_cases c4:0 < (a0.size:Int)
   ·
    rw [if_pos c4] at H
    have qp:decide (0 < (a0.size:Int))=true:=decide_eq_true c4
    have DW:decide (0 < a0.size)=true:=decide_eq_true (by omega)
    clear c4
    have H':=af.mk H
    clear H
    have p5:0≤(0:Int):=(by omega)
    have q5:0 < a0.size:=(by have:(0:Int) < (a0.size:Int):=of_decide_eq_true (by first|(with_reducible assumption)|assumption);omega)
    have hx5:∀ h:0 < a0.size,((a0[0]'h).toNat:Int)=bt a0 0:=lI a0 0
    clear p5
    have qi5:(0 < (a0.size:Int))=True:=eq_true (of_decide_eq_true (by first|(with_reducible assumption)|assumption))
    replace q5:=eq_true q5
    go_wp2
    go_meet
    case rel=>exact ⟨_,(((bt a0 0) == 45)),(by first|rfl|(simp;done)|(simp [*];done)),H',⟨by first|omega|exact Nat.le_refl _⟩,by repeat (first|exact bz.refl _|apply bz.step)⟩
   ·
    rw [if_neg c4] at H
    exact absurd H (by simp)
  ·
   rw [if_neg c3] at H
   have qx:decide (0 < (a0.size:Int))=false:=decide_eq_false c3
   have DX:decide (0 < a0.size)=false:=decide_eq_false (by omega)
   clear c3
   (first|rw [qx]|(simp only [aX,aY];rw [qx])|skip)
   have H':=af.mk H
   clear H
   go_wp2
   go_meet
   case rel=>exact ⟨_,(false),(by first|rfl|(simp;done)|(simp [*];done)),H',⟨by first|omega|exact Nat.le_refl _⟩,by repeat (first|exact bz.refl _|apply bz.step)⟩
 case rest =>
  clear HC2
  obtain ⟨kq,IA,rfl,HA,D8,⟨mc1,rfl⟩⟩:=hcut
  cases kq with
  | zero=>exact absurd HA.out (by simp [az.j0])
  | succ UM =>
   have H:=HA.out
   clear HA
   simp only [az.j0] at H
   have XY:=af.mk H
   clear H
   go_upto_if 13 with (fail)
   go_cut [3] (fun v3 wc=>∃ (kq:Nat) (iW:ByteArray),v3=.string iW∧af (az.j1 kq a0 iW=some r)∧af (kq≤UM)∧bz w wc)
   case first =>
    have H:=XY.out
    clear XY
    by_cases c7:IA=true
    ·
     subst c7
     have H1:(if 1≤(a0.size:Int) then (az.j1 UM a0 (a0.extract 1 a0.size)) else (none))=some r:=by rw [if_pos rfl] at H;exact H
     clear H
     have H:=H1
     clear H1
     by_cases c8:1≤(a0.size:Int)
     ·
      rw [if_pos c8] at H
      have vY:=eq_true c8
      have ES:decide (1≤(a0.size:Int))=true:=decide_eq_true c8
      clear c8
      have H':=af.mk H
      clear H
      go_wp2
      go_meet
      case rel=>exact ⟨_,(a0.extract 1 a0.size),(by first|rfl|(simp;done)|(simp [*];done)),H',⟨by have:=D8.out;first|omega|exact Nat.le_refl _⟩,by repeat (first|exact bz.refl _|apply bz.step)⟩
     ·
      rw [if_neg c8] at H
      exact absurd H (by simp)
    ·
     replace c7:=Bool.eq_false_iff.mpr c7
     subst c7
     have H1:(az.j1 UM a0 a0)=some r:=by rw [if_neg (show ¬ (false=true) by decide)] at H;exact H
     clear H
     have H:=H1
     clear H1
     have H':=af.mk H
     clear H
     go_wp2
     go_meet
     case rel=>exact ⟨_,(a0),(by first|rfl|(simp;done)|(simp [*];done)),H',⟨by have:=D8.out;first|omega|exact Nat.le_refl _⟩,by repeat (first|exact bz.refl _|apply bz.step)⟩
   case rest =>
    clear XY
    obtain ⟨kq,iW,rfl,HA,Ij,⟨mc5,rfl⟩⟩:=hcut
    cases kq with
    | zero=>exact absurd HA.out (by simp [az.j1])
    | succ YN =>
     have H:=HA.out
     clear HA
     simp only [az.j1] at H
     have XX:=af.mk H
     clear H
     go_upto_region 4 with (fail)
     go_cut [32] (fun v32 wc=>∃ (kq:Nat) (Ip:Bool),v32=.bool Ip∧af (az.j2 kq iW Ip=some r)∧af (kq≤YN)∧bz w wc)
     case first =>
      have H:=XX.out
      clear XX
      by_cases c10:iW.toList=([]:List UInt8)
      ·
       rw [if_pos c10] at H
       have pX:(iW.toList == ([]:List UInt8))=true:=beq_iff_eq.mpr c10
       have OG:(iW.toList != ([]:List UInt8))=false:=bne_eq_false_iff_eq.mpr c10
       clear c10
       (first|rw [pX]|(simp only [aX,aY];rw [pX])|skip)
       have H':=af.mk H
       clear H
       go_wp2
       go_meet
       case rel=>exact ⟨_,(true),(by first|rfl|(simp;done)|(simp [*];done)),H',⟨by have:=D8.out;have:=Ij.out;first|omega|exact Nat.le_refl _⟩,by repeat (first|exact bz.refl _|apply bz.step)⟩
      ·
       rw [if_neg c10] at H
       have pX:(iW.toList == ([]:List UInt8))=false:=beq_eq_false_iff_ne.mpr c10
       have OG:(iW.toList != ([]:List UInt8))=true:=bne_iff_ne.mpr c10
       (first|rw [pX]|(simp only [aX,aY];rw [pX])|skip)
       by_cases c11:0 < (iW.size:Int)
       ·
        rw [if_pos c11] at H
        have uD:decide (0 < (iW.size:Int))=true:=decide_eq_true c11
        have Bq:decide (0 < iW.size)=true:=decide_eq_true (by omega)
        clear c11
        by_cases c13:(bt iW 0)=48
        ·
         rw [if_pos c13] at H
         have oH:((bt iW 0) == 48)=true:=beq_iff_eq.mpr c13
         have E5:((bt iW 0) != 48)=false:=bne_eq_false_iff_eq.mpr c13
         clear c13
         by_cases c14:(iW.size:Int) > 1
         ·
          rw [if_pos c14] at H
          have OE:decide (1 < (iW.size:Int))=true:=decide_eq_true c14
          have ZK:decide (1 < iW.size)=true:=decide_eq_true (by omega)
          clear c14
          have H':=af.mk H
          clear H
          have p12:0≤(0:Int):=(by omega)
          have q12:0 < iW.size:=(by have:(0:Int) < (iW.size:Int):=of_decide_eq_true (by first|(with_reducible assumption)|assumption);omega)
          have WO:∀ h:0 < iW.size,((iW[0]'h).toNat:Int)=bt iW 0:=lI iW 0
          clear p12
          have YA:(0 < (iW.size:Int))=True:=eq_true (of_decide_eq_true (by first|(with_reducible assumption)|assumption))
          replace q12:=eq_true q12
          go_wp2
          go_meet
          case rel=>exact ⟨_,(true),(by first|rfl|(simp;done)|(simp [*];done)),H',⟨by have:=D8.out;have:=Ij.out;first|omega|exact Nat.le_refl _⟩,by repeat (first|exact bz.refl _|apply bz.step)⟩
         ·
          rw [if_neg c14] at H
          have OE:decide (1 < (iW.size:Int))=false:=decide_eq_false c14
          have ZK:decide (1 < iW.size)=false:=decide_eq_false (by omega)
          clear c14
          have H':=af.mk H
          clear H
          have p12:0≤(0:Int):=(by omega)
          have q12:0 < iW.size:=(by have:(0:Int) < (iW.size:Int):=of_decide_eq_true (by first|(with_reducible assumption)|assumption);omega)
          have WO:∀ h:0 < iW.size,((iW[0]'h).toNat:Int)=bt iW 0:=lI iW 0
          clear p12
          have YA:(0 < (iW.size:Int))=True:=eq_true (of_decide_eq_true (by first|(with_reducible assumption)|assumption))
          replace q12:=eq_true q12
          go_wp2
          go_meet
          case rel=>exact ⟨_,(decide ((a0.size:Int) > 1)),(by first|rfl|(simp;done)|(simp [*];done)),H',⟨by have:=D8.out;have:=Ij.out;first|omega|exact Nat.le_refl _⟩,by repeat (first|exact bz.refl _|apply bz.step)⟩
        ·
         rw [if_neg c13] at H
         have oH:((bt iW 0) == 48)=false:=beq_eq_false_iff_ne.mpr c13
         have E5:((bt iW 0) != 48)=true:=bne_iff_ne.mpr c13
         have H':=af.mk H
         clear H
         have p12:0≤(0:Int):=(by omega)
         have q12:0 < iW.size:=(by have:(0:Int) < (iW.size:Int):=of_decide_eq_true (by first|(with_reducible assumption)|assumption);omega)
         have WO:∀ h:0 < iW.size,((iW[0]'h).toNat:Int)=bt iW 0:=lI iW 0
         clear p12
         have YA:(0 < (iW.size:Int))=True:=eq_true (of_decide_eq_true (by first|(with_reducible assumption)|assumption))
         replace q12:=eq_true q12
         go_wp2
         go_meet
         case rel=>exact ⟨_,(false),(by first|rfl|(simp;done)|(simp [*];done)),H',⟨by have:=D8.out;have:=Ij.out;first|omega|exact Nat.le_refl _⟩,by repeat (first|exact bz.refl _|apply bz.step)⟩
       ·
        rw [if_neg c11] at H
        exact absurd H (by simp)
     case rest =>
      clear XX
      obtain ⟨kq,Ip,rfl,HA,XV,⟨mc8,rfl⟩⟩:=hcut
      cases kq with
      | zero=>exact absurd HA.out (by simp [az.j2])
      | succ kj8 =>
       have H:=HA.out
       clear HA
       simp only [az.j2] at H
       by_cases c15:Ip=true
       ·
        subst c15
        have H1:(some false)=some r:=by rw [if_pos rfl] at H;exact H
        clear H
        have H:=H1
        clear H1
        obtain rfl:=Option.some.inj H
        go_wp2
        go_ret
        exact ⟨by first|rfl|(simp;done)|(simp [*];done),by repeat (first|exact bz.refl _|apply bz.step)⟩
       ·
        replace c15:=Bool.eq_false_iff.mpr c15
        subst c15
        have H1:(az.l0 kj8 iW 0)=some r:=by rw [if_neg (show ¬ (false=true) by decide)] at H;exact H
        clear H
        have H:=H1
        clear H1
        have H':=af.mk H
        clear H
        go_wp2
        go_loopg [4] kj8 (fun kq v4 w'=>∃ (nH:Int),v4=.int .i64 nH∧af (az.l0 kq iW nH=some r)∧af (kq≤kj8)∧bz w w')
        case atStart=>exact ⟨(0),(by first|rfl|(simp;done)|(simp [*];done)),H',⟨Nat.le_refl _⟩,by repeat (first|exact bz.refl _|apply bz.step)⟩
        case round =>
         clear H'
         obtain ⟨nH,rfl,HA,HK4,⟨m4,rfl⟩⟩:=hrel
         cases gk with
         | zero=>exact absurd HA.out (by simp [az.l0])
         | succ k4 =>
          have H:=HA.out
          clear HA
          simp only [az.l0] at H
          by_cases c16:nH < (iW.size:Int)
          ·
           rw [if_pos c16] at H
           have EZ:decide (nH < (iW.size:Int))=true:=decide_eq_true c16
           clear c16
           by_cases c17:0≤nH
           ·
            rw [if_pos c17] at H
            have xB:decide (0≤nH)=true:=decide_eq_true c17
            clear c17
            by_cases c19:(bt iW nH) < 48
            ·
             rw [if_pos c19] at H
             have zF:decide ((bt iW nH) < 48)=true:=decide_eq_true c19
             clear c19
             obtain rfl:=Option.some.inj H
             have Ep:0≤(nH:Int):=of_decide_eq_true (by first|(with_reducible assumption)|assumption)
             have Eo:nH < (iW.size:Int):=of_decide_eq_true (by first|(with_reducible assumption)|assumption)
             have NH:=lI iW nH
             replace Ep:=eq_true Ep
             replace Eo:=eq_true Eo
             go_wp2
             go_ret
             exact ⟨by first|rfl|(simp;done)|(simp [*];done),by repeat (first|exact bz.refl _|apply bz.step)⟩
            ·
             rw [if_neg c19] at H
             have zF:decide ((bt iW nH) < 48)=false:=decide_eq_false c19
             clear c19
             by_cases c21:(bt iW nH) > 57
             ·
              rw [if_pos c21] at H
              have Vm:decide (57 < (bt iW nH))=true:=decide_eq_true c21
              clear c21
              obtain rfl:=Option.some.inj H
              have Ep:0≤(nH:Int):=of_decide_eq_true (by first|(with_reducible assumption)|assumption)
              have Eo:nH < (iW.size:Int):=of_decide_eq_true (by first|(with_reducible assumption)|assumption)
              have NH:=lI iW nH
              replace Ep:=eq_true Ep
              replace Eo:=eq_true Eo
              have YF:0≤(nH:Int):=of_decide_eq_true (by first|(with_reducible assumption)|assumption)
              have YC:nH < (iW.size:Int):=of_decide_eq_true (by first|(with_reducible assumption)|assumption)
              have agU:=lI iW nH
              replace YF:=eq_true YF
              replace YC:=eq_true YC
              go_wp2
              go_ret
              exact ⟨by first|rfl|(simp;done)|(simp [*];done),by repeat (first|exact bz.refl _|apply bz.step)⟩
             ·
              rw [if_neg c21] at H
              have Vm:decide (57 < (bt iW nH))=false:=decide_eq_false c21
              clear c21
              have H':=af.mk H
              clear H
              have Ep:0≤(nH:Int):=of_decide_eq_true (by first|(with_reducible assumption)|assumption)
              have Eo:nH < (iW.size:Int):=of_decide_eq_true (by first|(with_reducible assumption)|assumption)
              have NH:=lI iW nH
              replace Ep:=eq_true Ep
              replace Eo:=eq_true Eo
              have YF:0≤(nH:Int):=of_decide_eq_true (by first|(with_reducible assumption)|assumption)
              have YC:nH < (iW.size:Int):=of_decide_eq_true (by first|(with_reducible assumption)|assumption)
              have agU:=lI iW nH
              replace YF:=eq_true YF
              replace YC:=eq_true YC
              go_wp2
              go_roundg k4
              case measure=>have:=D8.out;have:=Ij.out;have:=XV.out;have:=HK4.out;omega
              case rel=>exact ⟨(wrap64 (nH+1)),(by first|rfl|(simp;done)|(simp [*];done)),H',⟨by have:=D8.out;have:=Ij.out;have:=XV.out;have:=HK4.out;omega⟩,by repeat (first|exact bz.refl _|apply bz.step)⟩
           ·
            rw [if_neg c17] at H
            exact absurd H (by simp)
          ·
           rw [if_neg c16] at H
           have EZ:decide (nH < (iW.size:Int))=false:=decide_eq_false c16
           clear c16
           obtain rfl:=Option.some.inj H
           go_wp2
           go_ret
           exact ⟨by first|rfl|(simp;done)|(simp [*];done),by repeat (first|exact bz.refl _|apply bz.step)⟩
end Go.Proofs.YtgfnpdfhdgenbaaDoor.P
end
