/- Parts of the proof of ModelRight: what the functions that it reaches compute, and plain facts about that. -/
import Derived.Test.YtlemecdddhdagaaDoorVal
import Derived.Test.YtlemecdddhdagaaDoorVab
set_option linter.unusedVariables false
set_option linter.unusedSimpArgs false
section
namespace Go.Proofs.YtlemecdddhdagaaDoor.P
open Go.RowKit Go.Proofs.ag.bI Go.Proofs.ag.dM Go.Proofs.ag.dZ
open Classical in
noncomputable def step0 (t:List ByteArray) (lo gl:ByteArray) (code:List gZ) (s:St):Option (St × Bool × Int):=if Small s then vJ (Yg t lo) code (oL t lo gl code).2 s else none
section
variable {t:List ByteArray} {lo gl:ByteArray} {code:List gZ}
theorem Gn {sz sz':Int→Option Int} (h:∀ a,dN (sz a) (sz' a)) (c:Int) (s:St):dN (vJ sz code c s) (vJ sz' code c s):=by
  unfold vJ
  repeat' first
      | (with_reducible exact dN.refl _)
      | (with_reducible refine dN.ite ?_ ?_)
      | (with_reducible refine dN.bind (Fp h _ _) (fun _=>?_))
theorem NP (ht:t.length≤9223372036854775807) (hs:lo.size+gl.size≤9223372036854775807) (hc:code.length≤9223372036854775807) (hw:Wf code):∃ K,∀ k,K≤k→∀ s,dN (step0 t lo gl code s) (stepS k t lo gl code s):=by
  obtain ⟨K1,h1⟩:=Wx t lo gl code ht hs hc hw
  obtain ⟨K2,h2⟩:=aau (t:=t) (lo:=lo) (gl:=gl) (code:=code) ht
  refine ⟨max K1 K2,fun k hk s=>?_⟩
  unfold step0 stepS
  by_cases hsm:Small s
  case neg =>
    rw [if_neg hsm]
    exact dN.none _
  rw [if_pos hsm,if_pos hsm]
  have e1:bz.f k t lo gl code=some (oL t lo gl code):=h1 k (by omega)
  unfold nU.f
  rw [e1]
  exact Gn (h2 k (by omega)) _ s
theorem Inv.small (hr:jw t=true) {n:Nat} {s:St} {ty:List Int} (h:Inv t lo gl n s ty) (hn:n≤1000000):Small s:=by
  have:=h.few
  have hl:=h.len
  refine ⟨by omega,by omega,fun j hj=>?_⟩
  have q:=h.size j (by omega)
  rw [List.getD_eq_getElem?_getD,List.getElem?_eq_getElem hj,Option.getD_some] at q
  have:jl t (ty.getD j (-1))≤6:=by
    by_cases hτ:0≤ty.getD j (-1)
    · obtain ⟨m,hm⟩:=Int.eq_ofNat_of_zero_le hτ
      rw [hm]
      exact Eu hr m
    · unfold jl LY
      rw [if_neg (by simp only [decide_eq_false hτ,Bool.false_and,Bool.and_false];decide)]
      decide
  omega
theorem LC (hk0:(oL t lo gl code).2=0) {s s':St} {e:Int} (hsm:Small s) (h0:0≤s.pc) (hlt:s.pc < code.length) (hd:Ns (Yg t lo) s (aA code s.pc)=some (s',e)):step0 t lo gl code s=if e=0 then some (s',false,0) else some (s,false,e):=by
  unfold step0 vJ
  rw [if_pos hsm,if_pos hk0,if_neg (show ¬ s.pc < 0 by omega),if_neg (show ¬ (code.length:Int) < s.pc by omega),if_neg (show ¬ s.pc=code.length by omega),hd,Option.bind_some]
theorem LD (hk0:(oL t lo gl code).2=0) {s:St} (hsm:Small s) (h0:s.pc=code.length):step0 t lo gl code s=some (s,true,0):=by
  unfold step0 vJ
  rw [if_pos hsm,if_pos hk0,if_neg (show ¬ s.pc < 0 by omega),if_neg (show ¬ (code.length:Int) < s.pc by omega),if_pos h0]
theorem Yk:Small FV:=⟨by decide,by decide,fun j hj=>absurd hj (by simp [FV])⟩
end
end Go.Proofs.YtlemecdddhdagaaDoor.P
end
section
namespace Go.Proofs.YtlemecdddhdagaaDoor.P
open Go.RowKit Go.Proofs.ag.bI Go.Proofs.ag.dM Go.Proofs.ag.dZ
attribute [local go_sem] kU kS lW lV jS jR kT kR
theorem acd (d:Nat) (w:World) (x0 y0:Int) (x1 y1:Int) (x2 y2:Int) (x3 y3:Int) (x4 y4:Int) :
  (Op.equalIn (d+2) 55 (.agg #[.int .u8 x0,.int .u8 x1,.int .u8 x2,.int .u8 x3,.int .i64 x4]) (.agg #[.int .u8 y0,.int .u8 y1,.int .u8 y2,.int .u8 y3,.int .i64 y4])).run Tryd.prog w=.ok (x0 == y0 && (x1 == y1 && (x2 == y2 && (x3 == y3 && (x4 == y4))))) w:=by
 refine Y9 Tryd.underlying55 (by kernel_rfl) ?_
 refine xk (by rfl) (by go_simp;rfl) (by go_simp;rfl) (by go_simp) ?_
 refine xk (by rfl) (by go_simp;rfl) (by go_simp;rfl) (by go_simp) ?_
 refine xk (by rfl) (by go_simp;rfl) (by go_simp;rfl) (by go_simp) ?_
 refine xk (by rfl) (by go_simp;rfl) (by go_simp;rfl) (by go_simp) ?_
 exact PQ (by rfl) (by go_simp;rfl) (by go_simp;rfl) (by go_simp)
theorem qP {w:World} {g:Nat} {a0 a1 a2 a3:Value} {t:TypeId} (h:w.heap[g]? = some (.cells #[a0,a1,a2,a3] t (0,0))):w.cell? ⟨g,0,none⟩=some a0∧w.cell? ⟨g,1,none⟩=some a1∧w.cell? ⟨g,2,none⟩=some a2∧w.cell? ⟨g,3,none⟩=some a3∧w.frozen? ⟨g,0,none⟩=false∧w.frozen? ⟨g,1,none⟩=false∧w.frozen? ⟨g,2,none⟩=false∧w.frozen? ⟨g,3,none⟩=false:=⟨(ax h 0).trans rfl,(ax h 1).trans rfl,(ax h 2).trans rfl,(ax h 3).trans rfl,aC h 0,aC h 1,aC h 2,aC h 3⟩
theorem jT {w:World} {g:Nat} {a0 a1 a2 a3 a4:Value} {t:TypeId} (h:w.heap[g]? = some (.cells #[a0,a1,a2,a3,a4] t (0,0))):w.cell? ⟨g,0,none⟩=some a0∧w.cell? ⟨g,1,none⟩=some a1∧w.cell? ⟨g,2,none⟩=some a2∧w.cell? ⟨g,3,none⟩=some a3∧w.cell? ⟨g,4,none⟩=some a4∧w.frozen? ⟨g,0,none⟩=false∧w.frozen? ⟨g,1,none⟩=false∧w.frozen? ⟨g,2,none⟩=false∧w.frozen? ⟨g,3,none⟩=false∧w.frozen? ⟨g,4,none⟩=false:=⟨(ax h 0).trans rfl,(ax h 1).trans rfl,(ax h 2).trans rfl,(ax h 3).trans rfl,(ax h 4).trans rfl,aC h 0,aC h 1,aC h 2,aC h 3,aC h 4⟩
end Go.Proofs.YtlemecdddhdagaaDoor.P
end
section
namespace Go.Proofs.YtlemecdddhdagaaDoor.P
open Go.RowKit Go.Proofs.ag.bI Go.Proofs.ag.dM Go.Proofs.ag.dZ
attribute [local go_sem] kU kS lW lV jS jR kT kR
def eF.f (a0:Int) (a1:Int):Option (Int):=if a0 < 48 then (some (-1)) else (if ((a0 - 48) % 256) ≥ a1 then (some (-1)) else (some ((a0 - 48) % 256)))
set_option maxHeartbeats 8000000 in
set_option maxRecDepth 100000 in
theorem eF.calls (a0:Int) (a1:Int) (r:Int) (w:World) (h:eF.f a0 a1=some r) :
  Calls Tryd.prog 43 #[.int .u8 a0,.int .i64 a1] w fun e w'=>e=.returned (.int .i64 r)∧aT w w':=by
 have H:(if a0 < 48 then (some (-1)) else (if ((a0 - 48) % 256) ≥ a1 then (some (-1)) else (some ((a0 - 48) % 256))))=some r:=h
 clear h
 by_cases c3:a0 < 48
 ·
  rw [if_pos c3] at H
  have nN:decide (a0 < 48)=true:=decide_eq_true c3
  clear c3
  obtain rfl:=Option.some.inj H
  go_enter Tryd.func43,Tryd.ntmps43
  go_wp2
  go_ret
  exact ⟨by first|rfl|(simp;done)|(simp [*];done),by repeat (first|exact aT.refl _|apply aT.step)⟩
 ·
  rw [if_neg c3] at H
  have nN:decide (a0 < 48)=false:=decide_eq_false c3
  clear c3
  by_cases c4:((a0 - 48) % 256) ≥ a1
  ·
   rw [if_pos c4] at H
   have nM:decide (a1≤((a0 - 48) % 256))=true:=decide_eq_true c4
   clear c4
   obtain rfl:=Option.some.inj H
   go_enter Tryd.func43,Tryd.ntmps43
   go_wp2
   go_ret
   exact ⟨by first|rfl|(simp;done)|(simp [*];done),by repeat (first|exact aT.refl _|apply aT.step)⟩
  ·
   rw [if_neg c4] at H
   have nM:decide (a1≤((a0 - 48) % 256))=false:=decide_eq_false c4
   clear c4
   obtain rfl:=Option.some.inj H
   go_enter Tryd.func43,Tryd.ntmps43
   go_wp2
   go_ret
   exact ⟨by first|rfl|(simp;done)|(simp [*];done),by repeat (first|exact aT.refl _|apply aT.step)⟩
mutual
def aK.l0:Nat→List ByteArray→Int→Option (Bool)
 | 0,_,_=>none
 | k+1,x0,x3=>if x3 < (x0.length:Int) then (if 0≤x3 then (aK.l1 k x0 x3 (dW ByteArray.empty x0 x3) 0) else (none)) else (if (x0.length:Int) ≥ 1 then (some (decide ((x0.length:Int)≤8))) else (some false))
def aK.l1:Nat→List ByteArray→Int→ByteArray→Int→Option (Bool)
 | 0,_,_,_,_=>none
 | k+1,x0,x3,x4,x5=>if x5 < (x4.size:Int) then (if 0≤x5 then (if (bt x4 x5)=105 then (aK.l1 k x0 x3 x4 (wrap64 (x5+1))) else ((eF.f (bt x4 x5) (x0.length:Int)).bind fun t102=>(if t102 < 0 then (some false) else (aK.l1 k x0 x3 x4 (wrap64 (x5+1)))))) else (none)) else (if (x4.size:Int) < 1 then (some false) else (if (x4.size:Int) > 6 then (some false) else (aK.l0 k x0 (wrap64 (x3+1)))))
end
def aK.f (k:Nat) (l0:List ByteArray):Option (Bool):=aK.l0 k l0 0
theorem aK.gY:∀ k,(∀ y0 y1,dN (aK.l0 k y0 y1) (aK.l0 (k+1) y0 y1))∧(∀ y0 y1 y2 y3,dN (aK.l1 k y0 y1 y2 y3) (aK.l1 (k+1) y0 y1 y2 y3))
 | 0=>⟨fun _ _ r h=>by simp [aK.l0] at h,fun _ _ _ _ r h=>by simp [aK.l1] at h⟩
 | k+1=>by
  obtain ⟨lF,ih1⟩:=aK.gY k
  refine ⟨?_,?_⟩
  ·
   intro y0 y1
   unfold aK.l0
   repeat' with_reducible first|apply lF|apply ih1|exact dN.refl _|exact dN.none _|refine dN.ite ?_ ?_|refine dN.bind ?_ (fun _=>?_)
  ·
   intro y0 y1 y2 y3
   unfold aK.l1
   repeat' with_reducible first|apply lF|apply ih1|exact dN.refl _|exact dN.none _|refine dN.ite ?_ ?_|refine dN.bind ?_ (fun _=>?_)
theorem aK.mono:∀ a0 k,dN (aK.f k a0) (aK.f (k+1) a0):=by
 intro a0 k
 obtain ⟨lF,ih1⟩:=aK.gY k
 unfold aK.f
 repeat' with_reducible first|apply lF|apply ih1|exact dN.refl _|exact dN.none _|refine dN.ite ?_ ?_|refine dN.bind ?_ (fun _=>?_)
set_option maxHeartbeats 8000000 in
set_option maxRecDepth 100000 in
theorem aK.calls (k:Nat) (A0:Option Addr) (c0:Nat) (l0:List ByteArray) (r:Bool) (w:World) (hr0:Kd.C Kd.string w A0 l0.length l0) (hc0:l0.length≤c0) (h:aK.f k l0=some r) :
  Calls Tryd.prog 44 #[.slice A0 l0.length c0] w fun e w'=>e=.returned (.bool r)∧aT w w':=by
 have HR0:=ae.mk hr0
 have tY:=ae.mk hc0
 clear hr0 hc0
 have H:(aK.l0 k l0 0)=some r:=h
 clear h
 have H':=ae.mk H
 clear H
 go_enter Tryd.func44,Tryd.ntmps44
 go_wp2
 go_loopg [3] k (fun kq v3 w'=>∃ (jX:Int),v3=.int .i64 jX∧ae (aK.l0 kq l0 jX=some r)∧ae (kq≤k)∧aT w w')
 case atStart=>exact ⟨(0),(by first|rfl|(simp;done)|(simp [*];done)),H',⟨Nat.le_refl _⟩,by repeat (first|exact aT.refl _|apply aT.step)⟩
 case round =>
  clear H'
  obtain ⟨jX,rfl,HA,rW,⟨m1,rfl⟩⟩:=hrel
  cases gk with
  | zero=>exact absurd HA.out (by simp [aK.l0])
  | succ k1 =>
   have H:=HA.out
   clear HA
   simp only [aK.l0] at H
   by_cases c2:jX < (l0.length:Int)
   ·
    rw [if_pos c2] at H
    have Ec:decide (jX < (l0.length:Int))=true:=decide_eq_true c2
    clear c2
    by_cases c3:0≤jX
    ·
     rw [if_pos c3] at H
     have nN:decide (0≤jX)=true:=decide_eq_true c3
     clear c3
     have H':=ae.mk H
     clear H
     have GN:0≤(jX:Int):=of_decide_eq_true (by first|(with_reducible assumption)|assumption)
     have Gy:jX < (l0.length:Int):=of_decide_eq_true (by first|(with_reducible assumption)|assumption)
     obtain ⟨ado,Ze,RU⟩:=Kd.jD HR0.out jX GN Gy
     cases Ze
     replace GN:=eq_true GN
     replace Gy:=eq_true Gy
     go_wp2
     go_loopg [5] k1 (fun kq v5 w'=>∃ (nI:Int),v5=.int .i64 nI∧ae (aK.l1 kq l0 jX (dW ByteArray.empty l0 jX) nI=some r)∧ae (kq≤k1)∧aT w w')
     case atStart=>exact ⟨(0),(by first|rfl|(simp;done)|(simp [*];done)),H',⟨Nat.le_refl _⟩,by repeat (first|exact aT.refl _|apply aT.step)⟩
     case round =>
      clear H'
      obtain ⟨nI,rfl,HA,AZ,⟨m2,rfl⟩⟩:=hrel
      cases gk with
      | zero=>exact absurd HA.out (by simp [aK.l1])
      | succ k2 =>
       have H:=HA.out
       clear HA
       simp only [aK.l1] at H
       by_cases c4:nI < ((dW ByteArray.empty l0 jX).size:Int)
       ·
        rw [if_pos c4] at H
        have nM:decide (nI < ((dW ByteArray.empty l0 jX).size:Int))=true:=decide_eq_true c4
        clear c4
        by_cases c5:0≤nI
        ·
         rw [if_pos c5] at H
         have qO:decide (0≤nI)=true:=decide_eq_true c5
         clear c5
         by_cases c7:(bt (dW ByteArray.empty l0 jX) nI)=105
         ·
          rw [if_pos c7] at H
          have nV:((bt (dW ByteArray.empty l0 jX) nI) == 105)=true:=beq_iff_eq.mpr c7
          have xn:((bt (dW ByteArray.empty l0 jX) nI) != 105)=false:=bne_eq_false_iff_eq.mpr c7
          clear c7
          have H':=ae.mk H
          clear H
          have p6:0≤(nI:Int):=of_decide_eq_true (by first|(with_reducible assumption)|assumption)
          have q6:nI < ((dW ByteArray.empty l0 jX).size:Int):=of_decide_eq_true (by first|(with_reducible assumption)|assumption)
          have hx6:=kL (dW ByteArray.empty l0 jX) nI
          replace p6:=eq_true p6
          replace q6:=eq_true q6
          go_wp2
          go_roundg k2
          case measure=>have:=rW.out;have:=AZ.out;omega
          case rel=>exact ⟨(wrap64 (nI+1)),(by first|rfl|(simp;done)|(simp [*];done)),H',⟨by have:=rW.out;have:=AZ.out;omega⟩,by repeat (first|exact aT.refl _|apply aT.step)⟩
         ·
          rw [if_neg c7] at H
          have nV:((bt (dW ByteArray.empty l0 jX) nI) == 105)=false:=beq_eq_false_iff_ne.mpr c7
          have xn:((bt (dW ByteArray.empty l0 jX) nI) != 105)=true:=bne_iff_ne.mpr c7
          replace H:=Option.bind_eq_some_iff.mp H
          obtain ⟨t102,Np,H⟩:=H
          replace H:(if t102 < 0 then (some false) else (aK.l1 k2 l0 jX (dW ByteArray.empty l0 jX) (wrap64 (nI+1))))=some r:=H
          have A9:=ae.mk Np
          clear Np
          by_cases c10:t102 < 0
          ·
           rw [if_pos c10] at H
           have oW:decide (t102 < 0)=true:=decide_eq_true c10
           clear c10
           obtain rfl:=Option.some.inj H
           have p6:0≤(nI:Int):=of_decide_eq_true (by first|(with_reducible assumption)|assumption)
           have q6:nI < ((dW ByteArray.empty l0 jX).size:Int):=of_decide_eq_true (by first|(with_reducible assumption)|assumption)
           have hx6:=kL (dW ByteArray.empty l0 jX) nI
           replace p6:=eq_true p6
           replace q6:=eq_true q6
           have p8:0≤(nI:Int):=of_decide_eq_true (by first|(with_reducible assumption)|assumption)
           have q8:nI < ((dW ByteArray.empty l0 jX).size:Int):=of_decide_eq_true (by first|(with_reducible assumption)|assumption)
           have hx8:=kL (dW ByteArray.empty l0 jX) nI
           replace p8:=eq_true p8
           replace q8:=eq_true q8
           go_wp2_with (first|(go_at_call 43;(with_reducible refine (eF.calls (bt (dW ByteArray.empty l0 jX) nI) (l0.length:Int) t102 _ A9.out).mono ?_);rintro e w' ⟨rfl,⟨nd,rfl⟩⟩))
           go_ret
           exact ⟨by first|rfl|(simp;done)|(simp [*];done),by repeat (first|exact aT.refl _|apply aT.step)⟩
          ·
           rw [if_neg c10] at H
           have oW:decide (t102 < 0)=false:=decide_eq_false c10
           clear c10
           have H':=ae.mk H
           clear H
           have p6:0≤(nI:Int):=of_decide_eq_true (by first|(with_reducible assumption)|assumption)
           have q6:nI < ((dW ByteArray.empty l0 jX).size:Int):=of_decide_eq_true (by first|(with_reducible assumption)|assumption)
           have hx6:=kL (dW ByteArray.empty l0 jX) nI
           replace p6:=eq_true p6
           replace q6:=eq_true q6
           have p8:0≤(nI:Int):=of_decide_eq_true (by first|(with_reducible assumption)|assumption)
           have q8:nI < ((dW ByteArray.empty l0 jX).size:Int):=of_decide_eq_true (by first|(with_reducible assumption)|assumption)
           have hx8:=kL (dW ByteArray.empty l0 jX) nI
           replace p8:=eq_true p8
           replace q8:=eq_true q8
           go_wp2_with (first|(go_at_call 43;(with_reducible refine (eF.calls (bt (dW ByteArray.empty l0 jX) nI) (l0.length:Int) t102 _ A9.out).mono ?_);rintro e w' ⟨rfl,⟨nd,rfl⟩⟩))
           go_roundg k2
           case measure=>have:=rW.out;have:=AZ.out;omega
           case rel=>exact ⟨(wrap64 (nI+1)),(by first|rfl|(simp;done)|(simp [*];done)),H',⟨by have:=rW.out;have:=AZ.out;omega⟩,by repeat (first|exact aT.refl _|apply aT.step)⟩
        ·
         rw [if_neg c5] at H
         exact absurd H (by simp)
       ·
        rw [if_neg c4] at H
        have nM:decide (nI < ((dW ByteArray.empty l0 jX).size:Int))=false:=decide_eq_false c4
        clear c4
        by_cases c11:((dW ByteArray.empty l0 jX).size:Int) < 1
        ·
         rw [if_pos c11] at H
         have uz:decide (((dW ByteArray.empty l0 jX).size:Int) < 1)=true:=decide_eq_true c11
         have CE:decide ((dW ByteArray.empty l0 jX).size < 1)=true:=decide_eq_true (by omega)
         clear c11
         obtain rfl:=Option.some.inj H
         go_wp2
         go_ret
         exact ⟨by first|rfl|(simp;done)|(simp [*];done),by repeat (first|exact aT.refl _|apply aT.step)⟩
        ·
         rw [if_neg c11] at H
         have uz:decide (((dW ByteArray.empty l0 jX).size:Int) < 1)=false:=decide_eq_false c11
         have CE:decide ((dW ByteArray.empty l0 jX).size < 1)=false:=decide_eq_false (by omega)
         clear c11
         by_cases c12:((dW ByteArray.empty l0 jX).size:Int) > 6
         ·
          rw [if_pos c12] at H
          have vW:decide (6 < ((dW ByteArray.empty l0 jX).size:Int))=true:=decide_eq_true c12
          have Qa:decide (6 < (dW ByteArray.empty l0 jX).size)=true:=decide_eq_true (by omega)
          clear c12
          obtain rfl:=Option.some.inj H
          go_wp2
          go_ret
          exact ⟨by first|rfl|(simp;done)|(simp [*];done),by repeat (first|exact aT.refl _|apply aT.step)⟩
         ·
          rw [if_neg c12] at H
          have vW:decide (6 < ((dW ByteArray.empty l0 jX).size:Int))=false:=decide_eq_false c12
          have Qa:decide (6 < (dW ByteArray.empty l0 jX).size)=false:=decide_eq_false (by omega)
          clear c12
          have H':=ae.mk H
          clear H
          go_wp2
          go_roundg k2
          case measure=>have:=rW.out;have:=AZ.out;omega
          case rel=>exact ⟨(wrap64 (jX+1)),(by first|rfl|(simp;done)|(simp [*];done)),H',⟨by have:=rW.out;have:=AZ.out;omega⟩,by repeat (first|exact aT.refl _|apply aT.step)⟩
    ·
     rw [if_neg c3] at H
     exact absurd H (by simp)
   ·
    rw [if_neg c2] at H
    have Ec:decide (jX < (l0.length:Int))=false:=decide_eq_false c2
    clear c2
    by_cases c13:(l0.length:Int) ≥ 1
    ·
     rw [if_pos c13] at H
     have l9:decide (1≤(l0.length:Int))=true:=decide_eq_true c13
     have xq:decide (1≤l0.length)=true:=decide_eq_true (by omega)
     clear c13
     obtain rfl:=Option.some.inj H
     go_wp2
     go_ret
     exact ⟨by first|rfl|(simp;done)|(simp [*];done),by repeat (first|exact aT.refl _|apply aT.step)⟩
    ·
     rw [if_neg c13] at H
     have l9:decide (1≤(l0.length:Int))=false:=decide_eq_false c13
     have xq:decide (1≤l0.length)=false:=decide_eq_false (by omega)
     clear c13
     obtain rfl:=Option.some.inj H
     go_wp2
     go_ret
     exact ⟨by first|rfl|(simp;done)|(simp [*];done),by repeat (first|exact aT.refl _|apply aT.step)⟩
def aW.l0:Nat→List ByteArray→ByteArray→Int→Option (Bool)
 | 0,_,_,_=>none
 | k+1,x0,x1,x5=>if x5 < (x1.size:Int) then (if 0≤x5 then ((eF.f (bt x1 x5) (x0.length:Int)).bind fun t103=>(if t103 < 0 then (some false) else (aW.l0 k x0 x1 (wrap64 (x5+1))))) else (none)) else ((aK.f k x0).bind fun t104=>(some t104))
def aW.f (k:Nat) (l0:List ByteArray) (a1:ByteArray):Option (Bool):=aW.l0 k l0 a1 0
theorem aW.gY:∀ k,(∀ y0 y1 y2,dN (aW.l0 k y0 y1 y2) (aW.l0 (k+1) y0 y1 y2))
 | 0=>fun _ _ _ r h=>by simp [aW.l0] at h
 | k+1=>by
  have lF:=aW.gY k
  ·
   intro y0 y1 y2
   unfold aW.l0
   repeat' with_reducible first|apply lF|apply aK.mono|exact dN.refl _|exact dN.none _|refine dN.ite ?_ ?_|refine dN.bind ?_ (fun _=>?_)
theorem aW.mono:∀ a0 a1 k,dN (aW.f k a0 a1) (aW.f (k+1) a0 a1):=by
 intro a0 a1 k
 have lF:=aW.gY k
 unfold aW.f
 repeat' with_reducible first|apply lF|apply aK.mono|exact dN.refl _|exact dN.none _|refine dN.ite ?_ ?_|refine dN.bind ?_ (fun _=>?_)
set_option maxHeartbeats 8000000 in
set_option maxRecDepth 100000 in
theorem aW.calls (k:Nat) (A0:Option Addr) (c0:Nat) (l0:List ByteArray) (a1:ByteArray) (r:Bool) (w:World) (hr0:Kd.C Kd.string w A0 l0.length l0) (hc0:l0.length≤c0) (h:aW.f k l0 a1=some r) :
  Calls Tryd.prog 27 #[.slice A0 l0.length c0,.string a1] w fun e w'=>e=.returned (.bool r)∧aT w w':=by
 have HR0:=ae.mk hr0
 have tY:=ae.mk hc0
 clear hr0 hc0
 have H:(aW.l0 k l0 a1 0)=some r:=h
 clear h
 have H':=ae.mk H
 clear H
 go_enter Tryd.func27,Tryd.ntmps27
 go_wp2
 go_loopg [5] k (fun kq v5 w'=>∃ (jd:Int),v5=.int .i64 jd∧ae (aW.l0 kq l0 a1 jd=some r)∧ae (kq≤k)∧aT w w')
 case atStart=>exact ⟨(0),(by first|rfl|(simp;done)|(simp [*];done)),H',⟨Nat.le_refl _⟩,by repeat (first|exact aT.refl _|apply aT.step)⟩
 case round =>
  clear H'
  obtain ⟨jd,rfl,HA,rW,⟨m1,rfl⟩⟩:=hrel
  cases gk with
  | zero=>exact absurd HA.out (by simp [aW.l0])
  | succ k1 =>
   have H:=HA.out
   clear HA
   simp only [aW.l0] at H
   by_cases c3:jd < (a1.size:Int)
   ·
    rw [if_pos c3] at H
    have nN:decide (jd < (a1.size:Int))=true:=decide_eq_true c3
    clear c3
    by_cases c4:0≤jd
    ·
     rw [if_pos c4] at H
     have nM:decide (0≤jd)=true:=decide_eq_true c4
     clear c4
     replace H:=Option.bind_eq_some_iff.mp H
     obtain ⟨t103,Lp,H⟩:=H
     replace H:(if t103 < 0 then (some false) else (aW.l0 k1 l0 a1 (wrap64 (jd+1))))=some r:=H
     have A6:=ae.mk Lp
     clear Lp
     by_cases c7:t103 < 0
     ·
      rw [if_pos c7] at H
      have nV:decide (t103 < 0)=true:=decide_eq_true c7
      clear c7
      obtain rfl:=Option.some.inj H
      have p5:0≤(jd:Int):=of_decide_eq_true (by first|(with_reducible assumption)|assumption)
      have q5:jd < (a1.size:Int):=of_decide_eq_true (by first|(with_reducible assumption)|assumption)
      have hx5:=kL a1 jd
      replace p5:=eq_true p5
      replace q5:=eq_true q5
      go_wp2_with (first|((with_reducible refine bu (f:=43) rfl ?_);refine dS (some 17) rfl rfl Tryd.func43 (by kernel_rfl) rfl #[.int .u8 (bt a1 jd),.int .i64 (l0.length:Int)] rfl (by (try simp only [List.map_toArray,List.map_cons,List.map_nil]);first|done|rfl|(simp only [List.length_drop,List.length_take];rfl)) ?_;(with_reducible refine (eF.calls (bt a1 jd) (l0.length:Int) t103 _ A6.out).mono ?_);rintro e w' ⟨rfl,⟨nd,rfl⟩⟩;refine ⟨_,rfl,?_⟩))
      go_ret
      exact ⟨by first|rfl|(simp;done)|(simp [*];done),by repeat (first|exact aT.refl _|apply aT.step)⟩
     ·
      rw [if_neg c7] at H
      have nV:decide (t103 < 0)=false:=decide_eq_false c7
      clear c7
      have H':=ae.mk H
      clear H
      have p5:0≤(jd:Int):=of_decide_eq_true (by first|(with_reducible assumption)|assumption)
      have q5:jd < (a1.size:Int):=of_decide_eq_true (by first|(with_reducible assumption)|assumption)
      have hx5:=kL a1 jd
      replace p5:=eq_true p5
      replace q5:=eq_true q5
      go_wp2_with (first|((with_reducible refine bu (f:=43) rfl ?_);refine dS (some 17) rfl rfl Tryd.func43 (by kernel_rfl) rfl #[.int .u8 (bt a1 jd),.int .i64 (l0.length:Int)] rfl (by (try simp only [List.map_toArray,List.map_cons,List.map_nil]);first|done|rfl|(simp only [List.length_drop,List.length_take];rfl)) ?_;(with_reducible refine (eF.calls (bt a1 jd) (l0.length:Int) t103 _ A6.out).mono ?_);rintro e w' ⟨rfl,⟨nd,rfl⟩⟩;refine ⟨_,rfl,?_⟩))
      go_roundg k1
      case measure=>have:=rW.out;omega
      case rel=>exact ⟨(wrap64 (jd+1)),(by first|rfl|(simp;done)|(simp [*];done)),H',⟨by have:=rW.out;omega⟩,by repeat (first|exact aT.refl _|apply aT.step)⟩
    ·
     rw [if_neg c4] at H
     exact absurd H (by simp)
   ·
    rw [if_neg c3] at H
    have nN:decide (jd < (a1.size:Int))=false:=decide_eq_false c3
    clear c3
    replace H:=Option.bind_eq_some_iff.mp H
    obtain ⟨t104,X4,H⟩:=H
    replace H:(some t104)=some r:=H
    have A8:=ae.mk X4
    clear X4
    obtain rfl:=Option.some.inj H
    go_wp2_with (first|((with_reducible refine bu (f:=44) rfl ?_);refine dS (some 20) rfl rfl Tryd.func44 (by kernel_rfl) rfl #[.slice A0 l0.length c0] rfl (by (try simp only [List.map_toArray,List.map_cons,List.map_nil]);first|done|rfl|(simp only [List.length_drop,List.length_take];rfl)) ?_;(with_reducible refine (aK.calls k1 _ _ l0 t104 _ ?cu ?dw A8.out).mono ?_);(case cu=>repeat (first|exact HR0.out|(with_reducible refine Kd.bT ?_ _)|(with_reducible refine Kd.bQ ?_ _)|(with_reducible refine Kd.dD ?_)));(case dw=>exact tY.out);rintro e w' ⟨rfl,⟨nd,rfl⟩⟩;refine ⟨_,rfl,?_⟩))
    go_ret
    exact ⟨by first|rfl|(simp;done)|(simp [*];done),by repeat (first|exact aT.refl _|apply aT.step)⟩
def jA.f (a0:Int):Option (ByteArray × ByteArray):=if a0=11 then (some ((⟨#[115,116,111,114,101,112]⟩:ByteArray),(⟨#[97,110,98]⟩:ByteArray))) else (if a0=12 then (some ((⟨#[108,111,97,100,103]⟩:ByteArray),(⟨#[97,98]⟩:ByteArray))) else (if a0=13 then (some ((⟨#[115,116,111,114,101,103]⟩:ByteArray),(⟨#[97,98]⟩:ByteArray))) else (if a0=14 then (some ((⟨#[112,114,105,110,116]⟩:ByteArray),(⟨#[97]⟩:ByteArray))) else (if a0=15 then (some ((⟨#[115,97,109,101]⟩:ByteArray),(⟨#[97,98,99]⟩:ByteArray))) else (some ((⟨#[]⟩:ByteArray),(⟨#[]⟩:ByteArray)))))))
set_option maxHeartbeats 8000000 in
set_option maxRecDepth 100000 in
theorem jA.calls (a0:Int) (r1:ByteArray) (r2:ByteArray) (w:World) (h:jA.f a0=some (r1,r2)) :
  Calls Tryd.prog 63 #[.int .u8 a0] w fun e w'=>e=.returned (.tuple #[.string r1,.string r2])∧aT w w':=by
 have H:(if a0=11 then (some ((⟨#[115,116,111,114,101,112]⟩:ByteArray),(⟨#[97,110,98]⟩:ByteArray))) else (if a0=12 then (some ((⟨#[108,111,97,100,103]⟩:ByteArray),(⟨#[97,98]⟩:ByteArray))) else (if a0=13 then (some ((⟨#[115,116,111,114,101,103]⟩:ByteArray),(⟨#[97,98]⟩:ByteArray))) else (if a0=14 then (some ((⟨#[112,114,105,110,116]⟩:ByteArray),(⟨#[97]⟩:ByteArray))) else (if a0=15 then (some ((⟨#[115,97,109,101]⟩:ByteArray),(⟨#[97,98,99]⟩:ByteArray))) else (some ((⟨#[]⟩:ByteArray),(⟨#[]⟩:ByteArray))))))))=some (r1,r2):=h
 clear h
 by_cases c2:a0=11
 ·
  rw [if_pos c2] at H
  have Ec:(a0 == 11)=true:=beq_iff_eq.mpr c2
  have ZC:(a0 != 11)=false:=bne_eq_false_iff_eq.mpr c2
  clear c2
  simp only [Option.some.injEq,Prod.mk.injEq] at H
  obtain ⟨rfl,rfl⟩:=H
  go_enter Tryd.func63,Tryd.ntmps63
  go_wp2
  go_ret2
  exact ⟨by first|rfl|(simp;done)|(simp [*];done),by repeat (first|exact aT.refl _|apply aT.step)⟩
 ·
  rw [if_neg c2] at H
  have Ec:(a0 == 11)=false:=beq_eq_false_iff_ne.mpr c2
  have ZC:(a0 != 11)=true:=bne_iff_ne.mpr c2
  by_cases c3:a0=12
  ·
   rw [if_pos c3] at H
   have nN:(a0 == 12)=true:=beq_iff_eq.mpr c3
   have yI:(a0 != 12)=false:=bne_eq_false_iff_eq.mpr c3
   clear c3
   simp only [Option.some.injEq,Prod.mk.injEq] at H
   obtain ⟨rfl,rfl⟩:=H
   go_enter Tryd.func63,Tryd.ntmps63
   go_wp2
   go_ret2
   exact ⟨by first|rfl|(simp;done)|(simp [*];done),by repeat (first|exact aT.refl _|apply aT.step)⟩
  ·
   rw [if_neg c3] at H
   have nN:(a0 == 12)=false:=beq_eq_false_iff_ne.mpr c3
   have yI:(a0 != 12)=true:=bne_iff_ne.mpr c3
   by_cases c4:a0=13
   ·
    rw [if_pos c4] at H
    have nM:(a0 == 13)=true:=beq_iff_eq.mpr c4
    have Hm:(a0 != 13)=false:=bne_eq_false_iff_eq.mpr c4
    clear c4
    simp only [Option.some.injEq,Prod.mk.injEq] at H
    obtain ⟨rfl,rfl⟩:=H
    go_enter Tryd.func63,Tryd.ntmps63
    go_wp2
    go_ret2
    exact ⟨by first|rfl|(simp;done)|(simp [*];done),by repeat (first|exact aT.refl _|apply aT.step)⟩
   ·
    rw [if_neg c4] at H
    have nM:(a0 == 13)=false:=beq_eq_false_iff_ne.mpr c4
    have Hm:(a0 != 13)=true:=bne_iff_ne.mpr c4
    by_cases c5:a0=14
    ·
     rw [if_pos c5] at H
     have qO:(a0 == 14)=true:=beq_iff_eq.mpr c5
     have Nb:(a0 != 14)=false:=bne_eq_false_iff_eq.mpr c5
     clear c5
     simp only [Option.some.injEq,Prod.mk.injEq] at H
     obtain ⟨rfl,rfl⟩:=H
     go_enter Tryd.func63,Tryd.ntmps63
     go_wp2
     go_ret2
     exact ⟨by first|rfl|(simp;done)|(simp [*];done),by repeat (first|exact aT.refl _|apply aT.step)⟩
    ·
     rw [if_neg c5] at H
     have qO:(a0 == 14)=false:=beq_eq_false_iff_ne.mpr c5
     have Nb:(a0 != 14)=true:=bne_iff_ne.mpr c5
     by_cases c6:a0=15
     ·
      rw [if_pos c6] at H
      have nR:(a0 == 15)=true:=beq_iff_eq.mpr c6
      have xP:(a0 != 15)=false:=bne_eq_false_iff_eq.mpr c6
      clear c6
      simp only [Option.some.injEq,Prod.mk.injEq] at H
      obtain ⟨rfl,rfl⟩:=H
      go_enter Tryd.func63,Tryd.ntmps63
      go_wp2
      go_ret2
      exact ⟨by first|rfl|(simp;done)|(simp [*];done),by repeat (first|exact aT.refl _|apply aT.step)⟩
     ·
      rw [if_neg c6] at H
      have nR:(a0 == 15)=false:=beq_eq_false_iff_ne.mpr c6
      have xP:(a0 != 15)=true:=bne_iff_ne.mpr c6
      simp only [Option.some.injEq,Prod.mk.injEq] at H
      obtain ⟨rfl,rfl⟩:=H
      go_enter Tryd.func63,Tryd.ntmps63
      go_wp2
      go_ret2
      exact ⟨by first|rfl|(simp;done)|(simp [*];done),by repeat (first|exact aT.refl _|apply aT.step)⟩
def fG.f (a0:Int):Option (ByteArray × ByteArray):=if a0=1 then (some ((⟨#[115,101,116]⟩:ByteArray),(⟨#[97,110]⟩:ByteArray))) else (if a0=2 then (some ((⟨#[97,100,100]⟩:ByteArray),(⟨#[97,98,99]⟩:ByteArray))) else (if a0=3 then (some ((⟨#[106,117,109,112]⟩:ByteArray),(⟨#[110]⟩:ByteArray))) else (if a0=4 then (some ((⟨#[122,101,114,111]⟩:ByteArray),(⟨#[97,110]⟩:ByteArray))) else (if a0=5 then (some ((⟨#[110,101,119]⟩:ByteArray),(⟨#[97]⟩:ByteArray))) else (if a0=6 then (some ((⟨#[110,105,108]⟩:ByteArray),(⟨#[97]⟩:ByteArray))) else (if a0=7 then (some ((⟨#[109,111,118,101]⟩:ByteArray),(⟨#[97,98]⟩:ByteArray))) else (if a0=8 then (some ((⟨#[108,111,97,100,105]⟩:ByteArray),(⟨#[97,98,110]⟩:ByteArray))) else (if a0=9 then (some ((⟨#[115,116,111,114,101,105]⟩:ByteArray),(⟨#[97,110,98]⟩:ByteArray))) else (if a0=10 then (some ((⟨#[108,111,97,100,112]⟩:ByteArray),(⟨#[97,98,110]⟩:ByteArray))) else ((jA.f a0).bind fun FT=>(some (FT.1,FT.2))))))))))))
set_option maxHeartbeats 8000000 in
set_option maxRecDepth 100000 in
theorem fG.calls (a0:Int) (r1:ByteArray) (r2:ByteArray) (w:World) (h:fG.f a0=some (r1,r2)) :
  Calls Tryd.prog 45 #[.int .u8 a0] w fun e w'=>e=.returned (.tuple #[.string r1,.string r2])∧aT w w':=by
 have H:(if a0=1 then (some ((⟨#[115,101,116]⟩:ByteArray),(⟨#[97,110]⟩:ByteArray))) else (if a0=2 then (some ((⟨#[97,100,100]⟩:ByteArray),(⟨#[97,98,99]⟩:ByteArray))) else (if a0=3 then (some ((⟨#[106,117,109,112]⟩:ByteArray),(⟨#[110]⟩:ByteArray))) else (if a0=4 then (some ((⟨#[122,101,114,111]⟩:ByteArray),(⟨#[97,110]⟩:ByteArray))) else (if a0=5 then (some ((⟨#[110,101,119]⟩:ByteArray),(⟨#[97]⟩:ByteArray))) else (if a0=6 then (some ((⟨#[110,105,108]⟩:ByteArray),(⟨#[97]⟩:ByteArray))) else (if a0=7 then (some ((⟨#[109,111,118,101]⟩:ByteArray),(⟨#[97,98]⟩:ByteArray))) else (if a0=8 then (some ((⟨#[108,111,97,100,105]⟩:ByteArray),(⟨#[97,98,110]⟩:ByteArray))) else (if a0=9 then (some ((⟨#[115,116,111,114,101,105]⟩:ByteArray),(⟨#[97,110,98]⟩:ByteArray))) else (if a0=10 then (some ((⟨#[108,111,97,100,112]⟩:ByteArray),(⟨#[97,98,110]⟩:ByteArray))) else ((jA.f a0).bind fun FT=>(some (FT.1,FT.2)))))))))))))=some (r1,r2):=h
 clear h
 by_cases c2:a0=1
 ·
  rw [if_pos c2] at H
  have Ec:(a0 == 1)=true:=beq_iff_eq.mpr c2
  have ZC:(a0 != 1)=false:=bne_eq_false_iff_eq.mpr c2
  clear c2
  simp only [Option.some.injEq,Prod.mk.injEq] at H
  obtain ⟨rfl,rfl⟩:=H
  go_enter Tryd.func45,Tryd.ntmps45
  go_wp2
  go_ret2
  exact ⟨by first|rfl|(simp;done)|(simp [*];done),by repeat (first|exact aT.refl _|apply aT.step)⟩
 ·
  rw [if_neg c2] at H
  have Ec:(a0 == 1)=false:=beq_eq_false_iff_ne.mpr c2
  have ZC:(a0 != 1)=true:=bne_iff_ne.mpr c2
  by_cases c3:a0=2
  ·
   rw [if_pos c3] at H
   have nN:(a0 == 2)=true:=beq_iff_eq.mpr c3
   have yI:(a0 != 2)=false:=bne_eq_false_iff_eq.mpr c3
   clear c3
   simp only [Option.some.injEq,Prod.mk.injEq] at H
   obtain ⟨rfl,rfl⟩:=H
   go_enter Tryd.func45,Tryd.ntmps45
   go_wp2
   go_ret2
   exact ⟨by first|rfl|(simp;done)|(simp [*];done),by repeat (first|exact aT.refl _|apply aT.step)⟩
  ·
   rw [if_neg c3] at H
   have nN:(a0 == 2)=false:=beq_eq_false_iff_ne.mpr c3
   have yI:(a0 != 2)=true:=bne_iff_ne.mpr c3
   by_cases c4:a0=3
   ·
    rw [if_pos c4] at H
    have nM:(a0 == 3)=true:=beq_iff_eq.mpr c4
    have Hm:(a0 != 3)=false:=bne_eq_false_iff_eq.mpr c4
    clear c4
    simp only [Option.some.injEq,Prod.mk.injEq] at H
    obtain ⟨rfl,rfl⟩:=H
    go_enter Tryd.func45,Tryd.ntmps45
    go_wp2
    go_ret2
    exact ⟨by first|rfl|(simp;done)|(simp [*];done),by repeat (first|exact aT.refl _|apply aT.step)⟩
   ·
    rw [if_neg c4] at H
    have nM:(a0 == 3)=false:=beq_eq_false_iff_ne.mpr c4
    have Hm:(a0 != 3)=true:=bne_iff_ne.mpr c4
    by_cases c5:a0=4
    ·
     rw [if_pos c5] at H
     have qO:(a0 == 4)=true:=beq_iff_eq.mpr c5
     have Nb:(a0 != 4)=false:=bne_eq_false_iff_eq.mpr c5
     clear c5
     simp only [Option.some.injEq,Prod.mk.injEq] at H
     obtain ⟨rfl,rfl⟩:=H
     go_enter Tryd.func45,Tryd.ntmps45
     go_wp2
     go_ret2
     exact ⟨by first|rfl|(simp;done)|(simp [*];done),by repeat (first|exact aT.refl _|apply aT.step)⟩
    ·
     rw [if_neg c5] at H
     have qO:(a0 == 4)=false:=beq_eq_false_iff_ne.mpr c5
     have Nb:(a0 != 4)=true:=bne_iff_ne.mpr c5
     by_cases c6:a0=5
     ·
      rw [if_pos c6] at H
      have nR:(a0 == 5)=true:=beq_iff_eq.mpr c6
      have xP:(a0 != 5)=false:=bne_eq_false_iff_eq.mpr c6
      clear c6
      simp only [Option.some.injEq,Prod.mk.injEq] at H
      obtain ⟨rfl,rfl⟩:=H
      go_enter Tryd.func45,Tryd.ntmps45
      go_wp2
      go_ret2
      exact ⟨by first|rfl|(simp;done)|(simp [*];done),by repeat (first|exact aT.refl _|apply aT.step)⟩
     ·
      rw [if_neg c6] at H
      have nR:(a0 == 5)=false:=beq_eq_false_iff_ne.mpr c6
      have xP:(a0 != 5)=true:=bne_iff_ne.mpr c6
      by_cases c7:a0=6
      ·
       rw [if_pos c7] at H
       have nV:(a0 == 6)=true:=beq_iff_eq.mpr c7
       have xn:(a0 != 6)=false:=bne_eq_false_iff_eq.mpr c7
       clear c7
       simp only [Option.some.injEq,Prod.mk.injEq] at H
       obtain ⟨rfl,rfl⟩:=H
       go_enter Tryd.func45,Tryd.ntmps45
       go_wp2
       go_ret2
       exact ⟨by first|rfl|(simp;done)|(simp [*];done),by repeat (first|exact aT.refl _|apply aT.step)⟩
      ·
       rw [if_neg c7] at H
       have nV:(a0 == 6)=false:=beq_eq_false_iff_ne.mpr c7
       have xn:(a0 != 6)=true:=bne_iff_ne.mpr c7
       by_cases c8:a0=7
       ·
        rw [if_pos c8] at H
        have oU:(a0 == 7)=true:=beq_iff_eq.mpr c8
        have yH:(a0 != 7)=false:=bne_eq_false_iff_eq.mpr c8
        clear c8
        simp only [Option.some.injEq,Prod.mk.injEq] at H
        obtain ⟨rfl,rfl⟩:=H
        go_enter Tryd.func45,Tryd.ntmps45
        go_wp2
        go_ret2
        exact ⟨by first|rfl|(simp;done)|(simp [*];done),by repeat (first|exact aT.refl _|apply aT.step)⟩
       ·
        rw [if_neg c8] at H
        have oU:(a0 == 7)=false:=beq_eq_false_iff_ne.mpr c8
        have yH:(a0 != 7)=true:=bne_iff_ne.mpr c8
        by_cases c9:a0=8
        ·
         rw [if_pos c9] at H
         have Eb:(a0 == 8)=true:=beq_iff_eq.mpr c9
         have WB:(a0 != 8)=false:=bne_eq_false_iff_eq.mpr c9
         clear c9
         simp only [Option.some.injEq,Prod.mk.injEq] at H
         obtain ⟨rfl,rfl⟩:=H
         go_enter Tryd.func45,Tryd.ntmps45
         go_wp2
         go_ret2
         exact ⟨by first|rfl|(simp;done)|(simp [*];done),by repeat (first|exact aT.refl _|apply aT.step)⟩
        ·
         rw [if_neg c9] at H
         have Eb:(a0 == 8)=false:=beq_eq_false_iff_ne.mpr c9
         have WB:(a0 != 8)=true:=bne_iff_ne.mpr c9
         by_cases c10:a0=9
         ·
          rw [if_pos c10] at H
          have oW:(a0 == 9)=true:=beq_iff_eq.mpr c10
          have KO:(a0 != 9)=false:=bne_eq_false_iff_eq.mpr c10
          clear c10
          simp only [Option.some.injEq,Prod.mk.injEq] at H
          obtain ⟨rfl,rfl⟩:=H
          go_enter Tryd.func45,Tryd.ntmps45
          go_wp2
          go_ret2
          exact ⟨by first|rfl|(simp;done)|(simp [*];done),by repeat (first|exact aT.refl _|apply aT.step)⟩
         ·
          rw [if_neg c10] at H
          have oW:(a0 == 9)=false:=beq_eq_false_iff_ne.mpr c10
          have KO:(a0 != 9)=true:=bne_iff_ne.mpr c10
          by_cases c11:a0=10
          ·
           rw [if_pos c11] at H
           have uz:(a0 == 10)=true:=beq_iff_eq.mpr c11
           have CE:(a0 != 10)=false:=bne_eq_false_iff_eq.mpr c11
           clear c11
           simp only [Option.some.injEq,Prod.mk.injEq] at H
           obtain ⟨rfl,rfl⟩:=H
           go_enter Tryd.func45,Tryd.ntmps45
           go_wp2
           go_ret2
           exact ⟨by first|rfl|(simp;done)|(simp [*];done),by repeat (first|exact aT.refl _|apply aT.step)⟩
          ·
           rw [if_neg c11] at H
           have uz:(a0 == 10)=false:=beq_eq_false_iff_ne.mpr c11
           have CE:(a0 != 10)=true:=bne_iff_ne.mpr c11
           replace H:=Option.bind_eq_some_iff.mp H
           obtain ⟨⟨t105,t106⟩,QA,H⟩:=H
           replace H:(some (t105,t106))=some (r1,r2):=H
           have A12:=ae.mk QA
           clear QA
           simp only [Option.some.injEq,Prod.mk.injEq] at H
           obtain ⟨rfl,rfl⟩:=H
           go_enter Tryd.func45,Tryd.ntmps45
           go_wp2_with (first|((with_reducible refine bu (f:=63) rfl ?_);refine dS (some 26) rfl rfl Tryd.func63 (by kernel_rfl) rfl #[.int .u8 a0] rfl (by (try simp only [List.map_toArray,List.map_cons,List.map_nil]);first|done|rfl|(simp only [List.length_drop,List.length_take];rfl)) ?_;(with_reducible refine (jA.calls a0 t105 t106 _ A12.out).mono ?_);rintro e w' ⟨rfl,⟨nd,rfl⟩⟩;refine ⟨_,rfl,?_⟩))
           go_ret2
           exact ⟨by first|rfl|(simp;done)|(simp [*];done),by repeat (first|exact aT.refl _|apply aT.step)⟩
end Go.Proofs.YtlemecdddhdagaaDoor.P
end
section
namespace Go.Proofs.YtlemecdddhdagaaDoor.P
open Go.RowKit Go.Proofs.ag.bI Go.Proofs.ag.dM Go.Proofs.ag.dZ
attribute [local go_sem] kU kS lW lV jS jR kT kR
mutual
def aG.j0:Nat→ByteArray→ByteArray→Bool→Option (Bool)
 | 0,_,_,_=>none
 | k+1,x0,x3,x13=>if x13=true then (if 1≤(x0.size:Int) then (aG.j1 k x0 (x0.extract 1 x0.size)) else (none)) else (aG.j1 k x0 x3)
def aG.j1:Nat→ByteArray→ByteArray→Option (Bool)
 | 0,_,_=>none
 | k+1,x0,x3=>if x3.toList=([]:List UInt8) then (aG.j2 k x3 true) else (if 0 < (x3.size:Int) then (if (bt x3 0)=48 then (if (x3.size:Int) > 1 then (aG.j2 k x3 true) else (aG.j2 k x3 (decide ((x0.size:Int) > 1)))) else (aG.j2 k x3 false)) else (none))
def aG.j2:Nat→ByteArray→Bool→Option (Bool)
 | 0,_,_=>none
 | k+1,x3,x32=>if x32=true then (some false) else (aG.l0 k x3 0)
def aG.l0:Nat→ByteArray→Int→Option (Bool)
 | 0,_,_=>none
 | k+1,x3,x4=>if x4 < (x3.size:Int) then (if 0≤x4 then (if (bt x3 x4) < 48 then (some false) else (if (bt x3 x4) > 57 then (some false) else (aG.l0 k x3 (wrap64 (x4+1))))) else (none)) else (some true)
end
def aG.f (k:Nat) (a0:ByteArray):Option (Bool):=if (a0.size:Int) > 0 then (if 0 < (a0.size:Int) then (aG.j0 k a0 a0 ((bt a0 0) == 45)) else (none)) else (aG.j0 k a0 a0 false)
theorem aG.gY:∀ k,(∀ y0 y1 y2,dN (aG.j0 k y0 y1 y2) (aG.j0 (k+1) y0 y1 y2))∧(∀ y0 y1,dN (aG.j1 k y0 y1) (aG.j1 (k+1) y0 y1))∧(∀ y0 y1,dN (aG.j2 k y0 y1) (aG.j2 (k+1) y0 y1))∧(∀ y0 y1,dN (aG.l0 k y0 y1) (aG.l0 (k+1) y0 y1))
 | 0=>⟨fun _ _ _ r h=>by simp [aG.j0] at h,fun _ _ r h=>by simp [aG.j1] at h,fun _ _ r h=>by simp [aG.j2] at h,fun _ _ r h=>by simp [aG.l0] at h⟩
 | k+1=>by
  obtain ⟨lF,ih1,ih2,ih3⟩:=aG.gY k
  refine ⟨?_,?_,?_,?_⟩
  ·
   intro y0 y1 y2
   unfold aG.j0
   repeat' with_reducible first|apply lF|apply ih1|apply ih2|apply ih3|exact dN.refl _|exact dN.none _|refine dN.ite ?_ ?_|refine dN.bind ?_ (fun _=>?_)
  ·
   intro y0 y1
   unfold aG.j1
   repeat' with_reducible first|apply lF|apply ih1|apply ih2|apply ih3|exact dN.refl _|exact dN.none _|refine dN.ite ?_ ?_|refine dN.bind ?_ (fun _=>?_)
  ·
   intro y0 y1
   unfold aG.j2
   repeat' with_reducible first|apply lF|apply ih1|apply ih2|apply ih3|exact dN.refl _|exact dN.none _|refine dN.ite ?_ ?_|refine dN.bind ?_ (fun _=>?_)
  ·
   intro y0 y1
   unfold aG.l0
   repeat' with_reducible first|apply lF|apply ih1|apply ih2|apply ih3|exact dN.refl _|exact dN.none _|refine dN.ite ?_ ?_|refine dN.bind ?_ (fun _=>?_)
theorem aG.mono:∀ a0 k,dN (aG.f k a0) (aG.f (k+1) a0):=by
 intro a0 k
 obtain ⟨lF,ih1,ih2,ih3⟩:=aG.gY k
 unfold aG.f
 repeat' with_reducible first|apply lF|apply ih1|apply ih2|apply ih3|exact dN.refl _|exact dN.none _|refine dN.ite ?_ ?_|refine dN.bind ?_ (fun _=>?_)
set_option maxHeartbeats 8000000 in
set_option maxRecDepth 100000 in
theorem aG.calls (k:Nat) (a0:ByteArray) (r:Bool) (w:World) (h:aG.f k a0=some r) :
  Calls Tryd.prog 71 #[.string a0] w fun e w'=>e=.returned (.bool r)∧aT w w':=by
 have H:(if (a0.size:Int) > 0 then (if 0 < (a0.size:Int) then (aG.j0 k a0 a0 ((bt a0 0) == 45)) else (none)) else (aG.j0 k a0 a0 false))=some r:=h
 clear h
 have HC2:=ae.mk H
 clear H
 go_enter Tryd.func71,Tryd.ntmps71
 go_upto_region 2 with (fail)
 go_cut [13] (fun v13 wc=>∃ (kq:Nat) (Ip:Bool),v13=.bool Ip∧ae (aG.j0 kq a0 a0 Ip=some r)∧ae (kq≤k)∧aT w wc)
 case first =>
  have H:=HC2.out
  clear HC2
  by_cases c3:(a0.size:Int) > 0
  ·
   rw [if_pos c3] at H
   have nN:decide (0 < (a0.size:Int))=true:=decide_eq_true c3
   have yI:decide (0 < a0.size)=true:=decide_eq_true (by omega)
   clear c3
   (first|rw [nN]|(simp only [bG,bJ];rw [nN])|skip)
   by_cases c4:0 < (a0.size:Int)
   ·
    rw [if_pos c4] at H
    have nM:decide (0 < (a0.size:Int))=true:=decide_eq_true c4
    have Hm:decide (0 < a0.size)=true:=decide_eq_true (by omega)
    clear c4
    have H':=ae.mk H
    clear H
    have p5:0≤(0:Int):=(by omega)
    have q5:0 < a0.size:=(by have:(0:Int) < (a0.size:Int):=of_decide_eq_true (by first|(with_reducible assumption)|assumption);omega)
    have hx5:∀ h:0 < a0.size,((a0[0]'h).toNat:Int)=bt a0 0:=kL a0 0
    clear p5
    have qi5:(0 < (a0.size:Int))=True:=eq_true (of_decide_eq_true (by first|(with_reducible assumption)|assumption))
    replace q5:=eq_true q5
    go_wp2
    go_meet
    case rel=>exact ⟨_,(((bt a0 0) == 45)),(by first|rfl|(simp;done)|(simp [*];done)),H',⟨by first|omega|exact Nat.le_refl _⟩,by repeat (first|exact aT.refl _|apply aT.step)⟩
   ·
    rw [if_neg c4] at H
    exact absurd H (by simp)
  ·
   rw [if_neg c3] at H
   have nN:decide (0 < (a0.size:Int))=false:=decide_eq_false c3
   have yI:decide (0 < a0.size)=false:=decide_eq_false (by omega)
   clear c3
   (first|rw [nN]|(simp only [bG,bJ];rw [nN])|skip)
   have H':=ae.mk H
   clear H
   go_wp2
   go_meet
   case rel=>exact ⟨_,(false),(by first|rfl|(simp;done)|(simp [*];done)),H',⟨by first|omega|exact Nat.le_refl _⟩,by repeat (first|exact aT.refl _|apply aT.step)⟩
 case rest =>
  clear HC2
  obtain ⟨kq,Ip,rfl,HA,xX,⟨mc1,rfl⟩⟩:=hcut
  cases kq with
  | zero=>exact absurd HA.out (by simp [aG.j0])
  | succ Nq =>
   have H:=HA.out
   clear HA
   simp only [aG.j0] at H
   have ZX:=ae.mk H
   clear H
   go_upto_if 13 with (fail)
   go_cut [3] (fun v3 wc=>∃ (kq:Nat) (jo:ByteArray),v3=.string jo∧ae (aG.j1 kq a0 jo=some r)∧ae (kq≤Nq)∧aT w wc)
   case first =>
    have H:=ZX.out
    clear ZX
    by_cases c7:Ip=true
    ·
     subst c7
     have H1:(if 1≤(a0.size:Int) then (aG.j1 Nq a0 (a0.extract 1 a0.size)) else (none))=some r:=by rw [if_pos rfl] at H;exact H
     clear H
     have H:=H1
     clear H1
     by_cases c8:1≤(a0.size:Int)
     ·
      rw [if_pos c8] at H
      have oU:=eq_true c8
      have yH:decide (1≤(a0.size:Int))=true:=decide_eq_true c8
      clear c8
      have H':=ae.mk H
      clear H
      go_wp2
      go_meet
      case rel=>exact ⟨_,(a0.extract 1 a0.size),(by first|rfl|(simp;done)|(simp [*];done)),H',⟨by have:=xX.out;first|omega|exact Nat.le_refl _⟩,by repeat (first|exact aT.refl _|apply aT.step)⟩
     ·
      rw [if_neg c8] at H
      exact absurd H (by simp)
    ·
     replace c7:=Bool.eq_false_iff.mpr c7
     subst c7
     have H1:(aG.j1 Nq a0 a0)=some r:=by rw [if_neg (show ¬ (false=true) by decide)] at H;exact H
     clear H
     have H:=H1
     clear H1
     have H':=ae.mk H
     clear H
     go_wp2
     go_meet
     case rel=>exact ⟨_,(a0),(by first|rfl|(simp;done)|(simp [*];done)),H',⟨by have:=xX.out;first|omega|exact Nat.le_refl _⟩,by repeat (first|exact aT.refl _|apply aT.step)⟩
   case rest =>
    clear ZX
    obtain ⟨kq,jo,rfl,HA,H6,⟨mc5,rfl⟩⟩:=hcut
    cases kq with
    | zero=>exact absurd HA.out (by simp [aG.j1])
    | succ kj5 =>
     have H:=HA.out
     clear HA
     simp only [aG.j1] at H
     have ZW:=ae.mk H
     clear H
     go_upto_region 4 with (fail)
     go_cut [32] (fun v32 wc=>∃ (kq:Nat) (Ic:Bool),v32=.bool Ic∧ae (aG.j2 kq jo Ic=some r)∧ae (kq≤kj5)∧aT w wc)
     case first =>
      have H:=ZW.out
      clear ZW
      by_cases c10:jo.toList=([]:List UInt8)
      ·
       rw [if_pos c10] at H
       have oW:(jo.toList == ([]:List UInt8))=true:=beq_iff_eq.mpr c10
       have KO:(jo.toList != ([]:List UInt8))=false:=bne_eq_false_iff_eq.mpr c10
       clear c10
       (first|rw [oW]|(simp only [bG,bJ];rw [oW])|skip)
       have H':=ae.mk H
       clear H
       go_wp2
       go_meet
       case rel=>exact ⟨_,(true),(by first|rfl|(simp;done)|(simp [*];done)),H',⟨by have:=xX.out;have:=H6.out;first|omega|exact Nat.le_refl _⟩,by repeat (first|exact aT.refl _|apply aT.step)⟩
      ·
       rw [if_neg c10] at H
       have oW:(jo.toList == ([]:List UInt8))=false:=beq_eq_false_iff_ne.mpr c10
       have KO:(jo.toList != ([]:List UInt8))=true:=bne_iff_ne.mpr c10
       (first|rw [oW]|(simp only [bG,bJ];rw [oW])|skip)
       by_cases c11:0 < (jo.size:Int)
       ·
        rw [if_pos c11] at H
        have uz:decide (0 < (jo.size:Int))=true:=decide_eq_true c11
        have CE:decide (0 < jo.size)=true:=decide_eq_true (by omega)
        clear c11
        by_cases c13:(bt jo 0)=48
        ·
         rw [if_pos c13] at H
         have l9:((bt jo 0) == 48)=true:=beq_iff_eq.mpr c13
         have xq:((bt jo 0) != 48)=false:=bne_eq_false_iff_eq.mpr c13
         clear c13
         by_cases c14:(jo.size:Int) > 1
         ·
          rw [if_pos c14] at H
          have CB:decide (1 < (jo.size:Int))=true:=decide_eq_true c14
          have FN:decide (1 < jo.size)=true:=decide_eq_true (by omega)
          clear c14
          have H':=ae.mk H
          clear H
          have p12:0≤(0:Int):=(by omega)
          have q12:0 < jo.size:=(by have:(0:Int) < (jo.size:Int):=of_decide_eq_true (by first|(with_reducible assumption)|assumption);omega)
          have YS:∀ h:0 < jo.size,((jo[0]'h).toNat:Int)=bt jo 0:=kL jo 0
          clear p12
          have aax:(0 < (jo.size:Int))=True:=eq_true (of_decide_eq_true (by first|(with_reducible assumption)|assumption))
          replace q12:=eq_true q12
          go_wp2
          go_meet
          case rel=>exact ⟨_,(true),(by first|rfl|(simp;done)|(simp [*];done)),H',⟨by have:=xX.out;have:=H6.out;first|omega|exact Nat.le_refl _⟩,by repeat (first|exact aT.refl _|apply aT.step)⟩
         ·
          rw [if_neg c14] at H
          have CB:decide (1 < (jo.size:Int))=false:=decide_eq_false c14
          have FN:decide (1 < jo.size)=false:=decide_eq_false (by omega)
          clear c14
          have H':=ae.mk H
          clear H
          have p12:0≤(0:Int):=(by omega)
          have q12:0 < jo.size:=(by have:(0:Int) < (jo.size:Int):=of_decide_eq_true (by first|(with_reducible assumption)|assumption);omega)
          have YS:∀ h:0 < jo.size,((jo[0]'h).toNat:Int)=bt jo 0:=kL jo 0
          clear p12
          have aax:(0 < (jo.size:Int))=True:=eq_true (of_decide_eq_true (by first|(with_reducible assumption)|assumption))
          replace q12:=eq_true q12
          go_wp2
          go_meet
          case rel=>exact ⟨_,(decide ((a0.size:Int) > 1)),(by first|rfl|(simp;done)|(simp [*];done)),H',⟨by have:=xX.out;have:=H6.out;first|omega|exact Nat.le_refl _⟩,by repeat (first|exact aT.refl _|apply aT.step)⟩
        ·
         rw [if_neg c13] at H
         have l9:((bt jo 0) == 48)=false:=beq_eq_false_iff_ne.mpr c13
         have xq:((bt jo 0) != 48)=true:=bne_iff_ne.mpr c13
         have H':=ae.mk H
         clear H
         have p12:0≤(0:Int):=(by omega)
         have q12:0 < jo.size:=(by have:(0:Int) < (jo.size:Int):=of_decide_eq_true (by first|(with_reducible assumption)|assumption);omega)
         have YS:∀ h:0 < jo.size,((jo[0]'h).toNat:Int)=bt jo 0:=kL jo 0
         clear p12
         have aax:(0 < (jo.size:Int))=True:=eq_true (of_decide_eq_true (by first|(with_reducible assumption)|assumption))
         replace q12:=eq_true q12
         go_wp2
         go_meet
         case rel=>exact ⟨_,(false),(by first|rfl|(simp;done)|(simp [*];done)),H',⟨by have:=xX.out;have:=H6.out;first|omega|exact Nat.le_refl _⟩,by repeat (first|exact aT.refl _|apply aT.step)⟩
       ·
        rw [if_neg c11] at H
        exact absurd H (by simp)
     case rest =>
      clear ZW
      obtain ⟨kq,Ic,rfl,HA,ZV,⟨mc8,rfl⟩⟩:=hcut
      cases kq with
      | zero=>exact absurd HA.out (by simp [aG.j2])
      | succ kj8 =>
       have H:=HA.out
       clear HA
       simp only [aG.j2] at H
       by_cases c15:Ic=true
       ·
        subst c15
        have H1:(some false)=some r:=by rw [if_pos rfl] at H;exact H
        clear H
        have H:=H1
        clear H1
        obtain rfl:=Option.some.inj H
        go_wp2
        go_ret
        exact ⟨by first|rfl|(simp;done)|(simp [*];done),by repeat (first|exact aT.refl _|apply aT.step)⟩
       ·
        replace c15:=Bool.eq_false_iff.mpr c15
        subst c15
        have H1:(aG.l0 kj8 jo 0)=some r:=by rw [if_neg (show ¬ (false=true) by decide)] at H;exact H
        clear H
        have H:=H1
        clear H1
        have H':=ae.mk H
        clear H
        go_wp2
        go_loopg [4] kj8 (fun kq v4 w'=>∃ (oC:Int),v4=.int .i64 oC∧ae (aG.l0 kq jo oC=some r)∧ae (kq≤kj8)∧aT w w')
        case atStart=>exact ⟨(0),(by first|rfl|(simp;done)|(simp [*];done)),H',⟨Nat.le_refl _⟩,by repeat (first|exact aT.refl _|apply aT.step)⟩
        case round =>
         clear H'
         obtain ⟨oC,rfl,HA,HK4,⟨m4,rfl⟩⟩:=hrel
         cases gk with
         | zero=>exact absurd HA.out (by simp [aG.l0])
         | succ k4 =>
          have H:=HA.out
          clear HA
          simp only [aG.l0] at H
          by_cases c16:oC < (jo.size:Int)
          ·
           rw [if_pos c16] at H
           have Aw:decide (oC < (jo.size:Int))=true:=decide_eq_true c16
           clear c16
           by_cases c17:0≤oC
           ·
            rw [if_pos c17] at H
            have yt:decide (0≤oC)=true:=decide_eq_true c17
            clear c17
            by_cases c19:(bt jo oC) < 48
            ·
             rw [if_pos c19] at H
             have FH:decide ((bt jo oC) < 48)=true:=decide_eq_true c19
             clear c19
             obtain rfl:=Option.some.inj H
             have EI:0≤(oC:Int):=of_decide_eq_true (by first|(with_reducible assumption)|assumption)
             have EE:oC < (jo.size:Int):=of_decide_eq_true (by first|(with_reducible assumption)|assumption)
             have OA:=kL jo oC
             replace EI:=eq_true EI
             replace EE:=eq_true EE
             go_wp2
             go_ret
             exact ⟨by first|rfl|(simp;done)|(simp [*];done),by repeat (first|exact aT.refl _|apply aT.step)⟩
            ·
             rw [if_neg c19] at H
             have FH:decide ((bt jo oC) < 48)=false:=decide_eq_false c19
             clear c19
             by_cases c21:(bt jo oC) > 57
             ·
              rw [if_pos c21] at H
              have ac7:decide (57 < (bt jo oC))=true:=decide_eq_true c21
              clear c21
              obtain rfl:=Option.some.inj H
              have EI:0≤(oC:Int):=of_decide_eq_true (by first|(with_reducible assumption)|assumption)
              have EE:oC < (jo.size:Int):=of_decide_eq_true (by first|(with_reducible assumption)|assumption)
              have OA:=kL jo oC
              replace EI:=eq_true EI
              replace EE:=eq_true EE
              have p20:0≤(oC:Int):=of_decide_eq_true (by first|(with_reducible assumption)|assumption)
              have q20:oC < (jo.size:Int):=of_decide_eq_true (by first|(with_reducible assumption)|assumption)
              have akn:=kL jo oC
              replace p20:=eq_true p20
              replace q20:=eq_true q20
              go_wp2
              go_ret
              exact ⟨by first|rfl|(simp;done)|(simp [*];done),by repeat (first|exact aT.refl _|apply aT.step)⟩
             ·
              rw [if_neg c21] at H
              have ac7:decide (57 < (bt jo oC))=false:=decide_eq_false c21
              clear c21
              have H':=ae.mk H
              clear H
              have EI:0≤(oC:Int):=of_decide_eq_true (by first|(with_reducible assumption)|assumption)
              have EE:oC < (jo.size:Int):=of_decide_eq_true (by first|(with_reducible assumption)|assumption)
              have OA:=kL jo oC
              replace EI:=eq_true EI
              replace EE:=eq_true EE
              have p20:0≤(oC:Int):=of_decide_eq_true (by first|(with_reducible assumption)|assumption)
              have q20:oC < (jo.size:Int):=of_decide_eq_true (by first|(with_reducible assumption)|assumption)
              have akn:=kL jo oC
              replace p20:=eq_true p20
              replace q20:=eq_true q20
              go_wp2
              go_roundg k4
              case measure=>have:=xX.out;have:=H6.out;have:=ZV.out;have:=HK4.out;omega
              case rel=>exact ⟨(wrap64 (oC+1)),(by first|rfl|(simp;done)|(simp [*];done)),H',⟨by have:=xX.out;have:=H6.out;have:=ZV.out;have:=HK4.out;omega⟩,by repeat (first|exact aT.refl _|apply aT.step)⟩
           ·
            rw [if_neg c17] at H
            exact absurd H (by simp)
          ·
           rw [if_neg c16] at H
           have Aw:decide (oC < (jo.size:Int))=false:=decide_eq_false c16
           clear c16
           obtain rfl:=Option.some.inj H
           go_wp2
           go_ret
           exact ⟨by first|rfl|(simp;done)|(simp [*];done),by repeat (first|exact aT.refl _|apply aT.step)⟩
end Go.Proofs.YtlemecdddhdagaaDoor.P
end
