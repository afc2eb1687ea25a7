/- Parts of the proof of ModelSteps: what the functions that it reaches compute, and plain facts about that. -/
import Derived.Test.YtlemecdddhdagaaDoorZal
import Derived.Test.YtlemecdddhdagaaDoorZak
import Derived.Test.YtlemecdddhdagaaDoorZab
set_option linter.unusedVariables false
set_option linter.unusedSimpArgs false
section
namespace Go.Proofs.YtlemecdddhdagaaDoor.P
open Go.RowKit Go.Proofs.af.bF Go.Proofs.af.dD Go.Proofs.af.dN
open Classical in
noncomputable def step0 (t:List ByteArray) (lo gl:ByteArray) (code:List iD) (s:St):Option (St × Bool × Int):=if Small s then su (Ud t lo) code (pI t lo gl code).2 s else none
section
variable {t:List ByteArray} {lo gl:ByteArray} {code:List iD}
theorem Bd {sz sz':Int→Option Int} (h:∀ a,dP (sz a) (sz' a)) (c:Int) (s:St):dP (su sz code c s) (su sz' code c s):=by
  unfold su
  repeat' first
      | (with_reducible exact dP.refl _)
      | (with_reducible refine dP.ite ?_ ?_)
      | (with_reducible refine dP.bind (G9 h _ _) (fun _=>?_))
theorem PH (ht:t.length≤9223372036854775807) (hs:lo.size+gl.size≤9223372036854775807) (hc:code.length≤9223372036854775807) (hw:Wf code):∃ K,∀ k,K≤k→∀ s,dP (step0 t lo gl code s) (stepS k t lo gl code s):=by
  obtain ⟨K1,h1⟩:=Yr t lo gl code ht hs hc hw
  obtain ⟨K2,h2⟩:=acG (t:=t) (lo:=lo) (gl:=gl) (code:=code) ht
  refine ⟨max K1 K2,fun k hk s=>?_⟩
  unfold step0 stepS
  by_cases hsm:Small s
  case neg =>
    rw [if_neg hsm]
    exact dP.none _
  rw [if_pos hsm,if_pos hsm]
  have e1:bC.f k t lo gl code=some (pI t lo gl code):=h1 k (by omega)
  unfold qh.f
  rw [e1]
  exact Bd (h2 k (by omega)) _ s
theorem Inv.small (hr:kC t=true) {n:Nat} {s:St} {ty:List Int} (h:Inv t lo gl n s ty) (hn:n≤1000000):Small s:=by
  have:=h.few
  have hl:=h.len
  refine ⟨by omega,by omega,fun j hj=>?_⟩
  have q:=h.size j (by omega)
  rw [List.getD_eq_getElem?_getD,List.getElem?_eq_getElem hj,Option.getD_some] at q
  have:jG t (ty.getD j (-1))≤6:=by
    by_cases hτ:0≤ty.getD j (-1)
    · obtain ⟨m,hm⟩:=Int.eq_ofNat_of_zero_le hτ
      rw [hm]
      exact F6 hr m
    · unfold jG Pg
      rw [if_neg (by simp only [decide_eq_false hτ,Bool.false_and,Bool.and_false];decide)]
      decide
  omega
theorem NZ (hk0:(pI t lo gl code).2=0) {s s':St} {e:Int} (hsm:Small s) (h0:0≤s.pc) (hlt:s.pc < code.length) (hd:OY (Ud t lo) s (aA code s.pc)=some (s',e)):step0 t lo gl code s=if e=0 then some (s',false,0) else some (s,false,e):=by
  unfold step0 su
  rw [if_pos hsm,if_pos hk0,if_neg (show ¬ s.pc < 0 by omega),if_neg (show ¬ (code.length:Int) < s.pc by omega),if_neg (show ¬ s.pc=code.length by omega),hd,Option.bind_some]
theorem Dv (hk0:(pI t lo gl code).2=0) {s:St} (hsm:Small s) (h0:s.pc=code.length):step0 t lo gl code s=some (s,true,0):=by
  unfold step0 su
  rw [if_pos hsm,if_pos hk0,if_neg (show ¬ s.pc < 0 by omega),if_neg (show ¬ (code.length:Int) < s.pc by omega),if_pos h0]
theorem PL:Small Ea:=⟨by decide,by decide,fun j hj=>absurd hj (by simp [Ea])⟩
end
end Go.Proofs.YtlemecdddhdagaaDoor.P
end
section
namespace Go.Proofs.YtlemecdddhdagaaDoor.P
open Go.RowKit Go.Proofs.af.bF Go.Proofs.af.dD Go.Proofs.af.dN
attribute [local go_sem ↓] Go.wp_at_zero Go.wp_at_succ
def Ez (step:St→Option (St × Bool × Int)) (fuel:Int):Nat→St→Int→Option (St × Int)
  | 0,_,_=>none
  | n+1,s,i =>
    if i≤fuel then (step s).bind fun t =>
      if t.2.1=true then some (s,t.2.2) else if t.2.2=0 then (if i < fuel then Ez step fuel n t.1 (wrap64 (i+1)) else Ez step fuel n s (wrap64 (i+1))) else some (s,t.2.2)
    else some (s,10)
end Go.Proofs.YtlemecdddhdagaaDoor.P
end
section
namespace Go.Proofs.YtlemecdddhdagaaDoor.P
open Go.RowKit Go.Proofs.af.bF Go.Proofs.af.dD Go.Proofs.af.dN
attribute [local go_sem] lF lC mP mO kE kD lD lu
theorem aeD (d:Nat) (w:World) (x0 y0:Int) (x1 y1:Int) (x2 y2:Int) (x3 y3:Int) (x4 y4:Int) :
  (Op.equalIn (d+2) 55 (.agg #[.int .u8 x0,.int .u8 x1,.int .u8 x2,.int .u8 x3,.int .i64 x4]) (.agg #[.int .u8 y0,.int .u8 y1,.int .u8 y2,.int .u8 y3,.int .i64 y4])).run Tryd.prog w=.ok (x0 == y0 && (x1 == y1 && (x2 == y2 && (x3 == y3 && (x4 == y4))))) w:=by
 refine abe Tryd.underlying55 (by kernel_rfl) ?_
 refine yt (by rfl) (by go_simp;rfl) (by go_simp;rfl) (by go_simp) ?_
 refine yt (by rfl) (by go_simp;rfl) (by go_simp;rfl) (by go_simp) ?_
 refine yt (by rfl) (by go_simp;rfl) (by go_simp;rfl) (by go_simp) ?_
 refine yt (by rfl) (by go_simp;rfl) (by go_simp;rfl) (by go_simp) ?_
 exact Ro (by rfl) (by go_simp;rfl) (by go_simp;rfl) (by go_simp)
theorem rW {w:World} {g:Nat} {a0 a1 a2 a3:Value} {t:TypeId} (h:w.heap[g]? = some (.cells #[a0,a1,a2,a3] t (0,0))):w.cell? ⟨g,0,none⟩=some a0∧w.cell? ⟨g,1,none⟩=some a1∧w.cell? ⟨g,2,none⟩=some a2∧w.cell? ⟨g,3,none⟩=some a3∧w.frozen? ⟨g,0,none⟩=false∧w.frozen? ⟨g,1,none⟩=false∧w.frozen? ⟨g,2,none⟩=false∧w.frozen? ⟨g,3,none⟩=false:=⟨(ax h 0).trans rfl,(ax h 1).trans rfl,(ax h 2).trans rfl,(ax h 3).trans rfl,aC h 0,aC h 1,aC h 2,aC h 3⟩
theorem kF {w:World} {g:Nat} {a0 a1 a2 a3 a4:Value} {t:TypeId} (h:w.heap[g]? = some (.cells #[a0,a1,a2,a3,a4] t (0,0))):w.cell? ⟨g,0,none⟩=some a0∧w.cell? ⟨g,1,none⟩=some a1∧w.cell? ⟨g,2,none⟩=some a2∧w.cell? ⟨g,3,none⟩=some a3∧w.cell? ⟨g,4,none⟩=some a4∧w.frozen? ⟨g,0,none⟩=false∧w.frozen? ⟨g,1,none⟩=false∧w.frozen? ⟨g,2,none⟩=false∧w.frozen? ⟨g,3,none⟩=false∧w.frozen? ⟨g,4,none⟩=false:=⟨(ax h 0).trans rfl,(ax h 1).trans rfl,(ax h 2).trans rfl,(ax h 3).trans rfl,(ax h 4).trans rfl,aC h 0,aC h 1,aC h 2,aC h 3,aC h 4⟩
end Go.Proofs.YtlemecdddhdagaaDoor.P
end
section
namespace Go.Proofs.YtlemecdddhdagaaDoor.P
open Go.RowKit Go.Proofs.af.bF Go.Proofs.af.dD Go.Proofs.af.dN
attribute [local go_sem] lF lC mP mO kE kD lD lu
def eG.f (a0:Int) (a1:Int):Option (Int):=if a0 < 48 then (some (-1)) else (if ((a0 - 48) % 256) ≥ a1 then (some (-1)) else (some ((a0 - 48) % 256)))
set_option maxHeartbeats 8000000 in
set_option maxRecDepth 100000 in
theorem eG.calls (a0:Int) (a1:Int) (r:Int) (w:World) (h:eG.f a0 a1=some r) :
  Calls Tryd.prog 43 #[.int .u8 a0,.int .i64 a1] w fun e w'=>e=.returned (.int .i64 r)∧aU w w':=by
 have H:(if a0 < 48 then (some (-1)) else (if ((a0 - 48) % 256) ≥ a1 then (some (-1)) else (some ((a0 - 48) % 256))))=some r:=h
 clear h
 by_cases c3:a0 < 48
 ·
  rw [if_pos c3] at H
  have oG:decide (a0 < 48)=true:=decide_eq_true c3
  clear c3
  obtain rfl:=Option.some.inj H
  go_enter Tryd.func43,Tryd.ntmps43
  go_wp2
  go_ret
  exact ⟨by first|rfl|(simp;done)|(simp [*];done),by repeat (first|exact aU.refl _|apply aU.step)⟩
 ·
  rw [if_neg c3] at H
  have oG:decide (a0 < 48)=false:=decide_eq_false c3
  clear c3
  by_cases c4:((a0 - 48) % 256) ≥ a1
  ·
   rw [if_pos c4] at H
   have oD:decide (a1≤((a0 - 48) % 256))=true:=decide_eq_true c4
   clear c4
   obtain rfl:=Option.some.inj H
   go_enter Tryd.func43,Tryd.ntmps43
   go_wp2
   go_ret
   exact ⟨by first|rfl|(simp;done)|(simp [*];done),by repeat (first|exact aU.refl _|apply aU.step)⟩
  ·
   rw [if_neg c4] at H
   have oD:decide (a1≤((a0 - 48) % 256))=false:=decide_eq_false c4
   clear c4
   obtain rfl:=Option.some.inj H
   go_enter Tryd.func43,Tryd.ntmps43
   go_wp2
   go_ret
   exact ⟨by first|rfl|(simp;done)|(simp [*];done),by repeat (first|exact aU.refl _|apply aU.step)⟩
mutual
def aK.l0:Nat→List ByteArray→Int→Option (Bool)
 | 0,_,_=>none
 | k+1,x0,x3=>if x3 < (x0.length:Int) then (if 0≤x3 then (aK.l1 k x0 x3 (dZ ByteArray.empty x0 x3) 0) else (none)) else (if (x0.length:Int) ≥ 1 then (some (decide ((x0.length:Int)≤8))) else (some false))
def aK.l1:Nat→List ByteArray→Int→ByteArray→Int→Option (Bool)
 | 0,_,_,_,_=>none
 | k+1,x0,x3,x4,x5=>if x5 < (x4.size:Int) then (if 0≤x5 then (if (bt x4 x5)=105 then (aK.l1 k x0 x3 x4 (wrap64 (x5+1))) else ((eG.f (bt x4 x5) (x0.length:Int)).bind fun t102=>(if t102 < 0 then (some false) else (aK.l1 k x0 x3 x4 (wrap64 (x5+1)))))) else (none)) else (if (x4.size:Int) < 1 then (some false) else (if (x4.size:Int) > 6 then (some false) else (aK.l0 k x0 (wrap64 (x3+1)))))
end
def aK.f (k:Nat) (l0:List ByteArray):Option (Bool):=aK.l0 k l0 0
theorem aK.iF:∀ k,(∀ y0 y1,dP (aK.l0 k y0 y1) (aK.l0 (k+1) y0 y1))∧(∀ y0 y1 y2 y3,dP (aK.l1 k y0 y1 y2 y3) (aK.l1 (k+1) y0 y1 y2 y3))
 | 0=>⟨fun _ _ r h=>by simp [aK.l0] at h,fun _ _ _ _ r h=>by simp [aK.l1] at h⟩
 | k+1=>by
  obtain ⟨lW,ih1⟩:=aK.iF k
  refine ⟨?_,?_⟩
  ·
   intro y0 y1
   unfold aK.l0
   repeat' with_reducible first|apply lW|apply ih1|exact dP.refl _|exact dP.none _|refine dP.ite ?_ ?_|refine dP.bind ?_ (fun _=>?_)
  ·
   intro y0 y1 y2 y3
   unfold aK.l1
   repeat' with_reducible first|apply lW|apply ih1|exact dP.refl _|exact dP.none _|refine dP.ite ?_ ?_|refine dP.bind ?_ (fun _=>?_)
theorem aK.mono:∀ a0 k,dP (aK.f k a0) (aK.f (k+1) a0):=by
 intro a0 k
 obtain ⟨lW,ih1⟩:=aK.iF k
 unfold aK.f
 repeat' with_reducible first|apply lW|apply ih1|exact dP.refl _|exact dP.none _|refine dP.ite ?_ ?_|refine dP.bind ?_ (fun _=>?_)
set_option maxHeartbeats 8000000 in
set_option maxRecDepth 100000 in
theorem aK.calls (k:Nat) (A0:Option Addr) (c0:Nat) (l0:List ByteArray) (r:Bool) (w:World) (hr0:Kd.C Kd.string w A0 l0.length l0) (hc0:l0.length≤c0) (h:aK.f k l0=some r) :
  Calls Tryd.prog 44 #[.slice A0 l0.length c0] w fun e w'=>e=.returned (.bool r)∧aU w w':=by
 have HR0:=ae.mk hr0
 have tX:=ae.mk hc0
 clear hr0 hc0
 have H:(aK.l0 k l0 0)=some r:=h
 clear h
 have H':=ae.mk H
 clear H
 go_enter Tryd.func44,Tryd.ntmps44
 go_wp2
 go_loopg [3] k (fun kq v3 w'=>∃ (kL:Int),v3=.int .i64 kL∧ae (aK.l0 kq l0 kL=some r)∧ae (kq≤k)∧aU w w')
 case atStart=>exact ⟨(0),(by first|rfl|(simp;done)|(simp [*];done)),H',⟨Nat.le_refl _⟩,by repeat (first|exact aU.refl _|apply aU.step)⟩
 case round =>
  clear H'
  obtain ⟨kL,rfl,HA,qX,⟨m1,rfl⟩⟩:=hrel
  cases gk with
  | zero=>exact absurd HA.out (by simp [aK.l0])
  | succ k1 =>
   have H:=HA.out
   clear HA
   simp only [aK.l0] at H
   by_cases c2:kL < (l0.length:Int)
   ·
    rw [if_pos c2] at H
    have FB:decide (kL < (l0.length:Int))=true:=decide_eq_true c2
    clear c2
    by_cases c3:0≤kL
    ·
     rw [if_pos c3] at H
     have oG:decide (0≤kL)=true:=decide_eq_true c3
     clear c3
     have H':=ae.mk H
     clear H
     have IW:0≤(kL:Int):=of_decide_eq_true (by first|(with_reducible assumption)|assumption)
     have II:kL < (l0.length:Int):=of_decide_eq_true (by first|(with_reducible assumption)|assumption)
     obtain ⟨afG,abk,UK⟩:=Kd.kT HR0.out kL IW II
     cases abk
     replace IW:=eq_true IW
     replace II:=eq_true II
     go_wp2
     go_loopg [5] k1 (fun kq v5 w'=>∃ (ou:Int),v5=.int .i64 ou∧ae (aK.l1 kq l0 kL (dZ ByteArray.empty l0 kL) ou=some r)∧ae (kq≤k1)∧aU w w')
     case atStart=>exact ⟨(0),(by first|rfl|(simp;done)|(simp [*];done)),H',⟨Nat.le_refl _⟩,by repeat (first|exact aU.refl _|apply aU.step)⟩
     case round =>
      clear H'
      obtain ⟨ou,rfl,HA,uM,⟨m2,rfl⟩⟩:=hrel
      cases gk with
      | zero=>exact absurd HA.out (by simp [aK.l1])
      | succ k2 =>
       have H:=HA.out
       clear HA
       simp only [aK.l1] at H
       by_cases c4:ou < ((dZ ByteArray.empty l0 kL).size:Int)
       ·
        rw [if_pos c4] at H
        have oD:decide (ou < ((dZ ByteArray.empty l0 kL).size:Int))=true:=decide_eq_true c4
        clear c4
        by_cases c5:0≤ou
        ·
         rw [if_pos c5] at H
         have rU:decide (0≤ou)=true:=decide_eq_true c5
         clear c5
         by_cases c7:(bt (dZ ByteArray.empty l0 kL) ou)=105
         ·
          rw [if_pos c7] at H
          have oQ:((bt (dZ ByteArray.empty l0 kL) ou) == 105)=true:=beq_iff_eq.mpr c7
          have yw:((bt (dZ ByteArray.empty l0 kL) ou) != 105)=false:=bne_eq_false_iff_eq.mpr c7
          clear c7
          have H':=ae.mk H
          clear H
          have p6:0≤(ou:Int):=of_decide_eq_true (by first|(with_reducible assumption)|assumption)
          have q6:ou < ((dZ ByteArray.empty l0 kL).size:Int):=of_decide_eq_true (by first|(with_reducible assumption)|assumption)
          have hx6:=kY (dZ ByteArray.empty l0 kL) ou
          replace p6:=eq_true p6
          replace q6:=eq_true q6
          go_wp2
          go_roundg k2
          case measure=>have:=qX.out;have:=uM.out;omega
          case rel=>exact ⟨(wrap64 (ou+1)),(by first|rfl|(simp;done)|(simp [*];done)),H',⟨by have:=qX.out;have:=uM.out;omega⟩,by repeat (first|exact aU.refl _|apply aU.step)⟩
         ·
          rw [if_neg c7] at H
          have oQ:((bt (dZ ByteArray.empty l0 kL) ou) == 105)=false:=beq_eq_false_iff_ne.mpr c7
          have yw:((bt (dZ ByteArray.empty l0 kL) ou) != 105)=true:=bne_iff_ne.mpr c7
          replace H:=Option.bind_eq_some_iff.mp H
          obtain ⟨t102,Pe,H⟩:=H
          replace H:(if t102 < 0 then (some false) else (aK.l1 k2 l0 kL (dZ ByteArray.empty l0 kL) (wrap64 (ou+1))))=some r:=H
          have A9:=ae.mk Pe
          clear Pe
          by_cases c10:t102 < 0
          ·
           rw [if_pos c10] at H
           have pW:decide (t102 < 0)=true:=decide_eq_true c10
           clear c10
           obtain rfl:=Option.some.inj H
           have p6:0≤(ou:Int):=of_decide_eq_true (by first|(with_reducible assumption)|assumption)
           have q6:ou < ((dZ ByteArray.empty l0 kL).size:Int):=of_decide_eq_true (by first|(with_reducible assumption)|assumption)
           have hx6:=kY (dZ ByteArray.empty l0 kL) ou
           replace p6:=eq_true p6
           replace q6:=eq_true q6
           have p8:0≤(ou:Int):=of_decide_eq_true (by first|(with_reducible assumption)|assumption)
           have q8:ou < ((dZ ByteArray.empty l0 kL).size:Int):=of_decide_eq_true (by first|(with_reducible assumption)|assumption)
           have hx8:=kY (dZ ByteArray.empty l0 kL) ou
           replace p8:=eq_true p8
           replace q8:=eq_true q8
           go_wp2_with (first|(go_at_call 43;(with_reducible refine (eG.calls (bt (dZ ByteArray.empty l0 kL) ou) (l0.length:Int) t102 _ A9.out).mono ?_);rintro e w' ⟨rfl,⟨nd,rfl⟩⟩))
           go_ret
           exact ⟨by first|rfl|(simp;done)|(simp [*];done),by repeat (first|exact aU.refl _|apply aU.step)⟩
          ·
           rw [if_neg c10] at H
           have pW:decide (t102 < 0)=false:=decide_eq_false c10
           clear c10
           have H':=ae.mk H
           clear H
           have p6:0≤(ou:Int):=of_decide_eq_true (by first|(with_reducible assumption)|assumption)
           have q6:ou < ((dZ ByteArray.empty l0 kL).size:Int):=of_decide_eq_true (by first|(with_reducible assumption)|assumption)
           have hx6:=kY (dZ ByteArray.empty l0 kL) ou
           replace p6:=eq_true p6
           replace q6:=eq_true q6
           have p8:0≤(ou:Int):=of_decide_eq_true (by first|(with_reducible assumption)|assumption)
           have q8:ou < ((dZ ByteArray.empty l0 kL).size:Int):=of_decide_eq_true (by first|(with_reducible assumption)|assumption)
           have hx8:=kY (dZ ByteArray.empty l0 kL) ou
           replace p8:=eq_true p8
           replace q8:=eq_true q8
           go_wp2_with (first|(go_at_call 43;(with_reducible refine (eG.calls (bt (dZ ByteArray.empty l0 kL) ou) (l0.length:Int) t102 _ A9.out).mono ?_);rintro e w' ⟨rfl,⟨nd,rfl⟩⟩))
           go_roundg k2
           case measure=>have:=qX.out;have:=uM.out;omega
           case rel=>exact ⟨(wrap64 (ou+1)),(by first|rfl|(simp;done)|(simp [*];done)),H',⟨by have:=qX.out;have:=uM.out;omega⟩,by repeat (first|exact aU.refl _|apply aU.step)⟩
        ·
         rw [if_neg c5] at H
         exact absurd H (by simp)
       ·
        rw [if_neg c4] at H
        have oD:decide (ou < ((dZ ByteArray.empty l0 kL).size:Int))=false:=decide_eq_false c4
        clear c4
        by_cases c11:((dZ ByteArray.empty l0 kL).size:Int) < 1
        ·
         rw [if_pos c11] at H
         have vz:decide (((dZ ByteArray.empty l0 kL).size:Int) < 1)=true:=decide_eq_true c11
         have D8:decide ((dZ ByteArray.empty l0 kL).size < 1)=true:=decide_eq_true (by omega)
         clear c11
         obtain rfl:=Option.some.inj H
         go_wp2
         go_ret
         exact ⟨by first|rfl|(simp;done)|(simp [*];done),by repeat (first|exact aU.refl _|apply aU.step)⟩
        ·
         rw [if_neg c11] at H
         have vz:decide (((dZ ByteArray.empty l0 kL).size:Int) < 1)=false:=decide_eq_false c11
         have D8:decide ((dZ ByteArray.empty l0 kL).size < 1)=false:=decide_eq_false (by omega)
         clear c11
         by_cases c12:((dZ ByteArray.empty l0 kL).size:Int) > 6
         ·
          rw [if_pos c12] at H
          have xq:decide (6 < ((dZ ByteArray.empty l0 kL).size:Int))=true:=decide_eq_true c12
          have RP:decide (6 < (dZ ByteArray.empty l0 kL).size)=true:=decide_eq_true (by omega)
          clear c12
          obtain rfl:=Option.some.inj H
          go_wp2
          go_ret
          exact ⟨by first|rfl|(simp;done)|(simp [*];done),by repeat (first|exact aU.refl _|apply aU.step)⟩
         ·
          rw [if_neg c12] at H
          have xq:decide (6 < ((dZ ByteArray.empty l0 kL).size:Int))=false:=decide_eq_false c12
          have RP:decide (6 < (dZ ByteArray.empty l0 kL).size)=false:=decide_eq_false (by omega)
          clear c12
          have H':=ae.mk H
          clear H
          go_wp2
          go_roundg k2
          case measure=>have:=qX.out;have:=uM.out;omega
          case rel=>exact ⟨(wrap64 (kL+1)),(by first|rfl|(simp;done)|(simp [*];done)),H',⟨by have:=qX.out;have:=uM.out;omega⟩,by repeat (first|exact aU.refl _|apply aU.step)⟩
    ·
     rw [if_neg c3] at H
     exact absurd H (by simp)
   ·
    rw [if_neg c2] at H
    have FB:decide (kL < (l0.length:Int))=false:=decide_eq_false c2
    clear c2
    by_cases c13:(l0.length:Int) ≥ 1
    ·
     rw [if_pos c13] at H
     have mY:decide (1≤(l0.length:Int))=true:=decide_eq_true c13
     have yx:decide (1≤l0.length)=true:=decide_eq_true (by omega)
     clear c13
     obtain rfl:=Option.some.inj H
     go_wp2
     go_ret
     exact ⟨by first|rfl|(simp;done)|(simp [*];done),by repeat (first|exact aU.refl _|apply aU.step)⟩
    ·
     rw [if_neg c13] at H
     have mY:decide (1≤(l0.length:Int))=false:=decide_eq_false c13
     have yx:decide (1≤l0.length)=false:=decide_eq_false (by omega)
     clear c13
     obtain rfl:=Option.some.inj H
     go_wp2
     go_ret
     exact ⟨by first|rfl|(simp;done)|(simp [*];done),by repeat (first|exact aU.refl _|apply aU.step)⟩
def aX.l0:Nat→List ByteArray→ByteArray→Int→Option (Bool)
 | 0,_,_,_=>none
 | k+1,x0,x1,x5=>if x5 < (x1.size:Int) then (if 0≤x5 then ((eG.f (bt x1 x5) (x0.length:Int)).bind fun t103=>(if t103 < 0 then (some false) else (aX.l0 k x0 x1 (wrap64 (x5+1))))) else (none)) else ((aK.f k x0).bind fun t104=>(some t104))
def aX.f (k:Nat) (l0:List ByteArray) (a1:ByteArray):Option (Bool):=aX.l0 k l0 a1 0
theorem aX.iF:∀ k,(∀ y0 y1 y2,dP (aX.l0 k y0 y1 y2) (aX.l0 (k+1) y0 y1 y2))
 | 0=>fun _ _ _ r h=>by simp [aX.l0] at h
 | k+1=>by
  have lW:=aX.iF k
  ·
   intro y0 y1 y2
   unfold aX.l0
   repeat' with_reducible first|apply lW|apply aK.mono|exact dP.refl _|exact dP.none _|refine dP.ite ?_ ?_|refine dP.bind ?_ (fun _=>?_)
theorem aX.mono:∀ a0 a1 k,dP (aX.f k a0 a1) (aX.f (k+1) a0 a1):=by
 intro a0 a1 k
 have lW:=aX.iF k
 unfold aX.f
 repeat' with_reducible first|apply lW|apply aK.mono|exact dP.refl _|exact dP.none _|refine dP.ite ?_ ?_|refine dP.bind ?_ (fun _=>?_)
set_option maxHeartbeats 8000000 in
set_option maxRecDepth 100000 in
theorem aX.calls (k:Nat) (A0:Option Addr) (c0:Nat) (l0:List ByteArray) (a1:ByteArray) (r:Bool) (w:World) (hr0:Kd.C Kd.string w A0 l0.length l0) (hc0:l0.length≤c0) (h:aX.f k l0 a1=some r) :
  Calls Tryd.prog 27 #[.slice A0 l0.length c0,.string a1] w fun e w'=>e=.returned (.bool r)∧aU w w':=by
 have HR0:=ae.mk hr0
 have tX:=ae.mk hc0
 clear hr0 hc0
 have H:(aX.l0 k l0 a1 0)=some r:=h
 clear h
 have H':=ae.mk H
 clear H
 go_enter Tryd.func27,Tryd.ntmps27
 go_wp2
 go_loopg [5] k (fun kq v5 w'=>∃ (jr:Int),v5=.int .i64 jr∧ae (aX.l0 kq l0 a1 jr=some r)∧ae (kq≤k)∧aU w w')
 case atStart=>exact ⟨(0),(by first|rfl|(simp;done)|(simp [*];done)),H',⟨Nat.le_refl _⟩,by repeat (first|exact aU.refl _|apply aU.step)⟩
 case round =>
  clear H'
  obtain ⟨jr,rfl,HA,qX,⟨m1,rfl⟩⟩:=hrel
  cases gk with
  | zero=>exact absurd HA.out (by simp [aX.l0])
  | succ k1 =>
   have H:=HA.out
   clear HA
   simp only [aX.l0] at H
   by_cases c3:jr < (a1.size:Int)
   ·
    rw [if_pos c3] at H
    have oG:decide (jr < (a1.size:Int))=true:=decide_eq_true c3
    clear c3
    by_cases c4:0≤jr
    ·
     rw [if_pos c4] at H
     have oD:decide (0≤jr)=true:=decide_eq_true c4
     clear c4
     replace H:=Option.bind_eq_some_iff.mp H
     obtain ⟨t103,NS,H⟩:=H
     replace H:(if t103 < 0 then (some false) else (aX.l0 k1 l0 a1 (wrap64 (jr+1))))=some r:=H
     have A6:=ae.mk NS
     clear NS
     by_cases c7:t103 < 0
     ·
      rw [if_pos c7] at H
      have oQ:decide (t103 < 0)=true:=decide_eq_true c7
      clear c7
      obtain rfl:=Option.some.inj H
      have p5:0≤(jr:Int):=of_decide_eq_true (by first|(with_reducible assumption)|assumption)
      have q5:jr < (a1.size:Int):=of_decide_eq_true (by first|(with_reducible assumption)|assumption)
      have hx5:=kY a1 jr
      replace p5:=eq_true p5
      replace q5:=eq_true q5
      go_wp2_with (first|((with_reducible refine bz (f:=43) rfl ?_);refine dV (some 17) rfl rfl Tryd.func43 (by kernel_rfl) rfl #[.int .u8 (bt a1 jr),.int .i64 (l0.length:Int)] rfl (by (try simp only [List.map_toArray,List.map_cons,List.map_nil]);first|done|rfl|(simp only [List.length_drop,List.length_take];rfl)) ?_;(with_reducible refine (eG.calls (bt a1 jr) (l0.length:Int) t103 _ A6.out).mono ?_);rintro e w' ⟨rfl,⟨nd,rfl⟩⟩;refine ⟨_,rfl,?_⟩))
      go_ret
      exact ⟨by first|rfl|(simp;done)|(simp [*];done),by repeat (first|exact aU.refl _|apply aU.step)⟩
     ·
      rw [if_neg c7] at H
      have oQ:decide (t103 < 0)=false:=decide_eq_false c7
      clear c7
      have H':=ae.mk H
      clear H
      have p5:0≤(jr:Int):=of_decide_eq_true (by first|(with_reducible assumption)|assumption)
      have q5:jr < (a1.size:Int):=of_decide_eq_true (by first|(with_reducible assumption)|assumption)
      have hx5:=kY a1 jr
      replace p5:=eq_true p5
      replace q5:=eq_true q5
      go_wp2_with (first|((with_reducible refine bz (f:=43) rfl ?_);refine dV (some 17) rfl rfl Tryd.func43 (by kernel_rfl) rfl #[.int .u8 (bt a1 jr),.int .i64 (l0.length:Int)] rfl (by (try simp only [List.map_toArray,List.map_cons,List.map_nil]);first|done|rfl|(simp only [List.length_drop,List.length_take];rfl)) ?_;(with_reducible refine (eG.calls (bt a1 jr) (l0.length:Int) t103 _ A6.out).mono ?_);rintro e w' ⟨rfl,⟨nd,rfl⟩⟩;refine ⟨_,rfl,?_⟩))
      go_roundg k1
      case measure=>have:=qX.out;omega
      case rel=>exact ⟨(wrap64 (jr+1)),(by first|rfl|(simp;done)|(simp [*];done)),H',⟨by have:=qX.out;omega⟩,by repeat (first|exact aU.refl _|apply aU.step)⟩
    ·
     rw [if_neg c4] at H
     exact absurd H (by simp)
   ·
    rw [if_neg c3] at H
    have oG:decide (jr < (a1.size:Int))=false:=decide_eq_false c3
    clear c3
    replace H:=Option.bind_eq_some_iff.mp H
    obtain ⟨t104,ZU,H⟩:=H
    replace H:(some t104)=some r:=H
    have A8:=ae.mk ZU
    clear ZU
    obtain rfl:=Option.some.inj H
    go_wp2_with (first|((with_reducible refine bz (f:=44) rfl ?_);refine dV (some 20) rfl rfl Tryd.func44 (by kernel_rfl) rfl #[.slice A0 l0.length c0] rfl (by (try simp only [List.map_toArray,List.map_cons,List.map_nil]);first|done|rfl|(simp only [List.length_drop,List.length_take];rfl)) ?_;(with_reducible refine (aK.calls k1 _ _ l0 t104 _ ?df ?dA A8.out).mono ?_);(case df=>repeat (first|exact HR0.out|(with_reducible refine Kd.bQ ?_ _)|(with_reducible refine Kd.bP ?_ _)|(with_reducible refine Kd.dF ?_)));(case dA=>exact tX.out);rintro e w' ⟨rfl,⟨nd,rfl⟩⟩;refine ⟨_,rfl,?_⟩))
    go_ret
    exact ⟨by first|rfl|(simp;done)|(simp [*];done),by repeat (first|exact aU.refl _|apply aU.step)⟩
def jL.f (a0:Int):Option (ByteArray × ByteArray):=if a0=11 then (some ((⟨#[115,116,111,114,101,112]⟩:ByteArray),(⟨#[97,110,98]⟩:ByteArray))) else (if a0=12 then (some ((⟨#[108,111,97,100,103]⟩:ByteArray),(⟨#[97,98]⟩:ByteArray))) else (if a0=13 then (some ((⟨#[115,116,111,114,101,103]⟩:ByteArray),(⟨#[97,98]⟩:ByteArray))) else (if a0=14 then (some ((⟨#[112,114,105,110,116]⟩:ByteArray),(⟨#[97]⟩:ByteArray))) else (if a0=15 then (some ((⟨#[115,97,109,101]⟩:ByteArray),(⟨#[97,98,99]⟩:ByteArray))) else (some ((⟨#[]⟩:ByteArray),(⟨#[]⟩:ByteArray)))))))
set_option maxHeartbeats 8000000 in
set_option maxRecDepth 100000 in
theorem jL.calls (a0:Int) (r1:ByteArray) (r2:ByteArray) (w:World) (h:jL.f a0=some (r1,r2)) :
  Calls Tryd.prog 63 #[.int .u8 a0] w fun e w'=>e=.returned (.tuple #[.string r1,.string r2])∧aU w w':=by
 have H:(if a0=11 then (some ((⟨#[115,116,111,114,101,112]⟩:ByteArray),(⟨#[97,110,98]⟩:ByteArray))) else (if a0=12 then (some ((⟨#[108,111,97,100,103]⟩:ByteArray),(⟨#[97,98]⟩:ByteArray))) else (if a0=13 then (some ((⟨#[115,116,111,114,101,103]⟩:ByteArray),(⟨#[97,98]⟩:ByteArray))) else (if a0=14 then (some ((⟨#[112,114,105,110,116]⟩:ByteArray),(⟨#[97]⟩:ByteArray))) else (if a0=15 then (some ((⟨#[115,97,109,101]⟩:ByteArray),(⟨#[97,98,99]⟩:ByteArray))) else (some ((⟨#[]⟩:ByteArray),(⟨#[]⟩:ByteArray))))))))=some (r1,r2):=h
 clear h
 by_cases c2:a0=11
 ·
  rw [if_pos c2] at H
  have FB:(a0 == 11)=true:=beq_iff_eq.mpr c2
  have abJ:(a0 != 11)=false:=bne_eq_false_iff_eq.mpr c2
  clear c2
  simp only [Option.some.injEq,Prod.mk.injEq] at H
  obtain ⟨rfl,rfl⟩:=H
  go_enter Tryd.func63,Tryd.ntmps63
  go_wp2
  go_ret2
  exact ⟨by first|rfl|(simp;done)|(simp [*];done),by repeat (first|exact aU.refl _|apply aU.step)⟩
 ·
  rw [if_neg c2] at H
  have FB:(a0 == 11)=false:=beq_eq_false_iff_ne.mpr c2
  have abJ:(a0 != 11)=true:=bne_iff_ne.mpr c2
  by_cases c3:a0=12
  ·
   rw [if_pos c3] at H
   have oG:(a0 == 12)=true:=beq_iff_eq.mpr c3
   have zO:(a0 != 12)=false:=bne_eq_false_iff_eq.mpr c3
   clear c3
   simp only [Option.some.injEq,Prod.mk.injEq] at H
   obtain ⟨rfl,rfl⟩:=H
   go_enter Tryd.func63,Tryd.ntmps63
   go_wp2
   go_ret2
   exact ⟨by first|rfl|(simp;done)|(simp [*];done),by repeat (first|exact aU.refl _|apply aU.step)⟩
  ·
   rw [if_neg c3] at H
   have oG:(a0 == 12)=false:=beq_eq_false_iff_ne.mpr c3
   have zO:(a0 != 12)=true:=bne_iff_ne.mpr c3
   by_cases c4:a0=13
   ·
    rw [if_pos c4] at H
    have oD:(a0 == 13)=true:=beq_iff_eq.mpr c4
    have Jm:(a0 != 13)=false:=bne_eq_false_iff_eq.mpr c4
    clear c4
    simp only [Option.some.injEq,Prod.mk.injEq] at H
    obtain ⟨rfl,rfl⟩:=H
    go_enter Tryd.func63,Tryd.ntmps63
    go_wp2
    go_ret2
    exact ⟨by first|rfl|(simp;done)|(simp [*];done),by repeat (first|exact aU.refl _|apply aU.step)⟩
   ·
    rw [if_neg c4] at H
    have oD:(a0 == 13)=false:=beq_eq_false_iff_ne.mpr c4
    have Jm:(a0 != 13)=true:=bne_iff_ne.mpr c4
    by_cases c5:a0=14
    ·
     rw [if_pos c5] at H
     have rU:(a0 == 14)=true:=beq_iff_eq.mpr c5
     have O6:(a0 != 14)=false:=bne_eq_false_iff_eq.mpr c5
     clear c5
     simp only [Option.some.injEq,Prod.mk.injEq] at H
     obtain ⟨rfl,rfl⟩:=H
     go_enter Tryd.func63,Tryd.ntmps63
     go_wp2
     go_ret2
     exact ⟨by first|rfl|(simp;done)|(simp [*];done),by repeat (first|exact aU.refl _|apply aU.step)⟩
    ·
     rw [if_neg c5] at H
     have rU:(a0 == 14)=false:=beq_eq_false_iff_ne.mpr c5
     have O6:(a0 != 14)=true:=bne_iff_ne.mpr c5
     by_cases c6:a0=15
     ·
      rw [if_pos c6] at H
      have oK:(a0 == 15)=true:=beq_iff_eq.mpr c6
      have yT:(a0 != 15)=false:=bne_eq_false_iff_eq.mpr c6
      clear c6
      simp only [Option.some.injEq,Prod.mk.injEq] at H
      obtain ⟨rfl,rfl⟩:=H
      go_enter Tryd.func63,Tryd.ntmps63
      go_wp2
      go_ret2
      exact ⟨by first|rfl|(simp;done)|(simp [*];done),by repeat (first|exact aU.refl _|apply aU.step)⟩
     ·
      rw [if_neg c6] at H
      have oK:(a0 == 15)=false:=beq_eq_false_iff_ne.mpr c6
      have yT:(a0 != 15)=true:=bne_iff_ne.mpr c6
      simp only [Option.some.injEq,Prod.mk.injEq] at H
      obtain ⟨rfl,rfl⟩:=H
      go_enter Tryd.func63,Tryd.ntmps63
      go_wp2
      go_ret2
      exact ⟨by first|rfl|(simp;done)|(simp [*];done),by repeat (first|exact aU.refl _|apply aU.step)⟩
def fH.f (a0:Int):Option (ByteArray × ByteArray):=if a0=1 then (some ((⟨#[115,101,116]⟩:ByteArray),(⟨#[97,110]⟩:ByteArray))) else (if a0=2 then (some ((⟨#[97,100,100]⟩:ByteArray),(⟨#[97,98,99]⟩:ByteArray))) else (if a0=3 then (some ((⟨#[106,117,109,112]⟩:ByteArray),(⟨#[110]⟩:ByteArray))) else (if a0=4 then (some ((⟨#[122,101,114,111]⟩:ByteArray),(⟨#[97,110]⟩:ByteArray))) else (if a0=5 then (some ((⟨#[110,101,119]⟩:ByteArray),(⟨#[97]⟩:ByteArray))) else (if a0=6 then (some ((⟨#[110,105,108]⟩:ByteArray),(⟨#[97]⟩:ByteArray))) else (if a0=7 then (some ((⟨#[109,111,118,101]⟩:ByteArray),(⟨#[97,98]⟩:ByteArray))) else (if a0=8 then (some ((⟨#[108,111,97,100,105]⟩:ByteArray),(⟨#[97,98,110]⟩:ByteArray))) else (if a0=9 then (some ((⟨#[115,116,111,114,101,105]⟩:ByteArray),(⟨#[97,110,98]⟩:ByteArray))) else (if a0=10 then (some ((⟨#[108,111,97,100,112]⟩:ByteArray),(⟨#[97,98,110]⟩:ByteArray))) else ((jL.f a0).bind fun Hz=>(some (Hz.1,Hz.2))))))))))))
set_option maxHeartbeats 8000000 in
set_option maxRecDepth 100000 in
theorem fH.calls (a0:Int) (r1:ByteArray) (r2:ByteArray) (w:World) (h:fH.f a0=some (r1,r2)) :
  Calls Tryd.prog 45 #[.int .u8 a0] w fun e w'=>e=.returned (.tuple #[.string r1,.string r2])∧aU w w':=by
 have H:(if a0=1 then (some ((⟨#[115,101,116]⟩:ByteArray),(⟨#[97,110]⟩:ByteArray))) else (if a0=2 then (some ((⟨#[97,100,100]⟩:ByteArray),(⟨#[97,98,99]⟩:ByteArray))) else (if a0=3 then (some ((⟨#[106,117,109,112]⟩:ByteArray),(⟨#[110]⟩:ByteArray))) else (if a0=4 then (some ((⟨#[122,101,114,111]⟩:ByteArray),(⟨#[97,110]⟩:ByteArray))) else (if a0=5 then (some ((⟨#[110,101,119]⟩:ByteArray),(⟨#[97]⟩:ByteArray))) else (if a0=6 then (some ((⟨#[110,105,108]⟩:ByteArray),(⟨#[97]⟩:ByteArray))) else (if a0=7 then (some ((⟨#[109,111,118,101]⟩:ByteArray),(⟨#[97,98]⟩:ByteArray))) else (if a0=8 then (some ((⟨#[108,111,97,100,105]⟩:ByteArray),(⟨#[97,98,110]⟩:ByteArray))) else (if a0=9 then (some ((⟨#[115,116,111,114,101,105]⟩:ByteArray),(⟨#[97,110,98]⟩:ByteArray))) else (if a0=10 then (some ((⟨#[108,111,97,100,112]⟩:ByteArray),(⟨#[97,98,110]⟩:ByteArray))) else ((jL.f a0).bind fun Hz=>(some (Hz.1,Hz.2)))))))))))))=some (r1,r2):=h
 clear h
 by_cases c2:a0=1
 ·
  rw [if_pos c2] at H
  have FB:(a0 == 1)=true:=beq_iff_eq.mpr c2
  have abJ:(a0 != 1)=false:=bne_eq_false_iff_eq.mpr c2
  clear c2
  simp only [Option.some.injEq,Prod.mk.injEq] at H
  obtain ⟨rfl,rfl⟩:=H
  go_enter Tryd.func45,Tryd.ntmps45
  go_wp2
  go_ret2
  exact ⟨by first|rfl|(simp;done)|(simp [*];done),by repeat (first|exact aU.refl _|apply aU.step)⟩
 ·
  rw [if_neg c2] at H
  have FB:(a0 == 1)=false:=beq_eq_false_iff_ne.mpr c2
  have abJ:(a0 != 1)=true:=bne_iff_ne.mpr c2
  by_cases c3:a0=2
  ·
   rw [if_pos c3] at H
   have oG:(a0 == 2)=true:=beq_iff_eq.mpr c3
   have zO:(a0 != 2)=false:=bne_eq_false_iff_eq.mpr c3
   clear c3
   simp only [Option.some.injEq,Prod.mk.injEq] at H
   obtain ⟨rfl,rfl⟩:=H
   go_enter Tryd.func45,Tryd.ntmps45
   go_wp2
   go_ret2
   exact ⟨by first|rfl|(simp;done)|(simp [*];done),by repeat (first|exact aU.refl _|apply aU.step)⟩
  ·
   rw [if_neg c3] at H
   have oG:(a0 == 2)=false:=beq_eq_false_iff_ne.mpr c3
   have zO:(a0 != 2)=true:=bne_iff_ne.mpr c3
   by_cases c4:a0=3
   ·
    rw [if_pos c4] at H
    have oD:(a0 == 3)=true:=beq_iff_eq.mpr c4
    have Jm:(a0 != 3)=false:=bne_eq_false_iff_eq.mpr c4
    clear c4
    simp only [Option.some.injEq,Prod.mk.injEq] at H
    obtain ⟨rfl,rfl⟩:=H
    go_enter Tryd.func45,Tryd.ntmps45
    go_wp2
    go_ret2
    exact ⟨by first|rfl|(simp;done)|(simp [*];done),by repeat (first|exact aU.refl _|apply aU.step)⟩
   ·
    rw [if_neg c4] at H
    have oD:(a0 == 3)=false:=beq_eq_false_iff_ne.mpr c4
    have Jm:(a0 != 3)=true:=bne_iff_ne.mpr c4
    by_cases c5:a0=4
    ·
     rw [if_pos c5] at H
     have rU:(a0 == 4)=true:=beq_iff_eq.mpr c5
     have O6:(a0 != 4)=false:=bne_eq_false_iff_eq.mpr c5
     clear c5
     simp only [Option.some.injEq,Prod.mk.injEq] at H
     obtain ⟨rfl,rfl⟩:=H
     go_enter Tryd.func45,Tryd.ntmps45
     go_wp2
     go_ret2
     exact ⟨by first|rfl|(simp;done)|(simp [*];done),by repeat (first|exact aU.refl _|apply aU.step)⟩
    ·
     rw [if_neg c5] at H
     have rU:(a0 == 4)=false:=beq_eq_false_iff_ne.mpr c5
     have O6:(a0 != 4)=true:=bne_iff_ne.mpr c5
     by_cases c6:a0=5
     ·
      rw [if_pos c6] at H
      have oK:(a0 == 5)=true:=beq_iff_eq.mpr c6
      have yT:(a0 != 5)=false:=bne_eq_false_iff_eq.mpr c6
      clear c6
      simp only [Option.some.injEq,Prod.mk.injEq] at H
      obtain ⟨rfl,rfl⟩:=H
      go_enter Tryd.func45,Tryd.ntmps45
      go_wp2
      go_ret2
      exact ⟨by first|rfl|(simp;done)|(simp [*];done),by repeat (first|exact aU.refl _|apply aU.step)⟩
     ·
      rw [if_neg c6] at H
      have oK:(a0 == 5)=false:=beq_eq_false_iff_ne.mpr c6
      have yT:(a0 != 5)=true:=bne_iff_ne.mpr c6
      by_cases c7:a0=6
      ·
       rw [if_pos c7] at H
       have oQ:(a0 == 6)=true:=beq_iff_eq.mpr c7
       have yw:(a0 != 6)=false:=bne_eq_false_iff_eq.mpr c7
       clear c7
       simp only [Option.some.injEq,Prod.mk.injEq] at H
       obtain ⟨rfl,rfl⟩:=H
       go_enter Tryd.func45,Tryd.ntmps45
       go_wp2
       go_ret2
       exact ⟨by first|rfl|(simp;done)|(simp [*];done),by repeat (first|exact aU.refl _|apply aU.step)⟩
      ·
       rw [if_neg c7] at H
       have oQ:(a0 == 6)=false:=beq_eq_false_iff_ne.mpr c7
       have yw:(a0 != 6)=true:=bne_iff_ne.mpr c7
       by_cases c8:a0=7
       ·
        rw [if_pos c8] at H
        have pU:(a0 == 7)=true:=beq_iff_eq.mpr c8
        have zN:(a0 != 7)=false:=bne_eq_false_iff_eq.mpr c8
        clear c8
        simp only [Option.some.injEq,Prod.mk.injEq] at H
        obtain ⟨rfl,rfl⟩:=H
        go_enter Tryd.func45,Tryd.ntmps45
        go_wp2
        go_ret2
        exact ⟨by first|rfl|(simp;done)|(simp [*];done),by repeat (first|exact aU.refl _|apply aU.step)⟩
       ·
        rw [if_neg c8] at H
        have pU:(a0 == 7)=false:=beq_eq_false_iff_ne.mpr c8
        have zN:(a0 != 7)=true:=bne_iff_ne.mpr c8
        by_cases c9:a0=8
        ·
         rw [if_pos c9] at H
         have Fz:(a0 == 8)=true:=beq_iff_eq.mpr c9
         have Yx:(a0 != 8)=false:=bne_eq_false_iff_eq.mpr c9
         clear c9
         simp only [Option.some.injEq,Prod.mk.injEq] at H
         obtain ⟨rfl,rfl⟩:=H
         go_enter Tryd.func45,Tryd.ntmps45
         go_wp2
         go_ret2
         exact ⟨by first|rfl|(simp;done)|(simp [*];done),by repeat (first|exact aU.refl _|apply aU.step)⟩
        ·
         rw [if_neg c9] at H
         have Fz:(a0 == 8)=false:=beq_eq_false_iff_ne.mpr c9
         have Yx:(a0 != 8)=true:=bne_iff_ne.mpr c9
         by_cases c10:a0=9
         ·
          rw [if_pos c10] at H
          have pW:(a0 == 9)=true:=beq_iff_eq.mpr c10
          have Nu:(a0 != 9)=false:=bne_eq_false_iff_eq.mpr c10
          clear c10
          simp only [Option.some.injEq,Prod.mk.injEq] at H
          obtain ⟨rfl,rfl⟩:=H
          go_enter Tryd.func45,Tryd.ntmps45
          go_wp2
          go_ret2
          exact ⟨by first|rfl|(simp;done)|(simp [*];done),by repeat (first|exact aU.refl _|apply aU.step)⟩
         ·
          rw [if_neg c10] at H
          have pW:(a0 == 9)=false:=beq_eq_false_iff_ne.mpr c10
          have Nu:(a0 != 9)=true:=bne_iff_ne.mpr c10
          by_cases c11:a0=10
          ·
           rw [if_pos c11] at H
           have vz:(a0 == 10)=true:=beq_iff_eq.mpr c11
           have D8:(a0 != 10)=false:=bne_eq_false_iff_eq.mpr c11
           clear c11
           simp only [Option.some.injEq,Prod.mk.injEq] at H
           obtain ⟨rfl,rfl⟩:=H
           go_enter Tryd.func45,Tryd.ntmps45
           go_wp2
           go_ret2
           exact ⟨by first|rfl|(simp;done)|(simp [*];done),by repeat (first|exact aU.refl _|apply aU.step)⟩
          ·
           rw [if_neg c11] at H
           have vz:(a0 == 10)=false:=beq_eq_false_iff_ne.mpr c11
           have D8:(a0 != 10)=true:=bne_iff_ne.mpr c11
           replace H:=Option.bind_eq_some_iff.mp H
           obtain ⟨⟨t105,t106⟩,Tf,H⟩:=H
           replace H:(some (t105,t106))=some (r1,r2):=H
           have A12:=ae.mk Tf
           clear Tf
           simp only [Option.some.injEq,Prod.mk.injEq] at H
           obtain ⟨rfl,rfl⟩:=H
           go_enter Tryd.func45,Tryd.ntmps45
           go_wp2_with (first|((with_reducible refine bz (f:=63) rfl ?_);refine dV (some 26) rfl rfl Tryd.func63 (by kernel_rfl) rfl #[.int .u8 a0] rfl (by (try simp only [List.map_toArray,List.map_cons,List.map_nil]);first|done|rfl|(simp only [List.length_drop,List.length_take];rfl)) ?_;(with_reducible refine (jL.calls a0 t105 t106 _ A12.out).mono ?_);rintro e w' ⟨rfl,⟨nd,rfl⟩⟩;refine ⟨_,rfl,?_⟩))
           go_ret2
           exact ⟨by first|rfl|(simp;done)|(simp [*];done),by repeat (first|exact aU.refl _|apply aU.step)⟩
end Go.Proofs.YtlemecdddhdagaaDoor.P
end
section
namespace Go.Proofs.YtlemecdddhdagaaDoor.P
open Go.RowKit Go.Proofs.af.bF Go.Proofs.af.dD Go.Proofs.af.dN
attribute [local go_sem] lF lC mP mO kE kD lD lu
mutual
def aG.j0:Nat→ByteArray→ByteArray→Bool→Option (Bool)
 | 0,_,_,_=>none
 | k+1,x0,x3,x13=>if x13=true then (if 1≤(x0.size:Int) then (aG.j1 k x0 (x0.extract 1 x0.size)) else (none)) else (aG.j1 k x0 x3)
def aG.j1:Nat→ByteArray→ByteArray→Option (Bool)
 | 0,_,_=>none
 | k+1,x0,x3=>if x3.toList=([]:List UInt8) then (aG.j2 k x3 true) else (if 0 < (x3.size:Int) then (if (bt x3 0)=48 then (if (x3.size:Int) > 1 then (aG.j2 k x3 true) else (aG.j2 k x3 (decide ((x0.size:Int) > 1)))) else (aG.j2 k x3 false)) else (none))
def aG.j2:Nat→ByteArray→Bool→Option (Bool)
 | 0,_,_=>none
 | k+1,x3,x32=>if x32=true then (some false) else (aG.l0 k x3 0)
def aG.l0:Nat→ByteArray→Int→Option (Bool)
 | 0,_,_=>none
 | k+1,x3,x4=>if x4 < (x3.size:Int) then (if 0≤x4 then (if (bt x3 x4) < 48 then (some false) else (if (bt x3 x4) > 57 then (some false) else (aG.l0 k x3 (wrap64 (x4+1))))) else (none)) else (some true)
end
def aG.f (k:Nat) (a0:ByteArray):Option (Bool):=if (a0.size:Int) > 0 then (if 0 < (a0.size:Int) then (aG.j0 k a0 a0 ((bt a0 0) == 45)) else (none)) else (aG.j0 k a0 a0 false)
theorem aG.iF:∀ k,(∀ y0 y1 y2,dP (aG.j0 k y0 y1 y2) (aG.j0 (k+1) y0 y1 y2))∧(∀ y0 y1,dP (aG.j1 k y0 y1) (aG.j1 (k+1) y0 y1))∧(∀ y0 y1,dP (aG.j2 k y0 y1) (aG.j2 (k+1) y0 y1))∧(∀ y0 y1,dP (aG.l0 k y0 y1) (aG.l0 (k+1) y0 y1))
 | 0=>⟨fun _ _ _ r h=>by simp [aG.j0] at h,fun _ _ r h=>by simp [aG.j1] at h,fun _ _ r h=>by simp [aG.j2] at h,fun _ _ r h=>by simp [aG.l0] at h⟩
 | k+1=>by
  obtain ⟨lW,ih1,ih2,ih3⟩:=aG.iF k
  refine ⟨?_,?_,?_,?_⟩
  ·
   intro y0 y1 y2
   unfold aG.j0
   repeat' with_reducible first|apply lW|apply ih1|apply ih2|apply ih3|exact dP.refl _|exact dP.none _|refine dP.ite ?_ ?_|refine dP.bind ?_ (fun _=>?_)
  ·
   intro y0 y1
   unfold aG.j1
   repeat' with_reducible first|apply lW|apply ih1|apply ih2|apply ih3|exact dP.refl _|exact dP.none _|refine dP.ite ?_ ?_|refine dP.bind ?_ (fun _=>?_)
  ·
   intro y0 y1
   unfold aG.j2
   repeat' with_reducible first|apply lW|apply ih1|apply ih2|apply ih3|exact dP.refl _|exact dP.none _|refine dP.ite ?_ ?_|refine dP.bind ?_ (fun _=>?_)
  ·
   intro y0 y1
   unfold aG.l0
   repeat' with_reducible first|apply lW|apply ih1|apply ih2|apply ih3|exact dP.refl _|exact dP.none _|refine dP.ite ?_ ?_|refine dP.bind ?_ (fun _=>?_)
theorem aG.mono:∀ a0 k,dP (aG.f k a0) (aG.f (k+1) a0):=by
 intro a0 k
 obtain ⟨lW,ih1,ih2,ih3⟩:=aG.iF k
 unfold aG.f
 repeat' with_reducible first|apply lW|apply ih1|apply ih2|apply ih3|exact dP.refl _|exact dP.none _|refine dP.ite ?_ ?_|refine dP.bind ?_ (fun _=>?_)
set_option maxHeartbeats 8000000 in
set_option maxRecDepth 100000 in
theorem aG.calls (k:Nat) (a0:ByteArray) (r:Bool) (w:World) (h:aG.f k a0=some r) :
  Calls Tryd.prog 71 #[.string a0] w fun e w'=>e=.returned (.bool r)∧aU w w':=by
 have H:(if (a0.size:Int) > 0 then (if 0 < (a0.size:Int) then (aG.j0 k a0 a0 ((bt a0 0) == 45)) else (none)) else (aG.j0 k a0 a0 false))=some r:=h
 clear h
 have HC2:=ae.mk H
 clear H
 go_enter Tryd.func71,Tryd.ntmps71
 go_upto_region 2 with (fail)
 go_cut [13] (fun v13 wc=>∃ (kq:Nat) (JP:Bool),v13=.bool JP∧ae (aG.j0 kq a0 a0 JP=some r)∧ae (kq≤k)∧aU w wc)
 case first =>
  have H:=HC2.out
  clear HC2
  by_cases c3:(a0.size:Int) > 0
  ·
   rw [if_pos c3] at H
   have oG:decide (0 < (a0.size:Int))=true:=decide_eq_true c3
   have zO:decide (0 < a0.size)=true:=decide_eq_true (by omega)
   clear c3
   (first|rw [oG]|(simp only [bT,bW];rw [oG])|skip)
   by_cases c4:0 < (a0.size:Int)
   ·
    rw [if_pos c4] at H
    have oD:decide (0 < (a0.size:Int))=true:=decide_eq_true c4
    have Jm:decide (0 < a0.size)=true:=decide_eq_true (by omega)
    clear c4
    have H':=ae.mk H
    clear H
    have p5:0≤(0:Int):=(by omega)
    have q5:0 < a0.size:=(by have:(0:Int) < (a0.size:Int):=of_decide_eq_true (by first|(with_reducible assumption)|assumption);omega)
    have hx5:∀ h:0 < a0.size,((a0[0]'h).toNat:Int)=bt a0 0:=kY a0 0
    clear p5
    have qi5:(0 < (a0.size:Int))=True:=eq_true (of_decide_eq_true (by first|(with_reducible assumption)|assumption))
    replace q5:=eq_true q5
    go_wp2
    go_meet
    case rel=>exact ⟨_,(((bt a0 0) == 45)),(by first|rfl|(simp;done)|(simp [*];done)),H',⟨by first|omega|exact Nat.le_refl _⟩,by repeat (first|exact aU.refl _|apply aU.step)⟩
   ·
    rw [if_neg c4] at H
    exact absurd H (by simp)
  ·
   rw [if_neg c3] at H
   have oG:decide (0 < (a0.size:Int))=false:=decide_eq_false c3
   have zO:decide (0 < a0.size)=false:=decide_eq_false (by omega)
   clear c3
   (first|rw [oG]|(simp only [bT,bW];rw [oG])|skip)
   have H':=ae.mk H
   clear H
   go_wp2
   go_meet
   case rel=>exact ⟨_,(false),(by first|rfl|(simp;done)|(simp [*];done)),H',⟨by first|omega|exact Nat.le_refl _⟩,by repeat (first|exact aU.refl _|apply aU.step)⟩
 case rest =>
  clear HC2
  obtain ⟨kq,JP,rfl,HA,zh,⟨mc1,rfl⟩⟩:=hcut
  cases kq with
  | zero=>exact absurd HA.out (by simp [aG.j0])
  | succ Ph =>
   have H:=HA.out
   clear HA
   simp only [aG.j0] at H
   have HC6:=ae.mk H
   clear H
   go_upto_if 13 with (fail)
   go_cut [3] (fun v3 wc=>∃ (kq:Nat) (jI:ByteArray),v3=.string jI∧ae (aG.j1 kq a0 jI=some r)∧ae (kq≤Ph)∧aU w wc)
   case first =>
    have H:=HC6.out
    clear HC6
    by_cases c7:JP=true
    ·
     subst c7
     have H1:(if 1≤(a0.size:Int) then (aG.j1 Ph a0 (a0.extract 1 a0.size)) else (none))=some r:=by rw [if_pos rfl] at H;exact H
     clear H
     have H:=H1
     clear H1
     by_cases c8:1≤(a0.size:Int)
     ·
      rw [if_pos c8] at H
      have pU:=eq_true c8
      have zN:decide (1≤(a0.size:Int))=true:=decide_eq_true c8
      clear c8
      have H':=ae.mk H
      clear H
      go_wp2
      go_meet
      case rel=>exact ⟨_,(a0.extract 1 a0.size),(by first|rfl|(simp;done)|(simp [*];done)),H',⟨by have:=zh.out;first|omega|exact Nat.le_refl _⟩,by repeat (first|exact aU.refl _|apply aU.step)⟩
     ·
      rw [if_neg c8] at H
      exact absurd H (by simp)
    ·
     replace c7:=Bool.eq_false_iff.mpr c7
     subst c7
     have H1:(aG.j1 Ph a0 a0)=some r:=by rw [if_neg (show ¬ (false=true) by decide)] at H;exact H
     clear H
     have H:=H1
     clear H1
     have H':=ae.mk H
     clear H
     go_wp2
     go_meet
     case rel=>exact ⟨_,(a0),(by first|rfl|(simp;done)|(simp [*];done)),H',⟨by have:=zh.out;first|omega|exact Nat.le_refl _⟩,by repeat (first|exact aU.refl _|apply aU.step)⟩
   case rest =>
    clear HC6
    obtain ⟨kq,jI,rfl,HA,Jz,⟨mc5,rfl⟩⟩:=hcut
    cases kq with
    | zero=>exact absurd HA.out (by simp [aG.j1])
    | succ kj5 =>
     have H:=HA.out
     clear HA
     simp only [aG.j1] at H
     have HC9:=ae.mk H
     clear H
     go_upto_region 4 with (fail)
     go_cut [32] (fun v32 wc=>∃ (kq:Nat) (JF:Bool),v32=.bool JF∧ae (aG.j2 kq jI JF=some r)∧ae (kq≤kj5)∧aU w wc)
     case first =>
      have H:=HC9.out
      clear HC9
      by_cases c10:jI.toList=([]:List UInt8)
      ·
       rw [if_pos c10] at H
       have pW:(jI.toList == ([]:List UInt8))=true:=beq_iff_eq.mpr c10
       have Nu:(jI.toList != ([]:List UInt8))=false:=bne_eq_false_iff_eq.mpr c10
       clear c10
       (first|rw [pW]|(simp only [bT,bW];rw [pW])|skip)
       have H':=ae.mk H
       clear H
       go_wp2
       go_meet
       case rel=>exact ⟨_,(true),(by first|rfl|(simp;done)|(simp [*];done)),H',⟨by have:=zh.out;have:=Jz.out;first|omega|exact Nat.le_refl _⟩,by repeat (first|exact aU.refl _|apply aU.step)⟩
      ·
       rw [if_neg c10] at H
       have pW:(jI.toList == ([]:List UInt8))=false:=beq_eq_false_iff_ne.mpr c10
       have Nu:(jI.toList != ([]:List UInt8))=true:=bne_iff_ne.mpr c10
       (first|rw [pW]|(simp only [bT,bW];rw [pW])|skip)
       by_cases c11:0 < (jI.size:Int)
       ·
        rw [if_pos c11] at H
        have vz:decide (0 < (jI.size:Int))=true:=decide_eq_true c11
        have D8:decide (0 < jI.size)=true:=decide_eq_true (by omega)
        clear c11
        by_cases c13:(bt jI 0)=48
        ·
         rw [if_pos c13] at H
         have mY:((bt jI 0) == 48)=true:=beq_iff_eq.mpr c13
         have yx:((bt jI 0) != 48)=false:=bne_eq_false_iff_eq.mpr c13
         clear c13
         by_cases c14:(jI.size:Int) > 1
         ·
          rw [if_pos c14] at H
          have D7:decide (1 < (jI.size:Int))=true:=decide_eq_true c14
          have Ht:decide (1 < jI.size)=true:=decide_eq_true (by omega)
          clear c14
          have H':=ae.mk H
          clear H
          have p12:0≤(0:Int):=(by omega)
          have q12:0 < jI.size:=(by have:(0:Int) < (jI.size:Int):=of_decide_eq_true (by first|(with_reducible assumption)|assumption);omega)
          have aaS:∀ h:0 < jI.size,((jI[0]'h).toNat:Int)=bt jI 0:=kY jI 0
          clear p12
          have acK:(0 < (jI.size:Int))=True:=eq_true (of_decide_eq_true (by first|(with_reducible assumption)|assumption))
          replace q12:=eq_true q12
          go_wp2
          go_meet
          case rel=>exact ⟨_,(true),(by first|rfl|(simp;done)|(simp [*];done)),H',⟨by have:=zh.out;have:=Jz.out;first|omega|exact Nat.le_refl _⟩,by repeat (first|exact aU.refl _|apply aU.step)⟩
         ·
          rw [if_neg c14] at H
          have D7:decide (1 < (jI.size:Int))=false:=decide_eq_false c14
          have Ht:decide (1 < jI.size)=false:=decide_eq_false (by omega)
          clear c14
          have H':=ae.mk H
          clear H
          have p12:0≤(0:Int):=(by omega)
          have q12:0 < jI.size:=(by have:(0:Int) < (jI.size:Int):=of_decide_eq_true (by first|(with_reducible assumption)|assumption);omega)
          have aaS:∀ h:0 < jI.size,((jI[0]'h).toNat:Int)=bt jI 0:=kY jI 0
          clear p12
          have acK:(0 < (jI.size:Int))=True:=eq_true (of_decide_eq_true (by first|(with_reducible assumption)|assumption))
          replace q12:=eq_true q12
          go_wp2
          go_meet
          case rel=>exact ⟨_,(decide ((a0.size:Int) > 1)),(by first|rfl|(simp;done)|(simp [*];done)),H',⟨by have:=zh.out;have:=Jz.out;first|omega|exact Nat.le_refl _⟩,by repeat (first|exact aU.refl _|apply aU.step)⟩
        ·
         rw [if_neg c13] at H
         have mY:((bt jI 0) == 48)=false:=beq_eq_false_iff_ne.mpr c13
         have yx:((bt jI 0) != 48)=true:=bne_iff_ne.mpr c13
         have H':=ae.mk H
         clear H
         have p12:0≤(0:Int):=(by omega)
         have q12:0 < jI.size:=(by have:(0:Int) < (jI.size:Int):=of_decide_eq_true (by first|(with_reducible assumption)|assumption);omega)
         have aaS:∀ h:0 < jI.size,((jI[0]'h).toNat:Int)=bt jI 0:=kY jI 0
         clear p12
         have acK:(0 < (jI.size:Int))=True:=eq_true (of_decide_eq_true (by first|(with_reducible assumption)|assumption))
         replace q12:=eq_true q12
         go_wp2
         go_meet
         case rel=>exact ⟨_,(false),(by first|rfl|(simp;done)|(simp [*];done)),H',⟨by have:=zh.out;have:=Jz.out;first|omega|exact Nat.le_refl _⟩,by repeat (first|exact aU.refl _|apply aU.step)⟩
       ·
        rw [if_neg c11] at H
        exact absurd H (by simp)
     case rest =>
      clear HC9
      obtain ⟨kq,JF,rfl,HA,HJ8,⟨mc8,rfl⟩⟩:=hcut
      cases kq with
      | zero=>exact absurd HA.out (by simp [aG.j2])
      | succ kj8 =>
       have H:=HA.out
       clear HA
       simp only [aG.j2] at H
       by_cases c15:JF=true
       ·
        subst c15
        have H1:(some false)=some r:=by rw [if_pos rfl] at H;exact H
        clear H
        have H:=H1
        clear H1
        obtain rfl:=Option.some.inj H
        go_wp2
        go_ret
        exact ⟨by first|rfl|(simp;done)|(simp [*];done),by repeat (first|exact aU.refl _|apply aU.step)⟩
       ·
        replace c15:=Bool.eq_false_iff.mpr c15
        subst c15
        have H1:(aG.l0 kj8 jI 0)=some r:=by rw [if_neg (show ¬ (false=true) by decide)] at H;exact H
        clear H
        have H:=H1
        clear H1
        have H':=ae.mk H
        clear H
        go_wp2
        go_loopg [4] kj8 (fun kq v4 w'=>∃ (o8:Int),v4=.int .i64 o8∧ae (aG.l0 kq jI o8=some r)∧ae (kq≤kj8)∧aU w w')
        case atStart=>exact ⟨(0),(by first|rfl|(simp;done)|(simp [*];done)),H',⟨Nat.le_refl _⟩,by repeat (first|exact aU.refl _|apply aU.step)⟩
        case round =>
         clear H'
         obtain ⟨o8,rfl,HA,HK4,⟨m4,rfl⟩⟩:=hrel
         cases gk with
         | zero=>exact absurd HA.out (by simp [aG.l0])
         | succ k4 =>
          have H:=HA.out
          clear HA
          simp only [aG.l0] at H
          by_cases c16:o8 < (jI.size:Int)
          ·
           rw [if_pos c16] at H
           have BZ:decide (o8 < (jI.size:Int))=true:=decide_eq_true c16
           clear c16
           by_cases c17:0≤o8
           ·
            rw [if_pos c17] at H
            have zC:decide (0≤o8)=true:=decide_eq_true c17
            clear c17
            by_cases c19:(bt jI o8) < 48
            ·
             rw [if_pos c19] at H
             have Ho:decide ((bt jI o8) < 48)=true:=decide_eq_true c19
             clear c19
             obtain rfl:=Option.some.inj H
             have Gl:0≤(o8:Int):=of_decide_eq_true (by first|(with_reducible assumption)|assumption)
             have Gh:o8 < (jI.size:Int):=of_decide_eq_true (by first|(with_reducible assumption)|assumption)
             have Ql:=kY jI o8
             replace Gl:=eq_true Gl
             replace Gh:=eq_true Gh
             go_wp2
             go_ret
             exact ⟨by first|rfl|(simp;done)|(simp [*];done),by repeat (first|exact aU.refl _|apply aU.step)⟩
            ·
             rw [if_neg c19] at H
             have Ho:decide ((bt jI o8) < 48)=false:=decide_eq_false c19
             clear c19
             by_cases c21:(bt jI o8) > 57
             ·
              rw [if_pos c21] at H
              have afs:decide (57 < (bt jI o8))=true:=decide_eq_true c21
              clear c21
              obtain rfl:=Option.some.inj H
              have Gl:0≤(o8:Int):=of_decide_eq_true (by first|(with_reducible assumption)|assumption)
              have Gh:o8 < (jI.size:Int):=of_decide_eq_true (by first|(with_reducible assumption)|assumption)
              have Ql:=kY jI o8
              replace Gl:=eq_true Gl
              replace Gh:=eq_true Gh
              have p20:0≤(o8:Int):=of_decide_eq_true (by first|(with_reducible assumption)|assumption)
              have q20:o8 < (jI.size:Int):=of_decide_eq_true (by first|(with_reducible assumption)|assumption)
              have amX:=kY jI o8
              replace p20:=eq_true p20
              replace q20:=eq_true q20
              go_wp2
              go_ret
              exact ⟨by first|rfl|(simp;done)|(simp [*];done),by repeat (first|exact aU.refl _|apply aU.step)⟩
             ·
              rw [if_neg c21] at H
              have afs:decide (57 < (bt jI o8))=false:=decide_eq_false c21
              clear c21
              have H':=ae.mk H
              clear H
              have Gl:0≤(o8:Int):=of_decide_eq_true (by first|(with_reducible assumption)|assumption)
              have Gh:o8 < (jI.size:Int):=of_decide_eq_true (by first|(with_reducible assumption)|assumption)
              have Ql:=kY jI o8
              replace Gl:=eq_true Gl
              replace Gh:=eq_true Gh
              have p20:0≤(o8:Int):=of_decide_eq_true (by first|(with_reducible assumption)|assumption)
              have q20:o8 < (jI.size:Int):=of_decide_eq_true (by first|(with_reducible assumption)|assumption)
              have amX:=kY jI o8
              replace p20:=eq_true p20
              replace q20:=eq_true q20
              go_wp2
              go_roundg k4
              case measure=>have:=zh.out;have:=Jz.out;have:=HJ8.out;have:=HK4.out;omega
              case rel=>exact ⟨(wrap64 (o8+1)),(by first|rfl|(simp;done)|(simp [*];done)),H',⟨by have:=zh.out;have:=Jz.out;have:=HJ8.out;have:=HK4.out;omega⟩,by repeat (first|exact aU.refl _|apply aU.step)⟩
           ·
            rw [if_neg c17] at H
            exact absurd H (by simp)
          ·
           rw [if_neg c16] at H
           have BZ:decide (o8 < (jI.size:Int))=false:=decide_eq_false c16
           clear c16
           obtain rfl:=Option.some.inj H
           go_wp2
           go_ret
           exact ⟨by first|rfl|(simp;done)|(simp [*];done),by repeat (first|exact aU.refl _|apply aU.step)⟩
end Go.Proofs.YtlemecdddhdagaaDoor.P
end
