/- Parts of the proof of ModelMakes: what the functions that it reaches compute, and plain facts about that. -/
import Derived.Test.YtlemecdddhdagaaDoorXab
import Derived.Test.YtlemecdddhdagaaDoorXal
import Derived.Test.YtlemecdddhdagaaDoorXam
set_option linter.unusedVariables false
set_option linter.unusedSimpArgs false
section
namespace Go.Proofs.YtlemecdddhdagaaDoor.P
open Go.RowKit Go.Proofs.ag.bH Go.Proofs.ag.dM Go.Proofs.ag.dY
attribute [local go_sem] kR kP lU lT jM jL kQ kN
mutual
def aH.j0:Nat→ByteArray→Bool→Option (Int × Int)
 | 0,_,_=>none
 | k+1,x4,x5=>aH.l0 k x4 x5 0 0
def aH.j2:Nat→ByteArray→Bool→Int→Option (Int × Int)
 | 0,_,_,_=>none
 | k+1,x4,x5,x6=>if (x4.size:Int) > 19 then (aH.j3 k x5 x6 (decide ((x4.size:Int) > 19))) else (if x6 > 9223372036854775808 then (aH.j3 k x5 x6 (decide (x6 > 9223372036854775808))) else (if x6=9223372036854775808 then (aH.j3 k x5 x6 (!x5)) else (aH.j3 k x5 x6 false)))
def aH.j3:Nat→Bool→Int→Bool→Option (Int × Int)
 | 0,_,_,_=>none
 | k+1,x5,x6,x36=>if x36=true then (some (0,3)) else (if x5=true then (some (wrap64 (-(wrap64 (x6))),0)) else (some (wrap64 (x6),0)))
def aH.l0:Nat→ByteArray→Bool→Int→Int→Option (Int × Int)
 | 0,_,_,_,_=>none
 | k+1,x4,x5,x6,x7=>if x7 < (x4.size:Int) then (if x7 < 19 then (if 0≤x7 then (aH.l0 k x4 x5 (IntKind.u64.wrap ((IntKind.u64.wrap (x6 * 10))+(((bt x4 x7) - 48) % 256))) (wrap64 (x7+1))) else (none)) else (aH.j2 k x4 x5 x6)) else (aH.j2 k x4 x5 x6)
end
def aH.f (k:Nat) (a0:ByteArray):Option (Int × Int):=(aG.f k a0).bind fun t107=>(if t107=true then (if 0 < (a0.size:Int) then (if (bt a0 0)=45 then (if 1≤(a0.size:Int) then (aH.j0 k (a0.extract 1 a0.size) ((bt a0 0) == 45)) else (none)) else (aH.j0 k a0 ((bt a0 0) == 45))) else (none)) else (some (0,4)))
theorem aH.gZ:∀ k,(∀ y0 y1,dK (aH.j0 k y0 y1) (aH.j0 (k+1) y0 y1))∧(∀ y0 y1 y2,dK (aH.j2 k y0 y1 y2) (aH.j2 (k+1) y0 y1 y2))∧(∀ y0 y1 y2,dK (aH.j3 k y0 y1 y2) (aH.j3 (k+1) y0 y1 y2))∧(∀ y0 y1 y2 y3,dK (aH.l0 k y0 y1 y2 y3) (aH.l0 (k+1) y0 y1 y2 y3))
 | 0=>⟨fun _ _ r h=>by simp [aH.j0] at h,fun _ _ _ r h=>by simp [aH.j2] at h,fun _ _ _ r h=>by simp [aH.j3] at h,fun _ _ _ _ r h=>by simp [aH.l0] at h⟩
 | k+1=>by
  obtain ⟨lu,ih1,ih2,ih3⟩:=aH.gZ k
  refine ⟨?_,?_,?_,?_⟩
  ·
   intro y0 y1
   unfold aH.j0
   repeat' with_reducible first|apply lu|apply ih1|apply ih2|apply ih3|apply aG.mono|exact dK.refl _|exact dK.none _|refine dK.ite ?_ ?_|refine dK.bind ?_ (fun _=>?_)
  ·
   intro y0 y1 y2
   unfold aH.j2
   repeat' with_reducible first|apply lu|apply ih1|apply ih2|apply ih3|apply aG.mono|exact dK.refl _|exact dK.none _|refine dK.ite ?_ ?_|refine dK.bind ?_ (fun _=>?_)
  ·
   intro y0 y1 y2
   unfold aH.j3
   repeat' with_reducible first|apply lu|apply ih1|apply ih2|apply ih3|apply aG.mono|exact dK.refl _|exact dK.none _|refine dK.ite ?_ ?_|refine dK.bind ?_ (fun _=>?_)
  ·
   intro y0 y1 y2 y3
   unfold aH.l0
   repeat' with_reducible first|apply lu|apply ih1|apply ih2|apply ih3|apply aG.mono|exact dK.refl _|exact dK.none _|refine dK.ite ?_ ?_|refine dK.bind ?_ (fun _=>?_)
theorem aH.mono:∀ a0 k,dK (aH.f k a0) (aH.f (k+1) a0):=by
 intro a0 k
 obtain ⟨lu,ih1,ih2,ih3⟩:=aH.gZ k
 unfold aH.f
 repeat' with_reducible first|apply lu|apply ih1|apply ih2|apply ih3|apply aG.mono|exact dK.refl _|exact dK.none _|refine dK.ite ?_ ?_|refine dK.bind ?_ (fun _=>?_)
set_option maxHeartbeats 8000000 in
set_option maxRecDepth 100000 in
theorem aH.calls (k:Nat) (a0:ByteArray) (r1:Int) (r2:Int) (w:World) (h:aH.f k a0=some (r1,r2)) :
  Calls Tryd.prog 64 #[.string a0] w fun e w'=>e=.returned (.tuple #[.int .i64 r1,.int .i64 r2])∧aV w w':=by
 have H:((aG.f k a0).bind fun t107=>(if t107=true then (if 0 < (a0.size:Int) then (if (bt a0 0)=45 then (if 1≤(a0.size:Int) then (aH.j0 k (a0.extract 1 a0.size) ((bt a0 0) == 45)) else (none)) else (aH.j0 k a0 ((bt a0 0) == 45))) else (none)) else (some (0,4))))=some (r1,r2):=h
 clear h
 replace H:=Option.bind_eq_some_iff.mp H
 obtain ⟨t107,PV,H⟩:=H
 replace H:(if t107=true then (if 0 < (a0.size:Int) then (if (bt a0 0)=45 then (if 1≤(a0.size:Int) then (aH.j0 k (a0.extract 1 a0.size) ((bt a0 0) == 45)) else (none)) else (aH.j0 k a0 ((bt a0 0) == 45))) else (none)) else (some (0,4)))=some (r1,r2):=H
 have A2:=ae.mk PV
 clear PV
 by_cases c3:t107=true
 ·
  subst c3
  have H1:(if 0 < (a0.size:Int) then (if (bt a0 0)=45 then (if 1≤(a0.size:Int) then (aH.j0 k (a0.extract 1 a0.size) ((bt a0 0) == 45)) else (none)) else (aH.j0 k a0 ((bt a0 0) == 45))) else (none))=some (r1,r2):=by rw [if_pos rfl] at H;exact H
  clear H
  have H:=H1
  clear H1
  by_cases c4:0 < (a0.size:Int)
  ·
   rw [if_pos c4] at H
   have nR:decide (0 < (a0.size:Int))=true:=decide_eq_true c4
   have Gx:decide (0 < a0.size)=true:=decide_eq_true (by omega)
   clear c4
   have Zd:=ae.mk H
   clear H
   go_enter Tryd.func64,Tryd.ntmps64
   go_upto_if 15 with (first|((with_reducible refine bu (f:=71) rfl ?_);refine dQ (some 9) rfl rfl Tryd.func71 (by kernel_rfl) rfl #[.string a0] rfl (by (try simp only [List.map_toArray,List.map_cons,List.map_nil]);first|done|rfl|(simp only [List.length_drop,List.length_take];rfl)) ?_;(with_reducible refine (aG.calls k a0 true _ A2.out).mono ?_);rintro e w' ⟨rfl,⟨nd,rfl⟩⟩;refine ⟨_,rfl,?_⟩;have p5:0≤(0:Int):=(by omega);have q5:0 < a0.size:=(by have:(0:Int) < (a0.size:Int):=of_decide_eq_true (by first|(with_reducible assumption)|assumption);omega);have hx5:∀ h:0 < a0.size,((a0[0]'h).toNat:Int)=bt a0 0:=kF a0 0;clear p5;have qi5:(0 < (a0.size:Int))=True:=eq_true (of_decide_eq_true (by first|(with_reducible assumption)|assumption));replace q5:=eq_true q5))
   (try simp only [Act.put,List.setIfInBounds_toArray,List.set_cons_zero,List.set_cons_succ])
   go_cut [4] (fun v4 wc=>∃ (kq:Nat) (tJ:ByteArray),v4=.string tJ∧ae (aH.j0 kq tJ ((bt a0 0) == 45)=some (r1,r2))∧ae (kq≤k)∧aV w wc)
   case first =>
    have H:=Zd.out
    clear Zd
    by_cases c7:(bt a0 0)=45
    ·
     rw [if_pos c7] at H
     have oG:((bt a0 0) == 45)=true:=beq_iff_eq.mpr c7
     have yu:((bt a0 0) != 45)=false:=bne_eq_false_iff_eq.mpr c7
     clear c7
     (first|rw [oG]|(simp only [bY,bZ];rw [oG])|skip)
     by_cases c8:1≤(a0.size:Int)
     ·
      rw [if_pos c8] at H
      have oL:=eq_true c8
      have yt:decide (1≤(a0.size:Int))=true:=decide_eq_true c8
      clear c8
      have H':=ae.mk H
      clear H
      go_wp2
      refine Met.intro ?_
      go_step
      (repeat apply Exists.intro)
      refine ⟨?rel,?same⟩
      case same=>rw [oG]
      case rel=>exact ⟨_,(a0.extract 1 a0.size),(by first|rfl|(simp;done)|(simp [*];done)),H',⟨by first|omega|exact Nat.le_refl _⟩,by repeat (first|exact aV.refl _|apply aV.step)⟩
     ·
      rw [if_neg c8] at H
      exact absurd H (by simp)
    ·
     rw [if_neg c7] at H
     have oG:((bt a0 0) == 45)=false:=beq_eq_false_iff_ne.mpr c7
     have yu:((bt a0 0) != 45)=true:=bne_iff_ne.mpr c7
     (first|rw [oG]|(simp only [bY,bZ];rw [oG])|skip)
     have H':=ae.mk H
     clear H
     go_wp2
     refine Met.intro ?_
     go_step
     (repeat apply Exists.intro)
     refine ⟨?rel,?same⟩
     case same=>rw [oG]
     case rel=>exact ⟨_,(a0),(by first|rfl|(simp;done)|(simp [*];done)),H',⟨by first|omega|exact Nat.le_refl _⟩,by repeat (first|exact aV.refl _|apply aV.step)⟩
   case rest =>
    clear Zd
    obtain ⟨kq,tJ,rfl,HA,GU,⟨mc5,rfl⟩⟩:=hcut
    cases kq with
    | zero=>exact absurd HA.out (by simp [aH.j0])
    | succ ZW =>
     have H:=HA.out
     clear HA
     simp only [aH.j0] at H
     have Zc:=ae.mk H
     clear H
     go_upto_block 0 with (fail)
     go_cut [6] (fun v6 wc=>∃ (kq:Nat) (vS:Int),v6=.int .u64 vS∧ae (aH.j2 kq tJ ((bt a0 0) == 45) vS=some (r1,r2))∧ae (kq≤ZW)∧aV w wc)
     case first =>
      have H:=Zc.out
      clear Zc
      have H':=ae.mk H
      clear H
      go_wp2
      go_loopg [6,7] ZW (fun kq v6 v7 w'=>∃ (KH:Int) (uY:Int),v6=.int .u64 KH∧v7=.int .i64 uY∧ae (aH.l0 kq tJ ((bt a0 0) == 45) KH uY=some (r1,r2))∧ae (kq≤ZW)∧aV w w')
      case atStart=>exact ⟨(0),(0),(by first|rfl|(simp;done)|(simp [*];done)),(by first|rfl|(simp;done)|(simp [*];done)),H',⟨Nat.le_refl _⟩,by repeat (first|exact aV.refl _|apply aV.step)⟩
      case round =>
       clear H'
       obtain ⟨KH,uY,rfl,rfl,HA,Ap,⟨m2,rfl⟩⟩:=hrel
       cases gk with
       | zero=>exact absurd HA.out (by simp [aH.l0])
       | succ k2 =>
        have H:=HA.out
        clear HA
        simp only [aH.l0] at H
        by_cases c10:uY < (tJ.size:Int)
        ·
         rw [if_pos c10] at H
         have oN:decide (uY < (tJ.size:Int))=true:=decide_eq_true c10
         clear c10
         (first|rw [oN]|(simp only [bY,bZ];rw [oN])|skip)
         by_cases c11:uY < 19
         ·
          rw [if_pos c11] at H
          have uk:decide (uY < 19)=true:=decide_eq_true c11
          clear c11
          by_cases c12:0≤uY
          ·
           rw [if_pos c12] at H
           have vJ:decide (0≤uY)=true:=decide_eq_true c12
           clear c12
           have H':=ae.mk H
           clear H
           have p13:0≤(uY:Int):=of_decide_eq_true (by first|(with_reducible assumption)|assumption)
           have q13:uY < (tJ.size:Int):=of_decide_eq_true (by first|(with_reducible assumption)|assumption)
           have QS:=kF tJ uY
           replace p13:=eq_true p13
           replace q13:=eq_true q13
           go_wp2
           go_roundg k2
           case measure=>have:=GU.out;have:=Ap.out;omega
           case rel=>exact ⟨(IntKind.u64.wrap ((IntKind.u64.wrap (KH * 10))+(((bt tJ uY) - 48) % 256))),(wrap64 (uY+1)),(by first|rfl|(simp;done)|(simp [*];done)),(by first|rfl|(simp;done)|(simp [*];done)),H',⟨by have:=GU.out;have:=Ap.out;omega⟩,by repeat (first|exact aV.refl _|apply aV.step)⟩
          ·
           rw [if_neg c12] at H
           exact absurd H (by simp)
         ·
          rw [if_neg c11] at H
          have uk:decide (uY < 19)=false:=decide_eq_false c11
          clear c11
          have H':=ae.mk H
          clear H
          go_wp2
          go_meet
          case rel=>exact ⟨_,(KH),(by first|rfl|(simp;done)|(simp [*];done)),H',⟨by have:=GU.out;have:=Ap.out;first|omega|exact Nat.le_refl _⟩,by repeat (first|exact aV.refl _|apply aV.step)⟩
        ·
         rw [if_neg c10] at H
         have oN:decide (uY < (tJ.size:Int))=false:=decide_eq_false c10
         clear c10
         (first|rw [oN]|(simp only [bY,bZ];rw [oN])|skip)
         have H':=ae.mk H
         clear H
         go_wp2
         go_meet
         case rel=>exact ⟨_,(KH),(by first|rfl|(simp;done)|(simp [*];done)),H',⟨by have:=GU.out;have:=Ap.out;first|omega|exact Nat.le_refl _⟩,by repeat (first|exact aV.refl _|apply aV.step)⟩
     case rest =>
      clear Zc
      obtain ⟨kq,vS,rfl,HA,Za,⟨mc8,rfl⟩⟩:=hcut
      cases kq with
      | zero=>exact absurd HA.out (by simp [aH.j2])
      | succ kj8 =>
       have H:=HA.out
       clear HA
       simp only [aH.j2] at H
       have GZ:=ae.mk H
       clear H
       go_upto_if 36 with (fail)
       go_cut [36] (fun v36 wc=>∃ (kq:Nat) (Cb:Bool),v36=.bool Cb∧ae (aH.j3 kq ((bt a0 0) == 45) vS Cb=some (r1,r2))∧ae (kq≤kj8)∧aV w wc)
       case first =>
        have H:=GZ.out
        clear GZ
        by_cases c15:(tJ.size:Int) > 19
        ·
         rw [if_pos c15] at H
         have qh:decide (19 < (tJ.size:Int))=true:=decide_eq_true c15
         have EY:decide (19 < tJ.size)=true:=decide_eq_true (by omega)
         clear c15
         (first|rw [qh]|(simp only [bY,bZ];rw [qh])|skip)
         have H':=ae.mk H
         clear H
         go_wp2
         go_meet
         case rel=>exact ⟨_,(decide ((tJ.size:Int) > 19)),(by first|rfl|(simp;done)|(simp [*];done)),H',⟨by have:=GU.out;have:=Za.out;first|omega|exact Nat.le_refl _⟩,by repeat (first|exact aV.refl _|apply aV.step)⟩
        ·
         rw [if_neg c15] at H
         have qh:decide (19 < (tJ.size:Int))=false:=decide_eq_false c15
         have EY:decide (19 < tJ.size)=false:=decide_eq_false (by omega)
         clear c15
         (first|rw [qh]|(simp only [bY,bZ];rw [qh])|skip)
         by_cases c16:vS > 9223372036854775808
         ·
          rw [if_pos c16] at H
          have Ad:decide (9223372036854775808 < vS)=true:=decide_eq_true c16
          clear c16
          have H':=ae.mk H
          clear H
          go_wp2
          go_meet
          case rel=>exact ⟨_,(decide (vS > 9223372036854775808)),(by first|rfl|(simp;done)|(simp [*];done)),H',⟨by have:=GU.out;have:=Za.out;first|omega|exact Nat.le_refl _⟩,by repeat (first|exact aV.refl _|apply aV.step)⟩
         ·
          rw [if_neg c16] at H
          have Ad:decide (9223372036854775808 < vS)=false:=decide_eq_false c16
          clear c16
          by_cases c17:vS=9223372036854775808
          ·
           rw [if_pos c17] at H
           have xX:(vS == 9223372036854775808)=true:=beq_iff_eq.mpr c17
           have EX:(vS != 9223372036854775808)=false:=bne_eq_false_iff_eq.mpr c17
           clear c17
           have H':=ae.mk H
           clear H
           go_wp2
           go_meet
           case rel=>exact ⟨_,(!((bt a0 0) == 45)),(by first|rfl|(simp;done)|(simp [*];done)),H',⟨by have:=GU.out;have:=Za.out;first|omega|exact Nat.le_refl _⟩,by repeat (first|exact aV.refl _|apply aV.step)⟩
          ·
           rw [if_neg c17] at H
           have xX:(vS == 9223372036854775808)=false:=beq_eq_false_iff_ne.mpr c17
           have EX:(vS != 9223372036854775808)=true:=bne_iff_ne.mpr c17
           have H':=ae.mk H
           clear H
           go_wp2
           go_meet
           case rel=>exact ⟨_,(false),(by first|rfl|(simp;done)|(simp [*];done)),H',⟨by have:=GU.out;have:=Za.out;first|omega|exact Nat.le_refl _⟩,by repeat (first|exact aV.refl _|apply aV.step)⟩
       case rest =>
        clear GZ
        obtain ⟨kq,Cb,rfl,HA,Fp,⟨anD,rfl⟩⟩:=hcut
        cases kq with
        | zero=>exact absurd HA.out (by simp [aH.j3])
        | succ QN =>
         have H:=HA.out
         clear HA
         simp only [aH.j3] at H
         by_cases c18:Cb=true
         ·
          subst c18
          have H1:(some (0,3))=some (r1,r2):=by rw [if_pos rfl] at H;exact H
          clear H
          have H:=H1
          clear H1
          simp only [Option.some.injEq,Prod.mk.injEq] at H
          obtain ⟨rfl,rfl⟩:=H
          go_wp2
          go_ret2
          exact ⟨by first|rfl|(simp;done)|(simp [*];done),by repeat (first|exact aV.refl _|apply aV.step)⟩
         ·
          replace c18:=Bool.eq_false_iff.mpr c18
          subst c18
          have H1:(if ((bt a0 0) == 45)=true then (some (wrap64 (-(wrap64 (vS))),0)) else (some (wrap64 (vS),0)))=some (r1,r2):=by rw [if_neg (show ¬ (false=true) by decide)] at H;exact H
          clear H
          have H:=H1
          clear H1
          by_cases c19:((bt a0 0) == 45)=true
          ·
           rw [if_pos c19] at H
           have EW:((bt a0 0) == 45)=true:=c19
           (try (have aco:decide ((bt a0 0)=45)=true:=by simpa using c19))
           (try (have acn:((bt a0 0) == 45)=true:=by simpa using c19))
           clear c19
           simp only [Option.some.injEq,Prod.mk.injEq] at H
           obtain ⟨rfl,rfl⟩:=H
           go_wp2
           go_ret2
           exact ⟨by first|rfl|(simp;done)|(simp [*];done),by repeat (first|exact aV.refl _|apply aV.step)⟩
          ·
           rw [if_neg c19] at H
           have EW:((bt a0 0) == 45)=false:=by simpa using c19
           (try (have aco:decide ((bt a0 0)=45)=false:=by simpa using c19))
           (try (have acn:((bt a0 0) == 45)=false:=by simpa using c19))
           (try (have ams:¬ ((bt a0 0)=45):=by simpa using c19))
           clear c19
           simp only [Option.some.injEq,Prod.mk.injEq] at H
           obtain ⟨rfl,rfl⟩:=H
           go_wp2
           go_ret2
           exact ⟨by first|rfl|(simp;done)|(simp [*];done),by repeat (first|exact aV.refl _|apply aV.step)⟩
  ·
   rw [if_neg c4] at H
   exact absurd H (by simp)
 ·
  replace c3:=Bool.eq_false_iff.mpr c3
  subst c3
  have H1:(some (0,4))=some (r1,r2):=by rw [if_neg (show ¬ (false=true) by decide)] at H;exact H
  clear H
  have H:=H1
  clear H1
  simp only [Option.some.injEq,Prod.mk.injEq] at H
  obtain ⟨rfl,rfl⟩:=H
  go_enter Tryd.func64,Tryd.ntmps64
  go_wp2_with (first|((with_reducible refine bu (f:=71) rfl ?_);refine dQ (some 9) rfl rfl Tryd.func71 (by kernel_rfl) rfl #[.string a0] rfl (by (try simp only [List.map_toArray,List.map_cons,List.map_nil]);first|done|rfl|(simp only [List.length_drop,List.length_take];rfl)) ?_;(with_reducible refine (aG.calls k a0 false _ A2.out).mono ?_);rintro e w' ⟨rfl,⟨nd,rfl⟩⟩;refine ⟨_,rfl,?_⟩))
  go_ret2
  exact ⟨by first|rfl|(simp;done)|(simp [*];done),by repeat (first|exact aV.refl _|apply aV.step)⟩
def aZ.j0:Nat→Int→Int→Bool→Int→Int→Int→Int→Int→Option (Int × Int × Int × Int × Int × Bool)
 | 0,_,_,_,_,_,_,_,_=>none
 | k+1,x1,x2,x18,yA,Ci,Cf,Ce,yz=>if x18=true then (some (yA,Ci,Cf,Ce,yz,false)) else (if x1=97 then (some (yA,(x2) % 256,Cf,Ce,yz,true)) else (if x1=98 then (some (yA,Ci,(x2) % 256,Ce,yz,true)) else (some (yA,Ci,Cf,(x2) % 256,yz,true))))
def aZ.f (k:Nat) (dA:Int) (aT:Int) (aU:Int) (eY:Int) (fF:Int) (a1:Int) (a2:Int):Option (Int × Int × Int × Int × Int × Bool):=if a1=110 then (some (dA,aT,aU,eY,a2,true)) else (if a2 < 0 then (aZ.j0 k a1 a2 true dA aT aU eY fF) else (aZ.j0 k a1 a2 (decide (a2 > 255)) dA aT aU eY fF))
theorem aZ.gZ:∀ k,(∀ y0 y1 y2 y3 y4 y5 y6 y7,dK (aZ.j0 k y0 y1 y2 y3 y4 y5 y6 y7) (aZ.j0 (k+1) y0 y1 y2 y3 y4 y5 y6 y7))
 | 0=>fun _ _ _ _ _ _ _ _ r h=>by simp [aZ.j0] at h
 | k+1=>by
  have lu:=aZ.gZ k
  ·
   intro y0 y1 y2 y3 y4 y5 y6 y7
   unfold aZ.j0
   repeat' with_reducible first|apply lu|exact dK.refl _|exact dK.none _|refine dK.ite ?_ ?_|refine dK.bind ?_ (fun _=>?_)
theorem aZ.mono:∀ a0 a1 a2 a3 a4 a5 a6 k,dK (aZ.f k a0 a1 a2 a3 a4 a5 a6) (aZ.f (k+1) a0 a1 a2 a3 a4 a5 a6):=by
 intro a0 a1 a2 a3 a4 a5 a6 k
 have lu:=aZ.gZ k
 unfold aZ.f
 repeat' with_reducible first|apply lu|exact dK.refl _|exact dK.none _|refine dK.ite ?_ ?_|refine dK.bind ?_ (fun _=>?_)
set_option maxHeartbeats 8000000 in
set_option maxRecDepth 100000 in
theorem aZ.calls (k:Nat) (dA:Int) (aT:Int) (aU:Int) (eY:Int) (fF:Int) (a1:Int) (a2:Int) (r1:Int) (r2:Int) (r3:Int) (r4:Int) (r5:Int) (r6:Bool) (w:World) (h:aZ.f k dA aT aU eY fF a1 a2=some (r1,r2,r3,r4,r5,r6)) :
  Calls Tryd.prog 65 #[.agg #[.int .u8 dA,.int .u8 aT,.int .u8 aU,.int .u8 eY,.int .i64 fF],.int .u8 a1,.int .i64 a2] w fun e w'=>e=.returned (.tuple #[.agg #[.int .u8 r1,.int .u8 r2,.int .u8 r3,.int .u8 r4,.int .i64 r5],.bool r6])∧Below w.heap.size w w':=by
 have AL:=Tryd.underlying55
 have HB:=ae.mk (Below.refl w.heap.size w)
 have H:(if a1=110 then (some (dA,aT,aU,eY,a2,true)) else (if a2 < 0 then (aZ.j0 k a1 a2 true dA aT aU eY fF) else (aZ.j0 k a1 a2 (decide (a2 > 255)) dA aT aU eY fF)))=some (r1,r2,r3,r4,r5,r6):=h
 clear h
 by_cases c4:a1=110
 ·
  rw [if_pos c4] at H
  have nR:(a1 == 110)=true:=beq_iff_eq.mpr c4
  have Gx:(a1 != 110)=false:=bne_eq_false_iff_eq.mpr c4
  clear c4
  simp only [Option.some.injEq,Prod.mk.injEq] at H
  obtain ⟨rfl,rfl,rfl,rfl,rfl,rfl⟩:=H
  go_enter Tryd.func65,Tryd.ntmps65
  go_wp2_with (first|((with_reducible refine dN (N:=3) rfl ?_);refine fB ?hg (N:=3) ?hd (cs:=#[.int .u8 dA,.int .u8 aT,.int .u8 aU,.int .u8 eY,.int .i64 fF]) (t:=55) ?hr ?_;(case hd=>rfl);(case hg=>rfl);(case hr=>first|(go_simp;done)|(go_simp;rfl));intro vI hg w5 hbox hb;have dS:=ae.mk (bg (by repeat (first|(with_reducible first|exact HB.out|apply ah|apply af|apply ai)|exact HB.out)) hb);have dR:=ae.mk (hbox);have dO:=ae.mk ((by rw [hg];exact (bQ (by repeat (first|(with_reducible first|exact HB.out|apply ah|apply af|apply ai)|exact HB.out))):w.heap.size≤vI));have gQ:=dO;clear HB;have HB:=dS;have pR:=dR;have acT:=dO;have sU:=gQ;clear dS dR dO gQ;clear hb hbox hg)|((with_reducible refine dN (N:=6) rfl ?_);refine fB ?hg (N:=6) ?hd (cs:=#[.int .u8 0,.int .u8 0,.int .u8 0,.int .u8 0,.int .i64 0]) (t:=55) ?hr ?_;(case hd=>rfl);(case hg=>rfl);(case hr=>first|(go_simp;done)|(go_simp;rfl));intro uf hg w6 hbox hb;have dS:=ae.mk (bf (g:=vI) (o:=.cells #[.int .u8 dA,.int .u8 aT,.int .u8 aU,.int .u8 eY,.int .i64 fF] 55 (0,0)) (by (with_reducible repeat (first|refine au ?_ _|refine ay ?_|refine ak ?_ _));exact pR.out) hb);have dR:=ae.mk (bg (by repeat (first|(with_reducible first|exact HB.out|apply ah|apply af|apply ai|refine aj ?_ sU.out)|exact HB.out)) hb);have dO:=ae.mk (hbox);have gQ:=ae.mk ((by rw [hg];exact (bQ (by repeat (first|(with_reducible first|exact HB.out|apply ah|apply af|apply ai|refine aj ?_ sU.out)|exact HB.out))):w.heap.size≤uf));have lM:=gQ;have mg:=ae.mk ((by rw [hg];exact Nat.ne_of_lt (jY (g:=vI) (o:=.cells #[.int .u8 dA,.int .u8 aT,.int .u8 aU,.int .u8 eY,.int .i64 fF] 55 (0,0)) (by (with_reducible repeat (first|refine au ?_ _|refine ay ?_|refine ak ?_ _));exact pR.out)):vI ≠ uf));have nI:=ae.mk mg.out.symm;clear pR;clear HB;have pR:=dS;have HB:=dR;have qW:=dO;have acS:=gQ;have yc:=lM;have qB:=mg;have mD:=nI;clear dS dR dO gQ lM mg nI;clear hb hbox hg;have an3:=qB.out;have an2:=mD.out;obtain ⟨Oo,Om,Ol,Oj,Yl,Oa,N9,N8,N7,Yh⟩:=jO pR.out;obtain ⟨Gp,Gn,Gm,Gl,ajP,Gi,Gh,Gg,Gf,ajF⟩:=jO qW.out))
  refine bodyPost_ret (lS rfl _ _ uf 55 #[.int .u8 dA,.int .u8 aT,.int .u8 aU,.int .u8 eY,.int .i64 a2] (0,0) _ rfl (by (with_reducible repeat (first|refine au ?_ _|refine ay ?_|refine ak ?_ _));refine dL (cs:=#[.int .u8 dA,.int .u8 aT,.int .u8 aU,.int .u8 eY,.int .i64 0]) ?_ 4 _ rfl;(with_reducible repeat (first|refine au ?_ _|refine ay ?_|refine ak ?_ _));refine dL (cs:=#[.int .u8 dA,.int .u8 aT,.int .u8 aU,.int .u8 0,.int .i64 0]) ?_ 3 _ rfl;(with_reducible repeat (first|refine au ?_ _|refine ay ?_|refine ak ?_ _));refine dL (cs:=#[.int .u8 dA,.int .u8 aT,.int .u8 0,.int .u8 0,.int .i64 0]) ?_ 2 _ rfl;(with_reducible repeat (first|refine au ?_ _|refine ay ?_|refine ak ?_ _));refine dL (cs:=#[.int .u8 dA,.int .u8 0,.int .u8 0,.int .u8 0,.int .i64 0]) ?_ 1 _ rfl;(with_reducible repeat (first|refine au ?_ _|refine ay ?_|refine ak ?_ _));refine dL (cs:=#[.int .u8 0,.int .u8 0,.int .u8 0,.int .u8 0,.int .i64 0]) ?_ 0 _ rfl;(with_reducible repeat (first|refine au ?_ _|refine ay ?_|refine ak ?_ _));refine fO ?_ mD.out _;(with_reducible repeat (first|refine au ?_ _|refine ay ?_|refine ak ?_ _));exact qW.out) Tryd.underlying55 rfl (by kernel_rfl)) rfl ?_
  exact ⟨by first|rfl|(simp [aQ,aN] <;> rfl)|(simp [*,aQ,aN] <;> rfl),by repeat (first|(with_reducible first|exact HB.out|apply ah|apply af|apply ai|refine aj ?_ sU.out|refine aj ?_ yc.out)|exact HB.out)⟩
 ·
  rw [if_neg c4] at H
  have nR:(a1 == 110)=false:=beq_eq_false_iff_ne.mpr c4
  have Gx:(a1 != 110)=true:=bne_iff_ne.mpr c4
  have Zg:=ae.mk H
  clear H
  go_enter Tryd.func65,Tryd.ntmps65
  go_upto_region 4 with (first|((with_reducible refine dN (N:=3) rfl ?_);refine fB ?hg (N:=3) ?hd (cs:=#[.int .u8 dA,.int .u8 aT,.int .u8 aU,.int .u8 eY,.int .i64 fF]) (t:=55) ?hr ?_;(case hd=>rfl);(case hg=>rfl);(case hr=>first|(go_simp;done)|(go_simp;rfl));intro vI hg w11 hbox hb;have dS:=ae.mk (bg (by repeat (first|(with_reducible first|exact HB.out|apply ah|apply af|apply ai)|exact HB.out)) hb);have dR:=ae.mk (hbox);have dO:=ae.mk ((by rw [hg];exact (bQ (by repeat (first|(with_reducible first|exact HB.out|apply ah|apply af|apply ai)|exact HB.out))):w.heap.size≤vI));have gQ:=dO;clear HB;have HB:=dS;have pR:=dR;have acT:=dO;have sU:=gQ;clear dS dR dO gQ;clear hb hbox hg)|((with_reducible refine dN (N:=6) rfl ?_);refine fB ?hg (N:=6) ?hd (cs:=#[.int .u8 0,.int .u8 0,.int .u8 0,.int .u8 0,.int .i64 0]) (t:=55) ?hr ?_;(case hd=>rfl);(case hg=>rfl);(case hr=>first|(go_simp;done)|(go_simp;rfl));intro uf hg w12 hbox hb;have dS:=ae.mk (bf (g:=vI) (o:=.cells #[.int .u8 dA,.int .u8 aT,.int .u8 aU,.int .u8 eY,.int .i64 fF] 55 (0,0)) (by (with_reducible repeat (first|refine au ?_ _|refine ay ?_|refine ak ?_ _));exact pR.out) hb);have dR:=ae.mk (bg (by repeat (first|(with_reducible first|exact HB.out|apply ah|apply af|apply ai|refine aj ?_ sU.out)|exact HB.out)) hb);have dO:=ae.mk (hbox);have gQ:=ae.mk ((by rw [hg];exact (bQ (by repeat (first|(with_reducible first|exact HB.out|apply ah|apply af|apply ai|refine aj ?_ sU.out)|exact HB.out))):w.heap.size≤uf));have lM:=gQ;have mg:=ae.mk ((by rw [hg];exact Nat.ne_of_lt (jY (g:=vI) (o:=.cells #[.int .u8 dA,.int .u8 aT,.int .u8 aU,.int .u8 eY,.int .i64 fF] 55 (0,0)) (by (with_reducible repeat (first|refine au ?_ _|refine ay ?_|refine ak ?_ _));exact pR.out)):vI ≠ uf));have nI:=ae.mk mg.out.symm;clear pR;clear HB;have pR:=dS;have HB:=dR;have qW:=dO;have acS:=gQ;have yc:=lM;have qB:=mg;have mD:=nI;clear dS dR dO gQ lM mg nI;clear hb hbox hg))
  (try simp only [Act.put,List.setIfInBounds_toArray,List.set_cons_zero,List.set_cons_succ])
  go_cut [18] (fun v18 wc=>∃ (kq:Nat) (He:Bool),v18=.bool He∧ae (aZ.j0 kq a1 a2 He dA aT aU eY fF=some (r1,r2,r3,r4,r5,r6))∧ae (kq≤k)∧ae (wc.heap[vI]? = some (.cells #[.int .u8 dA,.int .u8 aT,.int .u8 aU,.int .u8 eY,.int .i64 fF] 55 (0,0)))∧ae (wc.heap[uf]? = some (.cells #[.int .u8 0,.int .u8 0,.int .u8 0,.int .u8 0,.int .i64 0] 55 (0,0)))∧ae (Below w.heap.size w wc))
  case first =>
   have H:=Zg.out
   clear Zg
   by_cases c13:a2 < 0
   ·
    rw [if_pos c13] at H
    have lZ:decide (a2 < 0)=true:=decide_eq_true c13
    clear c13
    (first|rw [lZ]|(simp only [bY,bZ];rw [lZ])|skip)
    have H':=ae.mk H
    clear H
    go_wp2
    go_meet
    case rel=>exact ⟨_,(true),(by first|rfl|(simp;done)|(simp [*];done)),H',⟨by first|omega|exact Nat.le_refl _⟩,⟨by (with_reducible repeat (first|refine au ?_ _|refine ay ?_|refine ak ?_ _));exact pR.out⟩,⟨by (with_reducible repeat (first|refine au ?_ _|refine ay ?_|refine ak ?_ _));exact qW.out⟩,⟨by repeat (first|(with_reducible first|exact HB.out|apply ah|apply af|apply ai|refine aj ?_ sU.out|refine aj ?_ yc.out)|exact HB.out)⟩⟩
   ·
    rw [if_neg c13] at H
    have lZ:decide (a2 < 0)=false:=decide_eq_false c13
    clear c13
    (first|rw [lZ]|(simp only [bY,bZ];rw [lZ])|skip)
    have H':=ae.mk H
    clear H
    go_wp2
    go_meet
    case rel=>exact ⟨_,(decide (a2 > 255)),(by first|rfl|(simp;done)|(simp [*];done)),H',⟨by first|omega|exact Nat.le_refl _⟩,⟨by (with_reducible repeat (first|refine au ?_ _|refine ay ?_|refine ak ?_ _));exact pR.out⟩,⟨by (with_reducible repeat (first|refine au ?_ _|refine ay ?_|refine ak ?_ _));exact qW.out⟩,⟨by repeat (first|(with_reducible first|exact HB.out|apply ah|apply af|apply ai|refine aj ?_ sU.out|refine aj ?_ yc.out)|exact HB.out)⟩⟩
  case rest =>
   clear Zg
   obtain ⟨kq,He,rfl,HA,HJ9,pR,qW,HB⟩:=hcut
   cases kq with
   | zero=>exact absurd HA.out (by simp [aZ.j0])
   | succ kj9 =>
    have H:=HA.out
    clear HA
    simp only [aZ.j0] at H
    by_cases c14:He=true
    ·
     subst c14
     have H1:(some (dA,aT,aU,eY,fF,false))=some (r1,r2,r3,r4,r5,r6):=by rw [if_pos rfl] at H;exact H
     clear H
     have H:=H1
     clear H1
     simp only [Option.some.injEq,Prod.mk.injEq] at H
     obtain ⟨rfl,rfl,rfl,rfl,rfl,rfl⟩:=H
     have aat:=qB.out
     have aaj:=mD.out
     obtain ⟨Dp,Dn,Dl,Dk,JS,C9,CZ,CY,CX,Jh⟩:=jO pR.out
     obtain ⟨JR,JQ,JP,JO,Va,Jg,Jf,Je,Jd,Tt⟩:=jO qW.out
     go_wp2
     refine bodyPost_ret (lS rfl _ _ uf 55 #[.int .u8 dA,.int .u8 aT,.int .u8 aU,.int .u8 eY,.int .i64 fF] (0,0) _ rfl (by (with_reducible repeat (first|refine au ?_ _|refine ay ?_|refine ak ?_ _));refine dL (cs:=#[.int .u8 dA,.int .u8 aT,.int .u8 aU,.int .u8 eY,.int .i64 0]) ?_ 4 _ rfl;(with_reducible repeat (first|refine au ?_ _|refine ay ?_|refine ak ?_ _));refine dL (cs:=#[.int .u8 dA,.int .u8 aT,.int .u8 aU,.int .u8 0,.int .i64 0]) ?_ 3 _ rfl;(with_reducible repeat (first|refine au ?_ _|refine ay ?_|refine ak ?_ _));refine dL (cs:=#[.int .u8 dA,.int .u8 aT,.int .u8 0,.int .u8 0,.int .i64 0]) ?_ 2 _ rfl;(with_reducible repeat (first|refine au ?_ _|refine ay ?_|refine ak ?_ _));refine dL (cs:=#[.int .u8 dA,.int .u8 0,.int .u8 0,.int .u8 0,.int .i64 0]) ?_ 1 _ rfl;(with_reducible repeat (first|refine au ?_ _|refine ay ?_|refine ak ?_ _));refine dL (cs:=#[.int .u8 0,.int .u8 0,.int .u8 0,.int .u8 0,.int .i64 0]) ?_ 0 _ rfl;(with_reducible repeat (first|refine au ?_ _|refine ay ?_|refine ak ?_ _));exact qW.out) Tryd.underlying55 rfl (by kernel_rfl)) rfl ?_
     exact ⟨by first|rfl|(simp [aQ,aN] <;> rfl)|(simp [*,aQ,aN] <;> rfl),by repeat (first|(with_reducible first|exact HB.out|apply ah|apply af|apply ai|refine aj ?_ sU.out|refine aj ?_ yc.out)|exact HB.out)⟩
    ·
     replace c14:=Bool.eq_false_iff.mpr c14
     subst c14
     have H1:(if a1=97 then (some (dA,(a2) % 256,aU,eY,fF,true)) else (if a1=98 then (some (dA,aT,(a2) % 256,eY,fF,true)) else (some (dA,aT,aU,(a2) % 256,fF,true))))=some (r1,r2,r3,r4,r5,r6):=by rw [if_neg (show ¬ (false=true) by decide)] at H;exact H
     clear H
     have H:=H1
     clear H1
     by_cases c18:a1=97
     ·
      rw [if_pos c18] at H
      have WQ:(a1 == 97)=true:=beq_iff_eq.mpr c18
      have acp:(a1 != 97)=false:=bne_eq_false_iff_eq.mpr c18
      clear c18
      simp only [Option.some.injEq,Prod.mk.injEq] at H
      obtain ⟨rfl,rfl,rfl,rfl,rfl,rfl⟩:=H
      have alU:=qB.out
      have alr:=mD.out
      obtain ⟨U8,U7,U6,U5,ai1,Tn,Tm,Tj,Ti,agN⟩:=jO pR.out
      obtain ⟨U4,U3,U2,U1,ai0,Tf,Td,Tc,S9,agM⟩:=jO qW.out
      go_wp2
      refine bodyPost_ret (lS rfl _ _ uf 55 #[.int .u8 dA,.int .u8 ((a2) % 256),.int .u8 aU,.int .u8 eY,.int .i64 fF] (0,0) _ rfl (by (with_reducible repeat (first|refine au ?_ _|refine ay ?_|refine ak ?_ _));refine dL (cs:=#[.int .u8 dA,.int .u8 ((a2) % 256),.int .u8 aU,.int .u8 eY,.int .i64 0]) ?_ 4 _ rfl;(with_reducible repeat (first|refine au ?_ _|refine ay ?_|refine ak ?_ _));refine dL (cs:=#[.int .u8 dA,.int .u8 ((a2) % 256),.int .u8 aU,.int .u8 0,.int .i64 0]) ?_ 3 _ rfl;(with_reducible repeat (first|refine au ?_ _|refine ay ?_|refine ak ?_ _));refine dL (cs:=#[.int .u8 dA,.int .u8 ((a2) % 256),.int .u8 0,.int .u8 0,.int .i64 0]) ?_ 2 _ rfl;(with_reducible repeat (first|refine au ?_ _|refine ay ?_|refine ak ?_ _));refine dL (cs:=#[.int .u8 dA,.int .u8 0,.int .u8 0,.int .u8 0,.int .i64 0]) ?_ 1 _ rfl;(with_reducible repeat (first|refine au ?_ _|refine ay ?_|refine ak ?_ _));refine dL (cs:=#[.int .u8 0,.int .u8 0,.int .u8 0,.int .u8 0,.int .i64 0]) ?_ 0 _ rfl;(with_reducible repeat (first|refine au ?_ _|refine ay ?_|refine ak ?_ _));refine fO ?_ mD.out _;(with_reducible repeat (first|refine au ?_ _|refine ay ?_|refine ak ?_ _));exact qW.out) Tryd.underlying55 rfl (by kernel_rfl)) rfl ?_
      exact ⟨by first|rfl|(simp [aQ,aN] <;> rfl)|(simp [*,aQ,aN] <;> rfl),by repeat (first|(with_reducible first|exact HB.out|apply ah|apply af|apply ai|refine aj ?_ sU.out|refine aj ?_ yc.out)|exact HB.out)⟩
     ·
      rw [if_neg c18] at H
      have WQ:(a1 == 97)=false:=beq_eq_false_iff_ne.mpr c18
      have acp:(a1 != 97)=true:=bne_iff_ne.mpr c18
      by_cases qw:a1=98
      ·
       rw [if_pos qw] at H
       have Po:(a1 == 98)=true:=beq_iff_eq.mpr qw
       have Pn:(a1 != 98)=false:=bne_eq_false_iff_eq.mpr qw
       clear qw
       simp only [Option.some.injEq,Prod.mk.injEq] at H
       obtain ⟨rfl,rfl,rfl,rfl,rfl,rfl⟩:=H
       have aas:=qB.out
       have aai:=mD.out
       obtain ⟨U0,UZ,UY,UX,UW,SY,SX,SV,SS,SQ⟩:=jO pR.out
       obtain ⟨yQ,yP,yO,yN,Dj,yI,yH,yG,yF,CW⟩:=jO qW.out
       go_wp2
       refine bodyPost_ret (lS rfl _ _ uf 55 #[.int .u8 dA,.int .u8 aT,.int .u8 ((a2) % 256),.int .u8 eY,.int .i64 fF] (0,0) _ rfl (by (with_reducible repeat (first|refine au ?_ _|refine ay ?_|refine ak ?_ _));refine dL (cs:=#[.int .u8 dA,.int .u8 aT,.int .u8 ((a2) % 256),.int .u8 eY,.int .i64 0]) ?_ 4 _ rfl;(with_reducible repeat (first|refine au ?_ _|refine ay ?_|refine ak ?_ _));refine dL (cs:=#[.int .u8 dA,.int .u8 aT,.int .u8 ((a2) % 256),.int .u8 0,.int .i64 0]) ?_ 3 _ rfl;(with_reducible repeat (first|refine au ?_ _|refine ay ?_|refine ak ?_ _));refine dL (cs:=#[.int .u8 dA,.int .u8 aT,.int .u8 0,.int .u8 0,.int .i64 0]) ?_ 2 _ rfl;(with_reducible repeat (first|refine au ?_ _|refine ay ?_|refine ak ?_ _));refine dL (cs:=#[.int .u8 dA,.int .u8 0,.int .u8 0,.int .u8 0,.int .i64 0]) ?_ 1 _ rfl;(with_reducible repeat (first|refine au ?_ _|refine ay ?_|refine ak ?_ _));refine dL (cs:=#[.int .u8 0,.int .u8 0,.int .u8 0,.int .u8 0,.int .i64 0]) ?_ 0 _ rfl;(with_reducible repeat (first|refine au ?_ _|refine ay ?_|refine ak ?_ _));refine fO ?_ mD.out _;(with_reducible repeat (first|refine au ?_ _|refine ay ?_|refine ak ?_ _));exact qW.out) Tryd.underlying55 rfl (by kernel_rfl)) rfl ?_
       exact ⟨by first|rfl|(simp [aQ,aN] <;> rfl)|(simp [*,aQ,aN] <;> rfl),by repeat (first|(with_reducible first|exact HB.out|apply ah|apply af|apply ai|refine aj ?_ sU.out|refine aj ?_ yc.out)|exact HB.out)⟩
      ·
       rw [if_neg qw] at H
       have Po:(a1 == 98)=false:=beq_eq_false_iff_ne.mpr qw
       have Pn:(a1 != 98)=true:=bne_iff_ne.mpr qw
       simp only [Option.some.injEq,Prod.mk.injEq] at H
       obtain ⟨rfl,rfl,rfl,rfl,rfl,rfl⟩:=H
       have alS:=qB.out
       have alp:=mD.out
       obtain ⟨aiY,aiX,aiW,aiV,aiU,agK,agJ,agI,agH,agG⟩:=jO pR.out
       obtain ⟨JE,JD,JC,JB,UU,IZ,IY,IX,IW,SN⟩:=jO qW.out
       go_wp2
       refine bodyPost_ret (lS rfl _ _ uf 55 #[.int .u8 dA,.int .u8 aT,.int .u8 aU,.int .u8 ((a2) % 256),.int .i64 fF] (0,0) _ rfl (by (with_reducible repeat (first|refine au ?_ _|refine ay ?_|refine ak ?_ _));refine dL (cs:=#[.int .u8 dA,.int .u8 aT,.int .u8 aU,.int .u8 ((a2) % 256),.int .i64 0]) ?_ 4 _ rfl;(with_reducible repeat (first|refine au ?_ _|refine ay ?_|refine ak ?_ _));refine dL (cs:=#[.int .u8 dA,.int .u8 aT,.int .u8 aU,.int .u8 0,.int .i64 0]) ?_ 3 _ rfl;(with_reducible repeat (first|refine au ?_ _|refine ay ?_|refine ak ?_ _));refine dL (cs:=#[.int .u8 dA,.int .u8 aT,.int .u8 0,.int .u8 0,.int .i64 0]) ?_ 2 _ rfl;(with_reducible repeat (first|refine au ?_ _|refine ay ?_|refine ak ?_ _));refine dL (cs:=#[.int .u8 dA,.int .u8 0,.int .u8 0,.int .u8 0,.int .i64 0]) ?_ 1 _ rfl;(with_reducible repeat (first|refine au ?_ _|refine ay ?_|refine ak ?_ _));refine dL (cs:=#[.int .u8 0,.int .u8 0,.int .u8 0,.int .u8 0,.int .i64 0]) ?_ 0 _ rfl;(with_reducible repeat (first|refine au ?_ _|refine ay ?_|refine ak ?_ _));refine fO ?_ mD.out _;(with_reducible repeat (first|refine au ?_ _|refine ay ?_|refine ak ?_ _));exact qW.out) Tryd.underlying55 rfl (by kernel_rfl)) rfl ?_
       exact ⟨by first|rfl|(simp [aQ,aN] <;> rfl)|(simp [*,aQ,aN] <;> rfl),by repeat (first|(with_reducible first|exact HB.out|apply ah|apply af|apply ai|refine aj ?_ sU.out|refine aj ?_ yc.out)|exact HB.out)⟩
end Go.Proofs.YtlemecdddhdagaaDoor.P
end
