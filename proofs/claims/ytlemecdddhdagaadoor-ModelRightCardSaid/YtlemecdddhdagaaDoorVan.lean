/- Parts of the proof of ModelRight: what the functions that it reaches compute, and plain facts about that. -/
import Derived.Test.YtlemecdddhdagaaDoorVab
import Derived.Test.YtlemecdddhdagaaDoorVam
set_option linter.unusedVariables false
set_option linter.unusedSimpArgs false
section
namespace Go.Proofs.YtlemecdddhdagaaDoor.P
open Go.RowKit Go.Proofs.ag.bI Go.Proofs.ag.dM Go.Proofs.ag.dZ
attribute [local go_sem] kU kS lW lV jS jR kT kR
mutual
def aH.j0:Nat→ByteArray→Bool→Option (Int × Int)
 | 0,_,_=>none
 | k+1,x4,x5=>aH.l0 k x4 x5 0 0
def aH.j2:Nat→ByteArray→Bool→Int→Option (Int × Int)
 | 0,_,_,_=>none
 | k+1,x4,x5,x6=>if (x4.size:Int) > 19 then (aH.j3 k x5 x6 (decide ((x4.size:Int) > 19))) else (if x6 > 9223372036854775808 then (aH.j3 k x5 x6 (decide (x6 > 9223372036854775808))) else (if x6=9223372036854775808 then (aH.j3 k x5 x6 (!x5)) else (aH.j3 k x5 x6 false)))
def aH.j3:Nat→Bool→Int→Bool→Option (Int × Int)
 | 0,_,_,_=>none
 | k+1,x5,x6,x36=>if x36=true then (some (0,3)) else (if x5=true then (some (wrap64 (-(wrap64 (x6))),0)) else (some (wrap64 (x6),0)))
def aH.l0:Nat→ByteArray→Bool→Int→Int→Option (Int × Int)
 | 0,_,_,_,_=>none
 | k+1,x4,x5,x6,x7=>if x7 < (x4.size:Int) then (if x7 < 19 then (if 0≤x7 then (aH.l0 k x4 x5 (IntKind.u64.wrap ((IntKind.u64.wrap (x6 * 10))+(((bt x4 x7) - 48) % 256))) (wrap64 (x7+1))) else (none)) else (aH.j2 k x4 x5 x6)) else (aH.j2 k x4 x5 x6)
end
def aH.f (k:Nat) (a0:ByteArray):Option (Int × Int):=(aG.f k a0).bind fun t107=>(if t107=true then (if 0 < (a0.size:Int) then (if (bt a0 0)=45 then (if 1≤(a0.size:Int) then (aH.j0 k (a0.extract 1 a0.size) ((bt a0 0) == 45)) else (none)) else (aH.j0 k a0 ((bt a0 0) == 45))) else (none)) else (some (0,4)))
theorem aH.gY:∀ k,(∀ y0 y1,dN (aH.j0 k y0 y1) (aH.j0 (k+1) y0 y1))∧(∀ y0 y1 y2,dN (aH.j2 k y0 y1 y2) (aH.j2 (k+1) y0 y1 y2))∧(∀ y0 y1 y2,dN (aH.j3 k y0 y1 y2) (aH.j3 (k+1) y0 y1 y2))∧(∀ y0 y1 y2 y3,dN (aH.l0 k y0 y1 y2 y3) (aH.l0 (k+1) y0 y1 y2 y3))
 | 0=>⟨fun _ _ r h=>by simp [aH.j0] at h,fun _ _ _ r h=>by simp [aH.j2] at h,fun _ _ _ r h=>by simp [aH.j3] at h,fun _ _ _ _ r h=>by simp [aH.l0] at h⟩
 | k+1=>by
  obtain ⟨lF,ih1,ih2,ih3⟩:=aH.gY k
  refine ⟨?_,?_,?_,?_⟩
  ·
   intro y0 y1
   unfold aH.j0
   repeat' with_reducible first|apply lF|apply ih1|apply ih2|apply ih3|apply aG.mono|exact dN.refl _|exact dN.none _|refine dN.ite ?_ ?_|refine dN.bind ?_ (fun _=>?_)
  ·
   intro y0 y1 y2
   unfold aH.j2
   repeat' with_reducible first|apply lF|apply ih1|apply ih2|apply ih3|apply aG.mono|exact dN.refl _|exact dN.none _|refine dN.ite ?_ ?_|refine dN.bind ?_ (fun _=>?_)
  ·
   intro y0 y1 y2
   unfold aH.j3
   repeat' with_reducible first|apply lF|apply ih1|apply ih2|apply ih3|apply aG.mono|exact dN.refl _|exact dN.none _|refine dN.ite ?_ ?_|refine dN.bind ?_ (fun _=>?_)
  ·
   intro y0 y1 y2 y3
   unfold aH.l0
   repeat' with_reducible first|apply lF|apply ih1|apply ih2|apply ih3|apply aG.mono|exact dN.refl _|exact dN.none _|refine dN.ite ?_ ?_|refine dN.bind ?_ (fun _=>?_)
theorem aH.mono:∀ a0 k,dN (aH.f k a0) (aH.f (k+1) a0):=by
 intro a0 k
 obtain ⟨lF,ih1,ih2,ih3⟩:=aH.gY k
 unfold aH.f
 repeat' with_reducible first|apply lF|apply ih1|apply ih2|apply ih3|apply aG.mono|exact dN.refl _|exact dN.none _|refine dN.ite ?_ ?_|refine dN.bind ?_ (fun _=>?_)
set_option maxHeartbeats 8000000 in
set_option maxRecDepth 100000 in
theorem aH.calls (k:Nat) (a0:ByteArray) (r1:Int) (r2:Int) (w:World) (h:aH.f k a0=some (r1,r2)) :
  Calls Tryd.prog 64 #[.string a0] w fun e w'=>e=.returned (.tuple #[.int .i64 r1,.int .i64 r2])∧aT w w':=by
 have H:((aG.f k a0).bind fun t107=>(if t107=true then (if 0 < (a0.size:Int) then (if (bt a0 0)=45 then (if 1≤(a0.size:Int) then (aH.j0 k (a0.extract 1 a0.size) ((bt a0 0) == 45)) else (none)) else (aH.j0 k a0 ((bt a0 0) == 45))) else (none)) else (some (0,4))))=some (r1,r2):=h
 clear h
 replace H:=Option.bind_eq_some_iff.mp H
 obtain ⟨t107,Qy,H⟩:=H
 replace H:(if t107=true then (if 0 < (a0.size:Int) then (if (bt a0 0)=45 then (if 1≤(a0.size:Int) then (aH.j0 k (a0.extract 1 a0.size) ((bt a0 0) == 45)) else (none)) else (aH.j0 k a0 ((bt a0 0) == 45))) else (none)) else (some (0,4)))=some (r1,r2):=H
 have A2:=ae.mk Qy
 clear Qy
 by_cases c3:t107=true
 ·
  subst c3
  have H1:(if 0 < (a0.size:Int) then (if (bt a0 0)=45 then (if 1≤(a0.size:Int) then (aH.j0 k (a0.extract 1 a0.size) ((bt a0 0) == 45)) else (none)) else (aH.j0 k a0 ((bt a0 0) == 45))) else (none))=some (r1,r2):=by rw [if_pos rfl] at H;exact H
  clear H
  have H:=H1
  clear H1
  by_cases c4:0 < (a0.size:Int)
  ·
   rw [if_pos c4] at H
   have nM:decide (0 < (a0.size:Int))=true:=decide_eq_true c4
   have Hm:decide (0 < a0.size)=true:=decide_eq_true (by omega)
   clear c4
   have ZX:=ae.mk H
   clear H
   go_enter Tryd.func64,Tryd.ntmps64
   go_upto_if 15 with (first|((with_reducible refine bu (f:=71) rfl ?_);refine dS (some 9) rfl rfl Tryd.func71 (by kernel_rfl) rfl #[.string a0] rfl (by (try simp only [List.map_toArray,List.map_cons,List.map_nil]);first|done|rfl|(simp only [List.length_drop,List.length_take];rfl)) ?_;(with_reducible refine (aG.calls k a0 true _ A2.out).mono ?_);rintro e w' ⟨rfl,⟨nd,rfl⟩⟩;refine ⟨_,rfl,?_⟩;have p5:0≤(0:Int):=(by omega);have q5:0 < a0.size:=(by have:(0:Int) < (a0.size:Int):=of_decide_eq_true (by first|(with_reducible assumption)|assumption);omega);have hx5:∀ h:0 < a0.size,((a0[0]'h).toNat:Int)=bt a0 0:=kL a0 0;clear p5;have qi5:(0 < (a0.size:Int))=True:=eq_true (of_decide_eq_true (by first|(with_reducible assumption)|assumption));replace q5:=eq_true q5))
   (try simp only [Act.put,List.setIfInBounds_toArray,List.set_cons_zero,List.set_cons_succ])
   go_cut [4] (fun v4 wc=>∃ (kq:Nat) (ug:ByteArray),v4=.string ug∧ae (aH.j0 kq ug ((bt a0 0) == 45)=some (r1,r2))∧ae (kq≤k)∧aT w wc)
   case first =>
    have H:=ZX.out
    clear ZX
    by_cases c7:(bt a0 0)=45
    ·
     rw [if_pos c7] at H
     have nV:((bt a0 0) == 45)=true:=beq_iff_eq.mpr c7
     have xn:((bt a0 0) != 45)=false:=bne_eq_false_iff_eq.mpr c7
     clear c7
     (first|rw [nV]|(simp only [bG,bJ];rw [nV])|skip)
     by_cases c8:1≤(a0.size:Int)
     ·
      rw [if_pos c8] at H
      have oU:=eq_true c8
      have yH:decide (1≤(a0.size:Int))=true:=decide_eq_true c8
      clear c8
      have H':=ae.mk H
      clear H
      go_wp2
      refine Met.intro ?_
      go_step
      (repeat apply Exists.intro)
      refine ⟨?rel,?same⟩
      case same=>rw [nV]
      case rel=>exact ⟨_,(a0.extract 1 a0.size),(by first|rfl|(simp;done)|(simp [*];done)),H',⟨by first|omega|exact Nat.le_refl _⟩,by repeat (first|exact aT.refl _|apply aT.step)⟩
     ·
      rw [if_neg c8] at H
      exact absurd H (by simp)
    ·
     rw [if_neg c7] at H
     have nV:((bt a0 0) == 45)=false:=beq_eq_false_iff_ne.mpr c7
     have xn:((bt a0 0) != 45)=true:=bne_iff_ne.mpr c7
     (first|rw [nV]|(simp only [bG,bJ];rw [nV])|skip)
     have H':=ae.mk H
     clear H
     go_wp2
     refine Met.intro ?_
     go_step
     (repeat apply Exists.intro)
     refine ⟨?rel,?same⟩
     case same=>rw [nV]
     case rel=>exact ⟨_,(a0),(by first|rfl|(simp;done)|(simp [*];done)),H',⟨by first|omega|exact Nat.le_refl _⟩,by repeat (first|exact aT.refl _|apply aT.step)⟩
   case rest =>
    clear ZX
    obtain ⟨kq,ug,rfl,HA,H6,⟨mc5,rfl⟩⟩:=hcut
    cases kq with
    | zero=>exact absurd HA.out (by simp [aH.j0])
    | succ kj5 =>
     have H:=HA.out
     clear HA
     simp only [aH.j0] at H
     have ZW:=ae.mk H
     clear H
     go_upto_block 0 with (fail)
     go_cut [6] (fun v6 wc=>∃ (kq:Nat) (wu:Int),v6=.int .u64 wu∧ae (aH.j2 kq ug ((bt a0 0) == 45) wu=some (r1,r2))∧ae (kq≤kj5)∧aT w wc)
     case first =>
      have H:=ZW.out
      clear ZW
      have H':=ae.mk H
      clear H
      go_wp2
      go_loopg [6,7] kj5 (fun kq v6 v7 w'=>∃ (Ls:Int) (vF:Int),v6=.int .u64 Ls∧v7=.int .i64 vF∧ae (aH.l0 kq ug ((bt a0 0) == 45) Ls vF=some (r1,r2))∧ae (kq≤kj5)∧aT w w')
      case atStart=>exact ⟨(0),(0),(by first|rfl|(simp;done)|(simp [*];done)),(by first|rfl|(simp;done)|(simp [*];done)),H',⟨Nat.le_refl _⟩,by repeat (first|exact aT.refl _|apply aT.step)⟩
      case round =>
       clear H'
       obtain ⟨Ls,vF,rfl,rfl,HA,AZ,⟨m2,rfl⟩⟩:=hrel
       cases gk with
       | zero=>exact absurd HA.out (by simp [aH.l0])
       | succ k2 =>
        have H:=HA.out
        clear HA
        simp only [aH.l0] at H
        by_cases c10:vF < (ug.size:Int)
        ·
         rw [if_pos c10] at H
         have oW:decide (vF < (ug.size:Int))=true:=decide_eq_true c10
         clear c10
         (first|rw [oW]|(simp only [bG,bJ];rw [oW])|skip)
         by_cases c11:vF < 19
         ·
          rw [if_pos c11] at H
          have uz:decide (vF < 19)=true:=decide_eq_true c11
          clear c11
          by_cases c12:0≤vF
          ·
           rw [if_pos c12] at H
           have vW:decide (0≤vF)=true:=decide_eq_true c12
           clear c12
           have H':=ae.mk H
           clear H
           have p13:0≤(vF:Int):=of_decide_eq_true (by first|(with_reducible assumption)|assumption)
           have q13:vF < (ug.size:Int):=of_decide_eq_true (by first|(with_reducible assumption)|assumption)
           have RQ:=kL ug vF
           replace p13:=eq_true p13
           replace q13:=eq_true q13
           go_wp2
           go_roundg k2
           case measure=>have:=H6.out;have:=AZ.out;omega
           case rel=>exact ⟨(IntKind.u64.wrap ((IntKind.u64.wrap (Ls * 10))+(((bt ug vF) - 48) % 256))),(wrap64 (vF+1)),(by first|rfl|(simp;done)|(simp [*];done)),(by first|rfl|(simp;done)|(simp [*];done)),H',⟨by have:=H6.out;have:=AZ.out;omega⟩,by repeat (first|exact aT.refl _|apply aT.step)⟩
          ·
           rw [if_neg c12] at H
           exact absurd H (by simp)
         ·
          rw [if_neg c11] at H
          have uz:decide (vF < 19)=false:=decide_eq_false c11
          clear c11
          have H':=ae.mk H
          clear H
          go_wp2
          go_meet
          case rel=>exact ⟨_,(Ls),(by first|rfl|(simp;done)|(simp [*];done)),H',⟨by have:=H6.out;have:=AZ.out;first|omega|exact Nat.le_refl _⟩,by repeat (first|exact aT.refl _|apply aT.step)⟩
        ·
         rw [if_neg c10] at H
         have oW:decide (vF < (ug.size:Int))=false:=decide_eq_false c10
         clear c10
         (first|rw [oW]|(simp only [bG,bJ];rw [oW])|skip)
         have H':=ae.mk H
         clear H
         go_wp2
         go_meet
         case rel=>exact ⟨_,(Ls),(by first|rfl|(simp;done)|(simp [*];done)),H',⟨by have:=H6.out;have:=AZ.out;first|omega|exact Nat.le_refl _⟩,by repeat (first|exact aT.refl _|apply aT.step)⟩
     case rest =>
      clear ZW
      obtain ⟨kq,wu,rfl,HA,ZV,⟨mc8,rfl⟩⟩:=hcut
      cases kq with
      | zero=>exact absurd HA.out (by simp [aH.j2])
      | succ kj8 =>
       have H:=HA.out
       clear HA
       simp only [aH.j2] at H
       have Ia:=ae.mk H
       clear H
       go_upto_if 36 with (fail)
       go_cut [36] (fun v36 wc=>∃ (kq:Nat) (CY:Bool),v36=.bool CY∧ae (aH.j3 kq ((bt a0 0) == 45) wu CY=some (r1,r2))∧ae (kq≤kj8)∧aT w wc)
       case first =>
        have H:=Ia.out
        clear Ia
        by_cases c15:(ug.size:Int) > 19
        ·
         rw [if_pos c15] at H
         have ql:decide (19 < (ug.size:Int))=true:=decide_eq_true c15
         have FM:decide (19 < ug.size)=true:=decide_eq_true (by omega)
         clear c15
         (first|rw [ql]|(simp only [bG,bJ];rw [ql])|skip)
         have H':=ae.mk H
         clear H
         go_wp2
         go_meet
         case rel=>exact ⟨_,(decide ((ug.size:Int) > 19)),(by first|rfl|(simp;done)|(simp [*];done)),H',⟨by have:=H6.out;have:=ZV.out;first|omega|exact Nat.le_refl _⟩,by repeat (first|exact aT.refl _|apply aT.step)⟩
        ·
         rw [if_neg c15] at H
         have ql:decide (19 < (ug.size:Int))=false:=decide_eq_false c15
         have FM:decide (19 < ug.size)=false:=decide_eq_false (by omega)
         clear c15
         (first|rw [ql]|(simp only [bG,bJ];rw [ql])|skip)
         by_cases c16:wu > 9223372036854775808
         ·
          rw [if_pos c16] at H
          have Aw:decide (9223372036854775808 < wu)=true:=decide_eq_true c16
          clear c16
          have H':=ae.mk H
          clear H
          go_wp2
          go_meet
          case rel=>exact ⟨_,(decide (wu > 9223372036854775808)),(by first|rfl|(simp;done)|(simp [*];done)),H',⟨by have:=H6.out;have:=ZV.out;first|omega|exact Nat.le_refl _⟩,by repeat (first|exact aT.refl _|apply aT.step)⟩
         ·
          rw [if_neg c16] at H
          have Aw:decide (9223372036854775808 < wu)=false:=decide_eq_false c16
          clear c16
          by_cases c17:wu=9223372036854775808
          ·
           rw [if_pos c17] at H
           have yt:(wu == 9223372036854775808)=true:=beq_iff_eq.mpr c17
           have FI:(wu != 9223372036854775808)=false:=bne_eq_false_iff_eq.mpr c17
           clear c17
           have H':=ae.mk H
           clear H
           go_wp2
           go_meet
           case rel=>exact ⟨_,(!((bt a0 0) == 45)),(by first|rfl|(simp;done)|(simp [*];done)),H',⟨by have:=H6.out;have:=ZV.out;first|omega|exact Nat.le_refl _⟩,by repeat (first|exact aT.refl _|apply aT.step)⟩
          ·
           rw [if_neg c17] at H
           have yt:(wu == 9223372036854775808)=false:=beq_eq_false_iff_ne.mpr c17
           have FI:(wu != 9223372036854775808)=true:=bne_iff_ne.mpr c17
           have H':=ae.mk H
           clear H
           go_wp2
           go_meet
           case rel=>exact ⟨_,(false),(by first|rfl|(simp;done)|(simp [*];done)),H',⟨by have:=H6.out;have:=ZV.out;first|omega|exact Nat.le_refl _⟩,by repeat (first|exact aT.refl _|apply aT.step)⟩
       case rest =>
        clear Ia
        obtain ⟨kq,CY,rfl,HA,F6,⟨aoC,rfl⟩⟩:=hcut
        cases kq with
        | zero=>exact absurd HA.out (by simp [aH.j3])
        | succ Rz =>
         have H:=HA.out
         clear HA
         simp only [aH.j3] at H
         by_cases c18:CY=true
         ·
          subst c18
          have H1:(some (0,3))=some (r1,r2):=by rw [if_pos rfl] at H;exact H
          clear H
          have H:=H1
          clear H1
          simp only [Option.some.injEq,Prod.mk.injEq] at H
          obtain ⟨rfl,rfl⟩:=H
          go_wp2
          go_ret2
          exact ⟨by first|rfl|(simp;done)|(simp [*];done),by repeat (first|exact aT.refl _|apply aT.step)⟩
         ·
          replace c18:=Bool.eq_false_iff.mpr c18
          subst c18
          have H1:(if ((bt a0 0) == 45)=true then (some (wrap64 (-(wrap64 (wu))),0)) else (some (wrap64 (wu),0)))=some (r1,r2):=by rw [if_neg (show ¬ (false=true) by decide)] at H;exact H
          clear H
          have H:=H1
          clear H1
          by_cases c19:((bt a0 0) == 45)=true
          ·
           rw [if_pos c19] at H
           have FH:((bt a0 0) == 45)=true:=c19
           (try (have ada:decide ((bt a0 0)=45)=true:=by simpa using c19))
           (try (have ac9:((bt a0 0) == 45)=true:=by simpa using c19))
           clear c19
           simp only [Option.some.injEq,Prod.mk.injEq] at H
           obtain ⟨rfl,rfl⟩:=H
           go_wp2
           go_ret2
           exact ⟨by first|rfl|(simp;done)|(simp [*];done),by repeat (first|exact aT.refl _|apply aT.step)⟩
          ·
           rw [if_neg c19] at H
           have FH:((bt a0 0) == 45)=false:=by simpa using c19
           (try (have ada:decide ((bt a0 0)=45)=false:=by simpa using c19))
           (try (have ac9:((bt a0 0) == 45)=false:=by simpa using c19))
           (try (have ank:¬ ((bt a0 0)=45):=by simpa using c19))
           clear c19
           simp only [Option.some.injEq,Prod.mk.injEq] at H
           obtain ⟨rfl,rfl⟩:=H
           go_wp2
           go_ret2
           exact ⟨by first|rfl|(simp;done)|(simp [*];done),by repeat (first|exact aT.refl _|apply aT.step)⟩
  ·
   rw [if_neg c4] at H
   exact absurd H (by simp)
 ·
  replace c3:=Bool.eq_false_iff.mpr c3
  subst c3
  have H1:(some (0,4))=some (r1,r2):=by rw [if_neg (show ¬ (false=true) by decide)] at H;exact H
  clear H
  have H:=H1
  clear H1
  simp only [Option.some.injEq,Prod.mk.injEq] at H
  obtain ⟨rfl,rfl⟩:=H
  go_enter Tryd.func64,Tryd.ntmps64
  go_wp2_with (first|((with_reducible refine bu (f:=71) rfl ?_);refine dS (some 9) rfl rfl Tryd.func71 (by kernel_rfl) rfl #[.string a0] rfl (by (try simp only [List.map_toArray,List.map_cons,List.map_nil]);first|done|rfl|(simp only [List.length_drop,List.length_take];rfl)) ?_;(with_reducible refine (aG.calls k a0 false _ A2.out).mono ?_);rintro e w' ⟨rfl,⟨nd,rfl⟩⟩;refine ⟨_,rfl,?_⟩))
  go_ret2
  exact ⟨by first|rfl|(simp;done)|(simp [*];done),by repeat (first|exact aT.refl _|apply aT.step)⟩
def aZ.j0:Nat→Int→Int→Bool→Int→Int→Int→Int→Int→Option (Int × Int × Int × Int × Int × Bool)
 | 0,_,_,_,_,_,_,_,_=>none
 | k+1,x1,x2,x18,yL,Df,Dc,C9,yK=>if x18=true then (some (yL,Df,Dc,C9,yK,false)) else (if x1=97 then (some (yL,(x2) % 256,Dc,C9,yK,true)) else (if x1=98 then (some (yL,Df,(x2) % 256,C9,yK,true)) else (some (yL,Df,Dc,(x2) % 256,yK,true))))
def aZ.f (k:Nat) (dC:Int) (aU:Int) (aV:Int) (fD:Int) (fK:Int) (a1:Int) (a2:Int):Option (Int × Int × Int × Int × Int × Bool):=if a1=110 then (some (dC,aU,aV,fD,a2,true)) else (if a2 < 0 then (aZ.j0 k a1 a2 true dC aU aV fD fK) else (aZ.j0 k a1 a2 (decide (a2 > 255)) dC aU aV fD fK))
theorem aZ.gY:∀ k,(∀ y0 y1 y2 y3 y4 y5 y6 y7,dN (aZ.j0 k y0 y1 y2 y3 y4 y5 y6 y7) (aZ.j0 (k+1) y0 y1 y2 y3 y4 y5 y6 y7))
 | 0=>fun _ _ _ _ _ _ _ _ r h=>by simp [aZ.j0] at h
 | k+1=>by
  have lF:=aZ.gY k
  ·
   intro y0 y1 y2 y3 y4 y5 y6 y7
   unfold aZ.j0
   repeat' with_reducible first|apply lF|exact dN.refl _|exact dN.none _|refine dN.ite ?_ ?_|refine dN.bind ?_ (fun _=>?_)
theorem aZ.mono:∀ a0 a1 a2 a3 a4 a5 a6 k,dN (aZ.f k a0 a1 a2 a3 a4 a5 a6) (aZ.f (k+1) a0 a1 a2 a3 a4 a5 a6):=by
 intro a0 a1 a2 a3 a4 a5 a6 k
 have lF:=aZ.gY k
 unfold aZ.f
 repeat' with_reducible first|apply lF|exact dN.refl _|exact dN.none _|refine dN.ite ?_ ?_|refine dN.bind ?_ (fun _=>?_)
set_option maxHeartbeats 8000000 in
set_option maxRecDepth 100000 in
theorem aZ.calls (k:Nat) (dC:Int) (aU:Int) (aV:Int) (fD:Int) (fK:Int) (a1:Int) (a2:Int) (r1:Int) (r2:Int) (r3:Int) (r4:Int) (r5:Int) (r6:Bool) (w:World) (h:aZ.f k dC aU aV fD fK a1 a2=some (r1,r2,r3,r4,r5,r6)) :
  Calls Tryd.prog 65 #[.agg #[.int .u8 dC,.int .u8 aU,.int .u8 aV,.int .u8 fD,.int .i64 fK],.int .u8 a1,.int .i64 a2] w fun e w'=>e=.returned (.tuple #[.agg #[.int .u8 r1,.int .u8 r2,.int .u8 r3,.int .u8 r4,.int .i64 r5],.bool r6])∧Below w.heap.size w w':=by
 have Bi:=Tryd.underlying55
 have HB:=ae.mk (Below.refl w.heap.size w)
 have H:(if a1=110 then (some (dC,aU,aV,fD,a2,true)) else (if a2 < 0 then (aZ.j0 k a1 a2 true dC aU aV fD fK) else (aZ.j0 k a1 a2 (decide (a2 > 255)) dC aU aV fD fK)))=some (r1,r2,r3,r4,r5,r6):=h
 clear h
 by_cases c4:a1=110
 ·
  rw [if_pos c4] at H
  have nM:(a1 == 110)=true:=beq_iff_eq.mpr c4
  have Hm:(a1 != 110)=false:=bne_eq_false_iff_eq.mpr c4
  clear c4
  simp only [Option.some.injEq,Prod.mk.injEq] at H
  obtain ⟨rfl,rfl,rfl,rfl,rfl,rfl⟩:=H
  go_enter Tryd.func65,Tryd.ntmps65
  go_wp2_with (first|((with_reducible refine dL (N:=3) rfl ?_);refine fF ?hg (N:=3) ?hd (cs:=#[.int .u8 dC,.int .u8 aU,.int .u8 aV,.int .u8 fD,.int .i64 fK]) (t:=55) ?hr ?_;(case hd=>rfl);(case hg=>rfl);(case hr=>first|(go_simp;done)|(go_simp;rfl));intro vV hg w5 hbox hb;have dV:=ae.mk (bg (by repeat (first|(with_reducible first|exact HB.out|apply ah|apply af|apply ai)|exact HB.out)) hb);have dU:=ae.mk (hbox);have dR:=ae.mk ((by rw [hg];exact (bW (by repeat (first|(with_reducible first|exact HB.out|apply ah|apply af|apply ai)|exact HB.out))):w.heap.size≤vV));have gQ:=dR;clear HB;have HB:=dV;have pY:=dU;have adK:=dR;have tK:=gQ;clear dV dU dR gQ;clear hb hbox hg)|((with_reducible refine dL (N:=6) rfl ?_);refine fF ?hg (N:=6) ?hd (cs:=#[.int .u8 0,.int .u8 0,.int .u8 0,.int .u8 0,.int .i64 0]) (t:=55) ?hr ?_;(case hd=>rfl);(case hg=>rfl);(case hr=>first|(go_simp;done)|(go_simp;rfl));intro uq hg w6 hbox hb;have dV:=ae.mk (bf (g:=vV) (o:=.cells #[.int .u8 dC,.int .u8 aU,.int .u8 aV,.int .u8 fD,.int .i64 fK] 55 (0,0)) (by (with_reducible repeat (first|refine au ?_ _|refine ay ?_|refine ak ?_ _));exact pY.out) hb);have dU:=ae.mk (bg (by repeat (first|(with_reducible first|exact HB.out|apply ah|apply af|apply ai|refine aj ?_ tK.out)|exact HB.out)) hb);have dR:=ae.mk (hbox);have gQ:=ae.mk ((by rw [hg];exact (bW (by repeat (first|(with_reducible first|exact HB.out|apply ah|apply af|apply ai|refine aj ?_ tK.out)|exact HB.out))):w.heap.size≤uq));have lQ:=gQ;have mr:=ae.mk ((by rw [hg];exact Nat.ne_of_lt (kC (g:=vV) (o:=.cells #[.int .u8 dC,.int .u8 aU,.int .u8 aV,.int .u8 fD,.int .i64 fK] 55 (0,0)) (by (with_reducible repeat (first|refine au ?_ _|refine ay ?_|refine ak ?_ _));exact pY.out)):vV ≠ uq));have nJ:=ae.mk mr.out.symm;clear pY;clear HB;have pY:=dV;have HB:=dU;have rf:=dR;have adJ:=gQ;have yA:=lQ;have qF:=mr;have mG:=nJ;clear dV dU dR gQ lQ mr nJ;clear hb hbox hg;have ao0:=qF.out;have aoZ:=mG.out;obtain ⟨O4,O3,O1,O0,Y3,OT,OQ,OO,OM,YZ⟩:=jT pY.out;obtain ⟨Ha,G9,G8,G7,akG,G5,GZ,GY,GX,akw⟩:=jT rf.out))
  refine bodyPost_ret (lU rfl _ _ uq 55 #[.int .u8 dC,.int .u8 aU,.int .u8 aV,.int .u8 fD,.int .i64 a2] (0,0) _ rfl (by (with_reducible repeat (first|refine au ?_ _|refine ay ?_|refine ak ?_ _));refine dP (cs:=#[.int .u8 dC,.int .u8 aU,.int .u8 aV,.int .u8 fD,.int .i64 0]) ?_ 4 _ rfl;(with_reducible repeat (first|refine au ?_ _|refine ay ?_|refine ak ?_ _));refine dP (cs:=#[.int .u8 dC,.int .u8 aU,.int .u8 aV,.int .u8 0,.int .i64 0]) ?_ 3 _ rfl;(with_reducible repeat (first|refine au ?_ _|refine ay ?_|refine ak ?_ _));refine dP (cs:=#[.int .u8 dC,.int .u8 aU,.int .u8 0,.int .u8 0,.int .i64 0]) ?_ 2 _ rfl;(with_reducible repeat (first|refine au ?_ _|refine ay ?_|refine ak ?_ _));refine dP (cs:=#[.int .u8 dC,.int .u8 0,.int .u8 0,.int .u8 0,.int .i64 0]) ?_ 1 _ rfl;(with_reducible repeat (first|refine au ?_ _|refine ay ?_|refine ak ?_ _));refine dP (cs:=#[.int .u8 0,.int .u8 0,.int .u8 0,.int .u8 0,.int .i64 0]) ?_ 0 _ rfl;(with_reducible repeat (first|refine au ?_ _|refine ay ?_|refine ak ?_ _));refine fQ ?_ mG.out _;(with_reducible repeat (first|refine au ?_ _|refine ay ?_|refine ak ?_ _));exact rf.out) Tryd.underlying55 rfl (by kernel_rfl)) rfl ?_
  exact ⟨by first|rfl|(simp [aQ,aN] <;> rfl)|(simp [*,aQ,aN] <;> rfl),by repeat (first|(with_reducible first|exact HB.out|apply ah|apply af|apply ai|refine aj ?_ tK.out|refine aj ?_ yA.out)|exact HB.out)⟩
 ·
  rw [if_neg c4] at H
  have nM:(a1 == 110)=false:=beq_eq_false_iff_ne.mpr c4
  have Hm:(a1 != 110)=true:=bne_iff_ne.mpr c4
  have Z4:=ae.mk H
  clear H
  go_enter Tryd.func65,Tryd.ntmps65
  go_upto_region 4 with (first|((with_reducible refine dL (N:=3) rfl ?_);refine fF ?hg (N:=3) ?hd (cs:=#[.int .u8 dC,.int .u8 aU,.int .u8 aV,.int .u8 fD,.int .i64 fK]) (t:=55) ?hr ?_;(case hd=>rfl);(case hg=>rfl);(case hr=>first|(go_simp;done)|(go_simp;rfl));intro vV hg w11 hbox hb;have dV:=ae.mk (bg (by repeat (first|(with_reducible first|exact HB.out|apply ah|apply af|apply ai)|exact HB.out)) hb);have dU:=ae.mk (hbox);have dR:=ae.mk ((by rw [hg];exact (bW (by repeat (first|(with_reducible first|exact HB.out|apply ah|apply af|apply ai)|exact HB.out))):w.heap.size≤vV));have gQ:=dR;clear HB;have HB:=dV;have pY:=dU;have adK:=dR;have tK:=gQ;clear dV dU dR gQ;clear hb hbox hg)|((with_reducible refine dL (N:=6) rfl ?_);refine fF ?hg (N:=6) ?hd (cs:=#[.int .u8 0,.int .u8 0,.int .u8 0,.int .u8 0,.int .i64 0]) (t:=55) ?hr ?_;(case hd=>rfl);(case hg=>rfl);(case hr=>first|(go_simp;done)|(go_simp;rfl));intro uq hg w12 hbox hb;have dV:=ae.mk (bf (g:=vV) (o:=.cells #[.int .u8 dC,.int .u8 aU,.int .u8 aV,.int .u8 fD,.int .i64 fK] 55 (0,0)) (by (with_reducible repeat (first|refine au ?_ _|refine ay ?_|refine ak ?_ _));exact pY.out) hb);have dU:=ae.mk (bg (by repeat (first|(with_reducible first|exact HB.out|apply ah|apply af|apply ai|refine aj ?_ tK.out)|exact HB.out)) hb);have dR:=ae.mk (hbox);have gQ:=ae.mk ((by rw [hg];exact (bW (by repeat (first|(with_reducible first|exact HB.out|apply ah|apply af|apply ai|refine aj ?_ tK.out)|exact HB.out))):w.heap.size≤uq));have lQ:=gQ;have mr:=ae.mk ((by rw [hg];exact Nat.ne_of_lt (kC (g:=vV) (o:=.cells #[.int .u8 dC,.int .u8 aU,.int .u8 aV,.int .u8 fD,.int .i64 fK] 55 (0,0)) (by (with_reducible repeat (first|refine au ?_ _|refine ay ?_|refine ak ?_ _));exact pY.out)):vV ≠ uq));have nJ:=ae.mk mr.out.symm;clear pY;clear HB;have pY:=dV;have HB:=dU;have rf:=dR;have adJ:=gQ;have yA:=lQ;have qF:=mr;have mG:=nJ;clear dV dU dR gQ lQ mr nJ;clear hb hbox hg))
  (try simp only [Act.put,List.setIfInBounds_toArray,List.set_cons_zero,List.set_cons_succ])
  go_cut [18] (fun v18 wc=>∃ (kq:Nat) (Ih:Bool),v18=.bool Ih∧ae (aZ.j0 kq a1 a2 Ih dC aU aV fD fK=some (r1,r2,r3,r4,r5,r6))∧ae (kq≤k)∧ae (wc.heap[vV]? = some (.cells #[.int .u8 dC,.int .u8 aU,.int .u8 aV,.int .u8 fD,.int .i64 fK] 55 (0,0)))∧ae (wc.heap[uq]? = some (.cells #[.int .u8 0,.int .u8 0,.int .u8 0,.int .u8 0,.int .i64 0] 55 (0,0)))∧ae (Below w.heap.size w wc))
  case first =>
   have H:=Z4.out
   clear Z4
   by_cases c13:a2 < 0
   ·
    rw [if_pos c13] at H
    have l9:decide (a2 < 0)=true:=decide_eq_true c13
    clear c13
    (first|rw [l9]|(simp only [bG,bJ];rw [l9])|skip)
    have H':=ae.mk H
    clear H
    go_wp2
    go_meet
    case rel=>exact ⟨_,(true),(by first|rfl|(simp;done)|(simp [*];done)),H',⟨by first|omega|exact Nat.le_refl _⟩,⟨by (with_reducible repeat (first|refine au ?_ _|refine ay ?_|refine ak ?_ _));exact pY.out⟩,⟨by (with_reducible repeat (first|refine au ?_ _|refine ay ?_|refine ak ?_ _));exact rf.out⟩,⟨by repeat (first|(with_reducible first|exact HB.out|apply ah|apply af|apply ai|refine aj ?_ tK.out|refine aj ?_ yA.out)|exact HB.out)⟩⟩
   ·
    rw [if_neg c13] at H
    have l9:decide (a2 < 0)=false:=decide_eq_false c13
    clear c13
    (first|rw [l9]|(simp only [bG,bJ];rw [l9])|skip)
    have H':=ae.mk H
    clear H
    go_wp2
    go_meet
    case rel=>exact ⟨_,(decide (a2 > 255)),(by first|rfl|(simp;done)|(simp [*];done)),H',⟨by first|omega|exact Nat.le_refl _⟩,⟨by (with_reducible repeat (first|refine au ?_ _|refine ay ?_|refine ak ?_ _));exact pY.out⟩,⟨by (with_reducible repeat (first|refine au ?_ _|refine ay ?_|refine ak ?_ _));exact rf.out⟩,⟨by repeat (first|(with_reducible first|exact HB.out|apply ah|apply af|apply ai|refine aj ?_ tK.out|refine aj ?_ yA.out)|exact HB.out)⟩⟩
  case rest =>
   clear Z4
   obtain ⟨kq,Ih,rfl,HA,HJ9,pY,rf,HB⟩:=hcut
   cases kq with
   | zero=>exact absurd HA.out (by simp [aZ.j0])
   | succ kj9 =>
    have H:=HA.out
    clear HA
    simp only [aZ.j0] at H
    by_cases c14:Ih=true
    ·
     subst c14
     have H1:(some (dC,aU,aV,fD,fK,false))=some (r1,r2,r3,r4,r5,r6):=by rw [if_pos rfl] at H;exact H
     clear H
     have H:=H1
     clear H1
     simp only [Option.some.injEq,Prod.mk.injEq] at H
     obtain ⟨rfl,rfl,rfl,rfl,rfl,rfl⟩:=H
     have abb:=qF.out
     have aa1:=mG.out
     obtain ⟨DU,DT,DR,DN,KF,DD,DC,Dz,Dy,JJ⟩:=jT pY.out
     obtain ⟨KE,KD,KC,KA,VN,JI,JH,JG,JF,Ui⟩:=jT rf.out
     go_wp2
     refine bodyPost_ret (lU rfl _ _ uq 55 #[.int .u8 dC,.int .u8 aU,.int .u8 aV,.int .u8 fD,.int .i64 fK] (0,0) _ rfl (by (with_reducible repeat (first|refine au ?_ _|refine ay ?_|refine ak ?_ _));refine dP (cs:=#[.int .u8 dC,.int .u8 aU,.int .u8 aV,.int .u8 fD,.int .i64 0]) ?_ 4 _ rfl;(with_reducible repeat (first|refine au ?_ _|refine ay ?_|refine ak ?_ _));refine dP (cs:=#[.int .u8 dC,.int .u8 aU,.int .u8 aV,.int .u8 0,.int .i64 0]) ?_ 3 _ rfl;(with_reducible repeat (first|refine au ?_ _|refine ay ?_|refine ak ?_ _));refine dP (cs:=#[.int .u8 dC,.int .u8 aU,.int .u8 0,.int .u8 0,.int .i64 0]) ?_ 2 _ rfl;(with_reducible repeat (first|refine au ?_ _|refine ay ?_|refine ak ?_ _));refine dP (cs:=#[.int .u8 dC,.int .u8 0,.int .u8 0,.int .u8 0,.int .i64 0]) ?_ 1 _ rfl;(with_reducible repeat (first|refine au ?_ _|refine ay ?_|refine ak ?_ _));refine dP (cs:=#[.int .u8 0,.int .u8 0,.int .u8 0,.int .u8 0,.int .i64 0]) ?_ 0 _ rfl;(with_reducible repeat (first|refine au ?_ _|refine ay ?_|refine ak ?_ _));exact rf.out) Tryd.underlying55 rfl (by kernel_rfl)) rfl ?_
     exact ⟨by first|rfl|(simp [aQ,aN] <;> rfl)|(simp [*,aQ,aN] <;> rfl),by repeat (first|(with_reducible first|exact HB.out|apply ah|apply af|apply ai|refine aj ?_ tK.out|refine aj ?_ yA.out)|exact HB.out)⟩
    ·
     replace c14:=Bool.eq_false_iff.mpr c14
     subst c14
     have H1:(if a1=97 then (some (dC,(a2) % 256,aV,fD,fK,true)) else (if a1=98 then (some (dC,aU,(a2) % 256,fD,fK,true)) else (some (dC,aU,aV,(a2) % 256,fK,true))))=some (r1,r2,r3,r4,r5,r6):=by rw [if_neg (show ¬ (false=true) by decide)] at H;exact H
     clear H
     have H:=H1
     clear H1
     by_cases c18:a1=97
     ·
      rw [if_pos c18] at H
      have XI:(a1 == 97)=true:=beq_iff_eq.mpr c18
      have adb:(a1 != 97)=false:=bne_eq_false_iff_eq.mpr c18
      clear c18
      simp only [Option.some.injEq,Prod.mk.injEq] at H
      obtain ⟨rfl,rfl,rfl,rfl,rfl,rfl⟩:=H
      have amJ:=qF.out
      have amg:=mG.out
      obtain ⟨VL,VK,VJ,VI,ajP,Ug,Uf,Ue,Ud,ahB⟩:=jT pY.out
      obtain ⟨VH,VG,VF,VE,ajO,Uc,Ub,Ua,TZ,ahA⟩:=jT rf.out
      go_wp2
      refine bodyPost_ret (lU rfl _ _ uq 55 #[.int .u8 dC,.int .u8 ((a2) % 256),.int .u8 aV,.int .u8 fD,.int .i64 fK] (0,0) _ rfl (by (with_reducible repeat (first|refine au ?_ _|refine ay ?_|refine ak ?_ _));refine dP (cs:=#[.int .u8 dC,.int .u8 ((a2) % 256),.int .u8 aV,.int .u8 fD,.int .i64 0]) ?_ 4 _ rfl;(with_reducible repeat (first|refine au ?_ _|refine ay ?_|refine ak ?_ _));refine dP (cs:=#[.int .u8 dC,.int .u8 ((a2) % 256),.int .u8 aV,.int .u8 0,.int .i64 0]) ?_ 3 _ rfl;(with_reducible repeat (first|refine au ?_ _|refine ay ?_|refine ak ?_ _));refine dP (cs:=#[.int .u8 dC,.int .u8 ((a2) % 256),.int .u8 0,.int .u8 0,.int .i64 0]) ?_ 2 _ rfl;(with_reducible repeat (first|refine au ?_ _|refine ay ?_|refine ak ?_ _));refine dP (cs:=#[.int .u8 dC,.int .u8 0,.int .u8 0,.int .u8 0,.int .i64 0]) ?_ 1 _ rfl;(with_reducible repeat (first|refine au ?_ _|refine ay ?_|refine ak ?_ _));refine dP (cs:=#[.int .u8 0,.int .u8 0,.int .u8 0,.int .u8 0,.int .i64 0]) ?_ 0 _ rfl;(with_reducible repeat (first|refine au ?_ _|refine ay ?_|refine ak ?_ _));refine fQ ?_ mG.out _;(with_reducible repeat (first|refine au ?_ _|refine ay ?_|refine ak ?_ _));exact rf.out) Tryd.underlying55 rfl (by kernel_rfl)) rfl ?_
      exact ⟨by first|rfl|(simp [aQ,aN] <;> rfl)|(simp [*,aQ,aN] <;> rfl),by repeat (first|(with_reducible first|exact HB.out|apply ah|apply af|apply ai|refine aj ?_ tK.out|refine aj ?_ yA.out)|exact HB.out)⟩
     ·
      rw [if_neg c18] at H
      have XI:(a1 == 97)=false:=beq_eq_false_iff_ne.mpr c18
      have adb:(a1 != 97)=true:=bne_iff_ne.mpr c18
      by_cases qA:a1=98
      ·
       rw [if_pos qA] at H
       have P9:(a1 == 98)=true:=beq_iff_eq.mpr qA
       have P8:(a1 != 98)=false:=bne_eq_false_iff_eq.mpr qA
       clear qA
       simp only [Option.some.injEq,Prod.mk.injEq] at H
       obtain ⟨rfl,rfl,rfl,rfl,rfl,rfl⟩:=H
       have aba:=qF.out
       have aa0:=mG.out
       obtain ⟨VD,VC,VB,VA,Vz,TY,TW,TV,TU,TT⟩:=jT pY.out
       obtain ⟨zh,zg,zf,yZ,DL,yT,yS,yR,yQ,Dx⟩:=jT rf.out
       go_wp2
       refine bodyPost_ret (lU rfl _ _ uq 55 #[.int .u8 dC,.int .u8 aU,.int .u8 ((a2) % 256),.int .u8 fD,.int .i64 fK] (0,0) _ rfl (by (with_reducible repeat (first|refine au ?_ _|refine ay ?_|refine ak ?_ _));refine dP (cs:=#[.int .u8 dC,.int .u8 aU,.int .u8 ((a2) % 256),.int .u8 fD,.int .i64 0]) ?_ 4 _ rfl;(with_reducible repeat (first|refine au ?_ _|refine ay ?_|refine ak ?_ _));refine dP (cs:=#[.int .u8 dC,.int .u8 aU,.int .u8 ((a2) % 256),.int .u8 0,.int .i64 0]) ?_ 3 _ rfl;(with_reducible repeat (first|refine au ?_ _|refine ay ?_|refine ak ?_ _));refine dP (cs:=#[.int .u8 dC,.int .u8 aU,.int .u8 0,.int .u8 0,.int .i64 0]) ?_ 2 _ rfl;(with_reducible repeat (first|refine au ?_ _|refine ay ?_|refine ak ?_ _));refine dP (cs:=#[.int .u8 dC,.int .u8 0,.int .u8 0,.int .u8 0,.int .i64 0]) ?_ 1 _ rfl;(with_reducible repeat (first|refine au ?_ _|refine ay ?_|refine ak ?_ _));refine dP (cs:=#[.int .u8 0,.int .u8 0,.int .u8 0,.int .u8 0,.int .i64 0]) ?_ 0 _ rfl;(with_reducible repeat (first|refine au ?_ _|refine ay ?_|refine ak ?_ _));refine fQ ?_ mG.out _;(with_reducible repeat (first|refine au ?_ _|refine ay ?_|refine ak ?_ _));exact rf.out) Tryd.underlying55 rfl (by kernel_rfl)) rfl ?_
       exact ⟨by first|rfl|(simp [aQ,aN] <;> rfl)|(simp [*,aQ,aN] <;> rfl),by repeat (first|(with_reducible first|exact HB.out|apply ah|apply af|apply ai|refine aj ?_ tK.out|refine aj ?_ yA.out)|exact HB.out)⟩
      ·
       rw [if_neg qA] at H
       have P9:(a1 == 98)=false:=beq_eq_false_iff_ne.mpr qA
       have P8:(a1 != 98)=true:=bne_iff_ne.mpr qA
       simp only [Option.some.injEq,Prod.mk.injEq] at H
       obtain ⟨rfl,rfl,rfl,rfl,rfl,rfl⟩:=H
       have amH:=qF.out
       have ame:=mG.out
       obtain ⟨ajM,ajL,ajK,ajJ,ajI,ahy,ahx,ahw,ahv,ahu⟩:=jT pY.out
       obtain ⟨Ko,J9,J8,J7,Vy,Jv,Ju,Jt,Js,TS⟩:=jT rf.out
       go_wp2
       refine bodyPost_ret (lU rfl _ _ uq 55 #[.int .u8 dC,.int .u8 aU,.int .u8 aV,.int .u8 ((a2) % 256),.int .i64 fK] (0,0) _ rfl (by (with_reducible repeat (first|refine au ?_ _|refine ay ?_|refine ak ?_ _));refine dP (cs:=#[.int .u8 dC,.int .u8 aU,.int .u8 aV,.int .u8 ((a2) % 256),.int .i64 0]) ?_ 4 _ rfl;(with_reducible repeat (first|refine au ?_ _|refine ay ?_|refine ak ?_ _));refine dP (cs:=#[.int .u8 dC,.int .u8 aU,.int .u8 aV,.int .u8 0,.int .i64 0]) ?_ 3 _ rfl;(with_reducible repeat (first|refine au ?_ _|refine ay ?_|refine ak ?_ _));refine dP (cs:=#[.int .u8 dC,.int .u8 aU,.int .u8 0,.int .u8 0,.int .i64 0]) ?_ 2 _ rfl;(with_reducible repeat (first|refine au ?_ _|refine ay ?_|refine ak ?_ _));refine dP (cs:=#[.int .u8 dC,.int .u8 0,.int .u8 0,.int .u8 0,.int .i64 0]) ?_ 1 _ rfl;(with_reducible repeat (first|refine au ?_ _|refine ay ?_|refine ak ?_ _));refine dP (cs:=#[.int .u8 0,.int .u8 0,.int .u8 0,.int .u8 0,.int .i64 0]) ?_ 0 _ rfl;(with_reducible repeat (first|refine au ?_ _|refine ay ?_|refine ak ?_ _));refine fQ ?_ mG.out _;(with_reducible repeat (first|refine au ?_ _|refine ay ?_|refine ak ?_ _));exact rf.out) Tryd.underlying55 rfl (by kernel_rfl)) rfl ?_
       exact ⟨by first|rfl|(simp [aQ,aN] <;> rfl)|(simp [*,aQ,aN] <;> rfl),by repeat (first|(with_reducible first|exact HB.out|apply ah|apply af|apply ai|refine aj ?_ tK.out|refine aj ?_ yA.out)|exact HB.out)⟩
end Go.Proofs.YtlemecdddhdagaaDoor.P
end
