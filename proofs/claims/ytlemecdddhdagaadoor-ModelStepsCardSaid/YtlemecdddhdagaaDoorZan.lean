/- Parts of the proof of ModelSteps: what the functions that it reaches compute, and plain facts about that. -/
import Derived.Test.YtlemecdddhdagaaDoorZab
import Derived.Test.YtlemecdddhdagaaDoorZam
set_option linter.unusedVariables false
set_option linter.unusedSimpArgs false
section
namespace Go.Proofs.YtlemecdddhdagaaDoor.P
open Go.RowKit Go.Proofs.af.bF Go.Proofs.af.dD Go.Proofs.af.dN
attribute [local go_sem] lF lC mP mO kE kD lD lu
mutual
def aH.j0:Nat→ByteArray→Bool→Option (Int × Int)
 | 0,_,_=>none
 | k+1,x4,x5=>aH.l0 k x4 x5 0 0
def aH.j2:Nat→ByteArray→Bool→Int→Option (Int × Int)
 | 0,_,_,_=>none
 | k+1,x4,x5,x6=>if (x4.size:Int) > 19 then (aH.j3 k x5 x6 (decide ((x4.size:Int) > 19))) else (if x6 > 9223372036854775808 then (aH.j3 k x5 x6 (decide (x6 > 9223372036854775808))) else (if x6=9223372036854775808 then (aH.j3 k x5 x6 (!x5)) else (aH.j3 k x5 x6 false)))
def aH.j3:Nat→Bool→Int→Bool→Option (Int × Int)
 | 0,_,_,_=>none
 | k+1,x5,x6,x36=>if x36=true then (some (0,3)) else (if x5=true then (some (wrap64 (-(wrap64 (x6))),0)) else (some (wrap64 (x6),0)))
def aH.l0:Nat→ByteArray→Bool→Int→Int→Option (Int × Int)
 | 0,_,_,_,_=>none
 | k+1,x4,x5,x6,x7=>if x7 < (x4.size:Int) then (if x7 < 19 then (if 0≤x7 then (aH.l0 k x4 x5 (IntKind.u64.wrap ((IntKind.u64.wrap (x6 * 10))+(((bt x4 x7) - 48) % 256))) (wrap64 (x7+1))) else (none)) else (aH.j2 k x4 x5 x6)) else (aH.j2 k x4 x5 x6)
end
def aH.f (k:Nat) (a0:ByteArray):Option (Int × Int):=(aG.f k a0).bind fun t107=>(if t107=true then (if 0 < (a0.size:Int) then (if (bt a0 0)=45 then (if 1≤(a0.size:Int) then (aH.j0 k (a0.extract 1 a0.size) ((bt a0 0) == 45)) else (none)) else (aH.j0 k a0 ((bt a0 0) == 45))) else (none)) else (some (0,4)))
theorem aH.iF:∀ k,(∀ y0 y1,dP (aH.j0 k y0 y1) (aH.j0 (k+1) y0 y1))∧(∀ y0 y1 y2,dP (aH.j2 k y0 y1 y2) (aH.j2 (k+1) y0 y1 y2))∧(∀ y0 y1 y2,dP (aH.j3 k y0 y1 y2) (aH.j3 (k+1) y0 y1 y2))∧(∀ y0 y1 y2 y3,dP (aH.l0 k y0 y1 y2 y3) (aH.l0 (k+1) y0 y1 y2 y3))
 | 0=>⟨fun _ _ r h=>by simp [aH.j0] at h,fun _ _ _ r h=>by simp [aH.j2] at h,fun _ _ _ r h=>by simp [aH.j3] at h,fun _ _ _ _ r h=>by simp [aH.l0] at h⟩
 | k+1=>by
  obtain ⟨lW,ih1,ih2,ih3⟩:=aH.iF k
  refine ⟨?_,?_,?_,?_⟩
  ·
   intro y0 y1
   unfold aH.j0
   repeat' with_reducible first|apply lW|apply ih1|apply ih2|apply ih3|apply aG.mono|exact dP.refl _|exact dP.none _|refine dP.ite ?_ ?_|refine dP.bind ?_ (fun _=>?_)
  ·
   intro y0 y1 y2
   unfold aH.j2
   repeat' with_reducible first|apply lW|apply ih1|apply ih2|apply ih3|apply aG.mono|exact dP.refl _|exact dP.none _|refine dP.ite ?_ ?_|refine dP.bind ?_ (fun _=>?_)
  ·
   intro y0 y1 y2
   unfold aH.j3
   repeat' with_reducible first|apply lW|apply ih1|apply ih2|apply ih3|apply aG.mono|exact dP.refl _|exact dP.none _|refine dP.ite ?_ ?_|refine dP.bind ?_ (fun _=>?_)
  ·
   intro y0 y1 y2 y3
   unfold aH.l0
   repeat' with_reducible first|apply lW|apply ih1|apply ih2|apply ih3|apply aG.mono|exact dP.refl _|exact dP.none _|refine dP.ite ?_ ?_|refine dP.bind ?_ (fun _=>?_)
theorem aH.mono:∀ a0 k,dP (aH.f k a0) (aH.f (k+1) a0):=by
 intro a0 k
 obtain ⟨lW,ih1,ih2,ih3⟩:=aH.iF k
 unfold aH.f
 repeat' with_reducible first|apply lW|apply ih1|apply ih2|apply ih3|apply aG.mono|exact dP.refl _|exact dP.none _|refine dP.ite ?_ ?_|refine dP.bind ?_ (fun _=>?_)
set_option maxHeartbeats 8000000 in
set_option maxRecDepth 100000 in
theorem aH.calls (k:Nat) (a0:ByteArray) (r1:Int) (r2:Int) (w:World) (h:aH.f k a0=some (r1,r2)) :
  Calls Tryd.prog 64 #[.string a0] w fun e w'=>e=.returned (.tuple #[.int .i64 r1,.int .i64 r2])∧aU w w':=by
 have H:((aG.f k a0).bind fun t107=>(if t107=true then (if 0 < (a0.size:Int) then (if (bt a0 0)=45 then (if 1≤(a0.size:Int) then (aH.j0 k (a0.extract 1 a0.size) ((bt a0 0) == 45)) else (none)) else (aH.j0 k a0 ((bt a0 0) == 45))) else (none)) else (some (0,4))))=some (r1,r2):=h
 clear h
 replace H:=Option.bind_eq_some_iff.mp H
 obtain ⟨t107,Tc,H⟩:=H
 replace H:(if t107=true then (if 0 < (a0.size:Int) then (if (bt a0 0)=45 then (if 1≤(a0.size:Int) then (aH.j0 k (a0.extract 1 a0.size) ((bt a0 0) == 45)) else (none)) else (aH.j0 k a0 ((bt a0 0) == 45))) else (none)) else (some (0,4)))=some (r1,r2):=H
 have A2:=ae.mk Tc
 clear Tc
 by_cases c3:t107=true
 ·
  subst c3
  have H1:(if 0 < (a0.size:Int) then (if (bt a0 0)=45 then (if 1≤(a0.size:Int) then (aH.j0 k (a0.extract 1 a0.size) ((bt a0 0) == 45)) else (none)) else (aH.j0 k a0 ((bt a0 0) == 45))) else (none))=some (r1,r2):=by rw [if_pos rfl] at H;exact H
  clear H
  have H:=H1
  clear H1
  by_cases c4:0 < (a0.size:Int)
  ·
   rw [if_pos c4] at H
   have oD:decide (0 < (a0.size:Int))=true:=decide_eq_true c4
   have Jm:decide (0 < a0.size)=true:=decide_eq_true (by omega)
   clear c4
   have HC6:=ae.mk H
   clear H
   go_enter Tryd.func64,Tryd.ntmps64
   go_upto_if 15 with (first|((with_reducible refine bz (f:=71) rfl ?_);refine dV (some 9) rfl rfl Tryd.func71 (by kernel_rfl) rfl #[.string a0] rfl (by (try simp only [List.map_toArray,List.map_cons,List.map_nil]);first|done|rfl|(simp only [List.length_drop,List.length_take];rfl)) ?_;(with_reducible refine (aG.calls k a0 true _ A2.out).mono ?_);rintro e w' ⟨rfl,⟨nd,rfl⟩⟩;refine ⟨_,rfl,?_⟩;have p5:0≤(0:Int):=(by omega);have q5:0 < a0.size:=(by have:(0:Int) < (a0.size:Int):=of_decide_eq_true (by first|(with_reducible assumption)|assumption);omega);have hx5:∀ h:0 < a0.size,((a0[0]'h).toNat:Int)=bt a0 0:=kY a0 0;clear p5;have qi5:(0 < (a0.size:Int))=True:=eq_true (of_decide_eq_true (by first|(with_reducible assumption)|assumption));replace q5:=eq_true q5))
   (try simp only [Act.put,List.setIfInBounds_toArray,List.set_cons_zero,List.set_cons_succ])
   go_cut [4] (fun v4 wc=>∃ (kq:Nat) (uP:ByteArray),v4=.string uP∧ae (aH.j0 kq uP ((bt a0 0) == 45)=some (r1,r2))∧ae (kq≤k)∧aU w wc)
   case first =>
    have H:=HC6.out
    clear HC6
    by_cases c7:(bt a0 0)=45
    ·
     rw [if_pos c7] at H
     have oQ:((bt a0 0) == 45)=true:=beq_iff_eq.mpr c7
     have yw:((bt a0 0) != 45)=false:=bne_eq_false_iff_eq.mpr c7
     clear c7
     (first|rw [oQ]|(simp only [bT,bW];rw [oQ])|skip)
     by_cases c8:1≤(a0.size:Int)
     ·
      rw [if_pos c8] at H
      have pU:=eq_true c8
      have zN:decide (1≤(a0.size:Int))=true:=decide_eq_true c8
      clear c8
      have H':=ae.mk H
      clear H
      go_wp2
      refine Met.intro ?_
      go_step
      (repeat apply Exists.intro)
      refine ⟨?rel,?same⟩
      case same=>rw [oQ]
      case rel=>exact ⟨_,(a0.extract 1 a0.size),(by first|rfl|(simp;done)|(simp [*];done)),H',⟨by first|omega|exact Nat.le_refl _⟩,by repeat (first|exact aU.refl _|apply aU.step)⟩
     ·
      rw [if_neg c8] at H
      exact absurd H (by simp)
    ·
     rw [if_neg c7] at H
     have oQ:((bt a0 0) == 45)=false:=beq_eq_false_iff_ne.mpr c7
     have yw:((bt a0 0) != 45)=true:=bne_iff_ne.mpr c7
     (first|rw [oQ]|(simp only [bT,bW];rw [oQ])|skip)
     have H':=ae.mk H
     clear H
     go_wp2
     refine Met.intro ?_
     go_step
     (repeat apply Exists.intro)
     refine ⟨?rel,?same⟩
     case same=>rw [oQ]
     case rel=>exact ⟨_,(a0),(by first|rfl|(simp;done)|(simp [*];done)),H',⟨by first|omega|exact Nat.le_refl _⟩,by repeat (first|exact aU.refl _|apply aU.step)⟩
   case rest =>
    clear HC6
    obtain ⟨kq,uP,rfl,HA,Jz,⟨mc5,rfl⟩⟩:=hcut
    cases kq with
    | zero=>exact absurd HA.out (by simp [aH.j0])
    | succ kj5 =>
     have H:=HA.out
     clear HA
     simp only [aH.j0] at H
     have HC9:=ae.mk H
     clear H
     go_upto_block 0 with (fail)
     go_cut [6] (fun v6 wc=>∃ (kq:Nat) (xy:Int),v6=.int .u64 xy∧ae (aH.j2 kq uP ((bt a0 0) == 45) xy=some (r1,r2))∧ae (kq≤kj5)∧aU w wc)
     case first =>
      have H:=HC9.out
      clear HC9
      have H':=ae.mk H
      clear H
      go_wp2
      go_loopg [6,7] kj5 (fun kq v6 v7 w'=>∃ (NU:Int) (wR:Int),v6=.int .u64 NU∧v7=.int .i64 wR∧ae (aH.l0 kq uP ((bt a0 0) == 45) NU wR=some (r1,r2))∧ae (kq≤kj5)∧aU w w')
      case atStart=>exact ⟨(0),(0),(by first|rfl|(simp;done)|(simp [*];done)),(by first|rfl|(simp;done)|(simp [*];done)),H',⟨Nat.le_refl _⟩,by repeat (first|exact aU.refl _|apply aU.step)⟩
      case round =>
       clear H'
       obtain ⟨NU,wR,rfl,rfl,HA,uM,⟨m2,rfl⟩⟩:=hrel
       cases gk with
       | zero=>exact absurd HA.out (by simp [aH.l0])
       | succ k2 =>
        have H:=HA.out
        clear HA
        simp only [aH.l0] at H
        by_cases c10:wR < (uP.size:Int)
        ·
         rw [if_pos c10] at H
         have pW:decide (wR < (uP.size:Int))=true:=decide_eq_true c10
         clear c10
         (first|rw [pW]|(simp only [bT,bW];rw [pW])|skip)
         by_cases c11:wR < 19
         ·
          rw [if_pos c11] at H
          have vz:decide (wR < 19)=true:=decide_eq_true c11
          clear c11
          by_cases c12:0≤wR
          ·
           rw [if_pos c12] at H
           have xq:decide (0≤wR)=true:=decide_eq_true c12
           clear c12
           have H':=ae.mk H
           clear H
           have p13:0≤(wR:Int):=of_decide_eq_true (by first|(with_reducible assumption)|assumption)
           have q13:wR < (uP.size:Int):=of_decide_eq_true (by first|(with_reducible assumption)|assumption)
           have UI:=kY uP wR
           replace p13:=eq_true p13
           replace q13:=eq_true q13
           go_wp2
           go_roundg k2
           case measure=>have:=Jz.out;have:=uM.out;omega
           case rel=>exact ⟨(IntKind.u64.wrap ((IntKind.u64.wrap (NU * 10))+(((bt uP wR) - 48) % 256))),(wrap64 (wR+1)),(by first|rfl|(simp;done)|(simp [*];done)),(by first|rfl|(simp;done)|(simp [*];done)),H',⟨by have:=Jz.out;have:=uM.out;omega⟩,by repeat (first|exact aU.refl _|apply aU.step)⟩
          ·
           rw [if_neg c12] at H
           exact absurd H (by simp)
         ·
          rw [if_neg c11] at H
          have vz:decide (wR < 19)=false:=decide_eq_false c11
          clear c11
          have H':=ae.mk H
          clear H
          go_wp2
          go_meet
          case rel=>exact ⟨_,(NU),(by first|rfl|(simp;done)|(simp [*];done)),H',⟨by have:=Jz.out;have:=uM.out;first|omega|exact Nat.le_refl _⟩,by repeat (first|exact aU.refl _|apply aU.step)⟩
        ·
         rw [if_neg c10] at H
         have pW:decide (wR < (uP.size:Int))=false:=decide_eq_false c10
         clear c10
         (first|rw [pW]|(simp only [bT,bW];rw [pW])|skip)
         have H':=ae.mk H
         clear H
         go_wp2
         go_meet
         case rel=>exact ⟨_,(NU),(by first|rfl|(simp;done)|(simp [*];done)),H',⟨by have:=Jz.out;have:=uM.out;first|omega|exact Nat.le_refl _⟩,by repeat (first|exact aU.refl _|apply aU.step)⟩
     case rest =>
      clear HC9
      obtain ⟨kq,xy,rfl,HA,HJ8,⟨mc8,rfl⟩⟩:=hcut
      cases kq with
      | zero=>exact absurd HA.out (by simp [aH.j2])
      | succ kj8 =>
       have H:=HA.out
       clear HA
       simp only [aH.j2] at H
       have JD:=ae.mk H
       clear H
       go_upto_if 36 with (fail)
       go_cut [36] (fun v36 wc=>∃ (kq:Nat) (Ej:Bool),v36=.bool Ej∧ae (aH.j3 kq ((bt a0 0) == 45) xy Ej=some (r1,r2))∧ae (kq≤kj8)∧aU w wc)
       case first =>
        have H:=JD.out
        clear JD
        by_cases c15:(uP.size:Int) > 19
        ·
         rw [if_pos c15] at H
         have qR:decide (19 < (uP.size:Int))=true:=decide_eq_true c15
         have Hr:decide (19 < uP.size)=true:=decide_eq_true (by omega)
         clear c15
         (first|rw [qR]|(simp only [bT,bW];rw [qR])|skip)
         have H':=ae.mk H
         clear H
         go_wp2
         go_meet
         case rel=>exact ⟨_,(decide ((uP.size:Int) > 19)),(by first|rfl|(simp;done)|(simp [*];done)),H',⟨by have:=Jz.out;have:=HJ8.out;first|omega|exact Nat.le_refl _⟩,by repeat (first|exact aU.refl _|apply aU.step)⟩
        ·
         rw [if_neg c15] at H
         have qR:decide (19 < (uP.size:Int))=false:=decide_eq_false c15
         have Hr:decide (19 < uP.size)=false:=decide_eq_false (by omega)
         clear c15
         (first|rw [qR]|(simp only [bT,bW];rw [qR])|skip)
         by_cases c16:xy > 9223372036854775808
         ·
          rw [if_pos c16] at H
          have BZ:decide (9223372036854775808 < xy)=true:=decide_eq_true c16
          clear c16
          have H':=ae.mk H
          clear H
          go_wp2
          go_meet
          case rel=>exact ⟨_,(decide (xy > 9223372036854775808)),(by first|rfl|(simp;done)|(simp [*];done)),H',⟨by have:=Jz.out;have:=HJ8.out;first|omega|exact Nat.le_refl _⟩,by repeat (first|exact aU.refl _|apply aU.step)⟩
         ·
          rw [if_neg c16] at H
          have BZ:decide (9223372036854775808 < xy)=false:=decide_eq_false c16
          clear c16
          by_cases c17:xy=9223372036854775808
          ·
           rw [if_pos c17] at H
           have zC:(xy == 9223372036854775808)=true:=beq_iff_eq.mpr c17
           have Hq:(xy != 9223372036854775808)=false:=bne_eq_false_iff_eq.mpr c17
           clear c17
           have H':=ae.mk H
           clear H
           go_wp2
           go_meet
           case rel=>exact ⟨_,(!((bt a0 0) == 45)),(by first|rfl|(simp;done)|(simp [*];done)),H',⟨by have:=Jz.out;have:=HJ8.out;first|omega|exact Nat.le_refl _⟩,by repeat (first|exact aU.refl _|apply aU.step)⟩
          ·
           rw [if_neg c17] at H
           have zC:(xy == 9223372036854775808)=false:=beq_eq_false_iff_ne.mpr c17
           have Hq:(xy != 9223372036854775808)=true:=bne_iff_ne.mpr c17
           have H':=ae.mk H
           clear H
           go_wp2
           go_meet
           case rel=>exact ⟨_,(false),(by first|rfl|(simp;done)|(simp [*];done)),H',⟨by have:=Jz.out;have:=HJ8.out;first|omega|exact Nat.le_refl _⟩,by repeat (first|exact aU.refl _|apply aU.step)⟩
       case rest =>
        clear JD
        obtain ⟨kq,Ej,rfl,HA,Ib,⟨art,rfl⟩⟩:=hcut
        cases kq with
        | zero=>exact absurd HA.out (by simp [aH.j3])
        | succ UC =>
         have H:=HA.out
         clear HA
         simp only [aH.j3] at H
         by_cases c18:Ej=true
         ·
          subst c18
          have H1:(some (0,3))=some (r1,r2):=by rw [if_pos rfl] at H;exact H
          clear H
          have H:=H1
          clear H1
          simp only [Option.some.injEq,Prod.mk.injEq] at H
          obtain ⟨rfl,rfl⟩:=H
          go_wp2
          go_ret2
          exact ⟨by first|rfl|(simp;done)|(simp [*];done),by repeat (first|exact aU.refl _|apply aU.step)⟩
         ·
          replace c18:=Bool.eq_false_iff.mpr c18
          subst c18
          have H1:(if ((bt a0 0) == 45)=true then (some (wrap64 (-(wrap64 (xy))),0)) else (some (wrap64 (xy),0)))=some (r1,r2):=by rw [if_neg (show ¬ (false=true) by decide)] at H;exact H
          clear H
          have H:=H1
          clear H1
          by_cases c19:((bt a0 0) == 45)=true
          ·
           rw [if_pos c19] at H
           have Ho:((bt a0 0) == 45)=true:=c19
           (try (have afv:decide ((bt a0 0)=45)=true:=by simpa using c19))
           (try (have afu:((bt a0 0) == 45)=true:=by simpa using c19))
           clear c19
           simp only [Option.some.injEq,Prod.mk.injEq] at H
           obtain ⟨rfl,rfl⟩:=H
           go_wp2
           go_ret2
           exact ⟨by first|rfl|(simp;done)|(simp [*];done),by repeat (first|exact aU.refl _|apply aU.step)⟩
          ·
           rw [if_neg c19] at H
           have Ho:((bt a0 0) == 45)=false:=by simpa using c19
           (try (have afv:decide ((bt a0 0)=45)=false:=by simpa using c19))
           (try (have afu:((bt a0 0) == 45)=false:=by simpa using c19))
           (try (have ap8:¬ ((bt a0 0)=45):=by simpa using c19))
           clear c19
           simp only [Option.some.injEq,Prod.mk.injEq] at H
           obtain ⟨rfl,rfl⟩:=H
           go_wp2
           go_ret2
           exact ⟨by first|rfl|(simp;done)|(simp [*];done),by repeat (first|exact aU.refl _|apply aU.step)⟩
  ·
   rw [if_neg c4] at H
   exact absurd H (by simp)
 ·
  replace c3:=Bool.eq_false_iff.mpr c3
  subst c3
  have H1:(some (0,4))=some (r1,r2):=by rw [if_neg (show ¬ (false=true) by decide)] at H;exact H
  clear H
  have H:=H1
  clear H1
  simp only [Option.some.injEq,Prod.mk.injEq] at H
  obtain ⟨rfl,rfl⟩:=H
  go_enter Tryd.func64,Tryd.ntmps64
  go_wp2_with (first|((with_reducible refine bz (f:=71) rfl ?_);refine dV (some 9) rfl rfl Tryd.func71 (by kernel_rfl) rfl #[.string a0] rfl (by (try simp only [List.map_toArray,List.map_cons,List.map_nil]);first|done|rfl|(simp only [List.length_drop,List.length_take];rfl)) ?_;(with_reducible refine (aG.calls k a0 false _ A2.out).mono ?_);rintro e w' ⟨rfl,⟨nd,rfl⟩⟩;refine ⟨_,rfl,?_⟩))
  go_ret2
  exact ⟨by first|rfl|(simp;done)|(simp [*];done),by repeat (first|exact aU.refl _|apply aU.step)⟩
def bf.j0:Nat→Int→Int→Bool→Int→Int→Int→Int→Int→Option (Int × Int × Int × Int × Int × Bool)
 | 0,_,_,_,_,_,_,_,_=>none
 | k+1,x1,x2,x18,zU,Ep,Eo,En,zT=>if x18=true then (some (zU,Ep,Eo,En,zT,false)) else (if x1=97 then (some (zU,(x2) % 256,Eo,En,zT,true)) else (if x1=98 then (some (zU,Ep,(x2) % 256,En,zT,true)) else (some (zU,Ep,Eo,(x2) % 256,zT,true))))
def bf.f (k:Nat) (dE:Int) (aV:Int) (aW:Int) (fD:Int) (fM:Int) (a1:Int) (a2:Int):Option (Int × Int × Int × Int × Int × Bool):=if a1=110 then (some (dE,aV,aW,fD,a2,true)) else (if a2 < 0 then (bf.j0 k a1 a2 true dE aV aW fD fM) else (bf.j0 k a1 a2 (decide (a2 > 255)) dE aV aW fD fM))
theorem bf.iF:∀ k,(∀ y0 y1 y2 y3 y4 y5 y6 y7,dP (bf.j0 k y0 y1 y2 y3 y4 y5 y6 y7) (bf.j0 (k+1) y0 y1 y2 y3 y4 y5 y6 y7))
 | 0=>fun _ _ _ _ _ _ _ _ r h=>by simp [bf.j0] at h
 | k+1=>by
  have lW:=bf.iF k
  ·
   intro y0 y1 y2 y3 y4 y5 y6 y7
   unfold bf.j0
   repeat' with_reducible first|apply lW|exact dP.refl _|exact dP.none _|refine dP.ite ?_ ?_|refine dP.bind ?_ (fun _=>?_)
theorem bf.mono:∀ a0 a1 a2 a3 a4 a5 a6 k,dP (bf.f k a0 a1 a2 a3 a4 a5 a6) (bf.f (k+1) a0 a1 a2 a3 a4 a5 a6):=by
 intro a0 a1 a2 a3 a4 a5 a6 k
 have lW:=bf.iF k
 unfold bf.f
 repeat' with_reducible first|apply lW|exact dP.refl _|exact dP.none _|refine dP.ite ?_ ?_|refine dP.bind ?_ (fun _=>?_)
set_option maxHeartbeats 8000000 in
set_option maxRecDepth 100000 in
theorem bf.calls (k:Nat) (dE:Int) (aV:Int) (aW:Int) (fD:Int) (fM:Int) (a1:Int) (a2:Int) (r1:Int) (r2:Int) (r3:Int) (r4:Int) (r5:Int) (r6:Bool) (w:World) (h:bf.f k dE aV aW fD fM a1 a2=some (r1,r2,r3,r4,r5,r6)) :
  Calls Tryd.prog 65 #[.agg #[.int .u8 dE,.int .u8 aV,.int .u8 aW,.int .u8 fD,.int .i64 fM],.int .u8 a1,.int .i64 a2] w fun e w'=>e=.returned (.tuple #[.agg #[.int .u8 r1,.int .u8 r2,.int .u8 r3,.int .u8 r4,.int .i64 r5],.bool r6])∧Below w.heap.size w w':=by
 have CW:=Tryd.underlying55
 have HB:=ae.mk (Below.refl w.heap.size w)
 have H:(if a1=110 then (some (dE,aV,aW,fD,a2,true)) else (if a2 < 0 then (bf.j0 k a1 a2 true dE aV aW fD fM) else (bf.j0 k a1 a2 (decide (a2 > 255)) dE aV aW fD fM)))=some (r1,r2,r3,r4,r5,r6):=h
 clear h
 by_cases c4:a1=110
 ·
  rw [if_pos c4] at H
  have oD:(a1 == 110)=true:=beq_iff_eq.mpr c4
  have Jm:(a1 != 110)=false:=bne_eq_false_iff_eq.mpr c4
  clear c4
  simp only [Option.some.injEq,Prod.mk.injEq] at H
  obtain ⟨rfl,rfl,rfl,rfl,rfl,rfl⟩:=H
  go_enter Tryd.func65,Tryd.ntmps65
  go_wp2_with (first|((with_reducible refine bD (N:=3) rfl ?_);refine fG ?hg (N:=3) ?hd (cs:=#[.int .u8 dE,.int .u8 aV,.int .u8 aW,.int .u8 fD,.int .i64 fM]) (t:=55) ?hr ?_;(case hd=>rfl);(case hg=>rfl);(case hr=>first|(go_simp;done)|(go_simp;rfl));intro xn hg w5 hbox hb;have dX:=ae.mk (bn (by repeat (first|(with_reducible first|exact HB.out|apply ah|apply ag|apply ai)|exact HB.out)) hb);have dW:=ae.mk (hbox);have dU:=ae.mk ((by rw [hg];exact (bY (by repeat (first|(with_reducible first|exact HB.out|apply ah|apply ag|apply ai)|exact HB.out))):w.heap.size≤xn));have iq:=dU;clear HB;have HB:=dX;have qK:=dW;have aga:=dU;have uG:=iq;clear dX dW dU iq;clear hb hbox hg)|((with_reducible refine bD (N:=6) rfl ?_);refine fG ?hg (N:=6) ?hd (cs:=#[.int .u8 0,.int .u8 0,.int .u8 0,.int .u8 0,.int .i64 0]) (t:=55) ?hr ?_;(case hd=>rfl);(case hg=>rfl);(case hr=>first|(go_simp;done)|(go_simp;rfl));intro vg hg w6 hbox hb;have dX:=ae.mk (bg (g:=xn) (o:=.cells #[.int .u8 dE,.int .u8 aV,.int .u8 aW,.int .u8 fD,.int .i64 fM] 55 (0,0)) (by (with_reducible repeat (first|refine au ?_ _|refine ay ?_|refine ak ?_ _));exact qK.out) hb);have dW:=ae.mk (bn (by repeat (first|(with_reducible first|exact HB.out|apply ah|apply ag|apply ai|refine aj ?_ uG.out)|exact HB.out)) hb);have dU:=ae.mk (hbox);have iq:=ae.mk ((by rw [hg];exact (bY (by repeat (first|(with_reducible first|exact HB.out|apply ah|apply ag|apply ai|refine aj ?_ uG.out)|exact HB.out))):w.heap.size≤vg));have mr:=iq;have ny:=ae.mk ((by rw [hg];exact Nat.ne_of_lt (kR (g:=xn) (o:=.cells #[.int .u8 dE,.int .u8 aV,.int .u8 aW,.int .u8 fD,.int .i64 fM] 55 (0,0)) (by (with_reducible repeat (first|refine au ?_ _|refine ay ?_|refine ak ?_ _));exact qK.out)):xn ≠ vg));have oz:=ae.mk ny.out.symm;clear qK;clear HB;have qK:=dX;have HB:=dW;have sH:=dU;have af9:=iq;have zH:=mr;have rE:=ny;have nG:=oz;clear dX dW dU iq mr ny oz;clear hb hbox hg;have arS:=rE.out;have arR:=nG.out;obtain ⟨QI,QH,QG,QF,aa6,Qy,Qx,Qw,Qv,aaZ⟩:=kF qK.out;obtain ⟨Jh,Jg,Jf,Je,anj,Jc,Jb,Ja,I9,am9⟩:=kF sH.out))
  refine bodyPost_ret (mJ rfl _ _ vg 55 #[.int .u8 dE,.int .u8 aV,.int .u8 aW,.int .u8 fD,.int .i64 a2] (0,0) _ rfl (by (with_reducible repeat (first|refine au ?_ _|refine ay ?_|refine ak ?_ _));refine dR (cs:=#[.int .u8 dE,.int .u8 aV,.int .u8 aW,.int .u8 fD,.int .i64 0]) ?_ 4 _ rfl;(with_reducible repeat (first|refine au ?_ _|refine ay ?_|refine ak ?_ _));refine dR (cs:=#[.int .u8 dE,.int .u8 aV,.int .u8 aW,.int .u8 0,.int .i64 0]) ?_ 3 _ rfl;(with_reducible repeat (first|refine au ?_ _|refine ay ?_|refine ak ?_ _));refine dR (cs:=#[.int .u8 dE,.int .u8 aV,.int .u8 0,.int .u8 0,.int .i64 0]) ?_ 2 _ rfl;(with_reducible repeat (first|refine au ?_ _|refine ay ?_|refine ak ?_ _));refine dR (cs:=#[.int .u8 dE,.int .u8 0,.int .u8 0,.int .u8 0,.int .i64 0]) ?_ 1 _ rfl;(with_reducible repeat (first|refine au ?_ _|refine ay ?_|refine ak ?_ _));refine dR (cs:=#[.int .u8 0,.int .u8 0,.int .u8 0,.int .u8 0,.int .i64 0]) ?_ 0 _ rfl;(with_reducible repeat (first|refine au ?_ _|refine ay ?_|refine ak ?_ _));refine fV ?_ nG.out _;(with_reducible repeat (first|refine au ?_ _|refine ay ?_|refine ak ?_ _));exact sH.out) Tryd.underlying55 rfl (by kernel_rfl)) rfl ?_
  exact ⟨by first|rfl|(simp [aQ,aN] <;> rfl)|(simp [*,aQ,aN] <;> rfl),by repeat (first|(with_reducible first|exact HB.out|apply ah|apply ag|apply ai|refine aj ?_ uG.out|refine aj ?_ zH.out)|exact HB.out)⟩
 ·
  rw [if_neg c4] at H
  have oD:(a1 == 110)=false:=beq_eq_false_iff_ne.mpr c4
  have Jm:(a1 != 110)=true:=bne_iff_ne.mpr c4
  have ab9:=ae.mk H
  clear H
  go_enter Tryd.func65,Tryd.ntmps65
  go_upto_region 4 with (first|((with_reducible refine bD (N:=3) rfl ?_);refine fG ?hg (N:=3) ?hd (cs:=#[.int .u8 dE,.int .u8 aV,.int .u8 aW,.int .u8 fD,.int .i64 fM]) (t:=55) ?hr ?_;(case hd=>rfl);(case hg=>rfl);(case hr=>first|(go_simp;done)|(go_simp;rfl));intro xn hg w11 hbox hb;have dX:=ae.mk (bn (by repeat (first|(with_reducible first|exact HB.out|apply ah|apply ag|apply ai)|exact HB.out)) hb);have dW:=ae.mk (hbox);have dU:=ae.mk ((by rw [hg];exact (bY (by repeat (first|(with_reducible first|exact HB.out|apply ah|apply ag|apply ai)|exact HB.out))):w.heap.size≤xn));have iq:=dU;clear HB;have HB:=dX;have qK:=dW;have aga:=dU;have uG:=iq;clear dX dW dU iq;clear hb hbox hg)|((with_reducible refine bD (N:=6) rfl ?_);refine fG ?hg (N:=6) ?hd (cs:=#[.int .u8 0,.int .u8 0,.int .u8 0,.int .u8 0,.int .i64 0]) (t:=55) ?hr ?_;(case hd=>rfl);(case hg=>rfl);(case hr=>first|(go_simp;done)|(go_simp;rfl));intro vg hg w12 hbox hb;have dX:=ae.mk (bg (g:=xn) (o:=.cells #[.int .u8 dE,.int .u8 aV,.int .u8 aW,.int .u8 fD,.int .i64 fM] 55 (0,0)) (by (with_reducible repeat (first|refine au ?_ _|refine ay ?_|refine ak ?_ _));exact qK.out) hb);have dW:=ae.mk (bn (by repeat (first|(with_reducible first|exact HB.out|apply ah|apply ag|apply ai|refine aj ?_ uG.out)|exact HB.out)) hb);have dU:=ae.mk (hbox);have iq:=ae.mk ((by rw [hg];exact (bY (by repeat (first|(with_reducible first|exact HB.out|apply ah|apply ag|apply ai|refine aj ?_ uG.out)|exact HB.out))):w.heap.size≤vg));have mr:=iq;have ny:=ae.mk ((by rw [hg];exact Nat.ne_of_lt (kR (g:=xn) (o:=.cells #[.int .u8 dE,.int .u8 aV,.int .u8 aW,.int .u8 fD,.int .i64 fM] 55 (0,0)) (by (with_reducible repeat (first|refine au ?_ _|refine ay ?_|refine ak ?_ _));exact qK.out)):xn ≠ vg));have oz:=ae.mk ny.out.symm;clear qK;clear HB;have qK:=dX;have HB:=dW;have sH:=dU;have af9:=iq;have zH:=mr;have rE:=ny;have nG:=oz;clear dX dW dU iq mr ny oz;clear hb hbox hg))
  (try simp only [Act.put,List.setIfInBounds_toArray,List.set_cons_zero,List.set_cons_succ])
  go_cut [18] (fun v18 wc=>∃ (kq:Nat) (JI:Bool),v18=.bool JI∧ae (bf.j0 kq a1 a2 JI dE aV aW fD fM=some (r1,r2,r3,r4,r5,r6))∧ae (kq≤k)∧ae (wc.heap[xn]? = some (.cells #[.int .u8 dE,.int .u8 aV,.int .u8 aW,.int .u8 fD,.int .i64 fM] 55 (0,0)))∧ae (wc.heap[vg]? = some (.cells #[.int .u8 0,.int .u8 0,.int .u8 0,.int .u8 0,.int .i64 0] 55 (0,0)))∧ae (Below w.heap.size w wc))
  case first =>
   have H:=ab9.out
   clear ab9
   by_cases c13:a2 < 0
   ·
    rw [if_pos c13] at H
    have mY:decide (a2 < 0)=true:=decide_eq_true c13
    clear c13
    (first|rw [mY]|(simp only [bT,bW];rw [mY])|skip)
    have H':=ae.mk H
    clear H
    go_wp2
    go_meet
    case rel=>exact ⟨_,(true),(by first|rfl|(simp;done)|(simp [*];done)),H',⟨by first|omega|exact Nat.le_refl _⟩,⟨by (with_reducible repeat (first|refine au ?_ _|refine ay ?_|refine ak ?_ _));exact qK.out⟩,⟨by (with_reducible repeat (first|refine au ?_ _|refine ay ?_|refine ak ?_ _));exact sH.out⟩,⟨by repeat (first|(with_reducible first|exact HB.out|apply ah|apply ag|apply ai|refine aj ?_ uG.out|refine aj ?_ zH.out)|exact HB.out)⟩⟩
   ·
    rw [if_neg c13] at H
    have mY:decide (a2 < 0)=false:=decide_eq_false c13
    clear c13
    (first|rw [mY]|(simp only [bT,bW];rw [mY])|skip)
    have H':=ae.mk H
    clear H
    go_wp2
    go_meet
    case rel=>exact ⟨_,(decide (a2 > 255)),(by first|rfl|(simp;done)|(simp [*];done)),H',⟨by first|omega|exact Nat.le_refl _⟩,⟨by (with_reducible repeat (first|refine au ?_ _|refine ay ?_|refine ak ?_ _));exact qK.out⟩,⟨by (with_reducible repeat (first|refine au ?_ _|refine ay ?_|refine ak ?_ _));exact sH.out⟩,⟨by repeat (first|(with_reducible first|exact HB.out|apply ah|apply ag|apply ai|refine aj ?_ uG.out|refine aj ?_ zH.out)|exact HB.out)⟩⟩
  case rest =>
   clear ab9
   obtain ⟨kq,JI,rfl,HA,HJ9,qK,sH,HB⟩:=hcut
   cases kq with
   | zero=>exact absurd HA.out (by simp [bf.j0])
   | succ kj9 =>
    have H:=HA.out
    clear HA
    simp only [bf.j0] at H
    by_cases c14:JI=true
    ·
     subst c14
     have H1:(some (dE,aV,aW,fD,fM,false))=some (r1,r2,r3,r4,r5,r6):=by rw [if_pos rfl] at H;exact H
     clear H
     have H:=H1
     clear H1
     simp only [Option.some.injEq,Prod.mk.injEq] at H
     obtain ⟨rfl,rfl,rfl,rfl,rfl,rfl⟩:=H
     have adA:=rE.out
     have adq:=nG.out
     obtain ⟨Fa,E8,E5,EZ,Nb,ES,ER,EP,EO,LM⟩:=kF qK.out
     obtain ⟨Na,MZ,MX,MW,XT,LK,LJ,LH,LG,V4⟩:=kF sH.out
     go_wp2
     refine bodyPost_ret (mJ rfl _ _ vg 55 #[.int .u8 dE,.int .u8 aV,.int .u8 aW,.int .u8 fD,.int .i64 fM] (0,0) _ rfl (by (with_reducible repeat (first|refine au ?_ _|refine ay ?_|refine ak ?_ _));refine dR (cs:=#[.int .u8 dE,.int .u8 aV,.int .u8 aW,.int .u8 fD,.int .i64 0]) ?_ 4 _ rfl;(with_reducible repeat (first|refine au ?_ _|refine ay ?_|refine ak ?_ _));refine dR (cs:=#[.int .u8 dE,.int .u8 aV,.int .u8 aW,.int .u8 0,.int .i64 0]) ?_ 3 _ rfl;(with_reducible repeat (first|refine au ?_ _|refine ay ?_|refine ak ?_ _));refine dR (cs:=#[.int .u8 dE,.int .u8 aV,.int .u8 0,.int .u8 0,.int .i64 0]) ?_ 2 _ rfl;(with_reducible repeat (first|refine au ?_ _|refine ay ?_|refine ak ?_ _));refine dR (cs:=#[.int .u8 dE,.int .u8 0,.int .u8 0,.int .u8 0,.int .i64 0]) ?_ 1 _ rfl;(with_reducible repeat (first|refine au ?_ _|refine ay ?_|refine ak ?_ _));refine dR (cs:=#[.int .u8 0,.int .u8 0,.int .u8 0,.int .u8 0,.int .i64 0]) ?_ 0 _ rfl;(with_reducible repeat (first|refine au ?_ _|refine ay ?_|refine ak ?_ _));exact sH.out) Tryd.underlying55 rfl (by kernel_rfl)) rfl ?_
     exact ⟨by first|rfl|(simp [aQ,aN] <;> rfl)|(simp [*,aQ,aN] <;> rfl),by repeat (first|(with_reducible first|exact HB.out|apply ah|apply ag|apply ai|refine aj ?_ uG.out|refine aj ?_ zH.out)|exact HB.out)⟩
    ·
     replace c14:=Bool.eq_false_iff.mpr c14
     subst c14
     have H1:(if a1=97 then (some (dE,(a2) % 256,aW,fD,fM,true)) else (if a1=98 then (some (dE,aV,(a2) % 256,fD,fM,true)) else (some (dE,aV,aW,(a2) % 256,fM,true))))=some (r1,r2,r3,r4,r5,r6):=by rw [if_neg (show ¬ (false=true) by decide)] at H;exact H
     clear H
     have H:=H1
     clear H1
     by_cases c18:a1=97
     ·
      rw [if_pos c18] at H
      have Zy:(a1 == 97)=true:=beq_iff_eq.mpr c18
      have afw:(a1 != 97)=false:=bne_eq_false_iff_eq.mpr c18
      clear c18
      simp only [Option.some.injEq,Prod.mk.injEq] at H
      obtain ⟨rfl,rfl,rfl,rfl,rfl,rfl⟩:=H
      have apx:=rE.out
      have ao5:=nG.out
      obtain ⟨XQ,XP,XO,XN,amj,VZ,VY,VX,VW,aj1⟩:=kF qK.out
      obtain ⟨XM,XL,XK,XJ,ami,VV,VU,VT,VS,aj0⟩:=kF sH.out
      go_wp2
      refine bodyPost_ret (mJ rfl _ _ vg 55 #[.int .u8 dE,.int .u8 ((a2) % 256),.int .u8 aW,.int .u8 fD,.int .i64 fM] (0,0) _ rfl (by (with_reducible repeat (first|refine au ?_ _|refine ay ?_|refine ak ?_ _));refine dR (cs:=#[.int .u8 dE,.int .u8 ((a2) % 256),.int .u8 aW,.int .u8 fD,.int .i64 0]) ?_ 4 _ rfl;(with_reducible repeat (first|refine au ?_ _|refine ay ?_|refine ak ?_ _));refine dR (cs:=#[.int .u8 dE,.int .u8 ((a2) % 256),.int .u8 aW,.int .u8 0,.int .i64 0]) ?_ 3 _ rfl;(with_reducible repeat (first|refine au ?_ _|refine ay ?_|refine ak ?_ _));refine dR (cs:=#[.int .u8 dE,.int .u8 ((a2) % 256),.int .u8 0,.int .u8 0,.int .i64 0]) ?_ 2 _ rfl;(with_reducible repeat (first|refine au ?_ _|refine ay ?_|refine ak ?_ _));refine dR (cs:=#[.int .u8 dE,.int .u8 0,.int .u8 0,.int .u8 0,.int .i64 0]) ?_ 1 _ rfl;(with_reducible repeat (first|refine au ?_ _|refine ay ?_|refine ak ?_ _));refine dR (cs:=#[.int .u8 0,.int .u8 0,.int .u8 0,.int .u8 0,.int .i64 0]) ?_ 0 _ rfl;(with_reducible repeat (first|refine au ?_ _|refine ay ?_|refine ak ?_ _));refine fV ?_ nG.out _;(with_reducible repeat (first|refine au ?_ _|refine ay ?_|refine ak ?_ _));exact sH.out) Tryd.underlying55 rfl (by kernel_rfl)) rfl ?_
      exact ⟨by first|rfl|(simp [aQ,aN] <;> rfl)|(simp [*,aQ,aN] <;> rfl),by repeat (first|(with_reducible first|exact HB.out|apply ah|apply ag|apply ai|refine aj ?_ uG.out|refine aj ?_ zH.out)|exact HB.out)⟩
     ·
      rw [if_neg c18] at H
      have Zy:(a1 == 97)=false:=beq_eq_false_iff_ne.mpr c18
      have afw:(a1 != 97)=true:=bne_iff_ne.mpr c18
      by_cases ru:a1=98
      ·
       rw [if_pos ru] at H
       have RN:(a1 == 98)=true:=beq_iff_eq.mpr ru
       have RJ:(a1 != 98)=false:=bne_eq_false_iff_eq.mpr ru
       clear ru
       simp only [Option.some.injEq,Prod.mk.injEq] at H
       obtain ⟨rfl,rfl,rfl,rfl,rfl,rfl⟩:=H
       have adz:=rE.out
       have adp:=nG.out
       obtain ⟨XI,XH,XG,XF,XE,VR,VQ,VP,VO,VN⟩:=kF qK.out
       obtain ⟨Ap,Am,Ak,Aj,EY,Ae,Ad,Ac,Aa,EN⟩:=kF sH.out
       go_wp2
       refine bodyPost_ret (mJ rfl _ _ vg 55 #[.int .u8 dE,.int .u8 aV,.int .u8 ((a2) % 256),.int .u8 fD,.int .i64 fM] (0,0) _ rfl (by (with_reducible repeat (first|refine au ?_ _|refine ay ?_|refine ak ?_ _));refine dR (cs:=#[.int .u8 dE,.int .u8 aV,.int .u8 ((a2) % 256),.int .u8 fD,.int .i64 0]) ?_ 4 _ rfl;(with_reducible repeat (first|refine au ?_ _|refine ay ?_|refine ak ?_ _));refine dR (cs:=#[.int .u8 dE,.int .u8 aV,.int .u8 ((a2) % 256),.int .u8 0,.int .i64 0]) ?_ 3 _ rfl;(with_reducible repeat (first|refine au ?_ _|refine ay ?_|refine ak ?_ _));refine dR (cs:=#[.int .u8 dE,.int .u8 aV,.int .u8 0,.int .u8 0,.int .i64 0]) ?_ 2 _ rfl;(with_reducible repeat (first|refine au ?_ _|refine ay ?_|refine ak ?_ _));refine dR (cs:=#[.int .u8 dE,.int .u8 0,.int .u8 0,.int .u8 0,.int .i64 0]) ?_ 1 _ rfl;(with_reducible repeat (first|refine au ?_ _|refine ay ?_|refine ak ?_ _));refine dR (cs:=#[.int .u8 0,.int .u8 0,.int .u8 0,.int .u8 0,.int .i64 0]) ?_ 0 _ rfl;(with_reducible repeat (first|refine au ?_ _|refine ay ?_|refine ak ?_ _));refine fV ?_ nG.out _;(with_reducible repeat (first|refine au ?_ _|refine ay ?_|refine ak ?_ _));exact sH.out) Tryd.underlying55 rfl (by kernel_rfl)) rfl ?_
       exact ⟨by first|rfl|(simp [aQ,aN] <;> rfl)|(simp [*,aQ,aN] <;> rfl),by repeat (first|(with_reducible first|exact HB.out|apply ah|apply ag|apply ai|refine aj ?_ uG.out|refine aj ?_ zH.out)|exact HB.out)⟩
      ·
       rw [if_neg ru] at H
       have RN:(a1 == 98)=false:=beq_eq_false_iff_ne.mpr ru
       have RJ:(a1 != 98)=true:=bne_iff_ne.mpr ru
       simp only [Option.some.injEq,Prod.mk.injEq] at H
       obtain ⟨rfl,rfl,rfl,rfl,rfl,rfl⟩:=H
       have apv:=rE.out
       have ao3:=nG.out
       obtain ⟨amg,amf,ame,amd,amc,ajY,ajX,ajW,ajV,ajU⟩:=kF qK.out
       obtain ⟨ML,MK,MJ,MI,XD,Ll,Lj,Lh,Le,VM⟩:=kF sH.out
       go_wp2
       refine bodyPost_ret (mJ rfl _ _ vg 55 #[.int .u8 dE,.int .u8 aV,.int .u8 aW,.int .u8 ((a2) % 256),.int .i64 fM] (0,0) _ rfl (by (with_reducible repeat (first|refine au ?_ _|refine ay ?_|refine ak ?_ _));refine dR (cs:=#[.int .u8 dE,.int .u8 aV,.int .u8 aW,.int .u8 ((a2) % 256),.int .i64 0]) ?_ 4 _ rfl;(with_reducible repeat (first|refine au ?_ _|refine ay ?_|refine ak ?_ _));refine dR (cs:=#[.int .u8 dE,.int .u8 aV,.int .u8 aW,.int .u8 0,.int .i64 0]) ?_ 3 _ rfl;(with_reducible repeat (first|refine au ?_ _|refine ay ?_|refine ak ?_ _));refine dR (cs:=#[.int .u8 dE,.int .u8 aV,.int .u8 0,.int .u8 0,.int .i64 0]) ?_ 2 _ rfl;(with_reducible repeat (first|refine au ?_ _|refine ay ?_|refine ak ?_ _));refine dR (cs:=#[.int .u8 dE,.int .u8 0,.int .u8 0,.int .u8 0,.int .i64 0]) ?_ 1 _ rfl;(with_reducible repeat (first|refine au ?_ _|refine ay ?_|refine ak ?_ _));refine dR (cs:=#[.int .u8 0,.int .u8 0,.int .u8 0,.int .u8 0,.int .i64 0]) ?_ 0 _ rfl;(with_reducible repeat (first|refine au ?_ _|refine ay ?_|refine ak ?_ _));refine fV ?_ nG.out _;(with_reducible repeat (first|refine au ?_ _|refine ay ?_|refine ak ?_ _));exact sH.out) Tryd.underlying55 rfl (by kernel_rfl)) rfl ?_
       exact ⟨by first|rfl|(simp [aQ,aN] <;> rfl)|(simp [*,aQ,aN] <;> rfl),by repeat (first|(with_reducible first|exact HB.out|apply ah|apply ag|apply ai|refine aj ?_ uG.out|refine aj ?_ zH.out)|exact HB.out)⟩
end Go.Proofs.YtlemecdddhdagaaDoor.P
end
