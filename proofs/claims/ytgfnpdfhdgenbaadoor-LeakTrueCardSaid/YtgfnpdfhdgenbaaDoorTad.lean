/- Parts of the proof of LeakTrue: what the functions that it reaches compute, and plain facts about that. -/
import Derived.Test.YtgfnpdfhdgenbaaDoorTab
import Derived.Test.YtgfnpdfhdgenbaaDoorTac
set_option linter.unusedVariables false
set_option linter.unusedSimpArgs false
section
namespace Go.Proofs.YtgfnpdfhdgenbaaDoor.P
open Go.RowKit Go.Proofs.ae.bf Go.Proofs.ae.bY Go.Proofs.ae.cZ
attribute [local go_sem] kU kS mF mD jR jQ kT kR
mutual
def aA.j0:Nat→ByteArray→Bool→Option (Int × Int)
 | 0,_,_=>none
 | k+1,x4,x5=>aA.l0 k x4 x5 0 0
def aA.j2:Nat→ByteArray→Bool→Int→Option (Int × Int)
 | 0,_,_,_=>none
 | k+1,x4,x5,x6=>if (x4.size:Int) > 19 then (aA.j3 k x5 x6 (decide ((x4.size:Int) > 19))) else (if x6 > 9223372036854775808 then (aA.j3 k x5 x6 (decide (x6 > 9223372036854775808))) else (if x6=9223372036854775808 then (aA.j3 k x5 x6 (!x5)) else (aA.j3 k x5 x6 false)))
def aA.j3:Nat→Bool→Int→Bool→Option (Int × Int)
 | 0,_,_,_=>none
 | k+1,x5,x6,x36=>if x36=true then (some (0,3)) else (if x5=true then (some (wrap64 (-(wrap64 (x6))),0)) else (some (wrap64 (x6),0)))
def aA.l0:Nat→ByteArray→Bool→Int→Int→Option (Int × Int)
 | 0,_,_,_,_=>none
 | k+1,x4,x5,x6,x7=>if x7 < (x4.size:Int) then (if x7 < 19 then (if 0≤x7 then (aA.l0 k x4 x5 (IntKind.u64.wrap ((IntKind.u64.wrap (x6 * 10))+(((bt x4 x7) - 48) % 256))) (wrap64 (x7+1))) else (none)) else (aA.j2 k x4 x5 x6)) else (aA.j2 k x4 x5 x6)
end
def aA.f (k:Nat) (a0:ByteArray):Option (Int × Int):=(az.f k a0).bind fun t109=>(if t109=true then (if 0 < (a0.size:Int) then (if (bt a0 0)=45 then (if 1≤(a0.size:Int) then (aA.j0 k (a0.extract 1 a0.size) ((bt a0 0) == 45)) else (none)) else (aA.j0 k a0 ((bt a0 0) == 45))) else (none)) else (some (0,4)))
theorem aA.iF:∀ k,(∀ y0 y1,eu (aA.j0 k y0 y1) (aA.j0 (k+1) y0 y1))∧(∀ y0 y1 y2,eu (aA.j2 k y0 y1 y2) (aA.j2 (k+1) y0 y1 y2))∧(∀ y0 y1 y2,eu (aA.j3 k y0 y1 y2) (aA.j3 (k+1) y0 y1 y2))∧(∀ y0 y1 y2 y3,eu (aA.l0 k y0 y1 y2 y3) (aA.l0 (k+1) y0 y1 y2 y3))
 | 0=>⟨fun _ _ r h=>by simp [aA.j0] at h,fun _ _ _ r h=>by simp [aA.j2] at h,fun _ _ _ r h=>by simp [aA.j3] at h,fun _ _ _ _ r h=>by simp [aA.l0] at h⟩
 | k+1=>by
  obtain ⟨nI,ih1,ih2,ih3⟩:=aA.iF k
  refine ⟨?_,?_,?_,?_⟩
  ·
   intro y0 y1
   unfold aA.j0
   repeat' with_reducible first|apply nI|apply ih1|apply ih2|apply ih3|apply az.mono|exact eu.refl _|exact eu.none _|refine eu.ite ?_ ?_|refine eu.bind ?_ (fun _=>?_)
  ·
   intro y0 y1 y2
   unfold aA.j2
   repeat' with_reducible first|apply nI|apply ih1|apply ih2|apply ih3|apply az.mono|exact eu.refl _|exact eu.none _|refine eu.ite ?_ ?_|refine eu.bind ?_ (fun _=>?_)
  ·
   intro y0 y1 y2
   unfold aA.j3
   repeat' with_reducible first|apply nI|apply ih1|apply ih2|apply ih3|apply az.mono|exact eu.refl _|exact eu.none _|refine eu.ite ?_ ?_|refine eu.bind ?_ (fun _=>?_)
  ·
   intro y0 y1 y2 y3
   unfold aA.l0
   repeat' with_reducible first|apply nI|apply ih1|apply ih2|apply ih3|apply az.mono|exact eu.refl _|exact eu.none _|refine eu.ite ?_ ?_|refine eu.bind ?_ (fun _=>?_)
theorem aA.mono:∀ a0 k,eu (aA.f k a0) (aA.f (k+1) a0):=by
 intro a0 k
 obtain ⟨nI,ih1,ih2,ih3⟩:=aA.iF k
 unfold aA.f
 repeat' with_reducible first|apply nI|apply ih1|apply ih2|apply ih3|apply az.mono|exact eu.refl _|exact eu.none _|refine eu.ite ?_ ?_|refine eu.bind ?_ (fun _=>?_)
set_option maxHeartbeats 8000000 in
set_option maxRecDepth 100000 in
theorem aA.calls (k:Nat) (a0:ByteArray) (r1:Int) (r2:Int) (w:World) (h:aA.f k a0=some (r1,r2)) :
  Calls Tryd.prog 39 #[.string a0] w fun e w'=>e=.returned (.tuple #[.int .i64 r1,.int .i64 r2])∧bz w w':=by
 have H:((az.f k a0).bind fun t109=>(if t109=true then (if 0 < (a0.size:Int) then (if (bt a0 0)=45 then (if 1≤(a0.size:Int) then (aA.j0 k (a0.extract 1 a0.size) ((bt a0 0) == 45)) else (none)) else (aA.j0 k a0 ((bt a0 0) == 45))) else (none)) else (some (0,4))))=some (r1,r2):=h
 clear h
 replace H:=Option.bind_eq_some_iff.mp H
 obtain ⟨t109,KR,H⟩:=H
 replace H:(if t109=true then (if 0 < (a0.size:Int) then (if (bt a0 0)=45 then (if 1≤(a0.size:Int) then (aA.j0 k (a0.extract 1 a0.size) ((bt a0 0) == 45)) else (none)) else (aA.j0 k a0 ((bt a0 0) == 45))) else (none)) else (some (0,4)))=some (r1,r2):=H
 have A2:=af.mk KR
 clear KR
 by_cases c3:t109=true
 ·
  subst c3
  have H1:(if 0 < (a0.size:Int) then (if (bt a0 0)=45 then (if 1≤(a0.size:Int) then (aA.j0 k (a0.extract 1 a0.size) ((bt a0 0) == 45)) else (none)) else (aA.j0 k a0 ((bt a0 0) == 45))) else (none))=some (r1,r2):=by rw [if_pos rfl] at H;exact H
  clear H
  have H:=H1
  clear H1
  by_cases c4:0 < (a0.size:Int)
  ·
   rw [if_pos c4] at H
   have qp:decide (0 < (a0.size:Int))=true:=decide_eq_true c4
   have DW:decide (0 < a0.size)=true:=decide_eq_true (by omega)
   clear c4
   have XY:=af.mk H
   clear H
   go_enter Tryd.func39,Tryd.ntmps39
   go_upto_if 15 with (first|((with_reducible refine bV (f:=43) rfl ?_);refine fU (some 9) rfl rfl Tryd.func43 (by kernel_rfl) rfl #[.string a0] rfl (by (try simp only [List.map_toArray,List.map_cons,List.map_nil]);first|done|rfl|(simp only [List.length_drop,List.length_take];rfl)) ?_;(with_reducible refine (az.calls k a0 true _ A2.out).mono ?_);rintro e w' ⟨rfl,⟨nd,rfl⟩⟩;refine ⟨_,rfl,?_⟩;have p5:0≤(0:Int):=(by omega);have q5:0 < a0.size:=(by have:(0:Int) < (a0.size:Int):=of_decide_eq_true (by first|(with_reducible assumption)|assumption);omega);have hx5:∀ h:0 < a0.size,((a0[0]'h).toNat:Int)=bt a0 0:=lI a0 0;clear p5;have qi5:(0 < (a0.size:Int))=True:=eq_true (of_decide_eq_true (by first|(with_reducible assumption)|assumption));replace q5:=eq_true q5))
   (try simp only [Act.put,List.setIfInBounds_toArray,List.set_cons_zero,List.set_cons_succ])
   go_cut [4] (fun v4 wc=>∃ (kq:Nat) (sN:ByteArray),v4=.string sN∧af (aA.j0 kq sN ((bt a0 0) == 45)=some (r1,r2))∧af (kq≤k)∧bz w wc)
   case first =>
    have H:=XY.out
    clear XY
    by_cases c7:(bt a0 0)=45
    ·
     rw [if_pos c7] at H
     have pU:((bt a0 0) == 45)=true:=beq_iff_eq.mpr c7
     have Ai:((bt a0 0) != 45)=false:=bne_eq_false_iff_eq.mpr c7
     clear c7
     (first|rw [pU]|(simp only [aX,aY];rw [pU])|skip)
     by_cases c8:1≤(a0.size:Int)
     ·
      rw [if_pos c8] at H
      have vY:=eq_true c8
      have ES:decide (1≤(a0.size:Int))=true:=decide_eq_true c8
      clear c8
      have H':=af.mk H
      clear H
      go_wp2
      refine Met.intro ?_
      go_step
      (repeat apply Exists.intro)
      refine ⟨?rel,?same⟩
      case same=>rw [pU]
      case rel=>exact ⟨_,(a0.extract 1 a0.size),(by first|rfl|(simp;done)|(simp [*];done)),H',⟨by first|omega|exact Nat.le_refl _⟩,by repeat (first|exact bz.refl _|apply bz.step)⟩
     ·
      rw [if_neg c8] at H
      exact absurd H (by simp)
    ·
     rw [if_neg c7] at H
     have pU:((bt a0 0) == 45)=false:=beq_eq_false_iff_ne.mpr c7
     have Ai:((bt a0 0) != 45)=true:=bne_iff_ne.mpr c7
     (first|rw [pU]|(simp only [aX,aY];rw [pU])|skip)
     have H':=af.mk H
     clear H
     go_wp2
     refine Met.intro ?_
     go_step
     (repeat apply Exists.intro)
     refine ⟨?rel,?same⟩
     case same=>rw [pU]
     case rel=>exact ⟨_,(a0),(by first|rfl|(simp;done)|(simp [*];done)),H',⟨by first|omega|exact Nat.le_refl _⟩,by repeat (first|exact bz.refl _|apply bz.step)⟩
   case rest =>
    clear XY
    obtain ⟨kq,sN,rfl,HA,Ij,⟨mc5,rfl⟩⟩:=hcut
    cases kq with
    | zero=>exact absurd HA.out (by simp [aA.j0])
    | succ YN =>
     have H:=HA.out
     clear HA
     simp only [aA.j0] at H
     have XX:=af.mk H
     clear H
     go_upto_block 0 with (fail)
     go_cut [6] (fun v6 wc=>∃ (kq:Nat) (uI:Int),v6=.int .u64 uI∧af (aA.j2 kq sN ((bt a0 0) == 45) uI=some (r1,r2))∧af (kq≤YN)∧bz w wc)
     case first =>
      have H:=XX.out
      clear XX
      have H':=af.mk H
      clear H
      go_wp2
      go_loopg [6,7] YN (fun kq v6 v7 w'=>∃ (KT:Int) (uq:Int),v6=.int .u64 KT∧v7=.int .i64 uq∧af (aA.l0 kq sN ((bt a0 0) == 45) KT uq=some (r1,r2))∧af (kq≤YN)∧bz w w')
      case atStart=>exact ⟨(0),(0),(by first|rfl|(simp;done)|(simp [*];done)),(by first|rfl|(simp;done)|(simp [*];done)),H',⟨Nat.le_refl _⟩,by repeat (first|exact bz.refl _|apply bz.step)⟩
      case round =>
       clear H'
       obtain ⟨KT,uq,rfl,rfl,HA,sJ,⟨m2,rfl⟩⟩:=hrel
       cases gk with
       | zero=>exact absurd HA.out (by simp [aA.l0])
       | succ k2 =>
        have H:=HA.out
        clear HA
        simp only [aA.l0] at H
        by_cases c10:uq < (sN.size:Int)
        ·
         rw [if_pos c10] at H
         have pX:decide (uq < (sN.size:Int))=true:=decide_eq_true c10
         clear c10
         (first|rw [pX]|(simp only [aX,aY];rw [pX])|skip)
         by_cases c11:uq < 19
         ·
          rw [if_pos c11] at H
          have uD:decide (uq < 19)=true:=decide_eq_true c11
          clear c11
          by_cases c12:0≤uq
          ·
           rw [if_pos c12] at H
           have vZ:decide (0≤uq)=true:=decide_eq_true c12
           clear c12
           have H':=af.mk H
           clear H
           have p13:0≤(uq:Int):=of_decide_eq_true (by first|(with_reducible assumption)|assumption)
           have q13:uq < (sN.size:Int):=of_decide_eq_true (by first|(with_reducible assumption)|assumption)
           have agV:=lI sN uq
           replace p13:=eq_true p13
           replace q13:=eq_true q13
           go_wp2
           go_roundg k2
           case measure=>have:=Ij.out;have:=sJ.out;omega
           case rel=>exact ⟨(IntKind.u64.wrap ((IntKind.u64.wrap (KT * 10))+(((bt sN uq) - 48) % 256))),(wrap64 (uq+1)),(by first|rfl|(simp;done)|(simp [*];done)),(by first|rfl|(simp;done)|(simp [*];done)),H',⟨by have:=Ij.out;have:=sJ.out;omega⟩,by repeat (first|exact bz.refl _|apply bz.step)⟩
          ·
           rw [if_neg c12] at H
           exact absurd H (by simp)
         ·
          rw [if_neg c11] at H
          have uD:decide (uq < 19)=false:=decide_eq_false c11
          clear c11
          have H':=af.mk H
          clear H
          go_wp2
          go_meet
          case rel=>exact ⟨_,(KT),(by first|rfl|(simp;done)|(simp [*];done)),H',⟨by have:=Ij.out;have:=sJ.out;first|omega|exact Nat.le_refl _⟩,by repeat (first|exact bz.refl _|apply bz.step)⟩
        ·
         rw [if_neg c10] at H
         have pX:decide (uq < (sN.size:Int))=false:=decide_eq_false c10
         clear c10
         (first|rw [pX]|(simp only [aX,aY];rw [pX])|skip)
         have H':=af.mk H
         clear H
         go_wp2
         go_meet
         case rel=>exact ⟨_,(KT),(by first|rfl|(simp;done)|(simp [*];done)),H',⟨by have:=Ij.out;have:=sJ.out;first|omega|exact Nat.le_refl _⟩,by repeat (first|exact bz.refl _|apply bz.step)⟩
     case rest =>
      clear XX
      obtain ⟨kq,uI,rfl,HA,XV,⟨mc8,rfl⟩⟩:=hcut
      cases kq with
      | zero=>exact absurd HA.out (by simp [aA.j2])
      | succ kj8 =>
       have H:=HA.out
       clear HA
       simp only [aA.j2] at H
       have Ik:=af.mk H
       clear H
       go_upto_if 36 with (fail)
       go_cut [36] (fun v36 wc=>∃ (kq:Nat) (BD:Bool),v36=.bool BD∧af (aA.j3 kq ((bt a0 0) == 45) uI BD=some (r1,r2))∧af (kq≤kj8)∧bz w wc)
       case first =>
        have H:=Ik.out
        clear Ik
        by_cases c15:(sN.size:Int) > 19
        ·
         rw [if_pos c15] at H
         have pW:decide (19 < (sN.size:Int))=true:=decide_eq_true c15
         have zG:decide (19 < sN.size)=true:=decide_eq_true (by omega)
         clear c15
         (first|rw [pW]|(simp only [aX,aY];rw [pW])|skip)
         have H':=af.mk H
         clear H
         go_wp2
         go_meet
         case rel=>exact ⟨_,(decide ((sN.size:Int) > 19)),(by first|rfl|(simp;done)|(simp [*];done)),H',⟨by have:=Ij.out;have:=XV.out;first|omega|exact Nat.le_refl _⟩,by repeat (first|exact bz.refl _|apply bz.step)⟩
        ·
         rw [if_neg c15] at H
         have pW:decide (19 < (sN.size:Int))=false:=decide_eq_false c15
         have zG:decide (19 < sN.size)=false:=decide_eq_false (by omega)
         clear c15
         (first|rw [pW]|(simp only [aX,aY];rw [pW])|skip)
         by_cases c16:uI > 9223372036854775808
         ·
          rw [if_pos c16] at H
          have EZ:decide (9223372036854775808 < uI)=true:=decide_eq_true c16
          clear c16
          have H':=af.mk H
          clear H
          go_wp2
          go_meet
          case rel=>exact ⟨_,(decide (uI > 9223372036854775808)),(by first|rfl|(simp;done)|(simp [*];done)),H',⟨by have:=Ij.out;have:=XV.out;first|omega|exact Nat.le_refl _⟩,by repeat (first|exact bz.refl _|apply bz.step)⟩
         ·
          rw [if_neg c16] at H
          have EZ:decide (9223372036854775808 < uI)=false:=decide_eq_false c16
          clear c16
          by_cases c17:uI=9223372036854775808
          ·
           rw [if_pos c17] at H
           have xB:(uI == 9223372036854775808)=true:=beq_iff_eq.mpr c17
           have EY:(uI != 9223372036854775808)=false:=bne_eq_false_iff_eq.mpr c17
           clear c17
           have H':=af.mk H
           clear H
           go_wp2
           go_meet
           case rel=>exact ⟨_,(!((bt a0 0) == 45)),(by first|rfl|(simp;done)|(simp [*];done)),H',⟨by have:=Ij.out;have:=XV.out;first|omega|exact Nat.le_refl _⟩,by repeat (first|exact bz.refl _|apply bz.step)⟩
          ·
           rw [if_neg c17] at H
           have xB:(uI == 9223372036854775808)=false:=beq_eq_false_iff_ne.mpr c17
           have EY:(uI != 9223372036854775808)=true:=bne_iff_ne.mpr c17
           have H':=af.mk H
           clear H
           go_wp2
           go_meet
           case rel=>exact ⟨_,(false),(by first|rfl|(simp;done)|(simp [*];done)),H',⟨by have:=Ij.out;have:=XV.out;first|omega|exact Nat.le_refl _⟩,by repeat (first|exact bz.refl _|apply bz.step)⟩
       case rest =>
        clear Ik
        obtain ⟨kq,BD,rfl,HA,FB,⟨alN,rfl⟩⟩:=hcut
        cases kq with
        | zero=>exact absurd HA.out (by simp [aA.j3])
        | succ Qw =>
         have H:=HA.out
         clear HA
         simp only [aA.j3] at H
         by_cases c18:BD=true
         ·
          subst c18
          have H1:(some (0,3))=some (r1,r2):=by rw [if_pos rfl] at H;exact H
          clear H
          have H:=H1
          clear H1
          simp only [Option.some.injEq,Prod.mk.injEq] at H
          obtain ⟨rfl,rfl⟩:=H
          go_wp2
          go_ret2
          exact ⟨by first|rfl|(simp;done)|(simp [*];done),by repeat (first|exact bz.refl _|apply bz.step)⟩
         ·
          replace c18:=Bool.eq_false_iff.mpr c18
          subst c18
          have H1:(if ((bt a0 0) == 45)=true then (some (wrap64 (-(wrap64 (uI))),0)) else (some (wrap64 (uI),0)))=some (r1,r2):=by rw [if_neg (show ¬ (false=true) by decide)] at H;exact H
          clear H
          have H:=H1
          clear H1
          by_cases c19:((bt a0 0) == 45)=true
          ·
           rw [if_pos c19] at H
           have zF:((bt a0 0) == 45)=true:=c19
           (try (have Vp:decide ((bt a0 0)=45)=true:=by simpa using c19))
           (try (have ZI:((bt a0 0) == 45)=true:=by simpa using c19))
           clear c19
           simp only [Option.some.injEq,Prod.mk.injEq] at H
           obtain ⟨rfl,rfl⟩:=H
           go_wp2
           go_ret2
           exact ⟨by first|rfl|(simp;done)|(simp [*];done),by repeat (first|exact bz.refl _|apply bz.step)⟩
          ·
           rw [if_neg c19] at H
           have zF:((bt a0 0) == 45)=false:=by simpa using c19
           (try (have Vp:decide ((bt a0 0)=45)=false:=by simpa using c19))
           (try (have ZI:((bt a0 0) == 45)=false:=by simpa using c19))
           (try (have aky:¬ ((bt a0 0)=45):=by simpa using c19))
           clear c19
           simp only [Option.some.injEq,Prod.mk.injEq] at H
           obtain ⟨rfl,rfl⟩:=H
           go_wp2
           go_ret2
           exact ⟨by first|rfl|(simp;done)|(simp [*];done),by repeat (first|exact bz.refl _|apply bz.step)⟩
  ·
   rw [if_neg c4] at H
   exact absurd H (by simp)
 ·
  replace c3:=Bool.eq_false_iff.mpr c3
  subst c3
  have H1:(some (0,4))=some (r1,r2):=by rw [if_neg (show ¬ (false=true) by decide)] at H;exact H
  clear H
  have H:=H1
  clear H1
  simp only [Option.some.injEq,Prod.mk.injEq] at H
  obtain ⟨rfl,rfl⟩:=H
  go_enter Tryd.func39,Tryd.ntmps39
  go_wp2_with (first|((with_reducible refine bV (f:=43) rfl ?_);refine fU (some 9) rfl rfl Tryd.func43 (by kernel_rfl) rfl #[.string a0] rfl (by (try simp only [List.map_toArray,List.map_cons,List.map_nil]);first|done|rfl|(simp only [List.length_drop,List.length_take];rfl)) ?_;(with_reducible refine (az.calls k a0 false _ A2.out).mono ?_);rintro e w' ⟨rfl,⟨nd,rfl⟩⟩;refine ⟨_,rfl,?_⟩))
  go_ret2
  exact ⟨by first|rfl|(simp;done)|(simp [*];done),by repeat (first|exact bz.refl _|apply bz.step)⟩
def aV.j0:Nat→Int→Int→Bool→Int→Int→Int→Int→Int→Option (Int × Int × Int × Int × Int × Bool)
 | 0,_,_,_,_,_,_,_,_=>none
 | k+1,x1,x2,x18,xP,BI,BH,BG,xO=>if x18=true then (some (xP,BI,BH,BG,xO,false)) else (if x1=97 then (some (xP,(x2) % 256,BH,BG,xO,true)) else (if x1=98 then (some (xP,BI,(x2) % 256,BG,xO,true)) else (some (xP,BI,BH,(x2) % 256,xO,true))))
def aV.f (k:Nat) (dF:Int) (aZ:Int) (bn:Int) (fV:Int) (gy:Int) (a1:Int) (a2:Int):Option (Int × Int × Int × Int × Int × Bool):=if a1=110 then (some (dF,aZ,bn,fV,a2,true)) else (if a2 < 0 then (aV.j0 k a1 a2 true dF aZ bn fV gy) else (aV.j0 k a1 a2 (decide (a2 > 255)) dF aZ bn fV gy))
theorem aV.iF:∀ k,(∀ y0 y1 y2 y3 y4 y5 y6 y7,eu (aV.j0 k y0 y1 y2 y3 y4 y5 y6 y7) (aV.j0 (k+1) y0 y1 y2 y3 y4 y5 y6 y7))
 | 0=>fun _ _ _ _ _ _ _ _ r h=>by simp [aV.j0] at h
 | k+1=>by
  have nI:=aV.iF k
  ·
   intro y0 y1 y2 y3 y4 y5 y6 y7
   unfold aV.j0
   repeat' with_reducible first|apply nI|exact eu.refl _|exact eu.none _|refine eu.ite ?_ ?_|refine eu.bind ?_ (fun _=>?_)
theorem aV.mono:∀ a0 a1 a2 a3 a4 a5 a6 k,eu (aV.f k a0 a1 a2 a3 a4 a5 a6) (aV.f (k+1) a0 a1 a2 a3 a4 a5 a6):=by
 intro a0 a1 a2 a3 a4 a5 a6 k
 have nI:=aV.iF k
 unfold aV.f
 repeat' with_reducible first|apply nI|exact eu.refl _|exact eu.none _|refine eu.ite ?_ ?_|refine eu.bind ?_ (fun _=>?_)
set_option maxHeartbeats 8000000 in
set_option maxRecDepth 100000 in
theorem aV.calls (k:Nat) (dF:Int) (aZ:Int) (bn:Int) (fV:Int) (gy:Int) (a1:Int) (a2:Int) (r1:Int) (r2:Int) (r3:Int) (r4:Int) (r5:Int) (r6:Bool) (w:World) (h:aV.f k dF aZ bn fV gy a1 a2=some (r1,r2,r3,r4,r5,r6)) :
  Calls Tryd.prog 40 #[.agg #[.int .u8 dF,.int .u8 aZ,.int .u8 bn,.int .u8 fV,.int .i64 gy],.int .u8 a1,.int .i64 a2] w fun e w'=>e=.returned (.tuple #[.agg #[.int .u8 r1,.int .u8 r2,.int .u8 r3,.int .u8 r4,.int .i64 r5],.bool r6])∧Below w.heap.size w w':=by
 have zl:=Tryd.underlying45
 have HB:=af.mk (Below.refl w.heap.size w)
 have H:(if a1=110 then (some (dF,aZ,bn,fV,a2,true)) else (if a2 < 0 then (aV.j0 k a1 a2 true dF aZ bn fV gy) else (aV.j0 k a1 a2 (decide (a2 > 255)) dF aZ bn fV gy)))=some (r1,r2,r3,r4,r5,r6):=h
 clear h
 by_cases c4:a1=110
 ·
  rw [if_pos c4] at H
  have qp:(a1 == 110)=true:=beq_iff_eq.mpr c4
  have DW:(a1 != 110)=false:=bne_eq_false_iff_eq.mpr c4
  clear c4
  simp only [Option.some.injEq,Prod.mk.injEq] at H
  obtain ⟨rfl,rfl,rfl,rfl,rfl,rfl⟩:=H
  go_enter Tryd.func40,Tryd.ntmps40
  go_wp2_with (first|((with_reducible refine bD (N:=3) rfl ?_);refine ed ?hg (N:=3) ?hd (cs:=#[.int .u8 dF,.int .u8 aZ,.int .u8 bn,.int .u8 fV,.int .i64 gy]) (t:=45) ?hr ?_;(case hd=>rfl);(case hg=>rfl);(case hr=>first|(go_simp;done)|(go_simp;rfl));intro uC hg w5 hbox hb;have dW:=af.mk (bC (by repeat (first|(with_reducible first|exact HB.out|apply aj|apply ag|apply ak)|exact HB.out)) hb);have dV:=af.mk (hbox);have dQ:=af.mk ((by rw [hg];exact (df (by repeat (first|(with_reducible first|exact HB.out|apply aj|apply ag|apply ak)|exact HB.out))):w.heap.size≤uC));have gK:=dQ;clear HB;have HB:=dW;have pM:=dV;have aaz:=dQ;have sF:=gK;clear dW dV dQ gK;clear hb hbox hg)|((with_reducible refine bD (N:=6) rfl ?_);refine ed ?hg (N:=6) ?hd (cs:=#[.int .u8 0,.int .u8 0,.int .u8 0,.int .u8 0,.int .i64 0]) (t:=45) ?hr ?_;(case hd=>rfl);(case hg=>rfl);(case hr=>first|(go_simp;done)|(go_simp;rfl));intro tJ hg w6 hbox hb;have dW:=af.mk (bJ (g:=uC) (o:=.cells #[.int .u8 dF,.int .u8 aZ,.int .u8 bn,.int .u8 fV,.int .i64 gy] 45 (0,0)) (by (with_reducible repeat (first|refine ai ?_ _|refine ax ?_|refine ah ?_ _));exact pM.out) hb);have dV:=af.mk (bC (by repeat (first|(with_reducible first|exact HB.out|apply aj|apply ag|apply ak|refine ay ?_ sF.out)|exact HB.out)) hb);have dQ:=af.mk (hbox);have gK:=af.mk ((by rw [hg];exact (df (by repeat (first|(with_reducible first|exact HB.out|apply aj|apply ag|apply ak|refine ay ?_ sF.out)|exact HB.out))):w.heap.size≤tJ));have jT:=gK;have lL:=af.mk ((by rw [hg];exact Nat.ne_of_lt (iC (g:=uC) (o:=.cells #[.int .u8 dF,.int .u8 aZ,.int .u8 bn,.int .u8 fV,.int .i64 gy] 45 (0,0)) (by (with_reducible repeat (first|refine ai ?_ _|refine ax ?_|refine ah ?_ _));exact pM.out)):uC ≠ tJ));have kQ:=af.mk lL.out.symm;clear pM;clear HB;have pM:=dW;have HB:=dV;have qI:=dQ;have aay:=gK;have xG:=jT;have qi:=lL;have lN:=kQ;clear dW dV dQ gK jT lL kQ;clear hb hbox hg;have amc:=qi.out;have amb:=lN.out;obtain ⟨Hg,Hf,He,Ha,Xb,GV,GU,GR,GN,WR⟩:=iV pM.out;obtain ⟨G9,G8,G7,G6,ag9,GM,GL,GK,GI,ag3⟩:=iV qI.out))
  refine bodyPost_ret (lq rfl _ _ tJ 45 #[.int .u8 dF,.int .u8 aZ,.int .u8 bn,.int .u8 fV,.int .i64 a2] (0,0) _ rfl (by (with_reducible repeat (first|refine ai ?_ _|refine ax ?_|refine ah ?_ _));refine dh (cs:=#[.int .u8 dF,.int .u8 aZ,.int .u8 bn,.int .u8 fV,.int .i64 0]) ?_ 4 _ rfl;(with_reducible repeat (first|refine ai ?_ _|refine ax ?_|refine ah ?_ _));refine dh (cs:=#[.int .u8 dF,.int .u8 aZ,.int .u8 bn,.int .u8 0,.int .i64 0]) ?_ 3 _ rfl;(with_reducible repeat (first|refine ai ?_ _|refine ax ?_|refine ah ?_ _));refine dh (cs:=#[.int .u8 dF,.int .u8 aZ,.int .u8 0,.int .u8 0,.int .i64 0]) ?_ 2 _ rfl;(with_reducible repeat (first|refine ai ?_ _|refine ax ?_|refine ah ?_ _));refine dh (cs:=#[.int .u8 dF,.int .u8 0,.int .u8 0,.int .u8 0,.int .i64 0]) ?_ 1 _ rfl;(with_reducible repeat (first|refine ai ?_ _|refine ax ?_|refine ah ?_ _));refine dh (cs:=#[.int .u8 0,.int .u8 0,.int .u8 0,.int .u8 0,.int .i64 0]) ?_ 0 _ rfl;(with_reducible repeat (first|refine ai ?_ _|refine ax ?_|refine ah ?_ _));refine dD ?_ lN.out _;(with_reducible repeat (first|refine ai ?_ _|refine ax ?_|refine ah ?_ _));exact qI.out) Tryd.underlying45 rfl (by kernel_rfl)) rfl ?_
  exact ⟨by first|rfl|(simp [aU,aT] <;> rfl)|(simp [*,aU,aT] <;> rfl),by repeat (first|(with_reducible first|exact HB.out|apply aj|apply ag|apply ak|refine ay ?_ sF.out|refine ay ?_ xG.out)|exact HB.out)⟩
 ·
  rw [if_neg c4] at H
  have qp:(a1 == 110)=false:=beq_eq_false_iff_ne.mpr c4
  have DW:(a1 != 110)=true:=bne_iff_ne.mpr c4
  have X4:=af.mk H
  clear H
  go_enter Tryd.func40,Tryd.ntmps40
  go_upto_region 4 with (first|((with_reducible refine bD (N:=3) rfl ?_);refine ed ?hg (N:=3) ?hd (cs:=#[.int .u8 dF,.int .u8 aZ,.int .u8 bn,.int .u8 fV,.int .i64 gy]) (t:=45) ?hr ?_;(case hd=>rfl);(case hg=>rfl);(case hr=>first|(go_simp;done)|(go_simp;rfl));intro uC hg w11 hbox hb;have dW:=af.mk (bC (by repeat (first|(with_reducible first|exact HB.out|apply aj|apply ag|apply ak)|exact HB.out)) hb);have dV:=af.mk (hbox);have dQ:=af.mk ((by rw [hg];exact (df (by repeat (first|(with_reducible first|exact HB.out|apply aj|apply ag|apply ak)|exact HB.out))):w.heap.size≤uC));have gK:=dQ;clear HB;have HB:=dW;have pM:=dV;have aaz:=dQ;have sF:=gK;clear dW dV dQ gK;clear hb hbox hg)|((with_reducible refine bD (N:=6) rfl ?_);refine ed ?hg (N:=6) ?hd (cs:=#[.int .u8 0,.int .u8 0,.int .u8 0,.int .u8 0,.int .i64 0]) (t:=45) ?hr ?_;(case hd=>rfl);(case hg=>rfl);(case hr=>first|(go_simp;done)|(go_simp;rfl));intro tJ hg w12 hbox hb;have dW:=af.mk (bJ (g:=uC) (o:=.cells #[.int .u8 dF,.int .u8 aZ,.int .u8 bn,.int .u8 fV,.int .i64 gy] 45 (0,0)) (by (with_reducible repeat (first|refine ai ?_ _|refine ax ?_|refine ah ?_ _));exact pM.out) hb);have dV:=af.mk (bC (by repeat (first|(with_reducible first|exact HB.out|apply aj|apply ag|apply ak|refine ay ?_ sF.out)|exact HB.out)) hb);have dQ:=af.mk (hbox);have gK:=af.mk ((by rw [hg];exact (df (by repeat (first|(with_reducible first|exact HB.out|apply aj|apply ag|apply ak|refine ay ?_ sF.out)|exact HB.out))):w.heap.size≤tJ));have jT:=gK;have lL:=af.mk ((by rw [hg];exact Nat.ne_of_lt (iC (g:=uC) (o:=.cells #[.int .u8 dF,.int .u8 aZ,.int .u8 bn,.int .u8 fV,.int .i64 gy] 45 (0,0)) (by (with_reducible repeat (first|refine ai ?_ _|refine ax ?_|refine ah ?_ _));exact pM.out)):uC ≠ tJ));have kQ:=af.mk lL.out.symm;clear pM;clear HB;have pM:=dW;have HB:=dV;have qI:=dQ;have aay:=gK;have xG:=jT;have qi:=lL;have lN:=kQ;clear dW dV dQ gK jT lL kQ;clear hb hbox hg))
  (try simp only [Act.put,List.setIfInBounds_toArray,List.set_cons_zero,List.set_cons_succ])
  go_cut [18] (fun v18 wc=>∃ (kq:Nat) (Ir:Bool),v18=.bool Ir∧af (aV.j0 kq a1 a2 Ir dF aZ bn fV gy=some (r1,r2,r3,r4,r5,r6))∧af (kq≤k)∧af (wc.heap[uC]? = some (.cells #[.int .u8 dF,.int .u8 aZ,.int .u8 bn,.int .u8 fV,.int .i64 gy] 45 (0,0)))∧af (wc.heap[tJ]? = some (.cells #[.int .u8 0,.int .u8 0,.int .u8 0,.int .u8 0,.int .i64 0] 45 (0,0)))∧af (Below w.heap.size w wc))
  case first =>
   have H:=X4.out
   clear X4
   by_cases c13:a2 < 0
   ·
    rw [if_pos c13] at H
    have oH:decide (a2 < 0)=true:=decide_eq_true c13
    clear c13
    (first|rw [oH]|(simp only [aX,aY];rw [oH])|skip)
    have H':=af.mk H
    clear H
    go_wp2
    go_meet
    case rel=>exact ⟨_,(true),(by first|rfl|(simp;done)|(simp [*];done)),H',⟨by first|omega|exact Nat.le_refl _⟩,⟨by (with_reducible repeat (first|refine ai ?_ _|refine ax ?_|refine ah ?_ _));exact pM.out⟩,⟨by (with_reducible repeat (first|refine ai ?_ _|refine ax ?_|refine ah ?_ _));exact qI.out⟩,⟨by repeat (first|(with_reducible first|exact HB.out|apply aj|apply ag|apply ak|refine ay ?_ sF.out|refine ay ?_ xG.out)|exact HB.out)⟩⟩
   ·
    rw [if_neg c13] at H
    have oH:decide (a2 < 0)=false:=decide_eq_false c13
    clear c13
    (first|rw [oH]|(simp only [aX,aY];rw [oH])|skip)
    have H':=af.mk H
    clear H
    go_wp2
    go_meet
    case rel=>exact ⟨_,(decide (a2 > 255)),(by first|rfl|(simp;done)|(simp [*];done)),H',⟨by first|omega|exact Nat.le_refl _⟩,⟨by (with_reducible repeat (first|refine ai ?_ _|refine ax ?_|refine ah ?_ _));exact pM.out⟩,⟨by (with_reducible repeat (first|refine ai ?_ _|refine ax ?_|refine ah ?_ _));exact qI.out⟩,⟨by repeat (first|(with_reducible first|exact HB.out|apply aj|apply ag|apply ak|refine ay ?_ sF.out|refine ay ?_ xG.out)|exact HB.out)⟩⟩
  case rest =>
   clear X4
   obtain ⟨kq,Ir,rfl,HA,HJ9,pM,qI,HB⟩:=hcut
   cases kq with
   | zero=>exact absurd HA.out (by simp [aV.j0])
   | succ kj9 =>
    have H:=HA.out
    clear HA
    simp only [aV.j0] at H
    by_cases c14:Ir=true
    ·
     subst c14
     have H1:(some (dF,aZ,bn,fV,gy,false))=some (r1,r2,r3,r4,r5,r6):=by rw [if_pos rfl] at H;exact H
     clear H
     have H:=H1
     clear H1
     simp only [Option.some.injEq,Prod.mk.injEq] at H
     obtain ⟨rfl,rfl,rfl,rfl,rfl,rfl⟩:=H
     have Y1:=qi.out
     have YX:=lN.out
     obtain ⟨yA,yz,yx,yw,Kt,yh,yg,yf,yc,JI⟩:=iV pM.out
     obtain ⟨Kr,Kq,Ko,J9,TE,JH,JG,JF,JE,Rz⟩:=iV qI.out
     go_wp2
     refine bodyPost_ret (lq rfl _ _ tJ 45 #[.int .u8 dF,.int .u8 aZ,.int .u8 bn,.int .u8 fV,.int .i64 gy] (0,0) _ rfl (by (with_reducible repeat (first|refine ai ?_ _|refine ax ?_|refine ah ?_ _));refine dh (cs:=#[.int .u8 dF,.int .u8 aZ,.int .u8 bn,.int .u8 fV,.int .i64 0]) ?_ 4 _ rfl;(with_reducible repeat (first|refine ai ?_ _|refine ax ?_|refine ah ?_ _));refine dh (cs:=#[.int .u8 dF,.int .u8 aZ,.int .u8 bn,.int .u8 0,.int .i64 0]) ?_ 3 _ rfl;(with_reducible repeat (first|refine ai ?_ _|refine ax ?_|refine ah ?_ _));refine dh (cs:=#[.int .u8 dF,.int .u8 aZ,.int .u8 0,.int .u8 0,.int .i64 0]) ?_ 2 _ rfl;(with_reducible repeat (first|refine ai ?_ _|refine ax ?_|refine ah ?_ _));refine dh (cs:=#[.int .u8 dF,.int .u8 0,.int .u8 0,.int .u8 0,.int .i64 0]) ?_ 1 _ rfl;(with_reducible repeat (first|refine ai ?_ _|refine ax ?_|refine ah ?_ _));refine dh (cs:=#[.int .u8 0,.int .u8 0,.int .u8 0,.int .u8 0,.int .i64 0]) ?_ 0 _ rfl;(with_reducible repeat (first|refine ai ?_ _|refine ax ?_|refine ah ?_ _));exact qI.out) Tryd.underlying45 rfl (by kernel_rfl)) rfl ?_
     exact ⟨by first|rfl|(simp [aU,aT] <;> rfl)|(simp [*,aU,aT] <;> rfl),by repeat (first|(with_reducible first|exact HB.out|apply aj|apply ag|apply ak|refine ay ?_ sF.out|refine ay ?_ xG.out)|exact HB.out)⟩
    ·
     replace c14:=Bool.eq_false_iff.mpr c14
     subst c14
     have H1:(if a1=97 then (some (dF,(a2) % 256,bn,fV,gy,true)) else (if a1=98 then (some (dF,aZ,(a2) % 256,fV,gy,true)) else (some (dF,aZ,bn,(a2) % 256,gy,true))))=some (r1,r2,r3,r4,r5,r6):=by rw [if_neg (show ¬ (false=true) by decide)] at H;exact H
     clear H
     have H:=H1
     clear H1
     by_cases c18:a1=97
     ·
      rw [if_pos c18] at H
      have Vq:(a1 == 97)=true:=beq_iff_eq.mpr c18
      have ZJ:(a1 != 97)=false:=bne_eq_false_iff_eq.mpr c18
      clear c18
      simp only [Option.some.injEq,Prod.mk.injEq] at H
      obtain ⟨rfl,rfl,rfl,rfl,rfl,rfl⟩:=H
      have ajI:=qi.out
      have ajl:=lN.out
      obtain ⟨afX,afW,afV,afU,afT,adW,adV,adU,adT,adS⟩:=iV pM.out
      obtain ⟨TD,TC,TA,Tz,afS,Ry,Rx,Rw,Ru,adR⟩:=iV qI.out
      go_wp2
      refine bodyPost_ret (lq rfl _ _ tJ 45 #[.int .u8 dF,.int .u8 ((a2) % 256),.int .u8 bn,.int .u8 fV,.int .i64 gy] (0,0) _ rfl (by (with_reducible repeat (first|refine ai ?_ _|refine ax ?_|refine ah ?_ _));refine dh (cs:=#[.int .u8 dF,.int .u8 ((a2) % 256),.int .u8 bn,.int .u8 fV,.int .i64 0]) ?_ 4 _ rfl;(with_reducible repeat (first|refine ai ?_ _|refine ax ?_|refine ah ?_ _));refine dh (cs:=#[.int .u8 dF,.int .u8 ((a2) % 256),.int .u8 bn,.int .u8 0,.int .i64 0]) ?_ 3 _ rfl;(with_reducible repeat (first|refine ai ?_ _|refine ax ?_|refine ah ?_ _));refine dh (cs:=#[.int .u8 dF,.int .u8 ((a2) % 256),.int .u8 0,.int .u8 0,.int .i64 0]) ?_ 2 _ rfl;(with_reducible repeat (first|refine ai ?_ _|refine ax ?_|refine ah ?_ _));refine dh (cs:=#[.int .u8 dF,.int .u8 0,.int .u8 0,.int .u8 0,.int .i64 0]) ?_ 1 _ rfl;(with_reducible repeat (first|refine ai ?_ _|refine ax ?_|refine ah ?_ _));refine dh (cs:=#[.int .u8 0,.int .u8 0,.int .u8 0,.int .u8 0,.int .i64 0]) ?_ 0 _ rfl;(with_reducible repeat (first|refine ai ?_ _|refine ax ?_|refine ah ?_ _));refine dD ?_ lN.out _;(with_reducible repeat (first|refine ai ?_ _|refine ax ?_|refine ah ?_ _));exact qI.out) Tryd.underlying45 rfl (by kernel_rfl)) rfl ?_
      exact ⟨by first|rfl|(simp [aU,aT] <;> rfl)|(simp [*,aU,aT] <;> rfl),by repeat (first|(with_reducible first|exact HB.out|apply aj|apply ag|apply ak|refine ay ?_ sF.out|refine ay ?_ xG.out)|exact HB.out)⟩
     ·
      rw [if_neg c18] at H
      have Vq:(a1 == 97)=false:=beq_eq_false_iff_ne.mpr c18
      have ZJ:(a1 != 97)=true:=bne_iff_ne.mpr c18
      by_cases Bo:a1=98
      ·
       rw [if_pos Bo] at H
       have Vl:(a1 == 98)=true:=beq_iff_eq.mpr Bo
       have Vk:(a1 != 98)=false:=bne_eq_false_iff_eq.mpr Bo
       clear Bo
       simp only [Option.some.injEq,Prod.mk.injEq] at H
       obtain ⟨rfl,rfl,rfl,rfl,rfl,rfl⟩:=H
       have ajG:=qi.out
       have ajj:=lN.out
       obtain ⟨afQ,afP,afO,afN,afM,adP,adO,adN,adM,adL⟩:=iV pM.out
       obtain ⟨Dy,Dx,Dw,Dv,Du,Dh,Df,Dc,C9,CZ⟩:=iV qI.out
       go_wp2
       refine bodyPost_ret (lq rfl _ _ tJ 45 #[.int .u8 dF,.int .u8 aZ,.int .u8 ((a2) % 256),.int .u8 fV,.int .i64 gy] (0,0) _ rfl (by (with_reducible repeat (first|refine ai ?_ _|refine ax ?_|refine ah ?_ _));refine dh (cs:=#[.int .u8 dF,.int .u8 aZ,.int .u8 ((a2) % 256),.int .u8 fV,.int .i64 0]) ?_ 4 _ rfl;(with_reducible repeat (first|refine ai ?_ _|refine ax ?_|refine ah ?_ _));refine dh (cs:=#[.int .u8 dF,.int .u8 aZ,.int .u8 ((a2) % 256),.int .u8 0,.int .i64 0]) ?_ 3 _ rfl;(with_reducible repeat (first|refine ai ?_ _|refine ax ?_|refine ah ?_ _));refine dh (cs:=#[.int .u8 dF,.int .u8 aZ,.int .u8 0,.int .u8 0,.int .i64 0]) ?_ 2 _ rfl;(with_reducible repeat (first|refine ai ?_ _|refine ax ?_|refine ah ?_ _));refine dh (cs:=#[.int .u8 dF,.int .u8 0,.int .u8 0,.int .u8 0,.int .i64 0]) ?_ 1 _ rfl;(with_reducible repeat (first|refine ai ?_ _|refine ax ?_|refine ah ?_ _));refine dh (cs:=#[.int .u8 0,.int .u8 0,.int .u8 0,.int .u8 0,.int .i64 0]) ?_ 0 _ rfl;(with_reducible repeat (first|refine ai ?_ _|refine ax ?_|refine ah ?_ _));refine dD ?_ lN.out _;(with_reducible repeat (first|refine ai ?_ _|refine ax ?_|refine ah ?_ _));exact qI.out) Tryd.underlying45 rfl (by kernel_rfl)) rfl ?_
       exact ⟨by first|rfl|(simp [aU,aT] <;> rfl)|(simp [*,aU,aT] <;> rfl),by repeat (first|(with_reducible first|exact HB.out|apply aj|apply ag|apply ak|refine ay ?_ sF.out|refine ay ?_ xG.out)|exact HB.out)⟩
      ·
       rw [if_neg Bo] at H
       have Vl:(a1 == 98)=false:=beq_eq_false_iff_ne.mpr Bo
       have Vk:(a1 != 98)=true:=bne_iff_ne.mpr Bo
       simp only [Option.some.injEq,Prod.mk.injEq] at H
       obtain ⟨rfl,rfl,rfl,rfl,rfl,rfl⟩:=H
       have ajF:=qi.out
       have aji:=lN.out
       obtain ⟨Tn,Tm,Tj,Ti,Tf,Rl,Rk,Rj,Ri,Rh⟩:=iV pM.out
       obtain ⟨J8,J7,J6,J5,Td,JD,JC,JB,JA,Rf⟩:=iV qI.out
       go_wp2
       refine bodyPost_ret (lq rfl _ _ tJ 45 #[.int .u8 dF,.int .u8 aZ,.int .u8 bn,.int .u8 ((a2) % 256),.int .i64 gy] (0,0) _ rfl (by (with_reducible repeat (first|refine ai ?_ _|refine ax ?_|refine ah ?_ _));refine dh (cs:=#[.int .u8 dF,.int .u8 aZ,.int .u8 bn,.int .u8 ((a2) % 256),.int .i64 0]) ?_ 4 _ rfl;(with_reducible repeat (first|refine ai ?_ _|refine ax ?_|refine ah ?_ _));refine dh (cs:=#[.int .u8 dF,.int .u8 aZ,.int .u8 bn,.int .u8 0,.int .i64 0]) ?_ 3 _ rfl;(with_reducible repeat (first|refine ai ?_ _|refine ax ?_|refine ah ?_ _));refine dh (cs:=#[.int .u8 dF,.int .u8 aZ,.int .u8 0,.int .u8 0,.int .i64 0]) ?_ 2 _ rfl;(with_reducible repeat (first|refine ai ?_ _|refine ax ?_|refine ah ?_ _));refine dh (cs:=#[.int .u8 dF,.int .u8 0,.int .u8 0,.int .u8 0,.int .i64 0]) ?_ 1 _ rfl;(with_reducible repeat (first|refine ai ?_ _|refine ax ?_|refine ah ?_ _));refine dh (cs:=#[.int .u8 0,.int .u8 0,.int .u8 0,.int .u8 0,.int .i64 0]) ?_ 0 _ rfl;(with_reducible repeat (first|refine ai ?_ _|refine ax ?_|refine ah ?_ _));refine dD ?_ lN.out _;(with_reducible repeat (first|refine ai ?_ _|refine ax ?_|refine ah ?_ _));exact qI.out) Tryd.underlying45 rfl (by kernel_rfl)) rfl ?_
       exact ⟨by first|rfl|(simp [aU,aT] <;> rfl)|(simp [*,aU,aT] <;> rfl),by repeat (first|(with_reducible first|exact HB.out|apply aj|apply ag|apply ak|refine ay ?_ sF.out|refine ay ?_ xG.out)|exact HB.out)⟩
end Go.Proofs.YtgfnpdfhdgenbaaDoor.P
end
