/- Parts of the proof of FullTrue: what the functions that it reaches compute, and plain facts about that. -/
import Derived.Test.YtbmhmlgfpijmhaaDoorFab
import Derived.Test.YtbmhmlgfpijmhaaDoorFae
set_option linter.unusedVariables false
set_option linter.unusedSimpArgs false
section
namespace Go.Proofs.YtbmhmlgfpijmhaaDoor.P
open Go.RowKit Go.Proofs.af.bG Go.Proofs.af.dD Go.Proofs.af.dM
attribute [local go_sem] kF kD lK lJ jH jG kE kC
def fG.f (a0:Int):Option (ByteArray × ByteArray):=if a0=1 then (some ((⟨#[115,101,116]⟩:ByteArray),(⟨#[97,110]⟩:ByteArray))) else (if a0=2 then (some ((⟨#[97,100,100]⟩:ByteArray),(⟨#[97,98,99]⟩:ByteArray))) else (if a0=3 then (some ((⟨#[106,117,109,112]⟩:ByteArray),(⟨#[110]⟩:ByteArray))) else (if a0=4 then (some ((⟨#[122,101,114,111]⟩:ByteArray),(⟨#[97,110]⟩:ByteArray))) else (if a0=5 then (some ((⟨#[110,101,119]⟩:ByteArray),(⟨#[97]⟩:ByteArray))) else (if a0=6 then (some ((⟨#[110,105,108]⟩:ByteArray),(⟨#[97]⟩:ByteArray))) else (if a0=7 then (some ((⟨#[109,111,118,101]⟩:ByteArray),(⟨#[97,98]⟩:ByteArray))) else (if a0=8 then (some ((⟨#[108,111,97,100,105]⟩:ByteArray),(⟨#[97,98,110]⟩:ByteArray))) else (if a0=9 then (some ((⟨#[115,116,111,114,101,105]⟩:ByteArray),(⟨#[97,110,98]⟩:ByteArray))) else (if a0=10 then (some ((⟨#[108,111,97,100,112]⟩:ByteArray),(⟨#[97,98,110]⟩:ByteArray))) else ((jC.f a0).bind fun FQ=>(some (FQ.1,FQ.2))))))))))))
set_option maxHeartbeats 8000000 in
set_option maxRecDepth 100000 in
theorem fG.calls (a0:Int) (r1:ByteArray) (r2:ByteArray) (w:World) (h:fG.f a0=some (r1,r2)) :
  Calls Tryd.prog 36 #[.int .u8 a0] w fun e w'=>e=.returned (.tuple #[.string r1,.string r2])∧aV w w':=by
 have H:(if a0=1 then (some ((⟨#[115,101,116]⟩:ByteArray),(⟨#[97,110]⟩:ByteArray))) else (if a0=2 then (some ((⟨#[97,100,100]⟩:ByteArray),(⟨#[97,98,99]⟩:ByteArray))) else (if a0=3 then (some ((⟨#[106,117,109,112]⟩:ByteArray),(⟨#[110]⟩:ByteArray))) else (if a0=4 then (some ((⟨#[122,101,114,111]⟩:ByteArray),(⟨#[97,110]⟩:ByteArray))) else (if a0=5 then (some ((⟨#[110,101,119]⟩:ByteArray),(⟨#[97]⟩:ByteArray))) else (if a0=6 then (some ((⟨#[110,105,108]⟩:ByteArray),(⟨#[97]⟩:ByteArray))) else (if a0=7 then (some ((⟨#[109,111,118,101]⟩:ByteArray),(⟨#[97,98]⟩:ByteArray))) else (if a0=8 then (some ((⟨#[108,111,97,100,105]⟩:ByteArray),(⟨#[97,98,110]⟩:ByteArray))) else (if a0=9 then (some ((⟨#[115,116,111,114,101,105]⟩:ByteArray),(⟨#[97,110,98]⟩:ByteArray))) else (if a0=10 then (some ((⟨#[108,111,97,100,112]⟩:ByteArray),(⟨#[97,98,110]⟩:ByteArray))) else ((jC.f a0).bind fun FQ=>(some (FQ.1,FQ.2)))))))))))))=some (r1,r2):=h
 clear h
 by_cases c2:a0=1
 ·
  rw [if_pos c2] at H
  have FC:(a0 == 1)=true:=beq_iff_eq.mpr c2
  have Uo:(a0 != 1)=false:=bne_eq_false_iff_eq.mpr c2
  clear c2
  simp only [Option.some.injEq,Prod.mk.injEq] at H
  obtain ⟨rfl,rfl⟩:=H
  go_enter Tryd.func36,Tryd.ntmps36
  go_wp2
  go_ret2
  exact ⟨by first|rfl|(simp;done)|(simp [*];done),by repeat (first|exact aV.refl _|apply aV.step)⟩
 ·
  rw [if_neg c2] at H
  have FC:(a0 == 1)=false:=beq_eq_false_iff_ne.mpr c2
  have Uo:(a0 != 1)=true:=bne_iff_ne.mpr c2
  by_cases c3:a0=2
  ·
   rw [if_pos c3] at H
   have oQ:(a0 == 2)=true:=beq_iff_eq.mpr c3
   have Ef:(a0 != 2)=false:=bne_eq_false_iff_eq.mpr c3
   clear c3
   simp only [Option.some.injEq,Prod.mk.injEq] at H
   obtain ⟨rfl,rfl⟩:=H
   go_enter Tryd.func36,Tryd.ntmps36
   go_wp2
   go_ret2
   exact ⟨by first|rfl|(simp;done)|(simp [*];done),by repeat (first|exact aV.refl _|apply aV.step)⟩
  ·
   rw [if_neg c3] at H
   have oQ:(a0 == 2)=false:=beq_eq_false_iff_ne.mpr c3
   have Ef:(a0 != 2)=true:=bne_iff_ne.mpr c3
   by_cases c4:a0=3
   ·
    rw [if_pos c4] at H
    have oG:(a0 == 3)=true:=beq_iff_eq.mpr c4
    have Ee:(a0 != 3)=false:=bne_eq_false_iff_eq.mpr c4
    clear c4
    simp only [Option.some.injEq,Prod.mk.injEq] at H
    obtain ⟨rfl,rfl⟩:=H
    go_enter Tryd.func36,Tryd.ntmps36
    go_wp2
    go_ret2
    exact ⟨by first|rfl|(simp;done)|(simp [*];done),by repeat (first|exact aV.refl _|apply aV.step)⟩
   ·
    rw [if_neg c4] at H
    have oG:(a0 == 3)=false:=beq_eq_false_iff_ne.mpr c4
    have Ee:(a0 != 3)=true:=bne_iff_ne.mpr c4
    by_cases c5:a0=4
    ·
     rw [if_pos c5] at H
     have qB:(a0 == 4)=true:=beq_iff_eq.mpr c5
     have Oy:(a0 != 4)=false:=bne_eq_false_iff_eq.mpr c5
     clear c5
     simp only [Option.some.injEq,Prod.mk.injEq] at H
     obtain ⟨rfl,rfl⟩:=H
     go_enter Tryd.func36,Tryd.ntmps36
     go_wp2
     go_ret2
     exact ⟨by first|rfl|(simp;done)|(simp [*];done),by repeat (first|exact aV.refl _|apply aV.step)⟩
    ·
     rw [if_neg c5] at H
     have qB:(a0 == 4)=false:=beq_eq_false_iff_ne.mpr c5
     have Oy:(a0 != 4)=true:=bne_iff_ne.mpr c5
     by_cases c6:a0=5
     ·
      rw [if_pos c6] at H
      have oP:(a0 == 5)=true:=beq_iff_eq.mpr c6
      have xw:(a0 != 5)=false:=bne_eq_false_iff_eq.mpr c6
      clear c6
      simp only [Option.some.injEq,Prod.mk.injEq] at H
      obtain ⟨rfl,rfl⟩:=H
      go_enter Tryd.func36,Tryd.ntmps36
      go_wp2
      go_ret2
      exact ⟨by first|rfl|(simp;done)|(simp [*];done),by repeat (first|exact aV.refl _|apply aV.step)⟩
     ·
      rw [if_neg c6] at H
      have oP:(a0 == 5)=false:=beq_eq_false_iff_ne.mpr c6
      have xw:(a0 != 5)=true:=bne_iff_ne.mpr c6
      by_cases c7:a0=6
      ·
       rw [if_pos c7] at H
       have pJ:(a0 == 6)=true:=beq_iff_eq.mpr c7
       have zL:(a0 != 6)=false:=bne_eq_false_iff_eq.mpr c7
       clear c7
       simp only [Option.some.injEq,Prod.mk.injEq] at H
       obtain ⟨rfl,rfl⟩:=H
       go_enter Tryd.func36,Tryd.ntmps36
       go_wp2
       go_ret2
       exact ⟨by first|rfl|(simp;done)|(simp [*];done),by repeat (first|exact aV.refl _|apply aV.step)⟩
      ·
       rw [if_neg c7] at H
       have pJ:(a0 == 6)=false:=beq_eq_false_iff_ne.mpr c7
       have zL:(a0 != 6)=true:=bne_iff_ne.mpr c7
       by_cases c8:a0=7
       ·
        rw [if_pos c8] at H
        have qU:(a0 == 7)=true:=beq_iff_eq.mpr c8
        have Ed:(a0 != 7)=false:=bne_eq_false_iff_eq.mpr c8
        clear c8
        simp only [Option.some.injEq,Prod.mk.injEq] at H
        obtain ⟨rfl,rfl⟩:=H
        go_enter Tryd.func36,Tryd.ntmps36
        go_wp2
        go_ret2
        exact ⟨by first|rfl|(simp;done)|(simp [*];done),by repeat (first|exact aV.refl _|apply aV.step)⟩
       ·
        rw [if_neg c8] at H
        have qU:(a0 == 7)=false:=beq_eq_false_iff_ne.mpr c8
        have Ed:(a0 != 7)=true:=bne_iff_ne.mpr c8
        by_cases c9:a0=8
        ·
         rw [if_pos c9] at H
         have Fv:(a0 == 8)=true:=beq_iff_eq.mpr c9
         have XJ:(a0 != 8)=false:=bne_eq_false_iff_eq.mpr c9
         clear c9
         simp only [Option.some.injEq,Prod.mk.injEq] at H
         obtain ⟨rfl,rfl⟩:=H
         go_enter Tryd.func36,Tryd.ntmps36
         go_wp2
         go_ret2
         exact ⟨by first|rfl|(simp;done)|(simp [*];done),by repeat (first|exact aV.refl _|apply aV.step)⟩
        ·
         rw [if_neg c9] at H
         have Fv:(a0 == 8)=false:=beq_eq_false_iff_ne.mpr c9
         have XJ:(a0 != 8)=true:=bne_iff_ne.mpr c9
         by_cases c10:a0=9
         ·
          rw [if_pos c10] at H
          have oU:(a0 == 9)=true:=beq_iff_eq.mpr c10
          have FM:(a0 != 9)=false:=bne_eq_false_iff_eq.mpr c10
          clear c10
          simp only [Option.some.injEq,Prod.mk.injEq] at H
          obtain ⟨rfl,rfl⟩:=H
          go_enter Tryd.func36,Tryd.ntmps36
          go_wp2
          go_ret2
          exact ⟨by first|rfl|(simp;done)|(simp [*];done),by repeat (first|exact aV.refl _|apply aV.step)⟩
         ·
          rw [if_neg c10] at H
          have oU:(a0 == 9)=false:=beq_eq_false_iff_ne.mpr c10
          have FM:(a0 != 9)=true:=bne_iff_ne.mpr c10
          by_cases c11:a0=10
          ·
           rw [if_pos c11] at H
           have uo:(a0 == 10)=true:=beq_iff_eq.mpr c11
           have Bz:(a0 != 10)=false:=bne_eq_false_iff_eq.mpr c11
           clear c11
           simp only [Option.some.injEq,Prod.mk.injEq] at H
           obtain ⟨rfl,rfl⟩:=H
           go_enter Tryd.func36,Tryd.ntmps36
           go_wp2
           go_ret2
           exact ⟨by first|rfl|(simp;done)|(simp [*];done),by repeat (first|exact aV.refl _|apply aV.step)⟩
          ·
           rw [if_neg c11] at H
           have uo:(a0 == 10)=false:=beq_eq_false_iff_ne.mpr c11
           have Bz:(a0 != 10)=true:=bne_iff_ne.mpr c11
           replace H:=Option.bind_eq_some_iff.mp H
           obtain ⟨⟨t142,t143⟩,abf,H⟩:=H
           replace H:(some (t142,t143))=some (r1,r2):=H
           have A12:=ae.mk abf
           clear abf
           simp only [Option.some.injEq,Prod.mk.injEq] at H
           obtain ⟨rfl,rfl⟩:=H
           go_enter Tryd.func36,Tryd.ntmps36
           go_wp2_with (first|((with_reducible refine bT (f:=45) rfl ?_);refine gp (some 26) rfl rfl Tryd.func45 (by kernel_rfl) rfl #[.int .u8 a0] rfl (by (try simp only [List.map_toArray,List.map_cons,List.map_nil]);first|done|rfl|(simp only [List.length_drop,List.length_take];rfl)) ?_;(with_reducible refine (jC.calls a0 t142 t143 _ A12.out).mono ?_);rintro e w' ⟨rfl,⟨nd,rfl⟩⟩;refine ⟨_,rfl,?_⟩))
           go_ret2
           exact ⟨by first|rfl|(simp;done)|(simp [*];done),by repeat (first|exact aV.refl _|apply aV.step)⟩
mutual
def aG.j0:Nat→ByteArray→ByteArray→Bool→Option (Bool)
 | 0,_,_,_=>none
 | k+1,x0,x3,x13=>if x13=true then (if 1≤(x0.size:Int) then (aG.j1 k x0 (x0.extract 1 x0.size)) else (none)) else (aG.j1 k x0 x3)
def aG.j1:Nat→ByteArray→ByteArray→Option (Bool)
 | 0,_,_=>none
 | k+1,x0,x3=>if x3.toList=([]:List UInt8) then (aG.j2 k x3 true) else (if 0 < (x3.size:Int) then (if (bt x3 0)=48 then (if (x3.size:Int) > 1 then (aG.j2 k x3 true) else (aG.j2 k x3 (decide ((x0.size:Int) > 1)))) else (aG.j2 k x3 false)) else (none))
def aG.j2:Nat→ByteArray→Bool→Option (Bool)
 | 0,_,_=>none
 | k+1,x3,x32=>if x32=true then (some false) else (aG.l0 k x3 0)
def aG.l0:Nat→ByteArray→Int→Option (Bool)
 | 0,_,_=>none
 | k+1,x3,x4=>if x4 < (x3.size:Int) then (if 0≤x4 then (if (bt x3 x4) < 48 then (some false) else (if (bt x3 x4) > 57 then (some false) else (aG.l0 k x3 (wrap64 (x4+1))))) else (none)) else (some true)
end
def aG.f (k:Nat) (a0:ByteArray):Option (Bool):=if (a0.size:Int) > 0 then (if 0 < (a0.size:Int) then (aG.j0 k a0 a0 ((bt a0 0) == 45)) else (none)) else (aG.j0 k a0 a0 false)
theorem aG.iq:∀ k,(∀ y0 y1 y2,dN (aG.j0 k y0 y1 y2) (aG.j0 (k+1) y0 y1 y2))∧(∀ y0 y1,dN (aG.j1 k y0 y1) (aG.j1 (k+1) y0 y1))∧(∀ y0 y1,dN (aG.j2 k y0 y1) (aG.j2 (k+1) y0 y1))∧(∀ y0 y1,dN (aG.l0 k y0 y1) (aG.l0 (k+1) y0 y1))
 | 0=>⟨fun _ _ _ r h=>by simp [aG.j0] at h,fun _ _ r h=>by simp [aG.j1] at h,fun _ _ r h=>by simp [aG.j2] at h,fun _ _ r h=>by simp [aG.l0] at h⟩
 | k+1=>by
  obtain ⟨kZ,ih1,ih2,ih3⟩:=aG.iq k
  refine ⟨?_,?_,?_,?_⟩
  ·
   intro y0 y1 y2
   unfold aG.j0
   repeat' with_reducible first|apply kZ|apply ih1|apply ih2|apply ih3|exact dN.refl _|exact dN.none _|refine dN.ite ?_ ?_|refine dN.bind ?_ (fun _=>?_)
  ·
   intro y0 y1
   unfold aG.j1
   repeat' with_reducible first|apply kZ|apply ih1|apply ih2|apply ih3|exact dN.refl _|exact dN.none _|refine dN.ite ?_ ?_|refine dN.bind ?_ (fun _=>?_)
  ·
   intro y0 y1
   unfold aG.j2
   repeat' with_reducible first|apply kZ|apply ih1|apply ih2|apply ih3|exact dN.refl _|exact dN.none _|refine dN.ite ?_ ?_|refine dN.bind ?_ (fun _=>?_)
  ·
   intro y0 y1
   unfold aG.l0
   repeat' with_reducible first|apply kZ|apply ih1|apply ih2|apply ih3|exact dN.refl _|exact dN.none _|refine dN.ite ?_ ?_|refine dN.bind ?_ (fun _=>?_)
theorem aG.mono:∀ a0 k,dN (aG.f k a0) (aG.f (k+1) a0):=by
 intro a0 k
 obtain ⟨kZ,ih1,ih2,ih3⟩:=aG.iq k
 unfold aG.f
 repeat' with_reducible first|apply kZ|apply ih1|apply ih2|apply ih3|exact dN.refl _|exact dN.none _|refine dN.ite ?_ ?_|refine dN.bind ?_ (fun _=>?_)
set_option maxHeartbeats 8000000 in
set_option maxRecDepth 100000 in
theorem aG.calls (k:Nat) (a0:ByteArray) (r:Bool) (w:World) (h:aG.f k a0=some r) :
  Calls Tryd.prog 52 #[.string a0] w fun e w'=>e=.returned (.bool r)∧aV w w':=by
 have H:(if (a0.size:Int) > 0 then (if 0 < (a0.size:Int) then (aG.j0 k a0 a0 ((bt a0 0) == 45)) else (none)) else (aG.j0 k a0 a0 false))=some r:=h
 clear h
 have HC2:=ae.mk H
 clear H
 go_enter Tryd.func52,Tryd.ntmps52
 go_upto_region 2 with (fail)
 go_cut [13] (fun v13 wc=>∃ (kq:Nat) (Il:Bool),v13=.bool Il∧ae (aG.j0 kq a0 a0 Il=some r)∧ae (kq≤k)∧aV w wc)
 case first =>
  have H:=HC2.out
  clear HC2
  by_cases c3:(a0.size:Int) > 0
  ·
   rw [if_pos c3] at H
   have oQ:decide (0 < (a0.size:Int))=true:=decide_eq_true c3
   have Ef:decide (0 < a0.size)=true:=decide_eq_true (by omega)
   clear c3
   (first|rw [oQ]|(simp only [bY,bZ];rw [oQ])|skip)
   by_cases c4:0 < (a0.size:Int)
   ·
    rw [if_pos c4] at H
    have oG:decide (0 < (a0.size:Int))=true:=decide_eq_true c4
    have Ee:decide (0 < a0.size)=true:=decide_eq_true (by omega)
    clear c4
    have H':=ae.mk H
    clear H
    have p5:0≤(0:Int):=(by omega)
    have q5:0 < a0.size:=(by have:(0:Int) < (a0.size:Int):=of_decide_eq_true (by first|(with_reducible assumption)|assumption);omega)
    have hx5:∀ h:0 < a0.size,((a0[0]'h).toNat:Int)=bt a0 0:=kP a0 0
    clear p5
    have qi5:(0 < (a0.size:Int))=True:=eq_true (of_decide_eq_true (by first|(with_reducible assumption)|assumption))
    replace q5:=eq_true q5
    go_wp2
    go_meet
    case rel=>exact ⟨_,(((bt a0 0) == 45)),(by first|rfl|(simp;done)|(simp [*];done)),H',⟨by first|omega|exact Nat.le_refl _⟩,by repeat (first|exact aV.refl _|apply aV.step)⟩
   ·
    rw [if_neg c4] at H
    exact absurd H (by simp)
  ·
   rw [if_neg c3] at H
   have oQ:decide (0 < (a0.size:Int))=false:=decide_eq_false c3
   have Ef:decide (0 < a0.size)=false:=decide_eq_false (by omega)
   clear c3
   (first|rw [oQ]|(simp only [bY,bZ];rw [oQ])|skip)
   have H':=ae.mk H
   clear H
   go_wp2
   go_meet
   case rel=>exact ⟨_,(false),(by first|rfl|(simp;done)|(simp [*];done)),H',⟨by first|omega|exact Nat.le_refl _⟩,by repeat (first|exact aV.refl _|apply aV.step)⟩
 case rest =>
  clear HC2
  obtain ⟨kq,Il,rfl,HA,En,⟨mc1,rfl⟩⟩:=hcut
  cases kq with
  | zero=>exact absurd HA.out (by simp [aG.j0])
  | succ UN =>
   have H:=HA.out
   clear HA
   simp only [aG.j0] at H
   have X6:=ae.mk H
   clear H
   go_upto_if 13 with (fail)
   go_cut [3] (fun v3 wc=>∃ (kq:Nat) (jw:ByteArray),v3=.string jw∧ae (aG.j1 kq a0 jw=some r)∧ae (kq≤UN)∧aV w wc)
   case first =>
    have H:=X6.out
    clear X6
    by_cases c7:Il=true
    ·
     subst c7
     have H1:(if 1≤(a0.size:Int) then (aG.j1 UN a0 (a0.extract 1 a0.size)) else (none))=some r:=by rw [if_pos rfl] at H;exact H
     clear H
     have H:=H1
     clear H1
     by_cases c8:1≤(a0.size:Int)
     ·
      rw [if_pos c8] at H
      have qU:=eq_true c8
      have Ed:decide (1≤(a0.size:Int))=true:=decide_eq_true c8
      clear c8
      have H':=ae.mk H
      clear H
      go_wp2
      go_meet
      case rel=>exact ⟨_,(a0.extract 1 a0.size),(by first|rfl|(simp;done)|(simp [*];done)),H',⟨by have:=En.out;first|omega|exact Nat.le_refl _⟩,by repeat (first|exact aV.refl _|apply aV.step)⟩
     ·
      rw [if_neg c8] at H
      exact absurd H (by simp)
    ·
     replace c7:=Bool.eq_false_iff.mpr c7
     subst c7
     have H1:(aG.j1 UN a0 a0)=some r:=by rw [if_neg (show ¬ (false=true) by decide)] at H;exact H
     clear H
     have H:=H1
     clear H1
     have H':=ae.mk H
     clear H
     go_wp2
     go_meet
     case rel=>exact ⟨_,(a0),(by first|rfl|(simp;done)|(simp [*];done)),H',⟨by have:=En.out;first|omega|exact Nat.le_refl _⟩,by repeat (first|exact aV.refl _|apply aV.step)⟩
   case rest =>
    clear X6
    obtain ⟨kq,jw,rfl,HA,Hf,⟨mc5,rfl⟩⟩:=hcut
    cases kq with
    | zero=>exact absurd HA.out (by simp [aG.j1])
    | succ YV =>
     have H:=HA.out
     clear HA
     simp only [aG.j1] at H
     have X5:=ae.mk H
     clear H
     go_upto_region 4 with (fail)
     go_cut [32] (fun v32 wc=>∃ (kq:Nat) (Hm:Bool),v32=.bool Hm∧ae (aG.j2 kq jw Hm=some r)∧ae (kq≤YV)∧aV w wc)
     case first =>
      have H:=X5.out
      clear X5
      by_cases c10:jw.toList=([]:List UInt8)
      ·
       rw [if_pos c10] at H
       have oU:(jw.toList == ([]:List UInt8))=true:=beq_iff_eq.mpr c10
       have FM:(jw.toList != ([]:List UInt8))=false:=bne_eq_false_iff_eq.mpr c10
       clear c10
       (first|rw [oU]|(simp only [bY,bZ];rw [oU])|skip)
       have H':=ae.mk H
       clear H
       go_wp2
       go_meet
       case rel=>exact ⟨_,(true),(by first|rfl|(simp;done)|(simp [*];done)),H',⟨by have:=En.out;have:=Hf.out;first|omega|exact Nat.le_refl _⟩,by repeat (first|exact aV.refl _|apply aV.step)⟩
      ·
       rw [if_neg c10] at H
       have oU:(jw.toList == ([]:List UInt8))=false:=beq_eq_false_iff_ne.mpr c10
       have FM:(jw.toList != ([]:List UInt8))=true:=bne_iff_ne.mpr c10
       (first|rw [oU]|(simp only [bY,bZ];rw [oU])|skip)
       by_cases c11:0 < (jw.size:Int)
       ·
        rw [if_pos c11] at H
        have uo:decide (0 < (jw.size:Int))=true:=decide_eq_true c11
        have Bz:decide (0 < jw.size)=true:=decide_eq_true (by omega)
        clear c11
        by_cases c13:(bt jw 0)=48
        ·
         rw [if_pos c13] at H
         have pg:((bt jw 0) == 48)=true:=beq_iff_eq.mpr c13
         have FI:((bt jw 0) != 48)=false:=bne_eq_false_iff_eq.mpr c13
         clear c13
         by_cases c14:(jw.size:Int) > 1
         ·
          rw [if_pos c14] at H
          have Vq:decide (1 < (jw.size:Int))=true:=decide_eq_true c14
          have aal:decide (1 < jw.size)=true:=decide_eq_true (by omega)
          clear c14
          have H':=ae.mk H
          clear H
          have p12:0≤(0:Int):=(by omega)
          have q12:0 < jw.size:=(by have:(0:Int) < (jw.size:Int):=of_decide_eq_true (by first|(with_reducible assumption)|assumption);omega)
          have Xa:∀ h:0 < jw.size,((jw[0]'h).toNat:Int)=bt jw 0:=kP jw 0
          clear p12
          have YF:(0 < (jw.size:Int))=True:=eq_true (of_decide_eq_true (by first|(with_reducible assumption)|assumption))
          replace q12:=eq_true q12
          go_wp2
          go_meet
          case rel=>exact ⟨_,(true),(by first|rfl|(simp;done)|(simp [*];done)),H',⟨by have:=En.out;have:=Hf.out;first|omega|exact Nat.le_refl _⟩,by repeat (first|exact aV.refl _|apply aV.step)⟩
         ·
          rw [if_neg c14] at H
          have Vq:decide (1 < (jw.size:Int))=false:=decide_eq_false c14
          have aal:decide (1 < jw.size)=false:=decide_eq_false (by omega)
          clear c14
          have H':=ae.mk H
          clear H
          have p12:0≤(0:Int):=(by omega)
          have q12:0 < jw.size:=(by have:(0:Int) < (jw.size:Int):=of_decide_eq_true (by first|(with_reducible assumption)|assumption);omega)
          have Xa:∀ h:0 < jw.size,((jw[0]'h).toNat:Int)=bt jw 0:=kP jw 0
          clear p12
          have YF:(0 < (jw.size:Int))=True:=eq_true (of_decide_eq_true (by first|(with_reducible assumption)|assumption))
          replace q12:=eq_true q12
          go_wp2
          go_meet
          case rel=>exact ⟨_,(decide ((a0.size:Int) > 1)),(by first|rfl|(simp;done)|(simp [*];done)),H',⟨by have:=En.out;have:=Hf.out;first|omega|exact Nat.le_refl _⟩,by repeat (first|exact aV.refl _|apply aV.step)⟩
        ·
         rw [if_neg c13] at H
         have pg:((bt jw 0) == 48)=false:=beq_eq_false_iff_ne.mpr c13
         have FI:((bt jw 0) != 48)=true:=bne_iff_ne.mpr c13
         have H':=ae.mk H
         clear H
         have p12:0≤(0:Int):=(by omega)
         have q12:0 < jw.size:=(by have:(0:Int) < (jw.size:Int):=of_decide_eq_true (by first|(with_reducible assumption)|assumption);omega)
         have Xa:∀ h:0 < jw.size,((jw[0]'h).toNat:Int)=bt jw 0:=kP jw 0
         clear p12
         have YF:(0 < (jw.size:Int))=True:=eq_true (of_decide_eq_true (by first|(with_reducible assumption)|assumption))
         replace q12:=eq_true q12
         go_wp2
         go_meet
         case rel=>exact ⟨_,(false),(by first|rfl|(simp;done)|(simp [*];done)),H',⟨by have:=En.out;have:=Hf.out;first|omega|exact Nat.le_refl _⟩,by repeat (first|exact aV.refl _|apply aV.step)⟩
       ·
        rw [if_neg c11] at H
        exact absurd H (by simp)
     case rest =>
      clear X5
      obtain ⟨kq,Hm,rfl,HA,X3,⟨mc8,rfl⟩⟩:=hcut
      cases kq with
      | zero=>exact absurd HA.out (by simp [aG.j2])
      | succ kj8 =>
       have H:=HA.out
       clear HA
       simp only [aG.j2] at H
       by_cases c15:Hm=true
       ·
        subst c15
        have H1:(some false)=some r:=by rw [if_pos rfl] at H;exact H
        clear H
        have H:=H1
        clear H1
        obtain rfl:=Option.some.inj H
        go_wp2
        go_ret
        exact ⟨by first|rfl|(simp;done)|(simp [*];done),by repeat (first|exact aV.refl _|apply aV.step)⟩
       ·
        replace c15:=Bool.eq_false_iff.mpr c15
        subst c15
        have H1:(aG.l0 kj8 jw 0)=some r:=by rw [if_neg (show ¬ (false=true) by decide)] at H;exact H
        clear H
        have H:=H1
        clear H1
        have H':=ae.mk H
        clear H
        go_wp2
        go_loopg [4] kj8 (fun kq v4 w'=>∃ (oz:Int),v4=.int .i64 oz∧ae (aG.l0 kq jw oz=some r)∧ae (kq≤kj8)∧aV w w')
        case atStart=>exact ⟨(0),(by first|rfl|(simp;done)|(simp [*];done)),H',⟨Nat.le_refl _⟩,by repeat (first|exact aV.refl _|apply aV.step)⟩
        case round =>
         clear H'
         obtain ⟨oz,rfl,HA,HK4,⟨m4,rfl⟩⟩:=hrel
         cases gk with
         | zero=>exact absurd HA.out (by simp [aG.l0])
         | succ k4 =>
          have H:=HA.out
          clear HA
          simp only [aG.l0] at H
          by_cases c16:oz < (jw.size:Int)
          ·
           rw [if_pos c16] at H
           have xP:decide (oz < (jw.size:Int))=true:=decide_eq_true c16
           clear c16
           by_cases c17:0≤oz
           ·
            rw [if_pos c17] at H
            have zO:decide (0≤oz)=true:=decide_eq_true c17
            clear c17
            by_cases c19:(bt jw oz) < 48
            ·
             rw [if_pos c19] at H
             have Bv:decide ((bt jw oz) < 48)=true:=decide_eq_true c19
             clear c19
             obtain rfl:=Option.some.inj H
             have EH:0≤(oz:Int):=of_decide_eq_true (by first|(with_reducible assumption)|assumption)
             have EF:oz < (jw.size:Int):=of_decide_eq_true (by first|(with_reducible assumption)|assumption)
             have NF:=kP jw oz
             replace EH:=eq_true EH
             replace EF:=eq_true EF
             go_wp2
             go_ret
             exact ⟨by first|rfl|(simp;done)|(simp [*];done),by repeat (first|exact aV.refl _|apply aV.step)⟩
            ·
             rw [if_neg c19] at H
             have Bv:decide ((bt jw oz) < 48)=false:=decide_eq_false c19
             clear c19
             by_cases c21:(bt jw oz) > 57
             ·
              rw [if_pos c21] at H
              have aah:decide (57 < (bt jw oz))=true:=decide_eq_true c21
              clear c21
              obtain rfl:=Option.some.inj H
              have EH:0≤(oz:Int):=of_decide_eq_true (by first|(with_reducible assumption)|assumption)
              have EF:oz < (jw.size:Int):=of_decide_eq_true (by first|(with_reducible assumption)|assumption)
              have NF:=kP jw oz
              replace EH:=eq_true EH
              replace EF:=eq_true EF
              have YK:0≤(oz:Int):=of_decide_eq_true (by first|(with_reducible assumption)|assumption)
              have YG:oz < (jw.size:Int):=of_decide_eq_true (by first|(with_reducible assumption)|assumption)
              have agk:=kP jw oz
              replace YK:=eq_true YK
              replace YG:=eq_true YG
              go_wp2
              go_ret
              exact ⟨by first|rfl|(simp;done)|(simp [*];done),by repeat (first|exact aV.refl _|apply aV.step)⟩
             ·
              rw [if_neg c21] at H
              have aah:decide (57 < (bt jw oz))=false:=decide_eq_false c21
              clear c21
              have H':=ae.mk H
              clear H
              have EH:0≤(oz:Int):=of_decide_eq_true (by first|(with_reducible assumption)|assumption)
              have EF:oz < (jw.size:Int):=of_decide_eq_true (by first|(with_reducible assumption)|assumption)
              have NF:=kP jw oz
              replace EH:=eq_true EH
              replace EF:=eq_true EF
              have YK:0≤(oz:Int):=of_decide_eq_true (by first|(with_reducible assumption)|assumption)
              have YG:oz < (jw.size:Int):=of_decide_eq_true (by first|(with_reducible assumption)|assumption)
              have agk:=kP jw oz
              replace YK:=eq_true YK
              replace YG:=eq_true YG
              go_wp2
              go_roundg k4
              case measure=>have:=En.out;have:=Hf.out;have:=X3.out;have:=HK4.out;omega
              case rel=>exact ⟨(wrap64 (oz+1)),(by first|rfl|(simp;done)|(simp [*];done)),H',⟨by have:=En.out;have:=Hf.out;have:=X3.out;have:=HK4.out;omega⟩,by repeat (first|exact aV.refl _|apply aV.step)⟩
           ·
            rw [if_neg c17] at H
            exact absurd H (by simp)
          ·
           rw [if_neg c16] at H
           have xP:decide (oz < (jw.size:Int))=false:=decide_eq_false c16
           clear c16
           obtain rfl:=Option.some.inj H
           go_wp2
           go_ret
           exact ⟨by first|rfl|(simp;done)|(simp [*];done),by repeat (first|exact aV.refl _|apply aV.step)⟩
end Go.Proofs.YtbmhmlgfpijmhaaDoor.P
end
section
namespace Go.Proofs.YtbmhmlgfpijmhaaDoor.P
open Go.RowKit Go.Proofs.af.bG Go.Proofs.af.dD Go.Proofs.af.dM
attribute [local go_sem] kF kD lK lJ jH jG kE kC
mutual
def aH.j0:Nat→ByteArray→Bool→Option (Int × Int)
 | 0,_,_=>none
 | k+1,x4,x5=>aH.l0 k x4 x5 0 0
def aH.j2:Nat→ByteArray→Bool→Int→Option (Int × Int)
 | 0,_,_,_=>none
 | k+1,x4,x5,x6=>if (x4.size:Int) > 19 then (aH.j3 k x5 x6 (decide ((x4.size:Int) > 19))) else (if x6 > 9223372036854775808 then (aH.j3 k x5 x6 (decide (x6 > 9223372036854775808))) else (if x6=9223372036854775808 then (aH.j3 k x5 x6 (!x5)) else (aH.j3 k x5 x6 false)))
def aH.j3:Nat→Bool→Int→Bool→Option (Int × Int)
 | 0,_,_,_=>none
 | k+1,x5,x6,x36=>if x36=true then (some (0,3)) else (if x5=true then (some (wrap64 (-(wrap64 (x6))),0)) else (some (wrap64 (x6),0)))
def aH.l0:Nat→ByteArray→Bool→Int→Int→Option (Int × Int)
 | 0,_,_,_,_=>none
 | k+1,x4,x5,x6,x7=>if x7 < (x4.size:Int) then (if x7 < 19 then (if 0≤x7 then (aH.l0 k x4 x5 (IntKind.u64.wrap ((IntKind.u64.wrap (x6 * 10))+(((bt x4 x7) - 48) % 256))) (wrap64 (x7+1))) else (none)) else (aH.j2 k x4 x5 x6)) else (aH.j2 k x4 x5 x6)
end
def aH.f (k:Nat) (a0:ByteArray):Option (Int × Int):=(aG.f k a0).bind fun t144=>(if t144=true then (if 0 < (a0.size:Int) then (if (bt a0 0)=45 then (if 1≤(a0.size:Int) then (aH.j0 k (a0.extract 1 a0.size) ((bt a0 0) == 45)) else (none)) else (aH.j0 k a0 ((bt a0 0) == 45))) else (none)) else (some (0,4)))
theorem aH.iq:∀ k,(∀ y0 y1,dN (aH.j0 k y0 y1) (aH.j0 (k+1) y0 y1))∧(∀ y0 y1 y2,dN (aH.j2 k y0 y1 y2) (aH.j2 (k+1) y0 y1 y2))∧(∀ y0 y1 y2,dN (aH.j3 k y0 y1 y2) (aH.j3 (k+1) y0 y1 y2))∧(∀ y0 y1 y2 y3,dN (aH.l0 k y0 y1 y2 y3) (aH.l0 (k+1) y0 y1 y2 y3))
 | 0=>⟨fun _ _ r h=>by simp [aH.j0] at h,fun _ _ _ r h=>by simp [aH.j2] at h,fun _ _ _ r h=>by simp [aH.j3] at h,fun _ _ _ _ r h=>by simp [aH.l0] at h⟩
 | k+1=>by
  obtain ⟨kZ,ih1,ih2,ih3⟩:=aH.iq k
  refine ⟨?_,?_,?_,?_⟩
  ·
   intro y0 y1
   unfold aH.j0
   repeat' with_reducible first|apply kZ|apply ih1|apply ih2|apply ih3|apply aG.mono|exact dN.refl _|exact dN.none _|refine dN.ite ?_ ?_|refine dN.bind ?_ (fun _=>?_)
  ·
   intro y0 y1 y2
   unfold aH.j2
   repeat' with_reducible first|apply kZ|apply ih1|apply ih2|apply ih3|apply aG.mono|exact dN.refl _|exact dN.none _|refine dN.ite ?_ ?_|refine dN.bind ?_ (fun _=>?_)
  ·
   intro y0 y1 y2
   unfold aH.j3
   repeat' with_reducible first|apply kZ|apply ih1|apply ih2|apply ih3|apply aG.mono|exact dN.refl _|exact dN.none _|refine dN.ite ?_ ?_|refine dN.bind ?_ (fun _=>?_)
  ·
   intro y0 y1 y2 y3
   unfold aH.l0
   repeat' with_reducible first|apply kZ|apply ih1|apply ih2|apply ih3|apply aG.mono|exact dN.refl _|exact dN.none _|refine dN.ite ?_ ?_|refine dN.bind ?_ (fun _=>?_)
theorem aH.mono:∀ a0 k,dN (aH.f k a0) (aH.f (k+1) a0):=by
 intro a0 k
 obtain ⟨kZ,ih1,ih2,ih3⟩:=aH.iq k
 unfold aH.f
 repeat' with_reducible first|apply kZ|apply ih1|apply ih2|apply ih3|apply aG.mono|exact dN.refl _|exact dN.none _|refine dN.ite ?_ ?_|refine dN.bind ?_ (fun _=>?_)
set_option maxHeartbeats 8000000 in
set_option maxRecDepth 100000 in
theorem aH.calls (k:Nat) (a0:ByteArray) (r1:Int) (r2:Int) (w:World) (h:aH.f k a0=some (r1,r2)) :
  Calls Tryd.prog 46 #[.string a0] w fun e w'=>e=.returned (.tuple #[.int .i64 r1,.int .i64 r2])∧aV w w':=by
 have H:((aG.f k a0).bind fun t144=>(if t144=true then (if 0 < (a0.size:Int) then (if (bt a0 0)=45 then (if 1≤(a0.size:Int) then (aH.j0 k (a0.extract 1 a0.size) ((bt a0 0) == 45)) else (none)) else (aH.j0 k a0 ((bt a0 0) == 45))) else (none)) else (some (0,4))))=some (r1,r2):=h
 clear h
 replace H:=Option.bind_eq_some_iff.mp H
 obtain ⟨t144,Pn,H⟩:=H
 replace H:(if t144=true then (if 0 < (a0.size:Int) then (if (bt a0 0)=45 then (if 1≤(a0.size:Int) then (aH.j0 k (a0.extract 1 a0.size) ((bt a0 0) == 45)) else (none)) else (aH.j0 k a0 ((bt a0 0) == 45))) else (none)) else (some (0,4)))=some (r1,r2):=H
 have A2:=ae.mk Pn
 clear Pn
 by_cases c3:t144=true
 ·
  subst c3
  have H1:(if 0 < (a0.size:Int) then (if (bt a0 0)=45 then (if 1≤(a0.size:Int) then (aH.j0 k (a0.extract 1 a0.size) ((bt a0 0) == 45)) else (none)) else (aH.j0 k a0 ((bt a0 0) == 45))) else (none))=some (r1,r2):=by rw [if_pos rfl] at H;exact H
  clear H
  have H:=H1
  clear H1
  by_cases c4:0 < (a0.size:Int)
  ·
   rw [if_pos c4] at H
   have oG:decide (0 < (a0.size:Int))=true:=decide_eq_true c4
   have Ee:decide (0 < a0.size)=true:=decide_eq_true (by omega)
   clear c4
   have X6:=ae.mk H
   clear H
   go_enter Tryd.func46,Tryd.ntmps46
   go_upto_if 15 with (first|((with_reducible refine bT (f:=52) rfl ?_);refine gp (some 9) rfl rfl Tryd.func52 (by kernel_rfl) rfl #[.string a0] rfl (by (try simp only [List.map_toArray,List.map_cons,List.map_nil]);first|done|rfl|(simp only [List.length_drop,List.length_take];rfl)) ?_;(with_reducible refine (aG.calls k a0 true _ A2.out).mono ?_);rintro e w' ⟨rfl,⟨nd,rfl⟩⟩;refine ⟨_,rfl,?_⟩;have p5:0≤(0:Int):=(by omega);have q5:0 < a0.size:=(by have:(0:Int) < (a0.size:Int):=of_decide_eq_true (by first|(with_reducible assumption)|assumption);omega);have hx5:∀ h:0 < a0.size,((a0[0]'h).toNat:Int)=bt a0 0:=kP a0 0;clear p5;have qi5:(0 < (a0.size:Int))=True:=eq_true (of_decide_eq_true (by first|(with_reducible assumption)|assumption));replace q5:=eq_true q5))
   (try simp only [Act.put,List.setIfInBounds_toArray,List.set_cons_zero,List.set_cons_succ])
   go_cut [4] (fun v4 wc=>∃ (kq:Nat) (tX:ByteArray),v4=.string tX∧ae (aH.j0 kq tX ((bt a0 0) == 45)=some (r1,r2))∧ae (kq≤k)∧aV w wc)
   case first =>
    have H:=X6.out
    clear X6
    by_cases c7:(bt a0 0)=45
    ·
     rw [if_pos c7] at H
     have pJ:((bt a0 0) == 45)=true:=beq_iff_eq.mpr c7
     have zL:((bt a0 0) != 45)=false:=bne_eq_false_iff_eq.mpr c7
     clear c7
     (first|rw [pJ]|(simp only [bY,bZ];rw [pJ])|skip)
     by_cases c8:1≤(a0.size:Int)
     ·
      rw [if_pos c8] at H
      have qU:=eq_true c8
      have Ed:decide (1≤(a0.size:Int))=true:=decide_eq_true c8
      clear c8
      have H':=ae.mk H
      clear H
      go_wp2
      refine Met.intro ?_
      go_step
      (repeat apply Exists.intro)
      refine ⟨?rel,?same⟩
      case same=>rw [pJ]
      case rel=>exact ⟨_,(a0.extract 1 a0.size),(by first|rfl|(simp;done)|(simp [*];done)),H',⟨by first|omega|exact Nat.le_refl _⟩,by repeat (first|exact aV.refl _|apply aV.step)⟩
     ·
      rw [if_neg c8] at H
      exact absurd H (by simp)
    ·
     rw [if_neg c7] at H
     have pJ:((bt a0 0) == 45)=false:=beq_eq_false_iff_ne.mpr c7
     have zL:((bt a0 0) != 45)=true:=bne_iff_ne.mpr c7
     (first|rw [pJ]|(simp only [bY,bZ];rw [pJ])|skip)
     have H':=ae.mk H
     clear H
     go_wp2
     refine Met.intro ?_
     go_step
     (repeat apply Exists.intro)
     refine ⟨?rel,?same⟩
     case same=>rw [pJ]
     case rel=>exact ⟨_,(a0),(by first|rfl|(simp;done)|(simp [*];done)),H',⟨by first|omega|exact Nat.le_refl _⟩,by repeat (first|exact aV.refl _|apply aV.step)⟩
   case rest =>
    clear X6
    obtain ⟨kq,tX,rfl,HA,Hf,⟨mc5,rfl⟩⟩:=hcut
    cases kq with
    | zero=>exact absurd HA.out (by simp [aH.j0])
    | succ YV =>
     have H:=HA.out
     clear HA
     simp only [aH.j0] at H
     have X5:=ae.mk H
     clear H
     go_upto_block 0 with (fail)
     go_cut [6] (fun v6 wc=>∃ (kq:Nat) (vk:Int),v6=.int .u64 vk∧ae (aH.j2 kq tX ((bt a0 0) == 45) vk=some (r1,r2))∧ae (kq≤YV)∧aV w wc)
     case first =>
      have H:=X5.out
      clear X5
      have H':=ae.mk H
      clear H
      go_wp2
      go_loopg [6,7] YV (fun kq v6 v7 w'=>∃ (KT:Int) (kY:Int),v6=.int .u64 KT∧v7=.int .i64 kY∧ae (aH.l0 kq tX ((bt a0 0) == 45) KT kY=some (r1,r2))∧ae (kq≤YV)∧aV w w')
      case atStart=>exact ⟨(0),(0),(by first|rfl|(simp;done)|(simp [*];done)),(by first|rfl|(simp;done)|(simp [*];done)),H',⟨Nat.le_refl _⟩,by repeat (first|exact aV.refl _|apply aV.step)⟩
      case round =>
       clear H'
       obtain ⟨KT,kY,rfl,rfl,HA,rJ,⟨m2,rfl⟩⟩:=hrel
       cases gk with
       | zero=>exact absurd HA.out (by simp [aH.l0])
       | succ k2 =>
        have H:=HA.out
        clear HA
        simp only [aH.l0] at H
        by_cases c10:kY < (tX.size:Int)
        ·
         rw [if_pos c10] at H
         have oU:decide (kY < (tX.size:Int))=true:=decide_eq_true c10
         clear c10
         (first|rw [oU]|(simp only [bY,bZ];rw [oU])|skip)
         by_cases c11:kY < 19
         ·
          rw [if_pos c11] at H
          have uo:decide (kY < 19)=true:=decide_eq_true c11
          clear c11
          by_cases c12:0≤kY
          ·
           rw [if_pos c12] at H
           have um:decide (0≤kY)=true:=decide_eq_true c12
           clear c12
           have H':=ae.mk H
           clear H
           have p13:0≤(kY:Int):=of_decide_eq_true (by first|(with_reducible assumption)|assumption)
           have q13:kY < (tX.size:Int):=of_decide_eq_true (by first|(with_reducible assumption)|assumption)
           have Qi:=kP tX kY
           replace p13:=eq_true p13
           replace q13:=eq_true q13
           go_wp2
           go_roundg k2
           case measure=>have:=Hf.out;have:=rJ.out;omega
           case rel=>exact ⟨(IntKind.u64.wrap ((IntKind.u64.wrap (KT * 10))+(((bt tX kY) - 48) % 256))),(wrap64 (kY+1)),(by first|rfl|(simp;done)|(simp [*];done)),(by first|rfl|(simp;done)|(simp [*];done)),H',⟨by have:=Hf.out;have:=rJ.out;omega⟩,by repeat (first|exact aV.refl _|apply aV.step)⟩
          ·
           rw [if_neg c12] at H
           exact absurd H (by simp)
         ·
          rw [if_neg c11] at H
          have uo:decide (kY < 19)=false:=decide_eq_false c11
          clear c11
          have H':=ae.mk H
          clear H
          go_wp2
          go_meet
          case rel=>exact ⟨_,(KT),(by first|rfl|(simp;done)|(simp [*];done)),H',⟨by have:=Hf.out;have:=rJ.out;first|omega|exact Nat.le_refl _⟩,by repeat (first|exact aV.refl _|apply aV.step)⟩
        ·
         rw [if_neg c10] at H
         have oU:decide (kY < (tX.size:Int))=false:=decide_eq_false c10
         clear c10
         (first|rw [oU]|(simp only [bY,bZ];rw [oU])|skip)
         have H':=ae.mk H
         clear H
         go_wp2
         go_meet
         case rel=>exact ⟨_,(KT),(by first|rfl|(simp;done)|(simp [*];done)),H',⟨by have:=Hf.out;have:=rJ.out;first|omega|exact Nat.le_refl _⟩,by repeat (first|exact aV.refl _|apply aV.step)⟩
     case rest =>
      clear X5
      obtain ⟨kq,vk,rfl,HA,X3,⟨mc8,rfl⟩⟩:=hcut
      cases kq with
      | zero=>exact absurd HA.out (by simp [aH.j2])
      | succ kj8 =>
       have H:=HA.out
       clear HA
       simp only [aH.j2] at H
       have Hg:=ae.mk H
       clear H
       go_upto_if 36 with (fail)
       go_cut [36] (fun v36 wc=>∃ (kq:Nat) (BN:Bool),v36=.bool BN∧ae (aH.j3 kq ((bt a0 0) == 45) vk BN=some (r1,r2))∧ae (kq≤kj8)∧aV w wc)
       case first =>
        have H:=Hg.out
        clear Hg
        by_cases c15:(tX.size:Int) > 19
        ·
         rw [if_pos c15] at H
         have qF:decide (19 < (tX.size:Int))=true:=decide_eq_true c15
         have FH:decide (19 < tX.size)=true:=decide_eq_true (by omega)
         clear c15
         (first|rw [qF]|(simp only [bY,bZ];rw [qF])|skip)
         have H':=ae.mk H
         clear H
         go_wp2
         go_meet
         case rel=>exact ⟨_,(decide ((tX.size:Int) > 19)),(by first|rfl|(simp;done)|(simp [*];done)),H',⟨by have:=Hf.out;have:=X3.out;first|omega|exact Nat.le_refl _⟩,by repeat (first|exact aV.refl _|apply aV.step)⟩
        ·
         rw [if_neg c15] at H
         have qF:decide (19 < (tX.size:Int))=false:=decide_eq_false c15
         have FH:decide (19 < tX.size)=false:=decide_eq_false (by omega)
         clear c15
         (first|rw [qF]|(simp only [bY,bZ];rw [qF])|skip)
         by_cases c16:vk > 9223372036854775808
         ·
          rw [if_pos c16] at H
          have xP:decide (9223372036854775808 < vk)=true:=decide_eq_true c16
          clear c16
          have H':=ae.mk H
          clear H
          go_wp2
          go_meet
          case rel=>exact ⟨_,(decide (vk > 9223372036854775808)),(by first|rfl|(simp;done)|(simp [*];done)),H',⟨by have:=Hf.out;have:=X3.out;first|omega|exact Nat.le_refl _⟩,by repeat (first|exact aV.refl _|apply aV.step)⟩
         ·
          rw [if_neg c16] at H
          have xP:decide (9223372036854775808 < vk)=false:=decide_eq_false c16
          clear c16
          by_cases c17:vk=9223372036854775808
          ·
           rw [if_pos c17] at H
           have zO:(vk == 9223372036854775808)=true:=beq_iff_eq.mpr c17
           have FD:(vk != 9223372036854775808)=false:=bne_eq_false_iff_eq.mpr c17
           clear c17
           have H':=ae.mk H
           clear H
           go_wp2
           go_meet
           case rel=>exact ⟨_,(!((bt a0 0) == 45)),(by first|rfl|(simp;done)|(simp [*];done)),H',⟨by have:=Hf.out;have:=X3.out;first|omega|exact Nat.le_refl _⟩,by repeat (first|exact aV.refl _|apply aV.step)⟩
          ·
           rw [if_neg c17] at H
           have zO:(vk == 9223372036854775808)=false:=beq_eq_false_iff_ne.mpr c17
           have FD:(vk != 9223372036854775808)=true:=bne_iff_ne.mpr c17
           have H':=ae.mk H
           clear H
           go_wp2
           go_meet
           case rel=>exact ⟨_,(false),(by first|rfl|(simp;done)|(simp [*];done)),H',⟨by have:=Hf.out;have:=X3.out;first|omega|exact Nat.le_refl _⟩,by repeat (first|exact aV.refl _|apply aV.step)⟩
       case rest =>
        clear Hg
        obtain ⟨kq,BN,rfl,HA,FY,⟨aj9,rfl⟩⟩:=hcut
        cases kq with
        | zero=>exact absurd HA.out (by simp [aH.j3])
        | succ Qd =>
         have H:=HA.out
         clear HA
         simp only [aH.j3] at H
         by_cases c18:BN=true
         ·
          subst c18
          have H1:(some (0,3))=some (r1,r2):=by rw [if_pos rfl] at H;exact H
          clear H
          have H:=H1
          clear H1
          simp only [Option.some.injEq,Prod.mk.injEq] at H
          obtain ⟨rfl,rfl⟩:=H
          go_wp2
          go_ret2
          exact ⟨by first|rfl|(simp;done)|(simp [*];done),by repeat (first|exact aV.refl _|apply aV.step)⟩
         ·
          replace c18:=Bool.eq_false_iff.mpr c18
          subst c18
          have H1:(if ((bt a0 0) == 45)=true then (some (wrap64 (-(wrap64 (vk))),0)) else (some (wrap64 (vk),0)))=some (r1,r2):=by rw [if_neg (show ¬ (false=true) by decide)] at H;exact H
          clear H
          have H:=H1
          clear H1
          by_cases c19:((bt a0 0) == 45)=true
          ·
           rw [if_pos c19] at H
           have Bv:((bt a0 0) == 45)=true:=c19
           (try (have Vp:decide ((bt a0 0)=45)=true:=by simpa using c19))
           (try (have aai:((bt a0 0) == 45)=true:=by simpa using c19))
           clear c19
           simp only [Option.some.injEq,Prod.mk.injEq] at H
           obtain ⟨rfl,rfl⟩:=H
           go_wp2
           go_ret2
           exact ⟨by first|rfl|(simp;done)|(simp [*];done),by repeat (first|exact aV.refl _|apply aV.step)⟩
          ·
           rw [if_neg c19] at H
           have Bv:((bt a0 0) == 45)=false:=by simpa using c19
           (try (have Vp:decide ((bt a0 0)=45)=false:=by simpa using c19))
           (try (have aai:((bt a0 0) == 45)=false:=by simpa using c19))
           (try (have aiZ:¬ ((bt a0 0)=45):=by simpa using c19))
           clear c19
           simp only [Option.some.injEq,Prod.mk.injEq] at H
           obtain ⟨rfl,rfl⟩:=H
           go_wp2
           go_ret2
           exact ⟨by first|rfl|(simp;done)|(simp [*];done),by repeat (first|exact aV.refl _|apply aV.step)⟩
  ·
   rw [if_neg c4] at H
   exact absurd H (by simp)
 ·
  replace c3:=Bool.eq_false_iff.mpr c3
  subst c3
  have H1:(some (0,4))=some (r1,r2):=by rw [if_neg (show ¬ (false=true) by decide)] at H;exact H
  clear H
  have H:=H1
  clear H1
  simp only [Option.some.injEq,Prod.mk.injEq] at H
  obtain ⟨rfl,rfl⟩:=H
  go_enter Tryd.func46,Tryd.ntmps46
  go_wp2_with (first|((with_reducible refine bT (f:=52) rfl ?_);refine gp (some 9) rfl rfl Tryd.func52 (by kernel_rfl) rfl #[.string a0] rfl (by (try simp only [List.map_toArray,List.map_cons,List.map_nil]);first|done|rfl|(simp only [List.length_drop,List.length_take];rfl)) ?_;(with_reducible refine (aG.calls k a0 false _ A2.out).mono ?_);rintro e w' ⟨rfl,⟨nd,rfl⟩⟩;refine ⟨_,rfl,?_⟩))
  go_ret2
  exact ⟨by first|rfl|(simp;done)|(simp [*];done),by repeat (first|exact aV.refl _|apply aV.step)⟩
def bf.j0:Nat→Int→Int→Bool→Int→Int→Int→Int→Int→Option (Int × Int × Int × Int × Int × Bool)
 | 0,_,_,_,_,_,_,_,_=>none
 | k+1,x1,x2,x18,yx,BQ,BP,BO,yw=>if x18=true then (some (yx,BQ,BP,BO,yw,false)) else (if x1=97 then (some (yx,(x2) % 256,BP,BO,yw,true)) else (if x1=98 then (some (yx,BQ,(x2) % 256,BO,yw,true)) else (some (yx,BQ,BP,(x2) % 256,yw,true))))
def bf.f (k:Nat) (dC:Int) (aY:Int) (aZ:Int) (fV:Int) (gu:Int) (a1:Int) (a2:Int):Option (Int × Int × Int × Int × Int × Bool):=if a1=110 then (some (dC,aY,aZ,fV,a2,true)) else (if a2 < 0 then (bf.j0 k a1 a2 true dC aY aZ fV gu) else (bf.j0 k a1 a2 (decide (a2 > 255)) dC aY aZ fV gu))
theorem bf.iq:∀ k,(∀ y0 y1 y2 y3 y4 y5 y6 y7,dN (bf.j0 k y0 y1 y2 y3 y4 y5 y6 y7) (bf.j0 (k+1) y0 y1 y2 y3 y4 y5 y6 y7))
 | 0=>fun _ _ _ _ _ _ _ _ r h=>by simp [bf.j0] at h
 | k+1=>by
  have kZ:=bf.iq k
  ·
   intro y0 y1 y2 y3 y4 y5 y6 y7
   unfold bf.j0
   repeat' with_reducible first|apply kZ|exact dN.refl _|exact dN.none _|refine dN.ite ?_ ?_|refine dN.bind ?_ (fun _=>?_)
theorem bf.mono:∀ a0 a1 a2 a3 a4 a5 a6 k,dN (bf.f k a0 a1 a2 a3 a4 a5 a6) (bf.f (k+1) a0 a1 a2 a3 a4 a5 a6):=by
 intro a0 a1 a2 a3 a4 a5 a6 k
 have kZ:=bf.iq k
 unfold bf.f
 repeat' with_reducible first|apply kZ|exact dN.refl _|exact dN.none _|refine dN.ite ?_ ?_|refine dN.bind ?_ (fun _=>?_)
set_option maxHeartbeats 8000000 in
set_option maxRecDepth 100000 in
theorem bf.calls (k:Nat) (dC:Int) (aY:Int) (aZ:Int) (fV:Int) (gu:Int) (a1:Int) (a2:Int) (r1:Int) (r2:Int) (r3:Int) (r4:Int) (r5:Int) (r6:Bool) (w:World) (h:bf.f k dC aY aZ fV gu a1 a2=some (r1,r2,r3,r4,r5,r6)) :
  Calls Tryd.prog 47 #[.agg #[.int .u8 dC,.int .u8 aY,.int .u8 aZ,.int .u8 fV,.int .i64 gu],.int .u8 a1,.int .i64 a2] w fun e w'=>e=.returned (.tuple #[.agg #[.int .u8 r1,.int .u8 r2,.int .u8 r3,.int .u8 r4,.int .i64 r5],.bool r6])∧Below w.heap.size w w':=by
 have Ai:=Tryd.underlying39
 have HB:=ae.mk (Below.refl w.heap.size w)
 have H:(if a1=110 then (some (dC,aY,aZ,fV,a2,true)) else (if a2 < 0 then (bf.j0 k a1 a2 true dC aY aZ fV gu) else (bf.j0 k a1 a2 (decide (a2 > 255)) dC aY aZ fV gu)))=some (r1,r2,r3,r4,r5,r6):=h
 clear h
 by_cases c4:a1=110
 ·
  rw [if_pos c4] at H
  have oG:(a1 == 110)=true:=beq_iff_eq.mpr c4
  have Ee:(a1 != 110)=false:=bne_eq_false_iff_eq.mpr c4
  clear c4
  simp only [Option.some.injEq,Prod.mk.injEq] at H
  obtain ⟨rfl,rfl,rfl,rfl,rfl,rfl⟩:=H
  go_enter Tryd.func47,Tryd.ntmps47
  go_wp2_with (first|((with_reducible refine bI (N:=3) rfl ?_);refine dZ ?hg (N:=3) ?hd (cs:=#[.int .u8 dC,.int .u8 aY,.int .u8 aZ,.int .u8 fV,.int .i64 gu]) (t:=39) ?hr ?_;(case hd=>rfl);(case hg=>rfl);(case hr=>first|(go_simp;done)|(go_simp;rfl));intro jY hg w5 hbox hb;have eU:=ae.mk (bz (by repeat (first|(with_reducible first|exact HB.out|apply ay|apply ai|apply ax)|exact HB.out)) hb);have eQ:=ae.mk (hbox);have eu:=ae.mk ((by rw [hg];exact (cu (by repeat (first|(with_reducible first|exact HB.out|apply ay|apply ai|apply ax)|exact HB.out))):w.heap.size≤jY));have ig:=eu;clear HB;have HB:=eU;have iE:=eQ;have aaP:=eu;have tC:=ig;clear eU eQ eu ig;clear hb hbox hg)|((with_reducible refine bI (N:=6) rfl ?_);refine dZ ?hg (N:=6) ?hd (cs:=#[.int .u8 0,.int .u8 0,.int .u8 0,.int .u8 0,.int .i64 0]) (t:=39) ?hr ?_;(case hd=>rfl);(case hg=>rfl);(case hr=>first|(go_simp;done)|(go_simp;rfl));intro jQ hg w6 hbox hb;have eU:=ae.mk (bK (g:=jY) (o:=.cells #[.int .u8 dC,.int .u8 aY,.int .u8 aZ,.int .u8 fV,.int .i64 gu] 39 (0,0)) (by (with_reducible repeat (first|refine au ?_ _|refine aC ?_|refine ak ?_ _));exact iE.out) hb);have eQ:=ae.mk (bz (by repeat (first|(with_reducible first|exact HB.out|apply ay|apply ai|apply ax|refine aA ?_ tC.out)|exact HB.out)) hb);have eu:=ae.mk (hbox);have ig:=ae.mk ((by rw [hg];exact (cu (by repeat (first|(with_reducible first|exact HB.out|apply ay|apply ai|apply ax|refine aA ?_ tC.out)|exact HB.out))):w.heap.size≤jQ));have mW:=ig;have mM:=ae.mk ((by rw [hg];exact Nat.ne_of_lt (jJ (g:=jY) (o:=.cells #[.int .u8 dC,.int .u8 aY,.int .u8 aZ,.int .u8 fV,.int .i64 gu] 39 (0,0)) (by (with_reducible repeat (first|refine au ?_ _|refine aC ?_|refine ak ?_ _));exact iE.out)):jY ≠ jQ));have nD:=ae.mk mM.out.symm;clear iE;clear HB;have iE:=eU;have HB:=eQ;have iI:=eu;have aaO:=ig;have xW:=mW;have qK:=mM;have mJ:=nD;clear eU eQ eu ig mW mM nD;clear hb hbox hg;have akw:=qK.out;have akv:=mJ.out;have G5:w6.cell? ⟨jY,0,none⟩=some (.int .u8 dC):=(ah iE.out 0).trans rfl;have GZ:w6.cell? ⟨jY,1,none⟩=some (.int .u8 aY):=(ah iE.out 1).trans rfl;have GY:w6.cell? ⟨jY,2,none⟩=some (.int .u8 aZ):=(ah iE.out 2).trans rfl;have GX:w6.cell? ⟨jY,3,none⟩=some (.int .u8 fV):=(ah iE.out 3).trans rfl;have Xo:w6.cell? ⟨jY,4,none⟩=some (.int .i64 gu):=(ah iE.out 4).trans rfl;have GV:=ag iE.out 0;have GU:=ag iE.out 1;have GR:=ag iE.out 2;have GN:=ag iE.out 3;have Xd:=ag iE.out 4;have NZ:w6.cell? ⟨jQ,0,none⟩=some (.int .u8 0):=(ah iI.out 0).trans rfl;have NY:w6.cell? ⟨jQ,1,none⟩=some (.int .u8 0):=(ah iI.out 1).trans rfl;have NW:w6.cell? ⟨jQ,2,none⟩=some (.int .u8 0):=(ah iI.out 2).trans rfl;have NV:w6.cell? ⟨jQ,3,none⟩=some (.int .u8 0):=(ah iI.out 3).trans rfl;have agL:w6.cell? ⟨jQ,4,none⟩=some (.int .i64 0):=(ah iI.out 4).trans rfl;have NU:=ag iI.out 0;have NT:=ag iI.out 1;have NS:=ag iI.out 2;have NR:=ag iI.out 3;have agB:=ag iI.out 4))
  refine bodyPost_ret (l7 rfl _ _ jQ 39 #[.int .u8 dC,.int .u8 aY,.int .u8 aZ,.int .u8 fV,.int .i64 a2] (0,0) _ rfl (by (with_reducible repeat (first|refine au ?_ _|refine aC ?_|refine ak ?_ _));refine dw (cs:=#[.int .u8 dC,.int .u8 aY,.int .u8 aZ,.int .u8 fV,.int .i64 0]) ?_ 4 _ rfl;(with_reducible repeat (first|refine au ?_ _|refine aC ?_|refine ak ?_ _));refine dw (cs:=#[.int .u8 dC,.int .u8 aY,.int .u8 aZ,.int .u8 0,.int .i64 0]) ?_ 3 _ rfl;(with_reducible repeat (first|refine au ?_ _|refine aC ?_|refine ak ?_ _));refine dw (cs:=#[.int .u8 dC,.int .u8 aY,.int .u8 0,.int .u8 0,.int .i64 0]) ?_ 2 _ rfl;(with_reducible repeat (first|refine au ?_ _|refine aC ?_|refine ak ?_ _));refine dw (cs:=#[.int .u8 dC,.int .u8 0,.int .u8 0,.int .u8 0,.int .i64 0]) ?_ 1 _ rfl;(with_reducible repeat (first|refine au ?_ _|refine aC ?_|refine ak ?_ _));refine dw (cs:=#[.int .u8 0,.int .u8 0,.int .u8 0,.int .u8 0,.int .i64 0]) ?_ 0 _ rfl;(with_reducible repeat (first|refine au ?_ _|refine aC ?_|refine ak ?_ _));refine fA ?_ mJ.out _;(with_reducible repeat (first|refine au ?_ _|refine aC ?_|refine ak ?_ _));exact iI.out) Tryd.underlying39 rfl (by kernel_rfl)) rfl ?_
  exact ⟨by first|rfl|(simp [aT,aQ] <;> rfl)|(simp [*,aT,aQ] <;> rfl),by repeat (first|(with_reducible first|exact HB.out|apply ay|apply ai|apply ax|refine aA ?_ tC.out|refine aA ?_ xW.out)|exact HB.out)⟩
 ·
  rw [if_neg c4] at H
  have oG:(a1 == 110)=false:=beq_eq_false_iff_ne.mpr c4
  have Ee:(a1 != 110)=true:=bne_iff_ne.mpr c4
  have Yd:=ae.mk H
  clear H
  go_enter Tryd.func47,Tryd.ntmps47
  go_upto_region 4 with (first|((with_reducible refine bI (N:=3) rfl ?_);refine dZ ?hg (N:=3) ?hd (cs:=#[.int .u8 dC,.int .u8 aY,.int .u8 aZ,.int .u8 fV,.int .i64 gu]) (t:=39) ?hr ?_;(case hd=>rfl);(case hg=>rfl);(case hr=>first|(go_simp;done)|(go_simp;rfl));intro jY hg VT hbox hb;have eU:=ae.mk (bz (by repeat (first|(with_reducible first|exact HB.out|apply ay|apply ai|apply ax)|exact HB.out)) hb);have eQ:=ae.mk (hbox);have eu:=ae.mk ((by rw [hg];exact (cu (by repeat (first|(with_reducible first|exact HB.out|apply ay|apply ai|apply ax)|exact HB.out))):w.heap.size≤jY));have ig:=eu;clear HB;have HB:=eU;have iE:=eQ;have aaP:=eu;have tC:=ig;clear eU eQ eu ig;clear hb hbox hg)|((with_reducible refine bI (N:=6) rfl ?_);refine dZ ?hg (N:=6) ?hd (cs:=#[.int .u8 0,.int .u8 0,.int .u8 0,.int .u8 0,.int .i64 0]) (t:=39) ?hr ?_;(case hd=>rfl);(case hg=>rfl);(case hr=>first|(go_simp;done)|(go_simp;rfl));intro jQ hg w12 hbox hb;have eU:=ae.mk (bK (g:=jY) (o:=.cells #[.int .u8 dC,.int .u8 aY,.int .u8 aZ,.int .u8 fV,.int .i64 gu] 39 (0,0)) (by (with_reducible repeat (first|refine au ?_ _|refine aC ?_|refine ak ?_ _));exact iE.out) hb);have eQ:=ae.mk (bz (by repeat (first|(with_reducible first|exact HB.out|apply ay|apply ai|apply ax|refine aA ?_ tC.out)|exact HB.out)) hb);have eu:=ae.mk (hbox);have ig:=ae.mk ((by rw [hg];exact (cu (by repeat (first|(with_reducible first|exact HB.out|apply ay|apply ai|apply ax|refine aA ?_ tC.out)|exact HB.out))):w.heap.size≤jQ));have mW:=ig;have mM:=ae.mk ((by rw [hg];exact Nat.ne_of_lt (jJ (g:=jY) (o:=.cells #[.int .u8 dC,.int .u8 aY,.int .u8 aZ,.int .u8 fV,.int .i64 gu] 39 (0,0)) (by (with_reducible repeat (first|refine au ?_ _|refine aC ?_|refine ak ?_ _));exact iE.out)):jY ≠ jQ));have nD:=ae.mk mM.out.symm;clear iE;clear HB;have iE:=eU;have HB:=eQ;have iI:=eu;have aaO:=ig;have xW:=mW;have qK:=mM;have mJ:=nD;clear eU eQ eu ig mW mM nD;clear hb hbox hg))
  (try simp only [Act.put,List.setIfInBounds_toArray,List.set_cons_zero,List.set_cons_succ])
  go_cut [18] (fun v18 wc=>∃ (kq:Nat) (Hz:Bool),v18=.bool Hz∧ae (bf.j0 kq a1 a2 Hz dC aY aZ fV gu=some (r1,r2,r3,r4,r5,r6))∧ae (kq≤k)∧ae (wc.heap[jY]? = some (.cells #[.int .u8 dC,.int .u8 aY,.int .u8 aZ,.int .u8 fV,.int .i64 gu] 39 (0,0)))∧ae (wc.heap[jQ]? = some (.cells #[.int .u8 0,.int .u8 0,.int .u8 0,.int .u8 0,.int .i64 0] 39 (0,0)))∧ae (Below w.heap.size w wc))
  case first =>
   have H:=Yd.out
   clear Yd
   by_cases c13:a2 < 0
   ·
    rw [if_pos c13] at H
    have pg:decide (a2 < 0)=true:=decide_eq_true c13
    clear c13
    (first|rw [pg]|(simp only [bY,bZ];rw [pg])|skip)
    have H':=ae.mk H
    clear H
    go_wp2
    go_meet
    case rel=>exact ⟨_,(true),(by first|rfl|(simp;done)|(simp [*];done)),H',⟨by first|omega|exact Nat.le_refl _⟩,⟨by (with_reducible repeat (first|refine au ?_ _|refine aC ?_|refine ak ?_ _));exact iE.out⟩,⟨by (with_reducible repeat (first|refine au ?_ _|refine aC ?_|refine ak ?_ _));exact iI.out⟩,⟨by repeat (first|(with_reducible first|exact HB.out|apply ay|apply ai|apply ax|refine aA ?_ tC.out|refine aA ?_ xW.out)|exact HB.out)⟩⟩
   ·
    rw [if_neg c13] at H
    have pg:decide (a2 < 0)=false:=decide_eq_false c13
    clear c13
    (first|rw [pg]|(simp only [bY,bZ];rw [pg])|skip)
    have H':=ae.mk H
    clear H
    go_wp2
    go_meet
    case rel=>exact ⟨_,(decide (a2 > 255)),(by first|rfl|(simp;done)|(simp [*];done)),H',⟨by first|omega|exact Nat.le_refl _⟩,⟨by (with_reducible repeat (first|refine au ?_ _|refine aC ?_|refine ak ?_ _));exact iE.out⟩,⟨by (with_reducible repeat (first|refine au ?_ _|refine aC ?_|refine ak ?_ _));exact iI.out⟩,⟨by repeat (first|(with_reducible first|exact HB.out|apply ay|apply ai|apply ax|refine aA ?_ tC.out|refine aA ?_ xW.out)|exact HB.out)⟩⟩
  case rest =>
   clear Yd
   obtain ⟨kq,Hz,rfl,HA,HJ9,iE,iI,HB⟩:=hcut
   cases kq with
   | zero=>exact absurd HA.out (by simp [bf.j0])
   | succ kj9 =>
    have H:=HA.out
    clear HA
    simp only [bf.j0] at H
    by_cases c14:Hz=true
    ·
     subst c14
     have H1:(some (dC,aY,aZ,fV,gu,false))=some (r1,r2,r3,r4,r5,r6):=by rw [if_pos rfl] at H;exact H
     clear H
     have H:=H1
     clear H1
     simp only [Option.some.injEq,Prod.mk.injEq] at H
     obtain ⟨rfl,rfl,rfl,rfl,rfl,rfl⟩:=H
     have Zn:=qK.out
     have Zd:=mJ.out
     have yO:wc.cell? ⟨jY,0,none⟩=some (.int .u8 dC):=(ah iE.out 0).trans rfl
     have yN:wc.cell? ⟨jY,1,none⟩=some (.int .u8 aY):=(ah iE.out 1).trans rfl
     have yM:wc.cell? ⟨jY,2,none⟩=some (.int .u8 aZ):=(ah iE.out 2).trans rfl
     have yL:wc.cell? ⟨jY,3,none⟩=some (.int .u8 fV):=(ah iE.out 3).trans rfl
     have KA:wc.cell? ⟨jY,4,none⟩=some (.int .i64 gu):=(ah iE.out 4).trans rfl
     have yG:=ag iE.out 0
     have yF:=ag iE.out 1
     have yE:=ag iE.out 2
     have yD:=ag iE.out 3
     have JA:=ag iE.out 4
     have Kz:wc.cell? ⟨jQ,0,none⟩=some (.int .u8 0):=(ah iI.out 0).trans rfl
     have Ky:wc.cell? ⟨jQ,1,none⟩=some (.int .u8 0):=(ah iI.out 1).trans rfl
     have Kw:wc.cell? ⟨jQ,2,none⟩=some (.int .u8 0):=(ah iI.out 2).trans rfl
     have Kv:wc.cell? ⟨jQ,3,none⟩=some (.int .u8 0):=(ah iI.out 3).trans rfl
     have TS:wc.cell? ⟨jQ,4,none⟩=some (.int .i64 0):=(ah iI.out 4).trans rfl
     have Jz:=ag iI.out 0
     have Jy:=ag iI.out 1
     have Jw:=ag iI.out 2
     have Jv:=ag iI.out 3
     have Rt:=ag iI.out 4
     go_wp2
     refine bodyPost_ret (l7 rfl _ _ jQ 39 #[.int .u8 dC,.int .u8 aY,.int .u8 aZ,.int .u8 fV,.int .i64 gu] (0,0) _ rfl (by (with_reducible repeat (first|refine au ?_ _|refine aC ?_|refine ak ?_ _));refine dw (cs:=#[.int .u8 dC,.int .u8 aY,.int .u8 aZ,.int .u8 fV,.int .i64 0]) ?_ 4 _ rfl;(with_reducible repeat (first|refine au ?_ _|refine aC ?_|refine ak ?_ _));refine dw (cs:=#[.int .u8 dC,.int .u8 aY,.int .u8 aZ,.int .u8 0,.int .i64 0]) ?_ 3 _ rfl;(with_reducible repeat (first|refine au ?_ _|refine aC ?_|refine ak ?_ _));refine dw (cs:=#[.int .u8 dC,.int .u8 aY,.int .u8 0,.int .u8 0,.int .i64 0]) ?_ 2 _ rfl;(with_reducible repeat (first|refine au ?_ _|refine aC ?_|refine ak ?_ _));refine dw (cs:=#[.int .u8 dC,.int .u8 0,.int .u8 0,.int .u8 0,.int .i64 0]) ?_ 1 _ rfl;(with_reducible repeat (first|refine au ?_ _|refine aC ?_|refine ak ?_ _));refine dw (cs:=#[.int .u8 0,.int .u8 0,.int .u8 0,.int .u8 0,.int .i64 0]) ?_ 0 _ rfl;(with_reducible repeat (first|refine au ?_ _|refine aC ?_|refine ak ?_ _));exact iI.out) Tryd.underlying39 rfl (by kernel_rfl)) rfl ?_
     exact ⟨by first|rfl|(simp [aT,aQ] <;> rfl)|(simp [*,aT,aQ] <;> rfl),by repeat (first|(with_reducible first|exact HB.out|apply ay|apply ai|apply ax|refine aA ?_ tC.out|refine aA ?_ xW.out)|exact HB.out)⟩
    ·
     replace c14:=Bool.eq_false_iff.mpr c14
     subst c14
     have H1:(if a1=97 then (some (dC,(a2) % 256,aZ,fV,gu,true)) else (if a1=98 then (some (dC,aY,(a2) % 256,fV,gu,true)) else (some (dC,aY,aZ,(a2) % 256,gu,true))))=some (r1,r2,r3,r4,r5,r6):=by rw [if_neg (show ¬ (false=true) by decide)] at H;exact H
     clear H
     have H:=H1
     clear H1
     by_cases c18:a1=97
     ·
      rw [if_pos c18] at H
      have aak:(a1 == 97)=true:=beq_iff_eq.mpr c18
      have aaj:(a1 != 97)=false:=bne_eq_false_iff_eq.mpr c18
      clear c18
      simp only [Option.some.injEq,Prod.mk.injEq] at H
      obtain ⟨rfl,rfl,rfl,rfl,rfl,rfl⟩:=H
      have aiw:=qK.out
      have aic:=mJ.out
      have afm:wc.cell? ⟨jY,0,none⟩=some (.int .u8 dC):=(ah iE.out 0).trans rfl
      have afl:wc.cell? ⟨jY,1,none⟩=some (.int .u8 aY):=(ah iE.out 1).trans rfl
      have afk:wc.cell? ⟨jY,2,none⟩=some (.int .u8 aZ):=(ah iE.out 2).trans rfl
      have afj:wc.cell? ⟨jY,3,none⟩=some (.int .u8 fV):=(ah iE.out 3).trans rfl
      have afi:wc.cell? ⟨jY,4,none⟩=some (.int .i64 gu):=(ah iE.out 4).trans rfl
      have adS:=ag iE.out 0
      have adR:=ag iE.out 1
      have adQ:=ag iE.out 2
      have adP:=ag iE.out 3
      have adO:=ag iE.out 4
      have DW:wc.cell? ⟨jQ,0,none⟩=some (.int .u8 0):=(ah iI.out 0).trans rfl
      have DV:wc.cell? ⟨jQ,1,none⟩=some (.int .u8 0):=(ah iI.out 1).trans rfl
      have DU:wc.cell? ⟨jQ,2,none⟩=some (.int .u8 0):=(ah iI.out 2).trans rfl
      have DT:wc.cell? ⟨jQ,3,none⟩=some (.int .u8 0):=(ah iI.out 3).trans rfl
      have TK:wc.cell? ⟨jQ,4,none⟩=some (.int .i64 0):=(ah iI.out 4).trans rfl
      have Dz:=ag iI.out 0
      have Dy:=ag iI.out 1
      have Dx:=ag iI.out 2
      have Dw:=ag iI.out 3
      have Rk:=ag iI.out 4
      go_wp2
      refine bodyPost_ret (l7 rfl _ _ jQ 39 #[.int .u8 dC,.int .u8 ((a2) % 256),.int .u8 aZ,.int .u8 fV,.int .i64 gu] (0,0) _ rfl (by (with_reducible repeat (first|refine au ?_ _|refine aC ?_|refine ak ?_ _));refine dw (cs:=#[.int .u8 dC,.int .u8 ((a2) % 256),.int .u8 aZ,.int .u8 fV,.int .i64 0]) ?_ 4 _ rfl;(with_reducible repeat (first|refine au ?_ _|refine aC ?_|refine ak ?_ _));refine dw (cs:=#[.int .u8 dC,.int .u8 ((a2) % 256),.int .u8 aZ,.int .u8 0,.int .i64 0]) ?_ 3 _ rfl;(with_reducible repeat (first|refine au ?_ _|refine aC ?_|refine ak ?_ _));refine dw (cs:=#[.int .u8 dC,.int .u8 ((a2) % 256),.int .u8 0,.int .u8 0,.int .i64 0]) ?_ 2 _ rfl;(with_reducible repeat (first|refine au ?_ _|refine aC ?_|refine ak ?_ _));refine dw (cs:=#[.int .u8 dC,.int .u8 0,.int .u8 0,.int .u8 0,.int .i64 0]) ?_ 1 _ rfl;(with_reducible repeat (first|refine au ?_ _|refine aC ?_|refine ak ?_ _));refine dw (cs:=#[.int .u8 0,.int .u8 0,.int .u8 0,.int .u8 0,.int .i64 0]) ?_ 0 _ rfl;(with_reducible repeat (first|refine au ?_ _|refine aC ?_|refine ak ?_ _));refine fA ?_ mJ.out _;(with_reducible repeat (first|refine au ?_ _|refine aC ?_|refine ak ?_ _));exact iI.out) Tryd.underlying39 rfl (by kernel_rfl)) rfl ?_
      exact ⟨by first|rfl|(simp [aT,aQ] <;> rfl)|(simp [*,aT,aQ] <;> rfl),by repeat (first|(with_reducible first|exact HB.out|apply ay|apply ai|apply ax|refine aA ?_ tC.out|refine aA ?_ xW.out)|exact HB.out)⟩
     ·
      rw [if_neg c18] at H
      have aak:(a1 == 97)=false:=beq_eq_false_iff_ne.mpr c18
      have aaj:(a1 != 97)=true:=bne_iff_ne.mpr c18
      by_cases G7:a1=98
      ·
       rw [if_pos G7] at H
       have OE:(a1 == 98)=true:=beq_iff_eq.mpr G7
       have OD:(a1 != 98)=false:=bne_eq_false_iff_eq.mpr G7
       clear G7
       simp only [Option.some.injEq,Prod.mk.injEq] at H
       obtain ⟨rfl,rfl,rfl,rfl,rfl,rfl⟩:=H
       have aiv:=qK.out
       have aib:=mJ.out
       have Ku:wc.cell? ⟨jY,0,none⟩=some (.int .u8 dC):=(ah iE.out 0).trans rfl
       have Kt:wc.cell? ⟨jY,1,none⟩=some (.int .u8 aY):=(ah iE.out 1).trans rfl
       have Kr:wc.cell? ⟨jY,2,none⟩=some (.int .u8 aZ):=(ah iE.out 2).trans rfl
       have Kq:wc.cell? ⟨jY,3,none⟩=some (.int .u8 fV):=(ah iE.out 3).trans rfl
       have afg:wc.cell? ⟨jY,4,none⟩=some (.int .i64 gu):=(ah iE.out 4).trans rfl
       have Ju:=ag iE.out 0
       have Jt:=ag iE.out 1
       have Js:=ag iE.out 2
       have Jr:=ag iE.out 3
       have adM:=ag iE.out 4
       have Ko:wc.cell? ⟨jQ,0,none⟩=some (.int .u8 0):=(ah iI.out 0).trans rfl
       have J9:wc.cell? ⟨jQ,1,none⟩=some (.int .u8 0):=(ah iI.out 1).trans rfl
       have J8:wc.cell? ⟨jQ,2,none⟩=some (.int .u8 0):=(ah iI.out 2).trans rfl
       have J7:wc.cell? ⟨jQ,3,none⟩=some (.int .u8 0):=(ah iI.out 3).trans rfl
       have J6:wc.cell? ⟨jQ,4,none⟩=some (.int .i64 0):=(ah iI.out 4).trans rfl
       have Jq:=ag iI.out 0
       have Jp:=ag iI.out 1
       have Jo:=ag iI.out 2
       have Jn:=ag iI.out 3
       have Jm:=ag iI.out 4
       go_wp2
       refine bodyPost_ret (l7 rfl _ _ jQ 39 #[.int .u8 dC,.int .u8 aY,.int .u8 ((a2) % 256),.int .u8 fV,.int .i64 gu] (0,0) _ rfl (by (with_reducible repeat (first|refine au ?_ _|refine aC ?_|refine ak ?_ _));refine dw (cs:=#[.int .u8 dC,.int .u8 aY,.int .u8 ((a2) % 256),.int .u8 fV,.int .i64 0]) ?_ 4 _ rfl;(with_reducible repeat (first|refine au ?_ _|refine aC ?_|refine ak ?_ _));refine dw (cs:=#[.int .u8 dC,.int .u8 aY,.int .u8 ((a2) % 256),.int .u8 0,.int .i64 0]) ?_ 3 _ rfl;(with_reducible repeat (first|refine au ?_ _|refine aC ?_|refine ak ?_ _));refine dw (cs:=#[.int .u8 dC,.int .u8 aY,.int .u8 0,.int .u8 0,.int .i64 0]) ?_ 2 _ rfl;(with_reducible repeat (first|refine au ?_ _|refine aC ?_|refine ak ?_ _));refine dw (cs:=#[.int .u8 dC,.int .u8 0,.int .u8 0,.int .u8 0,.int .i64 0]) ?_ 1 _ rfl;(with_reducible repeat (first|refine au ?_ _|refine aC ?_|refine ak ?_ _));refine dw (cs:=#[.int .u8 0,.int .u8 0,.int .u8 0,.int .u8 0,.int .i64 0]) ?_ 0 _ rfl;(with_reducible repeat (first|refine au ?_ _|refine aC ?_|refine ak ?_ _));refine fA ?_ mJ.out _;(with_reducible repeat (first|refine au ?_ _|refine aC ?_|refine ak ?_ _));exact iI.out) Tryd.underlying39 rfl (by kernel_rfl)) rfl ?_
       exact ⟨by first|rfl|(simp [aT,aQ] <;> rfl)|(simp [*,aT,aQ] <;> rfl),by repeat (first|(with_reducible first|exact HB.out|apply ay|apply ai|apply ax|refine aA ?_ tC.out|refine aA ?_ xW.out)|exact HB.out)⟩
      ·
       rw [if_neg G7] at H
       have OE:(a1 == 98)=false:=beq_eq_false_iff_ne.mpr G7
       have OD:(a1 != 98)=true:=bne_iff_ne.mpr G7
       simp only [Option.some.injEq,Prod.mk.injEq] at H
       obtain ⟨rfl,rfl,rfl,rfl,rfl,rfl⟩:=H
       have Zk:=qK.out
       have Za:=mJ.out
       have TE:wc.cell? ⟨jY,0,none⟩=some (.int .u8 dC):=(ah iE.out 0).trans rfl
       have TD:wc.cell? ⟨jY,1,none⟩=some (.int .u8 aY):=(ah iE.out 1).trans rfl
       have TC:wc.cell? ⟨jY,2,none⟩=some (.int .u8 aZ):=(ah iE.out 2).trans rfl
       have TA:wc.cell? ⟨jY,3,none⟩=some (.int .u8 fV):=(ah iE.out 3).trans rfl
       have Tz:wc.cell? ⟨jY,4,none⟩=some (.int .i64 gu):=(ah iE.out 4).trans rfl
       have Q9:=ag iE.out 0
       have Q8:=ag iE.out 1
       have Q7:=ag iE.out 2
       have Q5:=ag iE.out 3
       have Q4:=ag iE.out 4
       have J5:wc.cell? ⟨jQ,0,none⟩=some (.int .u8 0):=(ah iI.out 0).trans rfl
       have J4:wc.cell? ⟨jQ,1,none⟩=some (.int .u8 0):=(ah iI.out 1).trans rfl
       have J3:wc.cell? ⟨jQ,2,none⟩=some (.int .u8 0):=(ah iI.out 2).trans rfl
       have JZ:wc.cell? ⟨jQ,3,none⟩=some (.int .u8 0):=(ah iI.out 3).trans rfl
       have Tv:wc.cell? ⟨jQ,4,none⟩=some (.int .i64 0):=(ah iI.out 4).trans rfl
       have Jl:=ag iI.out 0
       have Jk:=ag iI.out 1
       have Jj:=ag iI.out 2
       have Ji:=ag iI.out 3
       have Q3:=ag iI.out 4
       go_wp2
       refine bodyPost_ret (l7 rfl _ _ jQ 39 #[.int .u8 dC,.int .u8 aY,.int .u8 aZ,.int .u8 ((a2) % 256),.int .i64 gu] (0,0) _ rfl (by (with_reducible repeat (first|refine au ?_ _|refine aC ?_|refine ak ?_ _));refine dw (cs:=#[.int .u8 dC,.int .u8 aY,.int .u8 aZ,.int .u8 ((a2) % 256),.int .i64 0]) ?_ 4 _ rfl;(with_reducible repeat (first|refine au ?_ _|refine aC ?_|refine ak ?_ _));refine dw (cs:=#[.int .u8 dC,.int .u8 aY,.int .u8 aZ,.int .u8 0,.int .i64 0]) ?_ 3 _ rfl;(with_reducible repeat (first|refine au ?_ _|refine aC ?_|refine ak ?_ _));refine dw (cs:=#[.int .u8 dC,.int .u8 aY,.int .u8 0,.int .u8 0,.int .i64 0]) ?_ 2 _ rfl;(with_reducible repeat (first|refine au ?_ _|refine aC ?_|refine ak ?_ _));refine dw (cs:=#[.int .u8 dC,.int .u8 0,.int .u8 0,.int .u8 0,.int .i64 0]) ?_ 1 _ rfl;(with_reducible repeat (first|refine au ?_ _|refine aC ?_|refine ak ?_ _));refine dw (cs:=#[.int .u8 0,.int .u8 0,.int .u8 0,.int .u8 0,.int .i64 0]) ?_ 0 _ rfl;(with_reducible repeat (first|refine au ?_ _|refine aC ?_|refine ak ?_ _));refine fA ?_ mJ.out _;(with_reducible repeat (first|refine au ?_ _|refine aC ?_|refine ak ?_ _));exact iI.out) Tryd.underlying39 rfl (by kernel_rfl)) rfl ?_
       exact ⟨by first|rfl|(simp [aT,aQ] <;> rfl)|(simp [*,aT,aQ] <;> rfl),by repeat (first|(with_reducible first|exact HB.out|apply ay|apply ai|apply ax|refine aA ?_ tC.out|refine aA ?_ xW.out)|exact HB.out)⟩
end Go.Proofs.YtbmhmlgfpijmhaaDoor.P
end
