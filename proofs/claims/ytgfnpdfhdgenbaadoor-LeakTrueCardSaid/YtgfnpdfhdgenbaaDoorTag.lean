/- Parts of the proof of LeakTrue: what the functions that it reaches compute, and plain facts about that. -/
import Derived.Test.YtgfnpdfhdgenbaaDoorTab
import Derived.Test.YtgfnpdfhdgenbaaDoorTac
import Derived.Test.YtgfnpdfhdgenbaaDoorTaf
set_option linter.unusedVariables false
set_option linter.unusedSimpArgs false
section
namespace Go.Proofs.YtgfnpdfhdgenbaaDoor.P
open Go.RowKit Go.Proofs.ae.bf Go.Proofs.ae.bY Go.Proofs.ae.cZ
attribute [local go_sem] kU kS mF mD jR jQ kT kR
def dN.f (k:Nat) (l0:List ByteArray) (a1:Int):Option (Bool):=(aI.f k l0).bind fun t156=>(if t156=true then (if a1 ≥ 0 then (some (decide (a1 < (l0.length:Int)))) else (some false)) else (some false))
theorem dN.mono:∀ a0 a1 k,eu (dN.f k a0 a1) (dN.f (k+1) a0 a1):=by
 intro a0 a1 k
 unfold dN.f
 repeat' with_reducible first|apply aI.mono|exact eu.refl _|exact eu.none _|refine eu.ite ?_ ?_|refine eu.bind ?_ (fun _=>?_)
set_option maxHeartbeats 8000000 in
set_option maxRecDepth 100000 in
theorem dN.calls (k:Nat) (A0:Option Addr) (c0:Nat) (l0:List ByteArray) (a1:Int) (r:Bool) (w:World) (hr0:Kd.C Kd.string w A0 l0.length l0) (hc0:l0.length≤c0) (h:dN.f k l0 a1=some r) :
  Calls Tryd.prog 17 #[.slice A0 l0.length c0,.int .i64 a1] w fun e w'=>e=.returned (.bool r)∧bz w w':=by
 have HR0:=af.mk hr0
 have Ed:=af.mk hc0
 clear hr0 hc0
 have H:((aI.f k l0).bind fun t156=>(if t156=true then (if a1 ≥ 0 then (some (decide (a1 < (l0.length:Int)))) else (some false)) else (some false)))=some r:=h
 clear h
 replace H:=Option.bind_eq_some_iff.mp H
 obtain ⟨t156,KQ,H⟩:=H
 replace H:(if t156=true then (if a1 ≥ 0 then (some (decide (a1 < (l0.length:Int)))) else (some false)) else (some false))=some r:=H
 have A3:=af.mk KQ
 clear KQ
 by_cases c4:t156=true
 ·
  subst c4
  have H1:(if a1 ≥ 0 then (some (decide (a1 < (l0.length:Int)))) else (some false))=some r:=by rw [if_pos rfl] at H;exact H
  clear H
  have H:=H1
  clear H1
  by_cases c5:a1 ≥ 0
  ·
   rw [if_pos c5] at H
   have qY:decide (0≤a1)=true:=decide_eq_true c5
   clear c5
   obtain rfl:=Option.some.inj H
   go_enter Tryd.func17,Tryd.ntmps17
   go_wp2_with (first|((with_reducible refine bV (f:=26) rfl ?_);refine fU (some 6) rfl rfl Tryd.func26 (by kernel_rfl) rfl #[.slice A0 l0.length c0] rfl (by (try simp only [List.map_toArray,List.map_cons,List.map_nil]);first|done|rfl|(simp only [List.length_drop,List.length_take];rfl)) ?_;(with_reducible refine (aI.calls k _ _ l0 true _ ?dX ?fB A3.out).mono ?_);(case dX=>repeat (first|exact HR0.out|(with_reducible refine Kd.dG ?_ _)|(with_reducible refine Kd.dH ?_ _)|(with_reducible refine Kd.dS ?_)));(case fB=>exact Ed.out);rintro e w' ⟨rfl,⟨nd,rfl⟩⟩;refine ⟨_,rfl,?_⟩))
   go_ret
   exact ⟨by first|rfl|(simp;done)|(simp [*];done),by repeat (first|exact bz.refl _|apply bz.step)⟩
  ·
   rw [if_neg c5] at H
   have qY:decide (0≤a1)=false:=decide_eq_false c5
   clear c5
   obtain rfl:=Option.some.inj H
   go_enter Tryd.func17,Tryd.ntmps17
   go_wp2_with (first|((with_reducible refine bV (f:=26) rfl ?_);refine fU (some 6) rfl rfl Tryd.func26 (by kernel_rfl) rfl #[.slice A0 l0.length c0] rfl (by (try simp only [List.map_toArray,List.map_cons,List.map_nil]);first|done|rfl|(simp only [List.length_drop,List.length_take];rfl)) ?_;(with_reducible refine (aI.calls k _ _ l0 true _ ?dX ?fB A3.out).mono ?_);(case dX=>repeat (first|exact HR0.out|(with_reducible refine Kd.dG ?_ _)|(with_reducible refine Kd.dH ?_ _)|(with_reducible refine Kd.dS ?_)));(case fB=>exact Ed.out);rintro e w' ⟨rfl,⟨nd,rfl⟩⟩;refine ⟨_,rfl,?_⟩))
   go_ret
   exact ⟨by first|rfl|(simp;done)|(simp [*];done),by repeat (first|exact bz.refl _|apply bz.step)⟩
 ·
  replace c4:=Bool.eq_false_iff.mpr c4
  subst c4
  have H1:(some false)=some r:=by rw [if_neg (show ¬ (false=true) by decide)] at H;exact H
  clear H
  have H:=H1
  clear H1
  obtain rfl:=Option.some.inj H
  go_enter Tryd.func17,Tryd.ntmps17
  go_wp2_with (first|((with_reducible refine bV (f:=26) rfl ?_);refine fU (some 6) rfl rfl Tryd.func26 (by kernel_rfl) rfl #[.slice A0 l0.length c0] rfl (by (try simp only [List.map_toArray,List.map_cons,List.map_nil]);first|done|rfl|(simp only [List.length_drop,List.length_take];rfl)) ?_;(with_reducible refine (aI.calls k _ _ l0 false _ ?dX ?fB A3.out).mono ?_);(case dX=>repeat (first|exact HR0.out|(with_reducible refine Kd.dG ?_ _)|(with_reducible refine Kd.dH ?_ _)|(with_reducible refine Kd.dS ?_)));(case fB=>exact Ed.out);rintro e w' ⟨rfl,⟨nd,rfl⟩⟩;refine ⟨_,rfl,?_⟩))
  go_ret
  exact ⟨by first|rfl|(simp;done)|(simp [*];done),by repeat (first|exact bz.refl _|apply bz.step)⟩
def dJ.f (k:Nat) (l0:List ByteArray) (a1:Int) (a2:Int):Option (Int):=(dN.f k l0 a1).bind fun t157=>(if t157=true then (if a2 < 0 then (some (-1)) else (if 0≤a1 then (if a1 < (l0.length:Int) then (if a2 ≥ ((eG ByteArray.empty l0 a1).size:Int) then (some (-1)) else (if 0≤a2 then (if a2 < ((eG ByteArray.empty l0 a1).size:Int) then ((dM.f (bt (eG ByteArray.empty l0 a1) a2) (l0.length:Int)).bind fun t160=>(some t160)) else (none)) else (none))) else (none)) else (none))) else (some (-1)))
theorem dJ.mono:∀ a0 a1 a2 k,eu (dJ.f k a0 a1 a2) (dJ.f (k+1) a0 a1 a2):=by
 intro a0 a1 a2 k
 unfold dJ.f
 repeat' with_reducible first|apply dN.mono|exact eu.refl _|exact eu.none _|refine eu.ite ?_ ?_|refine eu.bind ?_ (fun _=>?_)
set_option maxHeartbeats 8000000 in
set_option maxRecDepth 100000 in
theorem dJ.calls (k:Nat) (A0:Option Addr) (c0:Nat) (l0:List ByteArray) (a1:Int) (a2:Int) (r:Int) (w:World) (hr0:Kd.C Kd.string w A0 l0.length l0) (hc0:l0.length≤c0) (h:dJ.f k l0 a1 a2=some r) :
  Calls Tryd.prog 11 #[.slice A0 l0.length c0,.int .i64 a1,.int .i64 a2] w fun e w'=>e=.returned (.int .i64 r)∧bz w w':=by
 have HR0:=af.mk hr0
 have Ed:=af.mk hc0
 clear hr0 hc0
 have H:((dN.f k l0 a1).bind fun t157=>(if t157=true then (if a2 < 0 then (some (-1)) else (if 0≤a1 then (if a1 < (l0.length:Int) then (if a2 ≥ ((eG ByteArray.empty l0 a1).size:Int) then (some (-1)) else (if 0≤a2 then (if a2 < ((eG ByteArray.empty l0 a1).size:Int) then ((dM.f (bt (eG ByteArray.empty l0 a1) a2) (l0.length:Int)).bind fun t160=>(some t160)) else (none)) else (none))) else (none)) else (none))) else (some (-1))))=some r:=h
 clear h
 replace H:=Option.bind_eq_some_iff.mp H
 obtain ⟨t157,FQ,H⟩:=H
 replace H:(if t157=true then (if a2 < 0 then (some (-1)) else (if 0≤a1 then (if a1 < (l0.length:Int) then (if a2 ≥ ((eG ByteArray.empty l0 a1).size:Int) then (some (-1)) else (if 0≤a2 then (if a2 < ((eG ByteArray.empty l0 a1).size:Int) then ((dM.f (bt (eG ByteArray.empty l0 a1) a2) (l0.length:Int)).bind fun t160=>(some t160)) else (none)) else (none))) else (none)) else (none))) else (some (-1)))=some r:=H
 have A4:=af.mk FQ
 clear FQ
 by_cases c5:t157=true
 ·
  subst c5
  have H1:(if a2 < 0 then (some (-1)) else (if 0≤a1 then (if a1 < (l0.length:Int) then (if a2 ≥ ((eG ByteArray.empty l0 a1).size:Int) then (some (-1)) else (if 0≤a2 then (if a2 < ((eG ByteArray.empty l0 a1).size:Int) then ((dM.f (bt (eG ByteArray.empty l0 a1) a2) (l0.length:Int)).bind fun t160=>(some t160)) else (none)) else (none))) else (none)) else (none)))=some r:=by rw [if_pos rfl] at H;exact H
  clear H
  have H:=H1
  clear H1
  by_cases c6:a2 < 0
  ·
   rw [if_pos c6] at H
   have tK:decide (a2 < 0)=true:=decide_eq_true c6
   clear c6
   obtain rfl:=Option.some.inj H
   go_enter Tryd.func11,Tryd.ntmps11
   go_wp2_with (first|((with_reducible refine bV (f:=17) rfl ?_);refine fU (some 9) rfl rfl Tryd.func17 (by kernel_rfl) rfl #[.slice A0 l0.length c0,.int .i64 a1] rfl (by (try simp only [List.map_toArray,List.map_cons,List.map_nil]);first|done|rfl|(simp only [List.length_drop,List.length_take];rfl)) ?_;(with_reducible refine (dN.calls k _ _ l0 a1 true _ ?dX ?fB A4.out).mono ?_);(case dX=>repeat (first|exact HR0.out|(with_reducible refine Kd.dG ?_ _)|(with_reducible refine Kd.dH ?_ _)|(with_reducible refine Kd.dS ?_)));(case fB=>exact Ed.out);rintro e w' ⟨rfl,⟨nd,rfl⟩⟩;refine ⟨_,rfl,?_⟩))
   go_ret
   exact ⟨by first|rfl|(simp;done)|(simp [*];done),by repeat (first|exact bz.refl _|apply bz.step)⟩
  ·
   rw [if_neg c6] at H
   have tK:decide (a2 < 0)=false:=decide_eq_false c6
   clear c6
   by_cases c7:0≤a1
   ·
    rw [if_pos c7] at H
    have pU:decide (0≤a1)=true:=decide_eq_true c7
    clear c7
    by_cases c8:a1 < (l0.length:Int)
    ·
     rw [if_pos c8] at H
     have vY:decide (a1 < (l0.length:Int))=true:=decide_eq_true c8
     clear c8
     by_cases c9:a2 ≥ ((eG ByteArray.empty l0 a1).size:Int)
     ·
      rw [if_pos c9] at H
      have OA:decide (((eG ByteArray.empty l0 a1).size:Int)≤a2)=true:=decide_eq_true c9
      clear c9
      obtain rfl:=Option.some.inj H
      go_enter Tryd.func11,Tryd.ntmps11
      go_wp2_with (first|((with_reducible refine bV (f:=17) rfl ?_);refine fU (some 9) rfl rfl Tryd.func17 (by kernel_rfl) rfl #[.slice A0 l0.length c0,.int .i64 a1] rfl (by (try simp only [List.map_toArray,List.map_cons,List.map_nil]);first|done|rfl|(simp only [List.length_drop,List.length_take];rfl)) ?_;(with_reducible refine (dN.calls k _ _ l0 a1 true _ ?dX ?fB A4.out).mono ?_);(case dX=>repeat (first|exact HR0.out|(with_reducible refine Kd.dG ?_ _)|(with_reducible refine Kd.dH ?_ _)|(with_reducible refine Kd.dS ?_)));(case fB=>exact Ed.out);rintro e w' ⟨rfl,⟨nd,rfl⟩⟩;refine ⟨_,rfl,?_⟩;have Gq:0≤(a1:Int):=of_decide_eq_true (by first|(with_reducible assumption)|assumption);have Gf:a1 < (l0.length:Int):=of_decide_eq_true (by first|(with_reducible assumption)|assumption);obtain ⟨Vt,Xx,Qy⟩:=Kd.kX HR0.out a1 Gq Gf;cases Xx;replace Gq:=eq_true Gq;replace Gf:=eq_true Gf))
      go_ret
      exact ⟨by first|rfl|(simp;done)|(simp [*];done),by repeat (first|exact bz.refl _|apply bz.step)⟩
     ·
      rw [if_neg c9] at H
      have OA:decide (((eG ByteArray.empty l0 a1).size:Int)≤a2)=false:=decide_eq_false c9
      clear c9
      by_cases c10:0≤a2
      ·
       rw [if_pos c10] at H
       have pX:decide (0≤a2)=true:=decide_eq_true c10
       clear c10
       by_cases c11:a2 < ((eG ByteArray.empty l0 a1).size:Int)
       ·
        rw [if_pos c11] at H
        have uD:decide (a2 < ((eG ByteArray.empty l0 a1).size:Int))=true:=decide_eq_true c11
        clear c11
        replace H:=Option.bind_eq_some_iff.mp H
        obtain ⟨t160,aaT,H⟩:=H
        replace H:(some t160)=some r:=H
        have A13:=af.mk aaT
        clear aaT
        obtain rfl:=Option.some.inj H
        go_enter Tryd.func11,Tryd.ntmps11
        go_wp2_with (first|((with_reducible refine bV (f:=17) rfl ?_);refine fU (some 9) rfl rfl Tryd.func17 (by kernel_rfl) rfl #[.slice A0 l0.length c0,.int .i64 a1] rfl (by (try simp only [List.map_toArray,List.map_cons,List.map_nil]);first|done|rfl|(simp only [List.length_drop,List.length_take];rfl)) ?_;(with_reducible refine (dN.calls k _ _ l0 a1 true _ ?dX ?fB A4.out).mono ?_);(case dX=>repeat (first|exact HR0.out|(with_reducible refine Kd.dG ?_ _)|(with_reducible refine Kd.dH ?_ _)|(with_reducible refine Kd.dS ?_)));(case fB=>exact Ed.out);rintro e w' ⟨rfl,⟨nd,rfl⟩⟩;refine ⟨_,rfl,?_⟩;have Gq:0≤(a1:Int):=of_decide_eq_true (by first|(with_reducible assumption)|assumption);have Gf:a1 < (l0.length:Int):=of_decide_eq_true (by first|(with_reducible assumption)|assumption);obtain ⟨Vt,Xx,Qy⟩:=Kd.kX HR0.out a1 Gq Gf;cases Xx;replace Gq:=eq_true Gq;replace Gf:=eq_true Gf;have Wp:0≤(a1:Int):=of_decide_eq_true (by first|(with_reducible assumption)|assumption);have V8:a1 < (l0.length:Int):=of_decide_eq_true (by first|(with_reducible assumption)|assumption);obtain ⟨Z4,ahG,aa8⟩:=Kd.kX HR0.out a1 Wp V8;obtain rfl:Vt=Z4:=(by injection ahG);replace Wp:=eq_true Wp;replace V8:=eq_true V8;have p12:0≤(a2:Int):=of_decide_eq_true (by first|(with_reducible assumption)|assumption);have q12:a2 < ((eG ByteArray.empty l0 a1).size:Int):=of_decide_eq_true (by first|(with_reducible assumption)|assumption);have WO:=lI (eG ByteArray.empty l0 a1) a2;replace p12:=eq_true p12;replace q12:=eq_true q12)|((with_reducible refine bV (f:=18) rfl ?_);refine fU (some 32) rfl rfl Tryd.func18 (by kernel_rfl) rfl #[.int .u8 (bt (eG ByteArray.empty l0 a1) a2),.int .i64 (l0.length:Int)] rfl (by (try simp only [List.map_toArray,List.map_cons,List.map_nil]);first|done|rfl|(simp only [List.length_drop,List.length_take];rfl)) ?_;(with_reducible refine (dM.calls (bt (eG ByteArray.empty l0 a1) a2) (l0.length:Int) t160 _ A13.out).mono ?_);rintro e w' ⟨rfl,⟨nd,rfl⟩⟩;refine ⟨_,rfl,?_⟩))
        go_ret
        exact ⟨by first|rfl|(simp;done)|(simp [*];done),by repeat (first|exact bz.refl _|apply bz.step)⟩
       ·
        rw [if_neg c11] at H
        exact absurd H (by simp)
      ·
       rw [if_neg c10] at H
       exact absurd H (by simp)
    ·
     rw [if_neg c8] at H
     exact absurd H (by simp)
   ·
    rw [if_neg c7] at H
    exact absurd H (by simp)
 ·
  replace c5:=Bool.eq_false_iff.mpr c5
  subst c5
  have H1:(some (-1))=some r:=by rw [if_neg (show ¬ (false=true) by decide)] at H;exact H
  clear H
  have H:=H1
  clear H1
  obtain rfl:=Option.some.inj H
  go_enter Tryd.func11,Tryd.ntmps11
  go_wp2_with (first|((with_reducible refine bV (f:=17) rfl ?_);refine fU (some 9) rfl rfl Tryd.func17 (by kernel_rfl) rfl #[.slice A0 l0.length c0,.int .i64 a1] rfl (by (try simp only [List.map_toArray,List.map_cons,List.map_nil]);first|done|rfl|(simp only [List.length_drop,List.length_take];rfl)) ?_;(with_reducible refine (dN.calls k _ _ l0 a1 false _ ?dX ?fB A4.out).mono ?_);(case dX=>repeat (first|exact HR0.out|(with_reducible refine Kd.dG ?_ _)|(with_reducible refine Kd.dH ?_ _)|(with_reducible refine Kd.dS ?_)));(case fB=>exact Ed.out);rintro e w' ⟨rfl,⟨nd,rfl⟩⟩;refine ⟨_,rfl,?_⟩))
  go_ret
  exact ⟨by first|rfl|(simp;done)|(simp [*];done),by repeat (first|exact bz.refl _|apply bz.step)⟩
def fD.f (k:Nat) (l0:List ByteArray) (a1:Int):Option (Int):=(dN.f k l0 a1).bind fun t161=>(if t161=true then (if 0≤a1 then (if a1 < (l0.length:Int) then (some ((eG ByteArray.empty l0 a1).size:Int)) else (none)) else (none)) else (some 0))
theorem fD.mono:∀ a0 a1 k,eu (fD.f k a0 a1) (fD.f (k+1) a0 a1):=by
 intro a0 a1 k
 unfold fD.f
 repeat' with_reducible first|apply dN.mono|exact eu.refl _|exact eu.none _|refine eu.ite ?_ ?_|refine eu.bind ?_ (fun _=>?_)
set_option maxHeartbeats 8000000 in
set_option maxRecDepth 100000 in
theorem fD.calls (k:Nat) (A0:Option Addr) (c0:Nat) (l0:List ByteArray) (a1:Int) (r:Int) (w:World) (hr0:Kd.C Kd.string w A0 l0.length l0) (hc0:l0.length≤c0) (h:fD.f k l0 a1=some r) :
  Calls Tryd.prog 27 #[.slice A0 l0.length c0,.int .i64 a1] w fun e w'=>e=.returned (.int .i64 r)∧bz w w':=by
 have HR0:=af.mk hr0
 have Ed:=af.mk hc0
 clear hr0 hc0
 have H:((dN.f k l0 a1).bind fun t161=>(if t161=true then (if 0≤a1 then (if a1 < (l0.length:Int) then (some ((eG ByteArray.empty l0 a1).size:Int)) else (none)) else (none)) else (some 0)))=some r:=h
 clear h
 replace H:=Option.bind_eq_some_iff.mp H
 obtain ⟨t161,KQ,H⟩:=H
 replace H:(if t161=true then (if 0≤a1 then (if a1 < (l0.length:Int) then (some ((eG ByteArray.empty l0 a1).size:Int)) else (none)) else (none)) else (some 0))=some r:=H
 have A3:=af.mk KQ
 clear KQ
 by_cases c4:t161=true
 ·
  subst c4
  have H1:(if 0≤a1 then (if a1 < (l0.length:Int) then (some ((eG ByteArray.empty l0 a1).size:Int)) else (none)) else (none))=some r:=by rw [if_pos rfl] at H;exact H
  clear H
  have H:=H1
  clear H1
  by_cases c5:0≤a1
  ·
   rw [if_pos c5] at H
   have qY:decide (0≤a1)=true:=decide_eq_true c5
   clear c5
   by_cases c6:a1 < (l0.length:Int)
   ·
    rw [if_pos c6] at H
    have tK:decide (a1 < (l0.length:Int))=true:=decide_eq_true c6
    clear c6
    obtain rfl:=Option.some.inj H
    go_enter Tryd.func27,Tryd.ntmps27
    go_wp2_with (first|((with_reducible refine bV (f:=17) rfl ?_);refine fU (some 7) rfl rfl Tryd.func17 (by kernel_rfl) rfl #[.slice A0 l0.length c0,.int .i64 a1] rfl (by (try simp only [List.map_toArray,List.map_cons,List.map_nil]);first|done|rfl|(simp only [List.length_drop,List.length_take];rfl)) ?_;(with_reducible refine (dN.calls k _ _ l0 a1 true _ ?dX ?fB A3.out).mono ?_);(case dX=>repeat (first|exact HR0.out|(with_reducible refine Kd.dG ?_ _)|(with_reducible refine Kd.dH ?_ _)|(with_reducible refine Kd.dS ?_)));(case fB=>exact Ed.out);rintro e w' ⟨rfl,⟨nd,rfl⟩⟩;refine ⟨_,rfl,?_⟩;have Wn:0≤(a1:Int):=of_decide_eq_true (by first|(with_reducible assumption)|assumption);have V7:a1 < (l0.length:Int):=of_decide_eq_true (by first|(with_reducible assumption)|assumption);obtain ⟨akB,e162,aa7⟩:=Kd.kX HR0.out a1 Wn V7;cases e162;replace Wn:=eq_true Wn;replace V7:=eq_true V7))
    go_ret
    exact ⟨by first|rfl|(simp;done)|(simp [*];done),by repeat (first|exact bz.refl _|apply bz.step)⟩
   ·
    rw [if_neg c6] at H
    exact absurd H (by simp)
  ·
   rw [if_neg c5] at H
   exact absurd H (by simp)
 ·
  replace c4:=Bool.eq_false_iff.mpr c4
  subst c4
  have H1:(some 0)=some r:=by rw [if_neg (show ¬ (false=true) by decide)] at H;exact H
  clear H
  have H:=H1
  clear H1
  obtain rfl:=Option.some.inj H
  go_enter Tryd.func27,Tryd.ntmps27
  go_wp2_with (first|((with_reducible refine bV (f:=17) rfl ?_);refine fU (some 7) rfl rfl Tryd.func17 (by kernel_rfl) rfl #[.slice A0 l0.length c0,.int .i64 a1] rfl (by (try simp only [List.map_toArray,List.map_cons,List.map_nil]);first|done|rfl|(simp only [List.length_drop,List.length_take];rfl)) ?_;(with_reducible refine (dN.calls k _ _ l0 a1 false _ ?dX ?fB A3.out).mono ?_);(case dX=>repeat (first|exact HR0.out|(with_reducible refine Kd.dG ?_ _)|(with_reducible refine Kd.dH ?_ _)|(with_reducible refine Kd.dS ?_)));(case fB=>exact Ed.out);rintro e w' ⟨rfl,⟨nd,rfl⟩⟩;refine ⟨_,rfl,?_⟩))
  go_ret
  exact ⟨by first|rfl|(simp;done)|(simp [*];done),by repeat (first|exact bz.refl _|apply bz.step)⟩
def dR.f (k:Nat) (bF:List ByteArray) (aZ:ByteArray) (bn:ByteArray) (aG:List (gY)) (a1:Int) (a2:Int):Option (Bool):=if a2 < 0 then (some false) else ((fD.f k bF a1).bind fun t164=>(if a2 ≥ t164 then (some false) else ((dJ.f k bF a1 a2).bind fun t165=>(some (decide (t165 < 0))))))
theorem dR.mono:∀ a0 a1 a2 a3 a4 a5 k,eu (dR.f k a0 a1 a2 a3 a4 a5) (dR.f (k+1) a0 a1 a2 a3 a4 a5):=by
 intro a0 a1 a2 a3 a4 a5 k
 unfold dR.f
 repeat' with_reducible first|apply fD.mono|apply dJ.mono|exact eu.refl _|exact eu.none _|refine eu.ite ?_ ?_|refine eu.bind ?_ (fun _=>?_)
set_option maxHeartbeats 8000000 in
set_option maxRecDepth 100000 in
theorem dR.calls (k:Nat) (fA:Option Addr) (eY:Nat) (bF:List ByteArray) (aZ:ByteArray) (bn:ByteArray) (gz:Option Addr) (fC:Nat) (aG:List (gY)) (a1:Int) (a2:Int) (r:Bool) (w:World) (jX:Kd.C Kd.string w fA bF.length bF) (jZ:bF.length≤eY) (jW:Kd.C uU w gz aG.length aG) (jY:aG.length≤fC) (h:dR.f k bF aZ bn aG a1 a2=some r) :
  Calls Tryd.prog 34 #[.agg #[.slice fA bF.length eY,.string aZ,.string bn,.slice gz aG.length fC],.int .i64 a1,.int .i64 a2] w fun e w'=>e=.returned (.bool r)∧Below w.heap.size w w':=by
 have Ad:=Tryd.underlying25
 have jk:=af.mk jX
 have jv:=af.mk jZ
 clear jX jZ
 have jL:=af.mk jW
 have lX:=af.mk jY
 clear jW jY
 have HB:=af.mk (Below.refl w.heap.size w)
 have H:(if a2 < 0 then (some false) else ((fD.f k bF a1).bind fun t164=>(if a2 ≥ t164 then (some false) else ((dJ.f k bF a1 a2).bind fun t165=>(some (decide (t165 < 0)))))))=some r:=h
 clear h
 by_cases c4:a2 < 0
 ·
  rw [if_pos c4] at H
  have qp:decide (a2 < 0)=true:=decide_eq_true c4
  clear c4
  obtain rfl:=Option.some.inj H
  go_enter Tryd.func34,Tryd.ntmps34
  go_wp2_with (first|((with_reducible refine bD (N:=3) rfl ?_);refine ed ?hg (N:=3) ?hd (cs:=#[.slice fA bF.length eY,.string aZ,.string bn,.slice gz aG.length fC]) (t:=25) ?hr ?_;(case hd=>rfl);(case hg=>rfl);(case hr=>first|(go_simp;done)|(go_simp;rfl));intro EL hg w5 hbox hb;have dW:=af.mk (bC (by repeat (first|(with_reducible first|exact HB.out|apply aj|apply ag|apply ak)|exact HB.out)) hb);have dV:=af.mk (hbox);have dQ:=af.mk ((by rw [hg];exact (df (by repeat (first|(with_reducible first|exact HB.out|apply aj|apply ag|apply ak)|exact HB.out))):w.heap.size≤EL));have gK:=dQ;clear HB;have HB:=dW;have KP:=dV;have VJ:=dQ;have BA:=gK;clear dW dV dQ gK;clear hb hbox hg))
  go_ret
  exact ⟨by first|rfl|(simp [aU,aT] <;> rfl)|(simp [*,aU,aT] <;> rfl),by repeat (first|(with_reducible first|exact HB.out|apply aj|apply ag|apply ak|refine ay ?_ BA.out)|exact HB.out)⟩
 ·
  rw [if_neg c4] at H
  have qp:decide (a2 < 0)=false:=decide_eq_false c4
  clear c4
  replace H:=Option.bind_eq_some_iff.mp H
  obtain ⟨t164,Pm,H⟩:=H
  replace H:(if a2 ≥ t164 then (some false) else ((dJ.f k bF a1 a2).bind fun t165=>(some (decide (t165 < 0)))))=some r:=H
  have A6:=af.mk Pm
  clear Pm
  by_cases c7:a2 ≥ t164
  ·
   rw [if_pos c7] at H
   have pU:decide (t164≤a2)=true:=decide_eq_true c7
   clear c7
   obtain rfl:=Option.some.inj H
   go_enter Tryd.func34,Tryd.ntmps34
   go_wp2_with (first|((with_reducible refine bD (N:=3) rfl ?_);refine ed ?hg (N:=3) ?hd (cs:=#[.slice fA bF.length eY,.string aZ,.string bn,.slice gz aG.length fC]) (t:=25) ?hr ?_;(case hd=>rfl);(case hg=>rfl);(case hr=>first|(go_simp;done)|(go_simp;rfl));intro EL hg w8 hbox hb;have dW:=af.mk (bC (by repeat (first|(with_reducible first|exact HB.out|apply aj|apply ag|apply ak)|exact HB.out)) hb);have dV:=af.mk (hbox);have dQ:=af.mk ((by rw [hg];exact (df (by repeat (first|(with_reducible first|exact HB.out|apply aj|apply ag|apply ak)|exact HB.out))):w.heap.size≤EL));have gK:=dQ;clear HB;have HB:=dW;have KP:=dV;have VJ:=dQ;have BA:=gK;clear dW dV dQ gK;clear hb hbox hg;obtain ⟨G9,G8,G7,G6,GM,GL,GK,GI⟩:=lZ KP.out)|(go_at_call 27;(with_reducible refine (fD.calls k _ _ bF a1 t164 _ ?dX ?fB A6.out).mono ?_);(case dX=>repeat (first|exact (Kd.bQ jk.out HB.out)|(with_reducible refine Kd.dG ?_ _)|(with_reducible refine Kd.dH ?_ _)|(with_reducible refine Kd.dS ?_)));(case fB=>exact jv.out);rintro e w' ⟨rfl,⟨nd,rfl⟩⟩))
   go_ret
   exact ⟨by first|rfl|(simp [aU,aT] <;> rfl)|(simp [*,aU,aT] <;> rfl),by repeat (first|(with_reducible first|exact HB.out|apply aj|apply ag|apply ak|refine ay ?_ BA.out)|exact HB.out)⟩
  ·
   rw [if_neg c7] at H
   have pU:decide (t164≤a2)=false:=decide_eq_false c7
   clear c7
   replace H:=Option.bind_eq_some_iff.mp H
   obtain ⟨t165,Pq,H⟩:=H
   replace H:(some (decide (t165 < 0)))=some r:=H
   have Yr:=af.mk Pq
   clear Pq
   obtain rfl:=Option.some.inj H
   go_enter Tryd.func34,Tryd.ntmps34
   go_wp2_with (first|((with_reducible refine bD (N:=3) rfl ?_);refine ed ?hg (N:=3) ?hd (cs:=#[.slice fA bF.length eY,.string aZ,.string bn,.slice gz aG.length fC]) (t:=25) ?hr ?_;(case hd=>rfl);(case hg=>rfl);(case hr=>first|(go_simp;done)|(go_simp;rfl));intro EL hg w11 hbox hb;have dW:=af.mk (bC (by repeat (first|(with_reducible first|exact HB.out|apply aj|apply ag|apply ak)|exact HB.out)) hb);have dV:=af.mk (hbox);have dQ:=af.mk ((by rw [hg];exact (df (by repeat (first|(with_reducible first|exact HB.out|apply aj|apply ag|apply ak)|exact HB.out))):w.heap.size≤EL));have gK:=dQ;clear HB;have HB:=dW;have KP:=dV;have VJ:=dQ;have BA:=gK;clear dW dV dQ gK;clear hb hbox hg;obtain ⟨Ky,Kw,Kv,Ku,JM,JL,JK,JJ⟩:=lZ KP.out)|(go_at_call 27;(with_reducible refine (fD.calls k _ _ bF a1 t164 _ ?dX ?fB A6.out).mono ?_);(case dX=>repeat (first|exact (Kd.bQ jk.out HB.out)|(with_reducible refine Kd.dG ?_ _)|(with_reducible refine Kd.dH ?_ _)|(with_reducible refine Kd.dS ?_)));(case fB=>exact jv.out);rintro e w' ⟨rfl,⟨nd,rfl⟩⟩)|((with_reducible refine bV (f:=11) rfl ?_);refine fU (some 21) rfl rfl Tryd.func11 (by kernel_rfl) rfl #[.slice fA bF.length eY,.int .i64 a1,.int .i64 a2] rfl (by (try simp only [List.map_toArray,List.map_cons,List.map_nil]);first|done|rfl|(simp only [List.length_drop,List.length_take];rfl)) ?_;(with_reducible refine (dJ.calls k _ _ bF a1 a2 t165 _ ?dX ?fB Yr.out).mono ?_);(case dX=>repeat (first|exact (Kd.bQ jk.out (by repeat (first|(with_reducible first|exact HB.out|apply aj|apply ag|apply ak|refine ay ?_ BA.out)|exact HB.out)))|(with_reducible refine Kd.dG ?_ _)|(with_reducible refine Kd.dH ?_ _)|(with_reducible refine Kd.dS ?_)));(case fB=>exact jv.out);rintro e w' ⟨rfl,⟨nd,rfl⟩⟩;refine ⟨_,rfl,?_⟩))
   go_ret
   exact ⟨by first|rfl|(simp [aU,aT] <;> rfl)|(simp [*,aU,aT] <;> rfl),by repeat (first|(with_reducible first|exact HB.out|apply aj|apply ag|apply ak|refine ay ?_ BA.out)|exact HB.out)⟩
def fG.f (k:Nat) (bF:List ByteArray) (aZ:ByteArray) (bn:ByteArray) (aG:List (gY)) (a1:Int) (a2:Int):Option (Int):=if a2 < 0 then (some (-1)) else (if a2 > 6 then (some (-1)) else ((dJ.f k bF a1 a2).bind fun t167=>(some t167)))
theorem fG.mono:∀ a0 a1 a2 a3 a4 a5 k,eu (fG.f k a0 a1 a2 a3 a4 a5) (fG.f (k+1) a0 a1 a2 a3 a4 a5):=by
 intro a0 a1 a2 a3 a4 a5 k
 unfold fG.f
 repeat' with_reducible first|apply dJ.mono|exact eu.refl _|exact eu.none _|refine eu.ite ?_ ?_|refine eu.bind ?_ (fun _=>?_)
set_option maxHeartbeats 8000000 in
set_option maxRecDepth 100000 in
theorem fG.calls (k:Nat) (fA:Option Addr) (eY:Nat) (bF:List ByteArray) (aZ:ByteArray) (bn:ByteArray) (gz:Option Addr) (fC:Nat) (aG:List (gY)) (a1:Int) (a2:Int) (r:Int) (w:World) (jX:Kd.C Kd.string w fA bF.length bF) (jZ:bF.length≤eY) (jW:Kd.C uU w gz aG.length aG) (jY:aG.length≤fC) (h:fG.f k bF aZ bn aG a1 a2=some r) :
  Calls Tryd.prog 35 #[.agg #[.slice fA bF.length eY,.string aZ,.string bn,.slice gz aG.length fC],.int .i64 a1,.int .i64 a2] w fun e w'=>e=.returned (.int .i64 r)∧Below w.heap.size w w':=by
 have Ad:=Tryd.underlying25
 have jk:=af.mk jX
 have jv:=af.mk jZ
 clear jX jZ
 have jL:=af.mk jW
 have lX:=af.mk jY
 clear jW jY
 have HB:=af.mk (Below.refl w.heap.size w)
 have H:(if a2 < 0 then (some (-1)) else (if a2 > 6 then (some (-1)) else ((dJ.f k bF a1 a2).bind fun t167=>(some t167))))=some r:=h
 clear h
 by_cases c4:a2 < 0
 ·
  rw [if_pos c4] at H
  have qp:decide (a2 < 0)=true:=decide_eq_true c4
  clear c4
  obtain rfl:=Option.some.inj H
  go_enter Tryd.func35,Tryd.ntmps35
  go_wp2_with (first|((with_reducible refine bD (N:=3) rfl ?_);refine ed ?hg (N:=3) ?hd (cs:=#[.slice fA bF.length eY,.string aZ,.string bn,.slice gz aG.length fC]) (t:=25) ?hr ?_;(case hd=>rfl);(case hg=>rfl);(case hr=>first|(go_simp;done)|(go_simp;rfl));intro EK hg w5 hbox hb;have dW:=af.mk (bC (by repeat (first|(with_reducible first|exact HB.out|apply aj|apply ag|apply ak)|exact HB.out)) hb);have dV:=af.mk (hbox);have dQ:=af.mk ((by rw [hg];exact (df (by repeat (first|(with_reducible first|exact HB.out|apply aj|apply ag|apply ak)|exact HB.out))):w.heap.size≤EK));have gK:=dQ;clear HB;have HB:=dW;have Ph:=dV;have VI:=dQ;have FH:=gK;clear dW dV dQ gK;clear hb hbox hg))
  go_ret
  exact ⟨by first|rfl|(simp [aU,aT] <;> rfl)|(simp [*,aU,aT] <;> rfl),by repeat (first|(with_reducible first|exact HB.out|apply aj|apply ag|apply ak|refine ay ?_ FH.out)|exact HB.out)⟩
 ·
  rw [if_neg c4] at H
  have qp:decide (a2 < 0)=false:=decide_eq_false c4
  clear c4
  by_cases c6:a2 > 6
  ·
   rw [if_pos c6] at H
   have tK:decide (6 < a2)=true:=decide_eq_true c6
   clear c6
   obtain rfl:=Option.some.inj H
   go_enter Tryd.func35,Tryd.ntmps35
   go_wp2_with (first|((with_reducible refine bD (N:=3) rfl ?_);refine ed ?hg (N:=3) ?hd (cs:=#[.slice fA bF.length eY,.string aZ,.string bn,.slice gz aG.length fC]) (t:=25) ?hr ?_;(case hd=>rfl);(case hg=>rfl);(case hr=>first|(go_simp;done)|(go_simp;rfl));intro EK hg w7 hbox hb;have dW:=af.mk (bC (by repeat (first|(with_reducible first|exact HB.out|apply aj|apply ag|apply ak)|exact HB.out)) hb);have dV:=af.mk (hbox);have dQ:=af.mk ((by rw [hg];exact (df (by repeat (first|(with_reducible first|exact HB.out|apply aj|apply ag|apply ak)|exact HB.out))):w.heap.size≤EK));have gK:=dQ;clear HB;have HB:=dW;have Ph:=dV;have VI:=dQ;have FH:=gK;clear dW dV dQ gK;clear hb hbox hg))
   go_ret
   exact ⟨by first|rfl|(simp [aU,aT] <;> rfl)|(simp [*,aU,aT] <;> rfl),by repeat (first|(with_reducible first|exact HB.out|apply aj|apply ag|apply ak|refine ay ?_ FH.out)|exact HB.out)⟩
  ·
   rw [if_neg c6] at H
   have tK:decide (6 < a2)=false:=decide_eq_false c6
   clear c6
   replace H:=Option.bind_eq_some_iff.mp H
   obtain ⟨t167,VN,H⟩:=H
   replace H:(some t167)=some r:=H
   have A8:=af.mk VN
   clear VN
   obtain rfl:=Option.some.inj H
   go_enter Tryd.func35,Tryd.ntmps35
   go_wp2_with (first|((with_reducible refine bD (N:=3) rfl ?_);refine ed ?hg (N:=3) ?hd (cs:=#[.slice fA bF.length eY,.string aZ,.string bn,.slice gz aG.length fC]) (t:=25) ?hr ?_;(case hd=>rfl);(case hg=>rfl);(case hr=>first|(go_simp;done)|(go_simp;rfl));intro EK hg w9 hbox hb;have dW:=af.mk (bC (by repeat (first|(with_reducible first|exact HB.out|apply aj|apply ag|apply ak)|exact HB.out)) hb);have dV:=af.mk (hbox);have dQ:=af.mk ((by rw [hg];exact (df (by repeat (first|(with_reducible first|exact HB.out|apply aj|apply ag|apply ak)|exact HB.out))):w.heap.size≤EK));have gK:=dQ;clear HB;have HB:=dW;have Ph:=dV;have VI:=dQ;have FH:=gK;clear dW dV dQ gK;clear hb hbox hg;obtain ⟨DF,DD,DC,Dz,Dl,Dk,Dj,Di⟩:=lZ Ph.out)|((with_reducible refine bV (f:=11) rfl ?_);refine fU (some 17) rfl rfl Tryd.func11 (by kernel_rfl) rfl #[.slice fA bF.length eY,.int .i64 a1,.int .i64 a2] rfl (by (try simp only [List.map_toArray,List.map_cons,List.map_nil]);first|done|rfl|(simp only [List.length_drop,List.length_take];rfl)) ?_;(with_reducible refine (dJ.calls k _ _ bF a1 a2 t167 _ ?dX ?fB A8.out).mono ?_);(case dX=>repeat (first|exact (Kd.bQ jk.out HB.out)|(with_reducible refine Kd.dG ?_ _)|(with_reducible refine Kd.dH ?_ _)|(with_reducible refine Kd.dS ?_)));(case fB=>exact jv.out);rintro e w' ⟨rfl,⟨nd,rfl⟩⟩;refine ⟨_,rfl,?_⟩))
   go_ret
   exact ⟨by first|rfl|(simp [aU,aT] <;> rfl)|(simp [*,aU,aT] <;> rfl),by repeat (first|(with_reducible first|exact HB.out|apply aj|apply ag|apply ak|refine ay ?_ FH.out)|exact HB.out)⟩
def eP.f (k:Nat) (bF:List ByteArray) (aZ:ByteArray) (bn:ByteArray) (aG:List (gY)) (a1:Int):Option (Int):=(eH.f k bF bn a1).bind fun t169=>(some t169)
theorem eP.mono:∀ a0 a1 a2 a3 a4 k,eu (eP.f k a0 a1 a2 a3 a4) (eP.f (k+1) a0 a1 a2 a3 a4):=by
 intro a0 a1 a2 a3 a4 k
 unfold eP.f
 repeat' with_reducible first|apply eH.mono|exact eu.refl _|exact eu.none _|refine eu.ite ?_ ?_|refine eu.bind ?_ (fun _=>?_)
set_option maxHeartbeats 8000000 in
set_option maxRecDepth 100000 in
theorem eP.calls (k:Nat) (fA:Option Addr) (eY:Nat) (bF:List ByteArray) (aZ:ByteArray) (bn:ByteArray) (gz:Option Addr) (fC:Nat) (aG:List (gY)) (a1:Int) (r:Int) (w:World) (jX:Kd.C Kd.string w fA bF.length bF) (jZ:bF.length≤eY) (jW:Kd.C uU w gz aG.length aG) (jY:aG.length≤fC) (h:eP.f k bF aZ bn aG a1=some r) :
  Calls Tryd.prog 36 #[.agg #[.slice fA bF.length eY,.string aZ,.string bn,.slice gz aG.length fC],.int .u8 a1] w fun e w'=>e=.returned (.int .i64 r)∧Below w.heap.size w w':=by
 have Ad:=Tryd.underlying25
 have jk:=af.mk jX
 have jv:=af.mk jZ
 clear jX jZ
 have jL:=af.mk jW
 have lX:=af.mk jY
 clear jW jY
 have HB:=af.mk (Below.refl w.heap.size w)
 have H:((eH.f k bF bn a1).bind fun t169=>(some t169))=some r:=h
 clear h
 replace H:=Option.bind_eq_some_iff.mp H
 obtain ⟨t169,KQ,H⟩:=H
 replace H:(some t169)=some r:=H
 have A3:=af.mk KQ
 clear KQ
 obtain rfl:=Option.some.inj H
 go_enter Tryd.func36,Tryd.ntmps36
 go_wp2_with (first|((with_reducible refine bD (N:=2) rfl ?_);refine ed ?hg (N:=2) ?hd (cs:=#[.slice fA bF.length eY,.string aZ,.string bn,.slice gz aG.length fC]) (t:=25) ?hr ?_;(case hd=>rfl);(case hg=>rfl);(case hr=>first|(go_simp;done)|(go_simp;rfl));intro Zi hg w4 hbox hb;have dW:=af.mk (bC (by repeat (first|(with_reducible first|exact HB.out|apply aj|apply ag|apply ak)|exact HB.out)) hb);have dV:=af.mk (hbox);have dQ:=af.mk ((by rw [hg];exact (df (by repeat (first|(with_reducible first|exact HB.out|apply aj|apply ag|apply ak)|exact HB.out))):w.heap.size≤Zi));have gK:=dQ;clear HB;have HB:=dW;have aaC:=dV;have ak7:=dQ;have aaA:=gK;clear dW dV dQ gK;clear hb hbox hg;obtain ⟨Hq,Ho,Hm,Hl,G5,GZ,GY,GX⟩:=lZ aaC.out)|((with_reducible refine bV (f:=37) rfl ?_);refine fU (some 10) rfl rfl Tryd.func37 (by kernel_rfl) rfl #[.slice fA bF.length eY,.string bn,.int .u8 a1] rfl (by (try simp only [List.map_toArray,List.map_cons,List.map_nil]);first|done|rfl|(simp only [List.length_drop,List.length_take];rfl)) ?_;(with_reducible refine (eH.calls k _ _ bF bn a1 t169 _ ?dX ?fB A3.out).mono ?_);(case dX=>repeat (first|exact (Kd.bQ jk.out HB.out)|(with_reducible refine Kd.dG ?_ _)|(with_reducible refine Kd.dH ?_ _)|(with_reducible refine Kd.dS ?_)));(case fB=>exact jv.out);rintro e w' ⟨rfl,⟨nd,rfl⟩⟩;refine ⟨_,rfl,?_⟩))
 go_ret
 exact ⟨by first|rfl|(simp [aU,aT] <;> rfl)|(simp [*,aU,aT] <;> rfl),by repeat (first|(with_reducible first|exact HB.out|apply aj|apply ag|apply ak|refine ay ?_ aaA.out)|exact HB.out)⟩
end Go.Proofs.YtgfnpdfhdgenbaaDoor.P
end
