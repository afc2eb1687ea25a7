/- Parts of the proof of ModelSteps: what the functions that it reaches compute, and plain facts about that. -/
import Derived.Test.YtlemecdddhdagaaDoorZab
import Derived.Test.YtlemecdddhdagaaDoorZam
set_option linter.unusedVariables false
set_option linter.unusedSimpArgs false
section
namespace Go.Proofs.YtlemecdddhdagaaDoor.P
open Go.RowKit Go.Proofs.af.bF Go.Proofs.af.dD Go.Proofs.af.dN
attribute [local go_sem] lF lC mP mO kE kD lD lu
def eH.f (k:Nat) (l0:List ByteArray) (a1:Int):Option (Bool):=(aK.f k l0).bind fun t156=>(if t156=true then (if a1 ≥ 0 then (some (decide (a1 < (l0.length:Int)))) else (some false)) else (some false))
theorem eH.mono:∀ a0 a1 k,dP (eH.f k a0 a1) (eH.f (k+1) a0 a1):=by
 intro a0 a1 k
 unfold eH.f
 repeat' with_reducible first|apply aK.mono|exact dP.refl _|exact dP.none _|refine dP.ite ?_ ?_|refine dP.bind ?_ (fun _=>?_)
set_option maxHeartbeats 8000000 in
set_option maxRecDepth 100000 in
theorem eH.calls (k:Nat) (A0:Option Addr) (c0:Nat) (l0:List ByteArray) (a1:Int) (r:Bool) (w:World) (hr0:Kd.C Kd.string w A0 l0.length l0) (hc0:l0.length≤c0) (h:eH.f k l0 a1=some r) :
  Calls Tryd.prog 62 #[.slice A0 l0.length c0,.int .i64 a1] w fun e w'=>e=.returned (.bool r)∧aU w w':=by
 have HR0:=ae.mk hr0
 have tX:=ae.mk hc0
 clear hr0 hc0
 have H:((aK.f k l0).bind fun t156=>(if t156=true then (if a1 ≥ 0 then (some (decide (a1 < (l0.length:Int)))) else (some false)) else (some false)))=some r:=h
 clear h
 replace H:=Option.bind_eq_some_iff.mp H
 obtain ⟨t156,yF,H⟩:=H
 replace H:(if t156=true then (if a1 ≥ 0 then (some (decide (a1 < (l0.length:Int)))) else (some false)) else (some false))=some r:=H
 have A3:=ae.mk yF
 clear yF
 by_cases c4:t156=true
 ·
  subst c4
  have H1:(if a1 ≥ 0 then (some (decide (a1 < (l0.length:Int)))) else (some false))=some r:=by rw [if_pos rfl] at H;exact H
  clear H
  have H:=H1
  clear H1
  by_cases c5:a1 ≥ 0
  ·
   rw [if_pos c5] at H
   have rU:decide (0≤a1)=true:=decide_eq_true c5
   clear c5
   obtain rfl:=Option.some.inj H
   go_enter Tryd.func62,Tryd.ntmps62
   go_wp2_with (first|((with_reducible refine bz (f:=44) rfl ?_);refine dV (some 6) rfl rfl Tryd.func44 (by kernel_rfl) rfl #[.slice A0 l0.length c0] rfl (by (try simp only [List.map_toArray,List.map_cons,List.map_nil]);first|done|rfl|(simp only [List.length_drop,List.length_take];rfl)) ?_;(with_reducible refine (aK.calls k _ _ l0 true _ ?df ?dA A3.out).mono ?_);(case df=>repeat (first|exact HR0.out|(with_reducible refine Kd.bQ ?_ _)|(with_reducible refine Kd.bP ?_ _)|(with_reducible refine Kd.dF ?_)));(case dA=>exact tX.out);rintro e w' ⟨rfl,⟨nd,rfl⟩⟩;refine ⟨_,rfl,?_⟩))
   go_ret
   exact ⟨by first|rfl|(simp;done)|(simp [*];done),by repeat (first|exact aU.refl _|apply aU.step)⟩
  ·
   rw [if_neg c5] at H
   have rU:decide (0≤a1)=false:=decide_eq_false c5
   clear c5
   obtain rfl:=Option.some.inj H
   go_enter Tryd.func62,Tryd.ntmps62
   go_wp2_with (first|((with_reducible refine bz (f:=44) rfl ?_);refine dV (some 6) rfl rfl Tryd.func44 (by kernel_rfl) rfl #[.slice A0 l0.length c0] rfl (by (try simp only [List.map_toArray,List.map_cons,List.map_nil]);first|done|rfl|(simp only [List.length_drop,List.length_take];rfl)) ?_;(with_reducible refine (aK.calls k _ _ l0 true _ ?df ?dA A3.out).mono ?_);(case df=>repeat (first|exact HR0.out|(with_reducible refine Kd.bQ ?_ _)|(with_reducible refine Kd.bP ?_ _)|(with_reducible refine Kd.dF ?_)));(case dA=>exact tX.out);rintro e w' ⟨rfl,⟨nd,rfl⟩⟩;refine ⟨_,rfl,?_⟩))
   go_ret
   exact ⟨by first|rfl|(simp;done)|(simp [*];done),by repeat (first|exact aU.refl _|apply aU.step)⟩
 ·
  replace c4:=Bool.eq_false_iff.mpr c4
  subst c4
  have H1:(some false)=some r:=by rw [if_neg (show ¬ (false=true) by decide)] at H;exact H
  clear H
  have H:=H1
  clear H1
  obtain rfl:=Option.some.inj H
  go_enter Tryd.func62,Tryd.ntmps62
  go_wp2_with (first|((with_reducible refine bz (f:=44) rfl ?_);refine dV (some 6) rfl rfl Tryd.func44 (by kernel_rfl) rfl #[.slice A0 l0.length c0] rfl (by (try simp only [List.map_toArray,List.map_cons,List.map_nil]);first|done|rfl|(simp only [List.length_drop,List.length_take];rfl)) ?_;(with_reducible refine (aK.calls k _ _ l0 false _ ?df ?dA A3.out).mono ?_);(case df=>repeat (first|exact HR0.out|(with_reducible refine Kd.bQ ?_ _)|(with_reducible refine Kd.bP ?_ _)|(with_reducible refine Kd.dF ?_)));(case dA=>exact tX.out);rintro e w' ⟨rfl,⟨nd,rfl⟩⟩;refine ⟨_,rfl,?_⟩))
  go_ret
  exact ⟨by first|rfl|(simp;done)|(simp [*];done),by repeat (first|exact aU.refl _|apply aU.step)⟩
def gq.f (k:Nat) (l0:List ByteArray) (a1:Int):Option (Int):=(eH.f k l0 a1).bind fun t157=>(if t157=true then (if 0≤a1 then (if a1 < (l0.length:Int) then (some ((dZ ByteArray.empty l0 a1).size:Int)) else (none)) else (none)) else (some 0))
theorem gq.mono:∀ a0 a1 k,dP (gq.f k a0 a1) (gq.f (k+1) a0 a1):=by
 intro a0 a1 k
 unfold gq.f
 repeat' with_reducible first|apply eH.mono|exact dP.refl _|exact dP.none _|refine dP.ite ?_ ?_|refine dP.bind ?_ (fun _=>?_)
set_option maxHeartbeats 8000000 in
set_option maxRecDepth 100000 in
theorem gq.calls (k:Nat) (A0:Option Addr) (c0:Nat) (l0:List ByteArray) (a1:Int) (r:Int) (w:World) (hr0:Kd.C Kd.string w A0 l0.length l0) (hc0:l0.length≤c0) (h:gq.f k l0 a1=some r) :
  Calls Tryd.prog 41 #[.slice A0 l0.length c0,.int .i64 a1] w fun e w'=>e=.returned (.int .i64 r)∧aU w w':=by
 have HR0:=ae.mk hr0
 have tX:=ae.mk hc0
 clear hr0 hc0
 have H:((eH.f k l0 a1).bind fun t157=>(if t157=true then (if 0≤a1 then (if a1 < (l0.length:Int) then (some ((dZ ByteArray.empty l0 a1).size:Int)) else (none)) else (none)) else (some 0)))=some r:=h
 clear h
 replace H:=Option.bind_eq_some_iff.mp H
 obtain ⟨t157,yF,H⟩:=H
 replace H:(if t157=true then (if 0≤a1 then (if a1 < (l0.length:Int) then (some ((dZ ByteArray.empty l0 a1).size:Int)) else (none)) else (none)) else (some 0))=some r:=H
 have A3:=ae.mk yF
 clear yF
 by_cases c4:t157=true
 ·
  subst c4
  have H1:(if 0≤a1 then (if a1 < (l0.length:Int) then (some ((dZ ByteArray.empty l0 a1).size:Int)) else (none)) else (none))=some r:=by rw [if_pos rfl] at H;exact H
  clear H
  have H:=H1
  clear H1
  by_cases c5:0≤a1
  ·
   rw [if_pos c5] at H
   have rU:decide (0≤a1)=true:=decide_eq_true c5
   clear c5
   by_cases c6:a1 < (l0.length:Int)
   ·
    rw [if_pos c6] at H
    have oK:decide (a1 < (l0.length:Int))=true:=decide_eq_true c6
    clear c6
    obtain rfl:=Option.some.inj H
    go_enter Tryd.func41,Tryd.ntmps41
    go_wp2_with (first|((with_reducible refine bz (f:=62) rfl ?_);refine dV (some 7) rfl rfl Tryd.func62 (by kernel_rfl) rfl #[.slice A0 l0.length c0,.int .i64 a1] rfl (by (try simp only [List.map_toArray,List.map_cons,List.map_nil]);first|done|rfl|(simp only [List.length_drop,List.length_take];rfl)) ?_;(with_reducible refine (eH.calls k _ _ l0 a1 true _ ?df ?dA A3.out).mono ?_);(case df=>repeat (first|exact HR0.out|(with_reducible refine Kd.bQ ?_ _)|(with_reducible refine Kd.bP ?_ _)|(with_reducible refine Kd.dF ?_)));(case dA=>exact tX.out);rintro e w' ⟨rfl,⟨nd,rfl⟩⟩;refine ⟨_,rfl,?_⟩;have aaA:0≤(a1:Int):=of_decide_eq_true (by first|(with_reducible assumption)|assumption);have aaq:a1 < (l0.length:Int):=of_decide_eq_true (by first|(with_reducible assumption)|assumption);obtain ⟨aqb,anU,ag0⟩:=Kd.kT HR0.out a1 aaA aaq;cases anU;replace aaA:=eq_true aaA;replace aaq:=eq_true aaq))
    go_ret
    exact ⟨by first|rfl|(simp;done)|(simp [*];done),by repeat (first|exact aU.refl _|apply aU.step)⟩
   ·
    rw [if_neg c6] at H
    exact absurd H (by simp)
  ·
   rw [if_neg c5] at H
   exact absurd H (by simp)
 ·
  replace c4:=Bool.eq_false_iff.mpr c4
  subst c4
  have H1:(some 0)=some r:=by rw [if_neg (show ¬ (false=true) by decide)] at H;exact H
  clear H
  have H:=H1
  clear H1
  obtain rfl:=Option.some.inj H
  go_enter Tryd.func41,Tryd.ntmps41
  go_wp2_with (first|((with_reducible refine bz (f:=62) rfl ?_);refine dV (some 7) rfl rfl Tryd.func62 (by kernel_rfl) rfl #[.slice A0 l0.length c0,.int .i64 a1] rfl (by (try simp only [List.map_toArray,List.map_cons,List.map_nil]);first|done|rfl|(simp only [List.length_drop,List.length_take];rfl)) ?_;(with_reducible refine (eH.calls k _ _ l0 a1 false _ ?df ?dA A3.out).mono ?_);(case df=>repeat (first|exact HR0.out|(with_reducible refine Kd.bQ ?_ _)|(with_reducible refine Kd.bP ?_ _)|(with_reducible refine Kd.dF ?_)));(case dA=>exact tX.out);rintro e w' ⟨rfl,⟨nd,rfl⟩⟩;refine ⟨_,rfl,?_⟩))
  go_ret
  exact ⟨by first|rfl|(simp;done)|(simp [*];done),by repeat (first|exact aU.refl _|apply aU.step)⟩
def fZ.f (k:Nat) (l0:List ByteArray) (a1:Int) (a2:Int):Option (Int):=(eH.f k l0 a1).bind fun t159=>(if t159=true then (if a2 < 0 then (some (-1)) else (if 0≤a1 then (if a1 < (l0.length:Int) then (if a2 ≥ ((dZ ByteArray.empty l0 a1).size:Int) then (some (-1)) else (if 0≤a2 then (if a2 < ((dZ ByteArray.empty l0 a1).size:Int) then ((eG.f (bt (dZ ByteArray.empty l0 a1) a2) (l0.length:Int)).bind fun t162=>(some t162)) else (none)) else (none))) else (none)) else (none))) else (some (-1)))
theorem fZ.mono:∀ a0 a1 a2 k,dP (fZ.f k a0 a1 a2) (fZ.f (k+1) a0 a1 a2):=by
 intro a0 a1 a2 k
 unfold fZ.f
 repeat' with_reducible first|apply eH.mono|exact dP.refl _|exact dP.none _|refine dP.ite ?_ ?_|refine dP.bind ?_ (fun _=>?_)
set_option maxHeartbeats 8000000 in
set_option maxRecDepth 100000 in
theorem fZ.calls (k:Nat) (A0:Option Addr) (c0:Nat) (l0:List ByteArray) (a1:Int) (a2:Int) (r:Int) (w:World) (hr0:Kd.C Kd.string w A0 l0.length l0) (hc0:l0.length≤c0) (h:fZ.f k l0 a1 a2=some r) :
  Calls Tryd.prog 68 #[.slice A0 l0.length c0,.int .i64 a1,.int .i64 a2] w fun e w'=>e=.returned (.int .i64 r)∧aU w w':=by
 have HR0:=ae.mk hr0
 have tX:=ae.mk hc0
 clear hr0 hc0
 have H:((eH.f k l0 a1).bind fun t159=>(if t159=true then (if a2 < 0 then (some (-1)) else (if 0≤a1 then (if a1 < (l0.length:Int) then (if a2 ≥ ((dZ ByteArray.empty l0 a1).size:Int) then (some (-1)) else (if 0≤a2 then (if a2 < ((dZ ByteArray.empty l0 a1).size:Int) then ((eG.f (bt (dZ ByteArray.empty l0 a1) a2) (l0.length:Int)).bind fun t162=>(some t162)) else (none)) else (none))) else (none)) else (none))) else (some (-1))))=some r:=h
 clear h
 replace H:=Option.bind_eq_some_iff.mp H
 obtain ⟨t159,CO,H⟩:=H
 replace H:(if t159=true then (if a2 < 0 then (some (-1)) else (if 0≤a1 then (if a1 < (l0.length:Int) then (if a2 ≥ ((dZ ByteArray.empty l0 a1).size:Int) then (some (-1)) else (if 0≤a2 then (if a2 < ((dZ ByteArray.empty l0 a1).size:Int) then ((eG.f (bt (dZ ByteArray.empty l0 a1) a2) (l0.length:Int)).bind fun t162=>(some t162)) else (none)) else (none))) else (none)) else (none))) else (some (-1)))=some r:=H
 have A4:=ae.mk CO
 clear CO
 by_cases c5:t159=true
 ·
  subst c5
  have H1:(if a2 < 0 then (some (-1)) else (if 0≤a1 then (if a1 < (l0.length:Int) then (if a2 ≥ ((dZ ByteArray.empty l0 a1).size:Int) then (some (-1)) else (if 0≤a2 then (if a2 < ((dZ ByteArray.empty l0 a1).size:Int) then ((eG.f (bt (dZ ByteArray.empty l0 a1) a2) (l0.length:Int)).bind fun t162=>(some t162)) else (none)) else (none))) else (none)) else (none)))=some r:=by rw [if_pos rfl] at H;exact H
  clear H
  have H:=H1
  clear H1
  by_cases c6:a2 < 0
  ·
   rw [if_pos c6] at H
   have oK:decide (a2 < 0)=true:=decide_eq_true c6
   clear c6
   obtain rfl:=Option.some.inj H
   go_enter Tryd.func68,Tryd.ntmps68
   go_wp2_with (first|((with_reducible refine bz (f:=62) rfl ?_);refine dV (some 9) rfl rfl Tryd.func62 (by kernel_rfl) rfl #[.slice A0 l0.length c0,.int .i64 a1] rfl (by (try simp only [List.map_toArray,List.map_cons,List.map_nil]);first|done|rfl|(simp only [List.length_drop,List.length_take];rfl)) ?_;(with_reducible refine (eH.calls k _ _ l0 a1 true _ ?df ?dA A4.out).mono ?_);(case df=>repeat (first|exact HR0.out|(with_reducible refine Kd.bQ ?_ _)|(with_reducible refine Kd.bP ?_ _)|(with_reducible refine Kd.dF ?_)));(case dA=>exact tX.out);rintro e w' ⟨rfl,⟨nd,rfl⟩⟩;refine ⟨_,rfl,?_⟩))
   go_ret
   exact ⟨by first|rfl|(simp;done)|(simp [*];done),by repeat (first|exact aU.refl _|apply aU.step)⟩
  ·
   rw [if_neg c6] at H
   have oK:decide (a2 < 0)=false:=decide_eq_false c6
   clear c6
   by_cases c7:0≤a1
   ·
    rw [if_pos c7] at H
    have oQ:decide (0≤a1)=true:=decide_eq_true c7
    clear c7
    by_cases c8:a1 < (l0.length:Int)
    ·
     rw [if_pos c8] at H
     have pU:decide (a1 < (l0.length:Int))=true:=decide_eq_true c8
     clear c8
     by_cases c9:a2 ≥ ((dZ ByteArray.empty l0 a1).size:Int)
     ·
      rw [if_pos c9] at H
      have Fz:decide (((dZ ByteArray.empty l0 a1).size:Int)≤a2)=true:=decide_eq_true c9
      clear c9
      obtain rfl:=Option.some.inj H
      go_enter Tryd.func68,Tryd.ntmps68
      go_wp2_with (first|((with_reducible refine bz (f:=62) rfl ?_);refine dV (some 9) rfl rfl Tryd.func62 (by kernel_rfl) rfl #[.slice A0 l0.length c0,.int .i64 a1] rfl (by (try simp only [List.map_toArray,List.map_cons,List.map_nil]);first|done|rfl|(simp only [List.length_drop,List.length_take];rfl)) ?_;(with_reducible refine (eH.calls k _ _ l0 a1 true _ ?df ?dA A4.out).mono ?_);(case df=>repeat (first|exact HR0.out|(with_reducible refine Kd.bQ ?_ _)|(with_reducible refine Kd.bP ?_ _)|(with_reducible refine Kd.dF ?_)));(case dA=>exact tX.out);rintro e w' ⟨rfl,⟨nd,rfl⟩⟩;refine ⟨_,rfl,?_⟩;have IQ:0≤(a1:Int):=of_decide_eq_true (by first|(with_reducible assumption)|assumption);have IC:a1 < (l0.length:Int):=of_decide_eq_true (by first|(with_reducible assumption)|assumption);obtain ⟨ZA,e160,UH⟩:=Kd.kT HR0.out a1 IQ IC;cases e160;replace IQ:=eq_true IQ;replace IC:=eq_true IC))
      go_ret
      exact ⟨by first|rfl|(simp;done)|(simp [*];done),by repeat (first|exact aU.refl _|apply aU.step)⟩
     ·
      rw [if_neg c9] at H
      have Fz:decide (((dZ ByteArray.empty l0 a1).size:Int)≤a2)=false:=decide_eq_false c9
      clear c9
      by_cases c10:0≤a2
      ·
       rw [if_pos c10] at H
       have pW:decide (0≤a2)=true:=decide_eq_true c10
       clear c10
       by_cases c11:a2 < ((dZ ByteArray.empty l0 a1).size:Int)
       ·
        rw [if_pos c11] at H
        have vz:decide (a2 < ((dZ ByteArray.empty l0 a1).size:Int))=true:=decide_eq_true c11
        clear c11
        replace H:=Option.bind_eq_some_iff.mp H
        obtain ⟨t162,agP,H⟩:=H
        replace H:(some t162)=some r:=H
        have A13:=ae.mk agP
        clear agP
        obtain rfl:=Option.some.inj H
        go_enter Tryd.func68,Tryd.ntmps68
        go_wp2_with (first|((with_reducible refine bz (f:=62) rfl ?_);refine dV (some 9) rfl rfl Tryd.func62 (by kernel_rfl) rfl #[.slice A0 l0.length c0,.int .i64 a1] rfl (by (try simp only [List.map_toArray,List.map_cons,List.map_nil]);first|done|rfl|(simp only [List.length_drop,List.length_take];rfl)) ?_;(with_reducible refine (eH.calls k _ _ l0 a1 true _ ?df ?dA A4.out).mono ?_);(case df=>repeat (first|exact HR0.out|(with_reducible refine Kd.bQ ?_ _)|(with_reducible refine Kd.bP ?_ _)|(with_reducible refine Kd.dF ?_)));(case dA=>exact tX.out);rintro e w' ⟨rfl,⟨nd,rfl⟩⟩;refine ⟨_,rfl,?_⟩;have IQ:0≤(a1:Int):=of_decide_eq_true (by first|(with_reducible assumption)|assumption);have IC:a1 < (l0.length:Int):=of_decide_eq_true (by first|(with_reducible assumption)|assumption);obtain ⟨ZA,e160,UH⟩:=Kd.kT HR0.out a1 IQ IC;cases e160;replace IQ:=eq_true IQ;replace IC:=eq_true IC;have aaz:0≤(a1:Int):=of_decide_eq_true (by first|(with_reducible assumption)|assumption);have aap:a1 < (l0.length:Int):=of_decide_eq_true (by first|(with_reducible assumption)|assumption);obtain ⟨afD,e161,agZ⟩:=Kd.kT HR0.out a1 aaz aap;obtain rfl:ZA=afD:=(by injection e161);replace aaz:=eq_true aaz;replace aap:=eq_true aap;have p12:0≤(a2:Int):=of_decide_eq_true (by first|(with_reducible assumption)|assumption);have q12:a2 < ((dZ ByteArray.empty l0 a1).size:Int):=of_decide_eq_true (by first|(with_reducible assumption)|assumption);have aaS:=kY (dZ ByteArray.empty l0 a1) a2;replace p12:=eq_true p12;replace q12:=eq_true q12)|((with_reducible refine bz (f:=43) rfl ?_);refine dV (some 32) rfl rfl Tryd.func43 (by kernel_rfl) rfl #[.int .u8 (bt (dZ ByteArray.empty l0 a1) a2),.int .i64 (l0.length:Int)] rfl (by (try simp only [List.map_toArray,List.map_cons,List.map_nil]);first|done|rfl|(simp only [List.length_drop,List.length_take];rfl)) ?_;(with_reducible refine (eG.calls (bt (dZ ByteArray.empty l0 a1) a2) (l0.length:Int) t162 _ A13.out).mono ?_);rintro e w' ⟨rfl,⟨nd,rfl⟩⟩;refine ⟨_,rfl,?_⟩))
        go_ret
        exact ⟨by first|rfl|(simp;done)|(simp [*];done),by repeat (first|exact aU.refl _|apply aU.step)⟩
       ·
        rw [if_neg c11] at H
        exact absurd H (by simp)
      ·
       rw [if_neg c10] at H
       exact absurd H (by simp)
    ·
     rw [if_neg c8] at H
     exact absurd H (by simp)
   ·
    rw [if_neg c7] at H
    exact absurd H (by simp)
 ·
  replace c5:=Bool.eq_false_iff.mpr c5
  subst c5
  have H1:(some (-1))=some r:=by rw [if_neg (show ¬ (false=true) by decide)] at H;exact H
  clear H
  have H:=H1
  clear H1
  obtain rfl:=Option.some.inj H
  go_enter Tryd.func68,Tryd.ntmps68
  go_wp2_with (first|((with_reducible refine bz (f:=62) rfl ?_);refine dV (some 9) rfl rfl Tryd.func62 (by kernel_rfl) rfl #[.slice A0 l0.length c0,.int .i64 a1] rfl (by (try simp only [List.map_toArray,List.map_cons,List.map_nil]);first|done|rfl|(simp only [List.length_drop,List.length_take];rfl)) ?_;(with_reducible refine (eH.calls k _ _ l0 a1 false _ ?df ?dA A4.out).mono ?_);(case df=>repeat (first|exact HR0.out|(with_reducible refine Kd.bQ ?_ _)|(with_reducible refine Kd.bP ?_ _)|(with_reducible refine Kd.dF ?_)));(case dA=>exact tX.out);rintro e w' ⟨rfl,⟨nd,rfl⟩⟩;refine ⟨_,rfl,?_⟩))
  go_ret
  exact ⟨by first|rfl|(simp;done)|(simp [*];done),by repeat (first|exact aU.refl _|apply aU.step)⟩
def fB.f (k:Nat) (aZ:List ByteArray) (aV:ByteArray) (aW:ByteArray) (aI:List (iD)) (a1:Int) (a2:Int):Option (Bool):=if a2 < 0 then (some false) else ((gq.f k aZ a1).bind fun t164=>(if a2 ≥ t164 then (some false) else ((fZ.f k aZ a1 a2).bind fun t165=>(some (decide (t165 < 0))))))
theorem fB.mono:∀ a0 a1 a2 a3 a4 a5 k,dP (fB.f k a0 a1 a2 a3 a4 a5) (fB.f (k+1) a0 a1 a2 a3 a4 a5):=by
 intro a0 a1 a2 a3 a4 a5 k
 unfold fB.f
 repeat' with_reducible first|apply gq.mono|apply fZ.mono|exact dP.refl _|exact dP.none _|refine dP.ite ?_ ?_|refine dP.bind ?_ (fun _=>?_)
set_option maxHeartbeats 8000000 in
set_option maxRecDepth 100000 in
theorem fB.calls (k:Nat) (eu:Option Addr) (ed:Nat) (aZ:List ByteArray) (aV:ByteArray) (aW:ByteArray) (gm:Option Addr) (eX:Nat) (aI:List (iD)) (a1:Int) (a2:Int) (r:Bool) (w:World) (jV:Kd.C Kd.string w eu aZ.length aZ) (jX:aZ.length≤ed) (jU:Kd.C uD w gm aI.length aI) (jW:aI.length≤eX) (h:fB.f k aZ aV aW aI a1 a2=some r) :
  Calls Tryd.prog 49 #[.agg #[.slice eu aZ.length ed,.string aV,.string aW,.slice gm aI.length eX],.int .i64 a1,.int .i64 a2] w fun e w'=>e=.returned (.bool r)∧Below w.heap.size w w':=by
 have yP:=Tryd.underlying25
 have iI:=ae.mk jV
 have iL:=ae.mk jX
 clear jV jX
 have jR:=ae.mk jU
 have kK:=ae.mk jW
 clear jU jW
 have HB:=ae.mk (Below.refl w.heap.size w)
 have H:(if a2 < 0 then (some false) else ((gq.f k aZ a1).bind fun t164=>(if a2 ≥ t164 then (some false) else ((fZ.f k aZ a1 a2).bind fun t165=>(some (decide (t165 < 0)))))))=some r:=h
 clear h
 by_cases c4:a2 < 0
 ·
  rw [if_pos c4] at H
  have oD:decide (a2 < 0)=true:=decide_eq_true c4
  clear c4
  obtain rfl:=Option.some.inj H
  go_enter Tryd.func49,Tryd.ntmps49
  go_wp2_with (first|((with_reducible refine bD (N:=3) rfl ?_);refine fG ?hg (N:=3) ?hd (cs:=#[.slice eu aZ.length ed,.string aV,.string aW,.slice gm aI.length eX]) (t:=25) ?hr ?_;(case hd=>rfl);(case hg=>rfl);(case hr=>first|(go_simp;done)|(go_simp;rfl));intro GX hg w5 hbox hb;have dX:=ae.mk (bn (by repeat (first|(with_reducible first|exact HB.out|apply ah|apply ag|apply ai)|exact HB.out)) hb);have dW:=ae.mk (hbox);have dU:=ae.mk ((by rw [hg];exact (bY (by repeat (first|(with_reducible first|exact HB.out|apply ah|apply ag|apply ai)|exact HB.out))):w.heap.size≤GX));have iq:=dU;clear HB;have HB:=dX;have NR:=dW;have ZP:=dU;have Ed:=iq;clear dX dW dU iq;clear hb hbox hg))
  go_ret
  exact ⟨by first|rfl|(simp [aQ,aN] <;> rfl)|(simp [*,aQ,aN] <;> rfl),by repeat (first|(with_reducible first|exact HB.out|apply ah|apply ag|apply ai|refine aj ?_ Ed.out)|exact HB.out)⟩
 ·
  rw [if_neg c4] at H
  have oD:decide (a2 < 0)=false:=decide_eq_false c4
  clear c4
  replace H:=Option.bind_eq_some_iff.mp H
  obtain ⟨t164,NS,H⟩:=H
  replace H:(if a2 ≥ t164 then (some false) else ((fZ.f k aZ a1 a2).bind fun t165=>(some (decide (t165 < 0)))))=some r:=H
  have A6:=ae.mk NS
  clear NS
  by_cases c7:a2 ≥ t164
  ·
   rw [if_pos c7] at H
   have oQ:decide (t164≤a2)=true:=decide_eq_true c7
   clear c7
   obtain rfl:=Option.some.inj H
   go_enter Tryd.func49,Tryd.ntmps49
   go_wp2_with (first|((with_reducible refine bD (N:=3) rfl ?_);refine fG ?hg (N:=3) ?hd (cs:=#[.slice eu aZ.length ed,.string aV,.string aW,.slice gm aI.length eX]) (t:=25) ?hr ?_;(case hd=>rfl);(case hg=>rfl);(case hr=>first|(go_simp;done)|(go_simp;rfl));intro GX hg w8 hbox hb;have dX:=ae.mk (bn (by repeat (first|(with_reducible first|exact HB.out|apply ah|apply ag|apply ai)|exact HB.out)) hb);have dW:=ae.mk (hbox);have dU:=ae.mk ((by rw [hg];exact (bY (by repeat (first|(with_reducible first|exact HB.out|apply ah|apply ag|apply ai)|exact HB.out))):w.heap.size≤GX));have iq:=dU;clear HB;have HB:=dX;have NR:=dW;have ZP:=dU;have Ed:=iq;clear dX dW dU iq;clear hb hbox hg;obtain ⟨Jh,Jg,Jf,Je,Jc,Jb,Ja,I9⟩:=rW NR.out)|(go_at_call 41;(with_reducible refine (gq.calls k _ _ aZ a1 t164 _ ?df ?dA A6.out).mono ?_);(case df=>repeat (first|exact (Kd.bJ iI.out HB.out)|(with_reducible refine Kd.bQ ?_ _)|(with_reducible refine Kd.bP ?_ _)|(with_reducible refine Kd.dF ?_)));(case dA=>exact iL.out);rintro e w' ⟨rfl,⟨nd,rfl⟩⟩))
   go_ret
   exact ⟨by first|rfl|(simp [aQ,aN] <;> rfl)|(simp [*,aQ,aN] <;> rfl),by repeat (first|(with_reducible first|exact HB.out|apply ah|apply ag|apply ai|refine aj ?_ Ed.out)|exact HB.out)⟩
  ·
   rw [if_neg c7] at H
   have oQ:decide (t164≤a2)=false:=decide_eq_false c7
   clear c7
   replace H:=Option.bind_eq_some_iff.mp H
   obtain ⟨t165,Dj,H⟩:=H
   replace H:(some (decide (t165 < 0)))=some r:=H
   have ZW:=ae.mk Dj
   clear Dj
   obtain rfl:=Option.some.inj H
   go_enter Tryd.func49,Tryd.ntmps49
   go_wp2_with (first|((with_reducible refine bD (N:=3) rfl ?_);refine fG ?hg (N:=3) ?hd (cs:=#[.slice eu aZ.length ed,.string aV,.string aW,.slice gm aI.length eX]) (t:=25) ?hr ?_;(case hd=>rfl);(case hg=>rfl);(case hr=>first|(go_simp;done)|(go_simp;rfl));intro GX hg w11 hbox hb;have dX:=ae.mk (bn (by repeat (first|(with_reducible first|exact HB.out|apply ah|apply ag|apply ai)|exact HB.out)) hb);have dW:=ae.mk (hbox);have dU:=ae.mk ((by rw [hg];exact (bY (by repeat (first|(with_reducible first|exact HB.out|apply ah|apply ag|apply ai)|exact HB.out))):w.heap.size≤GX));have iq:=dU;clear HB;have HB:=dX;have NR:=dW;have ZP:=dU;have Ed:=iq;clear dX dW dU iq;clear hb hbox hg;obtain ⟨Fg,Ff,Fe,Fb,EX,EW,EU,ET⟩:=rW NR.out)|(go_at_call 41;(with_reducible refine (gq.calls k _ _ aZ a1 t164 _ ?df ?dA A6.out).mono ?_);(case df=>repeat (first|exact (Kd.bJ iI.out HB.out)|(with_reducible refine Kd.bQ ?_ _)|(with_reducible refine Kd.bP ?_ _)|(with_reducible refine Kd.dF ?_)));(case dA=>exact iL.out);rintro e w' ⟨rfl,⟨nd,rfl⟩⟩)|((with_reducible refine bz (f:=68) rfl ?_);refine dV (some 21) rfl rfl Tryd.func68 (by kernel_rfl) rfl #[.slice eu aZ.length ed,.int .i64 a1,.int .i64 a2] rfl (by (try simp only [List.map_toArray,List.map_cons,List.map_nil]);first|done|rfl|(simp only [List.length_drop,List.length_take];rfl)) ?_;(with_reducible refine (fZ.calls k _ _ aZ a1 a2 t165 _ ?df ?dA ZW.out).mono ?_);(case df=>repeat (first|exact (Kd.bJ iI.out (by repeat (first|(with_reducible first|exact HB.out|apply ah|apply ag|apply ai|refine aj ?_ Ed.out)|exact HB.out)))|(with_reducible refine Kd.bQ ?_ _)|(with_reducible refine Kd.bP ?_ _)|(with_reducible refine Kd.dF ?_)));(case dA=>exact iL.out);rintro e w' ⟨rfl,⟨nd,rfl⟩⟩;refine ⟨_,rfl,?_⟩))
   go_ret
   exact ⟨by first|rfl|(simp [aQ,aN] <;> rfl)|(simp [*,aQ,aN] <;> rfl),by repeat (first|(with_reducible first|exact HB.out|apply ah|apply ag|apply ai|refine aj ?_ Ed.out)|exact HB.out)⟩
def gz.f (k:Nat) (aZ:List ByteArray) (aV:ByteArray) (aW:ByteArray) (aI:List (iD)) (a1:Int) (a2:Int):Option (Int):=if a2 < 0 then (some (-1)) else (if a2 > 6 then (some (-1)) else ((fZ.f k aZ a1 a2).bind fun t167=>(some t167)))
theorem gz.mono:∀ a0 a1 a2 a3 a4 a5 k,dP (gz.f k a0 a1 a2 a3 a4 a5) (gz.f (k+1) a0 a1 a2 a3 a4 a5):=by
 intro a0 a1 a2 a3 a4 a5 k
 unfold gz.f
 repeat' with_reducible first|apply fZ.mono|exact dP.refl _|exact dP.none _|refine dP.ite ?_ ?_|refine dP.bind ?_ (fun _=>?_)
set_option maxHeartbeats 8000000 in
set_option maxRecDepth 100000 in
theorem gz.calls (k:Nat) (eu:Option Addr) (ed:Nat) (aZ:List ByteArray) (aV:ByteArray) (aW:ByteArray) (gm:Option Addr) (eX:Nat) (aI:List (iD)) (a1:Int) (a2:Int) (r:Int) (w:World) (jV:Kd.C Kd.string w eu aZ.length aZ) (jX:aZ.length≤ed) (jU:Kd.C uD w gm aI.length aI) (jW:aI.length≤eX) (h:gz.f k aZ aV aW aI a1 a2=some r) :
  Calls Tryd.prog 50 #[.agg #[.slice eu aZ.length ed,.string aV,.string aW,.slice gm aI.length eX],.int .i64 a1,.int .i64 a2] w fun e w'=>e=.returned (.int .i64 r)∧Below w.heap.size w w':=by
 have yP:=Tryd.underlying25
 have iI:=ae.mk jV
 have iL:=ae.mk jX
 clear jV jX
 have jR:=ae.mk jU
 have kK:=ae.mk jW
 clear jU jW
 have HB:=ae.mk (Below.refl w.heap.size w)
 have H:(if a2 < 0 then (some (-1)) else (if a2 > 6 then (some (-1)) else ((fZ.f k aZ a1 a2).bind fun t167=>(some t167))))=some r:=h
 clear h
 by_cases c4:a2 < 0
 ·
  rw [if_pos c4] at H
  have oD:decide (a2 < 0)=true:=decide_eq_true c4
  clear c4
  obtain rfl:=Option.some.inj H
  go_enter Tryd.func50,Tryd.ntmps50
  go_wp2_with (first|((with_reducible refine bD (N:=3) rfl ?_);refine fG ?hg (N:=3) ?hd (cs:=#[.slice eu aZ.length ed,.string aV,.string aW,.slice gm aI.length eX]) (t:=25) ?hr ?_;(case hd=>rfl);(case hg=>rfl);(case hr=>first|(go_simp;done)|(go_simp;rfl));intro GV hg w5 hbox hb;have dX:=ae.mk (bn (by repeat (first|(with_reducible first|exact HB.out|apply ah|apply ag|apply ai)|exact HB.out)) hb);have dW:=ae.mk (hbox);have dU:=ae.mk ((by rw [hg];exact (bY (by repeat (first|(with_reducible first|exact HB.out|apply ah|apply ag|apply ai)|exact HB.out))):w.heap.size≤GV));have iq:=dU;clear HB;have HB:=dX;have SX:=dW;have ZO:=dU;have Ie:=iq;clear dX dW dU iq;clear hb hbox hg))
  go_ret
  exact ⟨by first|rfl|(simp [aQ,aN] <;> rfl)|(simp [*,aQ,aN] <;> rfl),by repeat (first|(with_reducible first|exact HB.out|apply ah|apply ag|apply ai|refine aj ?_ Ie.out)|exact HB.out)⟩
 ·
  rw [if_neg c4] at H
  have oD:decide (a2 < 0)=false:=decide_eq_false c4
  clear c4
  by_cases c6:a2 > 6
  ·
   rw [if_pos c6] at H
   have oK:decide (6 < a2)=true:=decide_eq_true c6
   clear c6
   obtain rfl:=Option.some.inj H
   go_enter Tryd.func50,Tryd.ntmps50
   go_wp2_with (first|((with_reducible refine bD (N:=3) rfl ?_);refine fG ?hg (N:=3) ?hd (cs:=#[.slice eu aZ.length ed,.string aV,.string aW,.slice gm aI.length eX]) (t:=25) ?hr ?_;(case hd=>rfl);(case hg=>rfl);(case hr=>first|(go_simp;done)|(go_simp;rfl));intro GV hg w7 hbox hb;have dX:=ae.mk (bn (by repeat (first|(with_reducible first|exact HB.out|apply ah|apply ag|apply ai)|exact HB.out)) hb);have dW:=ae.mk (hbox);have dU:=ae.mk ((by rw [hg];exact (bY (by repeat (first|(with_reducible first|exact HB.out|apply ah|apply ag|apply ai)|exact HB.out))):w.heap.size≤GV));have iq:=dU;clear HB;have HB:=dX;have SX:=dW;have ZO:=dU;have Ie:=iq;clear dX dW dU iq;clear hb hbox hg))
   go_ret
   exact ⟨by first|rfl|(simp [aQ,aN] <;> rfl)|(simp [*,aQ,aN] <;> rfl),by repeat (first|(with_reducible first|exact HB.out|apply ah|apply ag|apply ai|refine aj ?_ Ie.out)|exact HB.out)⟩
  ·
   rw [if_neg c6] at H
   have oK:decide (6 < a2)=false:=decide_eq_false c6
   clear c6
   replace H:=Option.bind_eq_some_iff.mp H
   obtain ⟨t167,ZU,H⟩:=H
   replace H:(some t167)=some r:=H
   have A8:=ae.mk ZU
   clear ZU
   obtain rfl:=Option.some.inj H
   go_enter Tryd.func50,Tryd.ntmps50
   go_wp2_with (first|((with_reducible refine bD (N:=3) rfl ?_);refine fG ?hg (N:=3) ?hd (cs:=#[.slice eu aZ.length ed,.string aV,.string aW,.slice gm aI.length eX]) (t:=25) ?hr ?_;(case hd=>rfl);(case hg=>rfl);(case hr=>first|(go_simp;done)|(go_simp;rfl));intro GV hg w9 hbox hb;have dX:=ae.mk (bn (by repeat (first|(with_reducible first|exact HB.out|apply ah|apply ag|apply ai)|exact HB.out)) hb);have dW:=ae.mk (hbox);have dU:=ae.mk ((by rw [hg];exact (bY (by repeat (first|(with_reducible first|exact HB.out|apply ah|apply ag|apply ai)|exact HB.out))):w.heap.size≤GV));have iq:=dU;clear HB;have HB:=dX;have SX:=dW;have ZO:=dU;have Ie:=iq;clear dX dW dU iq;clear hb hbox hg;obtain ⟨yj,yh,yg,yf,yc,x9,xZ,xY⟩:=rW SX.out)|((with_reducible refine bz (f:=68) rfl ?_);refine dV (some 17) rfl rfl Tryd.func68 (by kernel_rfl) rfl #[.slice eu aZ.length ed,.int .i64 a1,.int .i64 a2] rfl (by (try simp only [List.map_toArray,List.map_cons,List.map_nil]);first|done|rfl|(simp only [List.length_drop,List.length_take];rfl)) ?_;(with_reducible refine (fZ.calls k _ _ aZ a1 a2 t167 _ ?df ?dA A8.out).mono ?_);(case df=>repeat (first|exact (Kd.bJ iI.out HB.out)|(with_reducible refine Kd.bQ ?_ _)|(with_reducible refine Kd.bP ?_ _)|(with_reducible refine Kd.dF ?_)));(case dA=>exact iL.out);rintro e w' ⟨rfl,⟨nd,rfl⟩⟩;refine ⟨_,rfl,?_⟩))
   go_ret
   exact ⟨by first|rfl|(simp [aQ,aN] <;> rfl)|(simp [*,aQ,aN] <;> rfl),by repeat (first|(with_reducible first|exact HB.out|apply ah|apply ag|apply ai|refine aj ?_ Ie.out)|exact HB.out)⟩
end Go.Proofs.YtlemecdddhdagaaDoor.P
end
