/- Parts of the proof of ModelMakes: what the functions that it reaches compute, and plain facts about that. -/
import Derived.Test.YtlemecdddhdagaaDoorXab
import Derived.Test.YtlemecdddhdagaaDoorXal
import Derived.Test.YtlemecdddhdagaaDoorXam
set_option linter.unusedVariables false
set_option linter.unusedSimpArgs false
section
namespace Go.Proofs.YtlemecdddhdagaaDoor.P
open Go.RowKit Go.Proofs.ag.bH Go.Proofs.ag.dM Go.Proofs.ag.dY
attribute [local go_sem] kR kP lU lT jM jL kQ kN
def ed.f (k:Nat) (l0:List ByteArray) (a1:Int):Option (Bool):=(aK.f k l0).bind fun t156=>(if t156=true then (if a1 ≥ 0 then (some (decide (a1 < (l0.length:Int)))) else (some false)) else (some false))
theorem ed.mono:∀ a0 a1 k,dK (ed.f k a0 a1) (ed.f (k+1) a0 a1):=by
 intro a0 a1 k
 unfold ed.f
 repeat' with_reducible first|apply aK.mono|exact dK.refl _|exact dK.none _|refine dK.ite ?_ ?_|refine dK.bind ?_ (fun _=>?_)
set_option maxHeartbeats 8000000 in
set_option maxRecDepth 100000 in
theorem ed.calls (k:Nat) (A0:Option Addr) (c0:Nat) (l0:List ByteArray) (a1:Int) (r:Bool) (w:World) (hr0:Kd.C Kd.string w A0 l0.length l0) (hc0:l0.length≤c0) (h:ed.f k l0 a1=some r) :
  Calls Tryd.prog 62 #[.slice A0 l0.length c0,.int .i64 a1] w fun e w'=>e=.returned (.bool r)∧aV w w':=by
 have HR0:=ae.mk hr0
 have tC:=ae.mk hc0
 clear hr0 hc0
 have H:((aK.f k l0).bind fun t156=>(if t156=true then (if a1 ≥ 0 then (some (decide (a1 < (l0.length:Int)))) else (some false)) else (some false)))=some r:=h
 clear h
 replace H:=Option.bind_eq_some_iff.mp H
 obtain ⟨t156,xh,H⟩:=H
 replace H:(if t156=true then (if a1 ≥ 0 then (some (decide (a1 < (l0.length:Int)))) else (some false)) else (some false))=some r:=H
 have A3:=ae.mk xh
 clear xh
 by_cases c4:t156=true
 ·
  subst c4
  have H1:(if a1 ≥ 0 then (some (decide (a1 < (l0.length:Int)))) else (some false))=some r:=by rw [if_pos rfl] at H;exact H
  clear H
  have H:=H1
  clear H1
  by_cases c5:a1 ≥ 0
  ·
   rw [if_pos c5] at H
   have qO:decide (0≤a1)=true:=decide_eq_true c5
   clear c5
   obtain rfl:=Option.some.inj H
   go_enter Tryd.func62,Tryd.ntmps62
   go_wp2_with (first|((with_reducible refine bu (f:=44) rfl ?_);refine dQ (some 6) rfl rfl Tryd.func44 (by kernel_rfl) rfl #[.slice A0 l0.length c0] rfl (by (try simp only [List.map_toArray,List.map_cons,List.map_nil]);first|done|rfl|(simp only [List.length_drop,List.length_take];rfl)) ?_;(with_reducible refine (aK.calls k _ _ l0 true _ ?bW ?df A3.out).mono ?_);(case bW=>repeat (first|exact HR0.out|(with_reducible refine Kd.bM ?_ _)|(with_reducible refine Kd.bK ?_ _)|(with_reducible refine Kd.dB ?_)));(case df=>exact tC.out);rintro e w' ⟨rfl,⟨nd,rfl⟩⟩;refine ⟨_,rfl,?_⟩))
   go_ret
   exact ⟨by first|rfl|(simp;done)|(simp [*];done),by repeat (first|exact aV.refl _|apply aV.step)⟩
  ·
   rw [if_neg c5] at H
   have qO:decide (0≤a1)=false:=decide_eq_false c5
   clear c5
   obtain rfl:=Option.some.inj H
   go_enter Tryd.func62,Tryd.ntmps62
   go_wp2_with (first|((with_reducible refine bu (f:=44) rfl ?_);refine dQ (some 6) rfl rfl Tryd.func44 (by kernel_rfl) rfl #[.slice A0 l0.length c0] rfl (by (try simp only [List.map_toArray,List.map_cons,List.map_nil]);first|done|rfl|(simp only [List.length_drop,List.length_take];rfl)) ?_;(with_reducible refine (aK.calls k _ _ l0 true _ ?bW ?df A3.out).mono ?_);(case bW=>repeat (first|exact HR0.out|(with_reducible refine Kd.bM ?_ _)|(with_reducible refine Kd.bK ?_ _)|(with_reducible refine Kd.dB ?_)));(case df=>exact tC.out);rintro e w' ⟨rfl,⟨nd,rfl⟩⟩;refine ⟨_,rfl,?_⟩))
   go_ret
   exact ⟨by first|rfl|(simp;done)|(simp [*];done),by repeat (first|exact aV.refl _|apply aV.step)⟩
 ·
  replace c4:=Bool.eq_false_iff.mpr c4
  subst c4
  have H1:(some false)=some r:=by rw [if_neg (show ¬ (false=true) by decide)] at H;exact H
  clear H
  have H:=H1
  clear H1
  obtain rfl:=Option.some.inj H
  go_enter Tryd.func62,Tryd.ntmps62
  go_wp2_with (first|((with_reducible refine bu (f:=44) rfl ?_);refine dQ (some 6) rfl rfl Tryd.func44 (by kernel_rfl) rfl #[.slice A0 l0.length c0] rfl (by (try simp only [List.map_toArray,List.map_cons,List.map_nil]);first|done|rfl|(simp only [List.length_drop,List.length_take];rfl)) ?_;(with_reducible refine (aK.calls k _ _ l0 false _ ?bW ?df A3.out).mono ?_);(case bW=>repeat (first|exact HR0.out|(with_reducible refine Kd.bM ?_ _)|(with_reducible refine Kd.bK ?_ _)|(with_reducible refine Kd.dB ?_)));(case df=>exact tC.out);rintro e w' ⟨rfl,⟨nd,rfl⟩⟩;refine ⟨_,rfl,?_⟩))
  go_ret
  exact ⟨by first|rfl|(simp;done)|(simp [*];done),by repeat (first|exact aV.refl _|apply aV.step)⟩
def gy.f (k:Nat) (l0:List ByteArray) (a1:Int):Option (Int):=(ed.f k l0 a1).bind fun t157=>(if t157=true then (if 0≤a1 then (if a1 < (l0.length:Int) then (some ((dV ByteArray.empty l0 a1).size:Int)) else (none)) else (none)) else (some 0))
theorem gy.mono:∀ a0 a1 k,dK (gy.f k a0 a1) (gy.f (k+1) a0 a1):=by
 intro a0 a1 k
 unfold gy.f
 repeat' with_reducible first|apply ed.mono|exact dK.refl _|exact dK.none _|refine dK.ite ?_ ?_|refine dK.bind ?_ (fun _=>?_)
set_option maxHeartbeats 8000000 in
set_option maxRecDepth 100000 in
theorem gy.calls (k:Nat) (A0:Option Addr) (c0:Nat) (l0:List ByteArray) (a1:Int) (r:Int) (w:World) (hr0:Kd.C Kd.string w A0 l0.length l0) (hc0:l0.length≤c0) (h:gy.f k l0 a1=some r) :
  Calls Tryd.prog 41 #[.slice A0 l0.length c0,.int .i64 a1] w fun e w'=>e=.returned (.int .i64 r)∧aV w w':=by
 have HR0:=ae.mk hr0
 have tC:=ae.mk hc0
 clear hr0 hc0
 have H:((ed.f k l0 a1).bind fun t157=>(if t157=true then (if 0≤a1 then (if a1 < (l0.length:Int) then (some ((dV ByteArray.empty l0 a1).size:Int)) else (none)) else (none)) else (some 0)))=some r:=h
 clear h
 replace H:=Option.bind_eq_some_iff.mp H
 obtain ⟨t157,xh,H⟩:=H
 replace H:(if t157=true then (if 0≤a1 then (if a1 < (l0.length:Int) then (some ((dV ByteArray.empty l0 a1).size:Int)) else (none)) else (none)) else (some 0))=some r:=H
 have A3:=ae.mk xh
 clear xh
 by_cases c4:t157=true
 ·
  subst c4
  have H1:(if 0≤a1 then (if a1 < (l0.length:Int) then (some ((dV ByteArray.empty l0 a1).size:Int)) else (none)) else (none))=some r:=by rw [if_pos rfl] at H;exact H
  clear H
  have H:=H1
  clear H1
  by_cases c5:0≤a1
  ·
   rw [if_pos c5] at H
   have qO:decide (0≤a1)=true:=decide_eq_true c5
   clear c5
   by_cases c6:a1 < (l0.length:Int)
   ·
    rw [if_pos c6] at H
    have nP:decide (a1 < (l0.length:Int))=true:=decide_eq_true c6
    clear c6
    obtain rfl:=Option.some.inj H
    go_enter Tryd.func41,Tryd.ntmps41
    go_wp2_with (first|((with_reducible refine bu (f:=62) rfl ?_);refine dQ (some 7) rfl rfl Tryd.func62 (by kernel_rfl) rfl #[.slice A0 l0.length c0,.int .i64 a1] rfl (by (try simp only [List.map_toArray,List.map_cons,List.map_nil]);first|done|rfl|(simp only [List.length_drop,List.length_take];rfl)) ?_;(with_reducible refine (ed.calls k _ _ l0 a1 true _ ?bW ?df A3.out).mono ?_);(case bW=>repeat (first|exact HR0.out|(with_reducible refine Kd.bM ?_ _)|(with_reducible refine Kd.bK ?_ _)|(with_reducible refine Kd.dB ?_)));(case df=>exact tC.out);rintro e w' ⟨rfl,⟨nd,rfl⟩⟩;refine ⟨_,rfl,?_⟩;have XT:0≤(a1:Int):=of_decide_eq_true (by first|(with_reducible assumption)|assumption);have XI:a1 < (l0.length:Int):=of_decide_eq_true (by first|(with_reducible assumption)|assumption);obtain ⟨amw,akn,adI⟩:=Kd.kC HR0.out a1 XT XI;cases akn;replace XT:=eq_true XT;replace XI:=eq_true XI))
    go_ret
    exact ⟨by first|rfl|(simp;done)|(simp [*];done),by repeat (first|exact aV.refl _|apply aV.step)⟩
   ·
    rw [if_neg c6] at H
    exact absurd H (by simp)
  ·
   rw [if_neg c5] at H
   exact absurd H (by simp)
 ·
  replace c4:=Bool.eq_false_iff.mpr c4
  subst c4
  have H1:(some 0)=some r:=by rw [if_neg (show ¬ (false=true) by decide)] at H;exact H
  clear H
  have H:=H1
  clear H1
  obtain rfl:=Option.some.inj H
  go_enter Tryd.func41,Tryd.ntmps41
  go_wp2_with (first|((with_reducible refine bu (f:=62) rfl ?_);refine dQ (some 7) rfl rfl Tryd.func62 (by kernel_rfl) rfl #[.slice A0 l0.length c0,.int .i64 a1] rfl (by (try simp only [List.map_toArray,List.map_cons,List.map_nil]);first|done|rfl|(simp only [List.length_drop,List.length_take];rfl)) ?_;(with_reducible refine (ed.calls k _ _ l0 a1 false _ ?bW ?df A3.out).mono ?_);(case bW=>repeat (first|exact HR0.out|(with_reducible refine Kd.bM ?_ _)|(with_reducible refine Kd.bK ?_ _)|(with_reducible refine Kd.dB ?_)));(case df=>exact tC.out);rintro e w' ⟨rfl,⟨nd,rfl⟩⟩;refine ⟨_,rfl,?_⟩))
  go_ret
  exact ⟨by first|rfl|(simp;done)|(simp [*];done),by repeat (first|exact aV.refl _|apply aV.step)⟩
def fP.f (k:Nat) (l0:List ByteArray) (a1:Int) (a2:Int):Option (Int):=(ed.f k l0 a1).bind fun t159=>(if t159=true then (if a2 < 0 then (some (-1)) else (if 0≤a1 then (if a1 < (l0.length:Int) then (if a2 ≥ ((dV ByteArray.empty l0 a1).size:Int) then (some (-1)) else (if 0≤a2 then (if a2 < ((dV ByteArray.empty l0 a1).size:Int) then ((dZ.f (bt (dV ByteArray.empty l0 a1) a2) (l0.length:Int)).bind fun t162=>(some t162)) else (none)) else (none))) else (none)) else (none))) else (some (-1)))
theorem fP.mono:∀ a0 a1 a2 k,dK (fP.f k a0 a1 a2) (fP.f (k+1) a0 a1 a2):=by
 intro a0 a1 a2 k
 unfold fP.f
 repeat' with_reducible first|apply ed.mono|exact dK.refl _|exact dK.none _|refine dK.ite ?_ ?_|refine dK.bind ?_ (fun _=>?_)
set_option maxHeartbeats 8000000 in
set_option maxRecDepth 100000 in
theorem fP.calls (k:Nat) (A0:Option Addr) (c0:Nat) (l0:List ByteArray) (a1:Int) (a2:Int) (r:Int) (w:World) (hr0:Kd.C Kd.string w A0 l0.length l0) (hc0:l0.length≤c0) (h:fP.f k l0 a1 a2=some r) :
  Calls Tryd.prog 68 #[.slice A0 l0.length c0,.int .i64 a1,.int .i64 a2] w fun e w'=>e=.returned (.int .i64 r)∧aV w w':=by
 have HR0:=ae.mk hr0
 have tC:=ae.mk hc0
 clear hr0 hc0
 have H:((ed.f k l0 a1).bind fun t159=>(if t159=true then (if a2 < 0 then (some (-1)) else (if 0≤a1 then (if a1 < (l0.length:Int) then (if a2 ≥ ((dV ByteArray.empty l0 a1).size:Int) then (some (-1)) else (if 0≤a2 then (if a2 < ((dV ByteArray.empty l0 a1).size:Int) then ((dZ.f (bt (dV ByteArray.empty l0 a1) a2) (l0.length:Int)).bind fun t162=>(some t162)) else (none)) else (none))) else (none)) else (none))) else (some (-1))))=some r:=h
 clear h
 replace H:=Option.bind_eq_some_iff.mp H
 obtain ⟨t159,Aw,H⟩:=H
 replace H:(if t159=true then (if a2 < 0 then (some (-1)) else (if 0≤a1 then (if a1 < (l0.length:Int) then (if a2 ≥ ((dV ByteArray.empty l0 a1).size:Int) then (some (-1)) else (if 0≤a2 then (if a2 < ((dV ByteArray.empty l0 a1).size:Int) then ((dZ.f (bt (dV ByteArray.empty l0 a1) a2) (l0.length:Int)).bind fun t162=>(some t162)) else (none)) else (none))) else (none)) else (none))) else (some (-1)))=some r:=H
 have A4:=ae.mk Aw
 clear Aw
 by_cases c5:t159=true
 ·
  subst c5
  have H1:(if a2 < 0 then (some (-1)) else (if 0≤a1 then (if a1 < (l0.length:Int) then (if a2 ≥ ((dV ByteArray.empty l0 a1).size:Int) then (some (-1)) else (if 0≤a2 then (if a2 < ((dV ByteArray.empty l0 a1).size:Int) then ((dZ.f (bt (dV ByteArray.empty l0 a1) a2) (l0.length:Int)).bind fun t162=>(some t162)) else (none)) else (none))) else (none)) else (none)))=some r:=by rw [if_pos rfl] at H;exact H
  clear H
  have H:=H1
  clear H1
  by_cases c6:a2 < 0
  ·
   rw [if_pos c6] at H
   have nP:decide (a2 < 0)=true:=decide_eq_true c6
   clear c6
   obtain rfl:=Option.some.inj H
   go_enter Tryd.func68,Tryd.ntmps68
   go_wp2_with (first|((with_reducible refine bu (f:=62) rfl ?_);refine dQ (some 9) rfl rfl Tryd.func62 (by kernel_rfl) rfl #[.slice A0 l0.length c0,.int .i64 a1] rfl (by (try simp only [List.map_toArray,List.map_cons,List.map_nil]);first|done|rfl|(simp only [List.length_drop,List.length_take];rfl)) ?_;(with_reducible refine (ed.calls k _ _ l0 a1 true _ ?bW ?df A4.out).mono ?_);(case bW=>repeat (first|exact HR0.out|(with_reducible refine Kd.bM ?_ _)|(with_reducible refine Kd.bK ?_ _)|(with_reducible refine Kd.dB ?_)));(case df=>exact tC.out);rintro e w' ⟨rfl,⟨nd,rfl⟩⟩;refine ⟨_,rfl,?_⟩))
   go_ret
   exact ⟨by first|rfl|(simp;done)|(simp [*];done),by repeat (first|exact aV.refl _|apply aV.step)⟩
  ·
   rw [if_neg c6] at H
   have nP:decide (a2 < 0)=false:=decide_eq_false c6
   clear c6
   by_cases c7:0≤a1
   ·
    rw [if_pos c7] at H
    have oG:decide (0≤a1)=true:=decide_eq_true c7
    clear c7
    by_cases c8:a1 < (l0.length:Int)
    ·
     rw [if_pos c8] at H
     have oL:decide (a1 < (l0.length:Int))=true:=decide_eq_true c8
     clear c8
     by_cases c9:a2 ≥ ((dV ByteArray.empty l0 a1).size:Int)
     ·
      rw [if_pos c9] at H
      have DD:decide (((dV ByteArray.empty l0 a1).size:Int)≤a2)=true:=decide_eq_true c9
      clear c9
      obtain rfl:=Option.some.inj H
      go_enter Tryd.func68,Tryd.ntmps68
      go_wp2_with (first|((with_reducible refine bu (f:=62) rfl ?_);refine dQ (some 9) rfl rfl Tryd.func62 (by kernel_rfl) rfl #[.slice A0 l0.length c0,.int .i64 a1] rfl (by (try simp only [List.map_toArray,List.map_cons,List.map_nil]);first|done|rfl|(simp only [List.length_drop,List.length_take];rfl)) ?_;(with_reducible refine (ed.calls k _ _ l0 a1 true _ ?bW ?df A4.out).mono ?_);(case bW=>repeat (first|exact HR0.out|(with_reducible refine Kd.bM ?_ _)|(with_reducible refine Kd.bK ?_ _)|(with_reducible refine Kd.dB ?_)));(case df=>exact tC.out);rintro e w' ⟨rfl,⟨nd,rfl⟩⟩;refine ⟨_,rfl,?_⟩;have FZ:0≤(a1:Int):=of_decide_eq_true (by first|(with_reducible assumption)|assumption);have FT:a1 < (l0.length:Int):=of_decide_eq_true (by first|(with_reducible assumption)|assumption);obtain ⟨WT,e160,QR⟩:=Kd.kC HR0.out a1 FZ FT;cases e160;replace FZ:=eq_true FZ;replace FT:=eq_true FT))
      go_ret
      exact ⟨by first|rfl|(simp;done)|(simp [*];done),by repeat (first|exact aV.refl _|apply aV.step)⟩
     ·
      rw [if_neg c9] at H
      have DD:decide (((dV ByteArray.empty l0 a1).size:Int)≤a2)=false:=decide_eq_false c9
      clear c9
      by_cases c10:0≤a2
      ·
       rw [if_pos c10] at H
       have oN:decide (0≤a2)=true:=decide_eq_true c10
       clear c10
       by_cases c11:a2 < ((dV ByteArray.empty l0 a1).size:Int)
       ·
        rw [if_pos c11] at H
        have uk:decide (a2 < ((dV ByteArray.empty l0 a1).size:Int))=true:=decide_eq_true c11
        clear c11
        replace H:=Option.bind_eq_some_iff.mp H
        obtain ⟨t162,adz,H⟩:=H
        replace H:(some t162)=some r:=H
        have A13:=ae.mk adz
        clear adz
        obtain rfl:=Option.some.inj H
        go_enter Tryd.func68,Tryd.ntmps68
        go_wp2_with (first|((with_reducible refine bu (f:=62) rfl ?_);refine dQ (some 9) rfl rfl Tryd.func62 (by kernel_rfl) rfl #[.slice A0 l0.length c0,.int .i64 a1] rfl (by (try simp only [List.map_toArray,List.map_cons,List.map_nil]);first|done|rfl|(simp only [List.length_drop,List.length_take];rfl)) ?_;(with_reducible refine (ed.calls k _ _ l0 a1 true _ ?bW ?df A4.out).mono ?_);(case bW=>repeat (first|exact HR0.out|(with_reducible refine Kd.bM ?_ _)|(with_reducible refine Kd.bK ?_ _)|(with_reducible refine Kd.dB ?_)));(case df=>exact tC.out);rintro e w' ⟨rfl,⟨nd,rfl⟩⟩;refine ⟨_,rfl,?_⟩;have FZ:0≤(a1:Int):=of_decide_eq_true (by first|(with_reducible assumption)|assumption);have FT:a1 < (l0.length:Int):=of_decide_eq_true (by first|(with_reducible assumption)|assumption);obtain ⟨WT,e160,QR⟩:=Kd.kC HR0.out a1 FZ FT;cases e160;replace FZ:=eq_true FZ;replace FT:=eq_true FT;have XR:0≤(a1:Int):=of_decide_eq_true (by first|(with_reducible assumption)|assumption);have XH:a1 < (l0.length:Int):=of_decide_eq_true (by first|(with_reducible assumption)|assumption);obtain ⟨acw,e161,adH⟩:=Kd.kC HR0.out a1 XR XH;obtain rfl:WT=acw:=(by injection e161);replace XR:=eq_true XR;replace XH:=eq_true XH;have p12:0≤(a2:Int):=of_decide_eq_true (by first|(with_reducible assumption)|assumption);have q12:a2 < ((dV ByteArray.empty l0 a1).size:Int):=of_decide_eq_true (by first|(with_reducible assumption)|assumption);have Ya:=kF (dV ByteArray.empty l0 a1) a2;replace p12:=eq_true p12;replace q12:=eq_true q12)|((with_reducible refine bu (f:=43) rfl ?_);refine dQ (some 32) rfl rfl Tryd.func43 (by kernel_rfl) rfl #[.int .u8 (bt (dV ByteArray.empty l0 a1) a2),.int .i64 (l0.length:Int)] rfl (by (try simp only [List.map_toArray,List.map_cons,List.map_nil]);first|done|rfl|(simp only [List.length_drop,List.length_take];rfl)) ?_;(with_reducible refine (dZ.calls (bt (dV ByteArray.empty l0 a1) a2) (l0.length:Int) t162 _ A13.out).mono ?_);rintro e w' ⟨rfl,⟨nd,rfl⟩⟩;refine ⟨_,rfl,?_⟩))
        go_ret
        exact ⟨by first|rfl|(simp;done)|(simp [*];done),by repeat (first|exact aV.refl _|apply aV.step)⟩
       ·
        rw [if_neg c11] at H
        exact absurd H (by simp)
      ·
       rw [if_neg c10] at H
       exact absurd H (by simp)
    ·
     rw [if_neg c8] at H
     exact absurd H (by simp)
   ·
    rw [if_neg c7] at H
    exact absurd H (by simp)
 ·
  replace c5:=Bool.eq_false_iff.mpr c5
  subst c5
  have H1:(some (-1))=some r:=by rw [if_neg (show ¬ (false=true) by decide)] at H;exact H
  clear H
  have H:=H1
  clear H1
  obtain rfl:=Option.some.inj H
  go_enter Tryd.func68,Tryd.ntmps68
  go_wp2_with (first|((with_reducible refine bu (f:=62) rfl ?_);refine dQ (some 9) rfl rfl Tryd.func62 (by kernel_rfl) rfl #[.slice A0 l0.length c0,.int .i64 a1] rfl (by (try simp only [List.map_toArray,List.map_cons,List.map_nil]);first|done|rfl|(simp only [List.length_drop,List.length_take];rfl)) ?_;(with_reducible refine (ed.calls k _ _ l0 a1 false _ ?bW ?df A4.out).mono ?_);(case bW=>repeat (first|exact HR0.out|(with_reducible refine Kd.bM ?_ _)|(with_reducible refine Kd.bK ?_ _)|(with_reducible refine Kd.dB ?_)));(case df=>exact tC.out);rintro e w' ⟨rfl,⟨nd,rfl⟩⟩;refine ⟨_,rfl,?_⟩))
  go_ret
  exact ⟨by first|rfl|(simp;done)|(simp [*];done),by repeat (first|exact aV.refl _|apply aV.step)⟩
def eU.f (k:Nat) (aY:List ByteArray) (aT:ByteArray) (aU:ByteArray) (aI:List (gY)) (a1:Int) (a2:Int):Option (Bool):=if a2 < 0 then (some false) else ((gy.f k aY a1).bind fun t164=>(if a2 ≥ t164 then (some false) else ((fP.f k aY a1 a2).bind fun t165=>(some (decide (t165 < 0))))))
theorem eU.mono:∀ a0 a1 a2 a3 a4 a5 k,dK (eU.f k a0 a1 a2 a3 a4 a5) (eU.f (k+1) a0 a1 a2 a3 a4 a5):=by
 intro a0 a1 a2 a3 a4 a5 k
 unfold eU.f
 repeat' with_reducible first|apply gy.mono|apply fP.mono|exact dK.refl _|exact dK.none _|refine dK.ite ?_ ?_|refine dK.bind ?_ (fun _=>?_)
set_option maxHeartbeats 8000000 in
set_option maxRecDepth 100000 in
theorem eU.calls (k:Nat) (dX:Option Addr) (dW:Nat) (aY:List ByteArray) (aT:ByteArray) (aU:ByteArray) (fQ:Option Addr) (eH:Nat) (aI:List (gY)) (a1:Int) (a2:Int) (r:Bool) (w:World) (jF:Kd.C Kd.string w dX aY.length aY) (jH:aY.length≤dW) (jE:Kd.C tu w fQ aI.length aI) (jG:aI.length≤eH) (h:eU.f k aY aT aU aI a1 a2=some r) :
  Calls Tryd.prog 49 #[.agg #[.slice dX aY.length dW,.string aT,.string aU,.slice fQ aI.length eH],.int .i64 a1,.int .i64 a2] w fun e w'=>e=.returned (.bool r)∧Below w.heap.size w w':=by
 have xA:=Tryd.underlying25
 have iq:=ae.mk jF
 have iC:=ae.mk jH
 clear jF jH
 have jB:=ae.mk jE
 have jS:=ae.mk jG
 clear jE jG
 have HB:=ae.mk (Below.refl w.heap.size w)
 have H:(if a2 < 0 then (some false) else ((gy.f k aY a1).bind fun t164=>(if a2 ≥ t164 then (some false) else ((fP.f k aY a1 a2).bind fun t165=>(some (decide (t165 < 0)))))))=some r:=h
 clear h
 by_cases c4:a2 < 0
 ·
  rw [if_pos c4] at H
  have nR:decide (a2 < 0)=true:=decide_eq_true c4
  clear c4
  obtain rfl:=Option.some.inj H
  go_enter Tryd.func49,Tryd.ntmps49
  go_wp2_with (first|((with_reducible refine dN (N:=3) rfl ?_);refine fB ?hg (N:=3) ?hd (cs:=#[.slice dX aY.length dW,.string aT,.string aU,.slice fQ aI.length eH]) (t:=25) ?hr ?_;(case hd=>rfl);(case hg=>rfl);(case hr=>first|(go_simp;done)|(go_simp;rfl));intro EG hg w5 hbox hb;have dS:=ae.mk (bg (by repeat (first|(with_reducible first|exact HB.out|apply ah|apply af|apply ai)|exact HB.out)) hb);have dR:=ae.mk (hbox);have dO:=ae.mk ((by rw [hg];exact (bQ (by repeat (first|(with_reducible first|exact HB.out|apply ah|apply af|apply ai)|exact HB.out))):w.heap.size≤EG));have gQ:=dO;clear HB;have HB:=dS;have KE:=dR;have Xg:=dO;have BQ:=gQ;clear dS dR dO gQ;clear hb hbox hg))
  go_ret
  exact ⟨by first|rfl|(simp [aQ,aN] <;> rfl)|(simp [*,aQ,aN] <;> rfl),by repeat (first|(with_reducible first|exact HB.out|apply ah|apply af|apply ai|refine aj ?_ BQ.out)|exact HB.out)⟩
 ·
  rw [if_neg c4] at H
  have nR:decide (a2 < 0)=false:=decide_eq_false c4
  clear c4
  replace H:=Option.bind_eq_some_iff.mp H
  obtain ⟨t164,KF,H⟩:=H
  replace H:(if a2 ≥ t164 then (some false) else ((fP.f k aY a1 a2).bind fun t165=>(some (decide (t165 < 0)))))=some r:=H
  have A6:=ae.mk KF
  clear KF
  by_cases c7:a2 ≥ t164
  ·
   rw [if_pos c7] at H
   have oG:decide (t164≤a2)=true:=decide_eq_true c7
   clear c7
   obtain rfl:=Option.some.inj H
   go_enter Tryd.func49,Tryd.ntmps49
   go_wp2_with (first|((with_reducible refine dN (N:=3) rfl ?_);refine fB ?hg (N:=3) ?hd (cs:=#[.slice dX aY.length dW,.string aT,.string aU,.slice fQ aI.length eH]) (t:=25) ?hr ?_;(case hd=>rfl);(case hg=>rfl);(case hr=>first|(go_simp;done)|(go_simp;rfl));intro EG hg w8 hbox hb;have dS:=ae.mk (bg (by repeat (first|(with_reducible first|exact HB.out|apply ah|apply af|apply ai)|exact HB.out)) hb);have dR:=ae.mk (hbox);have dO:=ae.mk ((by rw [hg];exact (bQ (by repeat (first|(with_reducible first|exact HB.out|apply ah|apply af|apply ai)|exact HB.out))):w.heap.size≤EG));have gQ:=dO;clear HB;have HB:=dS;have KE:=dR;have Xg:=dO;have BQ:=gQ;clear dS dR dO gQ;clear hb hbox hg;obtain ⟨Gp,Gn,Gm,Gl,Gi,Gh,Gg,Gf⟩:=qM KE.out)|(go_at_call 41;(with_reducible refine (gy.calls k _ _ aY a1 t164 _ ?bW ?df A6.out).mono ?_);(case bW=>repeat (first|exact (Kd.bJ iq.out HB.out)|(with_reducible refine Kd.bM ?_ _)|(with_reducible refine Kd.bK ?_ _)|(with_reducible refine Kd.dB ?_)));(case df=>exact iC.out);rintro e w' ⟨rfl,⟨nd,rfl⟩⟩))
   go_ret
   exact ⟨by first|rfl|(simp [aQ,aN] <;> rfl)|(simp [*,aQ,aN] <;> rfl),by repeat (first|(with_reducible first|exact HB.out|apply ah|apply af|apply ai|refine aj ?_ BQ.out)|exact HB.out)⟩
  ·
   rw [if_neg c7] at H
   have oG:decide (t164≤a2)=false:=decide_eq_false c7
   clear c7
   replace H:=Option.bind_eq_some_iff.mp H
   obtain ⟨t165,Ba,H⟩:=H
   replace H:(some (decide (t165 < 0)))=some r:=H
   have Xl:=ae.mk Ba
   clear Ba
   obtain rfl:=Option.some.inj H
   go_enter Tryd.func49,Tryd.ntmps49
   go_wp2_with (first|((with_reducible refine dN (N:=3) rfl ?_);refine fB ?hg (N:=3) ?hd (cs:=#[.slice dX aY.length dW,.string aT,.string aU,.slice fQ aI.length eH]) (t:=25) ?hr ?_;(case hd=>rfl);(case hg=>rfl);(case hr=>first|(go_simp;done)|(go_simp;rfl));intro EG hg w11 hbox hb;have dS:=ae.mk (bg (by repeat (first|(with_reducible first|exact HB.out|apply ah|apply af|apply ai)|exact HB.out)) hb);have dR:=ae.mk (hbox);have dO:=ae.mk ((by rw [hg];exact (bQ (by repeat (first|(with_reducible first|exact HB.out|apply ah|apply af|apply ai)|exact HB.out))):w.heap.size≤EG));have gQ:=dO;clear HB;have HB:=dS;have KE:=dR;have Xg:=dO;have BQ:=gQ;clear dS dR dO gQ;clear hb hbox hg;obtain ⟨Dv,Du,Dt,Dq,Di,Dh,Df,Dc⟩:=qM KE.out)|(go_at_call 41;(with_reducible refine (gy.calls k _ _ aY a1 t164 _ ?bW ?df A6.out).mono ?_);(case bW=>repeat (first|exact (Kd.bJ iq.out HB.out)|(with_reducible refine Kd.bM ?_ _)|(with_reducible refine Kd.bK ?_ _)|(with_reducible refine Kd.dB ?_)));(case df=>exact iC.out);rintro e w' ⟨rfl,⟨nd,rfl⟩⟩)|((with_reducible refine bu (f:=68) rfl ?_);refine dQ (some 21) rfl rfl Tryd.func68 (by kernel_rfl) rfl #[.slice dX aY.length dW,.int .i64 a1,.int .i64 a2] rfl (by (try simp only [List.map_toArray,List.map_cons,List.map_nil]);first|done|rfl|(simp only [List.length_drop,List.length_take];rfl)) ?_;(with_reducible refine (fP.calls k _ _ aY a1 a2 t165 _ ?bW ?df Xl.out).mono ?_);(case bW=>repeat (first|exact (Kd.bJ iq.out (by repeat (first|(with_reducible first|exact HB.out|apply ah|apply af|apply ai|refine aj ?_ BQ.out)|exact HB.out)))|(with_reducible refine Kd.bM ?_ _)|(with_reducible refine Kd.bK ?_ _)|(with_reducible refine Kd.dB ?_)));(case df=>exact iC.out);rintro e w' ⟨rfl,⟨nd,rfl⟩⟩;refine ⟨_,rfl,?_⟩))
   go_ret
   exact ⟨by first|rfl|(simp [aQ,aN] <;> rfl)|(simp [*,aQ,aN] <;> rfl),by repeat (first|(with_reducible first|exact HB.out|apply ah|apply af|apply ai|refine aj ?_ BQ.out)|exact HB.out)⟩
def gm.f (k:Nat) (aY:List ByteArray) (aT:ByteArray) (aU:ByteArray) (aI:List (gY)) (a1:Int) (a2:Int):Option (Int):=if a2 < 0 then (some (-1)) else (if a2 > 6 then (some (-1)) else ((fP.f k aY a1 a2).bind fun t167=>(some t167)))
theorem gm.mono:∀ a0 a1 a2 a3 a4 a5 k,dK (gm.f k a0 a1 a2 a3 a4 a5) (gm.f (k+1) a0 a1 a2 a3 a4 a5):=by
 intro a0 a1 a2 a3 a4 a5 k
 unfold gm.f
 repeat' with_reducible first|apply fP.mono|exact dK.refl _|exact dK.none _|refine dK.ite ?_ ?_|refine dK.bind ?_ (fun _=>?_)
set_option maxHeartbeats 8000000 in
set_option maxRecDepth 100000 in
theorem gm.calls (k:Nat) (dX:Option Addr) (dW:Nat) (aY:List ByteArray) (aT:ByteArray) (aU:ByteArray) (fQ:Option Addr) (eH:Nat) (aI:List (gY)) (a1:Int) (a2:Int) (r:Int) (w:World) (jF:Kd.C Kd.string w dX aY.length aY) (jH:aY.length≤dW) (jE:Kd.C tu w fQ aI.length aI) (jG:aI.length≤eH) (h:gm.f k aY aT aU aI a1 a2=some r) :
  Calls Tryd.prog 50 #[.agg #[.slice dX aY.length dW,.string aT,.string aU,.slice fQ aI.length eH],.int .i64 a1,.int .i64 a2] w fun e w'=>e=.returned (.int .i64 r)∧Below w.heap.size w w':=by
 have xA:=Tryd.underlying25
 have iq:=ae.mk jF
 have iC:=ae.mk jH
 clear jF jH
 have jB:=ae.mk jE
 have jS:=ae.mk jG
 clear jE jG
 have HB:=ae.mk (Below.refl w.heap.size w)
 have H:(if a2 < 0 then (some (-1)) else (if a2 > 6 then (some (-1)) else ((fP.f k aY a1 a2).bind fun t167=>(some t167))))=some r:=h
 clear h
 by_cases c4:a2 < 0
 ·
  rw [if_pos c4] at H
  have nR:decide (a2 < 0)=true:=decide_eq_true c4
  clear c4
  obtain rfl:=Option.some.inj H
  go_enter Tryd.func50,Tryd.ntmps50
  go_wp2_with (first|((with_reducible refine dN (N:=3) rfl ?_);refine fB ?hg (N:=3) ?hd (cs:=#[.slice dX aY.length dW,.string aT,.string aU,.slice fQ aI.length eH]) (t:=25) ?hr ?_;(case hd=>rfl);(case hg=>rfl);(case hr=>first|(go_simp;done)|(go_simp;rfl));intro EF hg w5 hbox hb;have dS:=ae.mk (bg (by repeat (first|(with_reducible first|exact HB.out|apply ah|apply af|apply ai)|exact HB.out)) hb);have dR:=ae.mk (hbox);have dO:=ae.mk ((by rw [hg];exact (bQ (by repeat (first|(with_reducible first|exact HB.out|apply ah|apply af|apply ai)|exact HB.out))):w.heap.size≤EF));have gQ:=dO;clear HB;have HB:=dS;have PS:=dR;have Xf:=dO;have Fq:=gQ;clear dS dR dO gQ;clear hb hbox hg))
  go_ret
  exact ⟨by first|rfl|(simp [aQ,aN] <;> rfl)|(simp [*,aQ,aN] <;> rfl),by repeat (first|(with_reducible first|exact HB.out|apply ah|apply af|apply ai|refine aj ?_ Fq.out)|exact HB.out)⟩
 ·
  rw [if_neg c4] at H
  have nR:decide (a2 < 0)=false:=decide_eq_false c4
  clear c4
  by_cases c6:a2 > 6
  ·
   rw [if_pos c6] at H
   have nP:decide (6 < a2)=true:=decide_eq_true c6
   clear c6
   obtain rfl:=Option.some.inj H
   go_enter Tryd.func50,Tryd.ntmps50
   go_wp2_with (first|((with_reducible refine dN (N:=3) rfl ?_);refine fB ?hg (N:=3) ?hd (cs:=#[.slice dX aY.length dW,.string aT,.string aU,.slice fQ aI.length eH]) (t:=25) ?hr ?_;(case hd=>rfl);(case hg=>rfl);(case hr=>first|(go_simp;done)|(go_simp;rfl));intro EF hg w7 hbox hb;have dS:=ae.mk (bg (by repeat (first|(with_reducible first|exact HB.out|apply ah|apply af|apply ai)|exact HB.out)) hb);have dR:=ae.mk (hbox);have dO:=ae.mk ((by rw [hg];exact (bQ (by repeat (first|(with_reducible first|exact HB.out|apply ah|apply af|apply ai)|exact HB.out))):w.heap.size≤EF));have gQ:=dO;clear HB;have HB:=dS;have PS:=dR;have Xf:=dO;have Fq:=gQ;clear dS dR dO gQ;clear hb hbox hg))
   go_ret
   exact ⟨by first|rfl|(simp [aQ,aN] <;> rfl)|(simp [*,aQ,aN] <;> rfl),by repeat (first|(with_reducible first|exact HB.out|apply ah|apply af|apply ai|refine aj ?_ Fq.out)|exact HB.out)⟩
  ·
   rw [if_neg c6] at H
   have nP:decide (6 < a2)=false:=decide_eq_false c6
   clear c6
   replace H:=Option.bind_eq_some_iff.mp H
   obtain ⟨t167,Xj,H⟩:=H
   replace H:(some t167)=some r:=H
   have A8:=ae.mk Xj
   clear Xj
   obtain rfl:=Option.some.inj H
   go_enter Tryd.func50,Tryd.ntmps50
   go_wp2_with (first|((with_reducible refine dN (N:=3) rfl ?_);refine fB ?hg (N:=3) ?hd (cs:=#[.slice dX aY.length dW,.string aT,.string aU,.slice fQ aI.length eH]) (t:=25) ?hr ?_;(case hd=>rfl);(case hg=>rfl);(case hr=>first|(go_simp;done)|(go_simp;rfl));intro EF hg w9 hbox hb;have dS:=ae.mk (bg (by repeat (first|(with_reducible first|exact HB.out|apply ah|apply af|apply ai)|exact HB.out)) hb);have dR:=ae.mk (hbox);have dO:=ae.mk ((by rw [hg];exact (bQ (by repeat (first|(with_reducible first|exact HB.out|apply ah|apply af|apply ai)|exact HB.out))):w.heap.size≤EF));have gQ:=dO;clear HB;have HB:=dS;have PS:=dR;have Xf:=dO;have Fq:=gQ;clear dS dR dO gQ;clear hb hbox hg;obtain ⟨wR,wQ,wP,wO,wM,wL,wK,wJ⟩:=qM PS.out)|((with_reducible refine bu (f:=68) rfl ?_);refine dQ (some 17) rfl rfl Tryd.func68 (by kernel_rfl) rfl #[.slice dX aY.length dW,.int .i64 a1,.int .i64 a2] rfl (by (try simp only [List.map_toArray,List.map_cons,List.map_nil]);first|done|rfl|(simp only [List.length_drop,List.length_take];rfl)) ?_;(with_reducible refine (fP.calls k _ _ aY a1 a2 t167 _ ?bW ?df A8.out).mono ?_);(case bW=>repeat (first|exact (Kd.bJ iq.out HB.out)|(with_reducible refine Kd.bM ?_ _)|(with_reducible refine Kd.bK ?_ _)|(with_reducible refine Kd.dB ?_)));(case df=>exact iC.out);rintro e w' ⟨rfl,⟨nd,rfl⟩⟩;refine ⟨_,rfl,?_⟩))
   go_ret
   exact ⟨by first|rfl|(simp [aQ,aN] <;> rfl)|(simp [*,aQ,aN] <;> rfl),by repeat (first|(with_reducible first|exact HB.out|apply ah|apply af|apply ai|refine aj ?_ Fq.out)|exact HB.out)⟩
end Go.Proofs.YtlemecdddhdagaaDoor.P
end
