/- Parts of the proof of ModelRight: what the functions that it reaches compute, and plain facts about that. -/
import Derived.Test.YtlemecdddhdagaaDoorVab
import Derived.Test.YtlemecdddhdagaaDoorVam
set_option linter.unusedVariables false
set_option linter.unusedSimpArgs false
section
namespace Go.Proofs.YtlemecdddhdagaaDoor.P
open Go.RowKit Go.Proofs.ag.bI Go.Proofs.ag.dM Go.Proofs.ag.dZ
attribute [local go_sem] kU kS lW lV jS jR kT kR
def eH.f (k:Nat) (l0:List ByteArray) (a1:Int):Option (Bool):=(aK.f k l0).bind fun t156=>(if t156=true then (if a1 ≥ 0 then (some (decide (a1 < (l0.length:Int)))) else (some false)) else (some false))
theorem eH.mono:∀ a0 a1 k,dN (eH.f k a0 a1) (eH.f (k+1) a0 a1):=by
 intro a0 a1 k
 unfold eH.f
 repeat' with_reducible first|apply aK.mono|exact dN.refl _|exact dN.none _|refine dN.ite ?_ ?_|refine dN.bind ?_ (fun _=>?_)
set_option maxHeartbeats 8000000 in
set_option maxRecDepth 100000 in
theorem eH.calls (k:Nat) (A0:Option Addr) (c0:Nat) (l0:List ByteArray) (a1:Int) (r:Bool) (w:World) (hr0:Kd.C Kd.string w A0 l0.length l0) (hc0:l0.length≤c0) (h:eH.f k l0 a1=some r) :
  Calls Tryd.prog 62 #[.slice A0 l0.length c0,.int .i64 a1] w fun e w'=>e=.returned (.bool r)∧aT w w':=by
 have HR0:=ae.mk hr0
 have tY:=ae.mk hc0
 clear hr0 hc0
 have H:((aK.f k l0).bind fun t156=>(if t156=true then (if a1 ≥ 0 then (some (decide (a1 < (l0.length:Int)))) else (some false)) else (some false)))=some r:=h
 clear h
 replace H:=Option.bind_eq_some_iff.mp H
 obtain ⟨t156,xB,H⟩:=H
 replace H:(if t156=true then (if a1 ≥ 0 then (some (decide (a1 < (l0.length:Int)))) else (some false)) else (some false))=some r:=H
 have A3:=ae.mk xB
 clear xB
 by_cases c4:t156=true
 ·
  subst c4
  have H1:(if a1 ≥ 0 then (some (decide (a1 < (l0.length:Int)))) else (some false))=some r:=by rw [if_pos rfl] at H;exact H
  clear H
  have H:=H1
  clear H1
  by_cases c5:a1 ≥ 0
  ·
   rw [if_pos c5] at H
   have qO:decide (0≤a1)=true:=decide_eq_true c5
   clear c5
   obtain rfl:=Option.some.inj H
   go_enter Tryd.func62,Tryd.ntmps62
   go_wp2_with (first|((with_reducible refine bu (f:=44) rfl ?_);refine dS (some 6) rfl rfl Tryd.func44 (by kernel_rfl) rfl #[.slice A0 l0.length c0] rfl (by (try simp only [List.map_toArray,List.map_cons,List.map_nil]);first|done|rfl|(simp only [List.length_drop,List.length_take];rfl)) ?_;(with_reducible refine (aK.calls k _ _ l0 true _ ?cu ?dw A3.out).mono ?_);(case cu=>repeat (first|exact HR0.out|(with_reducible refine Kd.bT ?_ _)|(with_reducible refine Kd.bQ ?_ _)|(with_reducible refine Kd.dD ?_)));(case dw=>exact tY.out);rintro e w' ⟨rfl,⟨nd,rfl⟩⟩;refine ⟨_,rfl,?_⟩))
   go_ret
   exact ⟨by first|rfl|(simp;done)|(simp [*];done),by repeat (first|exact aT.refl _|apply aT.step)⟩
  ·
   rw [if_neg c5] at H
   have qO:decide (0≤a1)=false:=decide_eq_false c5
   clear c5
   obtain rfl:=Option.some.inj H
   go_enter Tryd.func62,Tryd.ntmps62
   go_wp2_with (first|((with_reducible refine bu (f:=44) rfl ?_);refine dS (some 6) rfl rfl Tryd.func44 (by kernel_rfl) rfl #[.slice A0 l0.length c0] rfl (by (try simp only [List.map_toArray,List.map_cons,List.map_nil]);first|done|rfl|(simp only [List.length_drop,List.length_take];rfl)) ?_;(with_reducible refine (aK.calls k _ _ l0 true _ ?cu ?dw A3.out).mono ?_);(case cu=>repeat (first|exact HR0.out|(with_reducible refine Kd.bT ?_ _)|(with_reducible refine Kd.bQ ?_ _)|(with_reducible refine Kd.dD ?_)));(case dw=>exact tY.out);rintro e w' ⟨rfl,⟨nd,rfl⟩⟩;refine ⟨_,rfl,?_⟩))
   go_ret
   exact ⟨by first|rfl|(simp;done)|(simp [*];done),by repeat (first|exact aT.refl _|apply aT.step)⟩
 ·
  replace c4:=Bool.eq_false_iff.mpr c4
  subst c4
  have H1:(some false)=some r:=by rw [if_neg (show ¬ (false=true) by decide)] at H;exact H
  clear H
  have H:=H1
  clear H1
  obtain rfl:=Option.some.inj H
  go_enter Tryd.func62,Tryd.ntmps62
  go_wp2_with (first|((with_reducible refine bu (f:=44) rfl ?_);refine dS (some 6) rfl rfl Tryd.func44 (by kernel_rfl) rfl #[.slice A0 l0.length c0] rfl (by (try simp only [List.map_toArray,List.map_cons,List.map_nil]);first|done|rfl|(simp only [List.length_drop,List.length_take];rfl)) ?_;(with_reducible refine (aK.calls k _ _ l0 false _ ?cu ?dw A3.out).mono ?_);(case cu=>repeat (first|exact HR0.out|(with_reducible refine Kd.bT ?_ _)|(with_reducible refine Kd.bQ ?_ _)|(with_reducible refine Kd.dD ?_)));(case dw=>exact tY.out);rintro e w' ⟨rfl,⟨nd,rfl⟩⟩;refine ⟨_,rfl,?_⟩))
  go_ret
  exact ⟨by first|rfl|(simp;done)|(simp [*];done),by repeat (first|exact aT.refl _|apply aT.step)⟩
def gz.f (k:Nat) (l0:List ByteArray) (a1:Int):Option (Int):=(eH.f k l0 a1).bind fun t157=>(if t157=true then (if 0≤a1 then (if a1 < (l0.length:Int) then (some ((dW ByteArray.empty l0 a1).size:Int)) else (none)) else (none)) else (some 0))
theorem gz.mono:∀ a0 a1 k,dN (gz.f k a0 a1) (gz.f (k+1) a0 a1):=by
 intro a0 a1 k
 unfold gz.f
 repeat' with_reducible first|apply eH.mono|exact dN.refl _|exact dN.none _|refine dN.ite ?_ ?_|refine dN.bind ?_ (fun _=>?_)
set_option maxHeartbeats 8000000 in
set_option maxRecDepth 100000 in
theorem gz.calls (k:Nat) (A0:Option Addr) (c0:Nat) (l0:List ByteArray) (a1:Int) (r:Int) (w:World) (hr0:Kd.C Kd.string w A0 l0.length l0) (hc0:l0.length≤c0) (h:gz.f k l0 a1=some r) :
  Calls Tryd.prog 41 #[.slice A0 l0.length c0,.int .i64 a1] w fun e w'=>e=.returned (.int .i64 r)∧aT w w':=by
 have HR0:=ae.mk hr0
 have tY:=ae.mk hc0
 clear hr0 hc0
 have H:((eH.f k l0 a1).bind fun t157=>(if t157=true then (if 0≤a1 then (if a1 < (l0.length:Int) then (some ((dW ByteArray.empty l0 a1).size:Int)) else (none)) else (none)) else (some 0)))=some r:=h
 clear h
 replace H:=Option.bind_eq_some_iff.mp H
 obtain ⟨t157,xB,H⟩:=H
 replace H:(if t157=true then (if 0≤a1 then (if a1 < (l0.length:Int) then (some ((dW ByteArray.empty l0 a1).size:Int)) else (none)) else (none)) else (some 0))=some r:=H
 have A3:=ae.mk xB
 clear xB
 by_cases c4:t157=true
 ·
  subst c4
  have H1:(if 0≤a1 then (if a1 < (l0.length:Int) then (some ((dW ByteArray.empty l0 a1).size:Int)) else (none)) else (none))=some r:=by rw [if_pos rfl] at H;exact H
  clear H
  have H:=H1
  clear H1
  by_cases c5:0≤a1
  ·
   rw [if_pos c5] at H
   have qO:decide (0≤a1)=true:=decide_eq_true c5
   clear c5
   by_cases c6:a1 < (l0.length:Int)
   ·
    rw [if_pos c6] at H
    have nR:decide (a1 < (l0.length:Int))=true:=decide_eq_true c6
    clear c6
    obtain rfl:=Option.some.inj H
    go_enter Tryd.func41,Tryd.ntmps41
    go_wp2_with (first|((with_reducible refine bu (f:=62) rfl ?_);refine dS (some 7) rfl rfl Tryd.func62 (by kernel_rfl) rfl #[.slice A0 l0.length c0,.int .i64 a1] rfl (by (try simp only [List.map_toArray,List.map_cons,List.map_nil]);first|done|rfl|(simp only [List.length_drop,List.length_take];rfl)) ?_;(with_reducible refine (eH.calls k _ _ l0 a1 true _ ?cu ?dw A3.out).mono ?_);(case cu=>repeat (first|exact HR0.out|(with_reducible refine Kd.bT ?_ _)|(with_reducible refine Kd.bQ ?_ _)|(with_reducible refine Kd.dD ?_)));(case dw=>exact tY.out);rintro e w' ⟨rfl,⟨nd,rfl⟩⟩;refine ⟨_,rfl,?_⟩;have YD:0≤(a1:Int):=of_decide_eq_true (by first|(with_reducible assumption)|assumption);have Yt:a1 < (l0.length:Int):=of_decide_eq_true (by first|(with_reducible assumption)|assumption);obtain ⟨ann,ala,aey⟩:=Kd.jD HR0.out a1 YD Yt;cases ala;replace YD:=eq_true YD;replace Yt:=eq_true Yt))
    go_ret
    exact ⟨by first|rfl|(simp;done)|(simp [*];done),by repeat (first|exact aT.refl _|apply aT.step)⟩
   ·
    rw [if_neg c6] at H
    exact absurd H (by simp)
  ·
   rw [if_neg c5] at H
   exact absurd H (by simp)
 ·
  replace c4:=Bool.eq_false_iff.mpr c4
  subst c4
  have H1:(some 0)=some r:=by rw [if_neg (show ¬ (false=true) by decide)] at H;exact H
  clear H
  have H:=H1
  clear H1
  obtain rfl:=Option.some.inj H
  go_enter Tryd.func41,Tryd.ntmps41
  go_wp2_with (first|((with_reducible refine bu (f:=62) rfl ?_);refine dS (some 7) rfl rfl Tryd.func62 (by kernel_rfl) rfl #[.slice A0 l0.length c0,.int .i64 a1] rfl (by (try simp only [List.map_toArray,List.map_cons,List.map_nil]);first|done|rfl|(simp only [List.length_drop,List.length_take];rfl)) ?_;(with_reducible refine (eH.calls k _ _ l0 a1 false _ ?cu ?dw A3.out).mono ?_);(case cu=>repeat (first|exact HR0.out|(with_reducible refine Kd.bT ?_ _)|(with_reducible refine Kd.bQ ?_ _)|(with_reducible refine Kd.dD ?_)));(case dw=>exact tY.out);rintro e w' ⟨rfl,⟨nd,rfl⟩⟩;refine ⟨_,rfl,?_⟩))
  go_ret
  exact ⟨by first|rfl|(simp;done)|(simp [*];done),by repeat (first|exact aT.refl _|apply aT.step)⟩
def fU.f (k:Nat) (l0:List ByteArray) (a1:Int) (a2:Int):Option (Int):=(eH.f k l0 a1).bind fun t159=>(if t159=true then (if a2 < 0 then (some (-1)) else (if 0≤a1 then (if a1 < (l0.length:Int) then (if a2 ≥ ((dW ByteArray.empty l0 a1).size:Int) then (some (-1)) else (if 0≤a2 then (if a2 < ((dW ByteArray.empty l0 a1).size:Int) then ((eF.f (bt (dW ByteArray.empty l0 a1) a2) (l0.length:Int)).bind fun t162=>(some t162)) else (none)) else (none))) else (none)) else (none))) else (some (-1)))
theorem fU.mono:∀ a0 a1 a2 k,dN (fU.f k a0 a1 a2) (fU.f (k+1) a0 a1 a2):=by
 intro a0 a1 a2 k
 unfold fU.f
 repeat' with_reducible first|apply eH.mono|exact dN.refl _|exact dN.none _|refine dN.ite ?_ ?_|refine dN.bind ?_ (fun _=>?_)
set_option maxHeartbeats 8000000 in
set_option maxRecDepth 100000 in
theorem fU.calls (k:Nat) (A0:Option Addr) (c0:Nat) (l0:List ByteArray) (a1:Int) (a2:Int) (r:Int) (w:World) (hr0:Kd.C Kd.string w A0 l0.length l0) (hc0:l0.length≤c0) (h:fU.f k l0 a1 a2=some r) :
  Calls Tryd.prog 68 #[.slice A0 l0.length c0,.int .i64 a1,.int .i64 a2] w fun e w'=>e=.returned (.int .i64 r)∧aT w w':=by
 have HR0:=ae.mk hr0
 have tY:=ae.mk hc0
 clear hr0 hc0
 have H:((eH.f k l0 a1).bind fun t159=>(if t159=true then (if a2 < 0 then (some (-1)) else (if 0≤a1 then (if a1 < (l0.length:Int) then (if a2 ≥ ((dW ByteArray.empty l0 a1).size:Int) then (some (-1)) else (if 0≤a2 then (if a2 < ((dW ByteArray.empty l0 a1).size:Int) then ((eF.f (bt (dW ByteArray.empty l0 a1) a2) (l0.length:Int)).bind fun t162=>(some t162)) else (none)) else (none))) else (none)) else (none))) else (some (-1))))=some r:=h
 clear h
 replace H:=Option.bind_eq_some_iff.mp H
 obtain ⟨t159,Be,H⟩:=H
 replace H:(if t159=true then (if a2 < 0 then (some (-1)) else (if 0≤a1 then (if a1 < (l0.length:Int) then (if a2 ≥ ((dW ByteArray.empty l0 a1).size:Int) then (some (-1)) else (if 0≤a2 then (if a2 < ((dW ByteArray.empty l0 a1).size:Int) then ((eF.f (bt (dW ByteArray.empty l0 a1) a2) (l0.length:Int)).bind fun t162=>(some t162)) else (none)) else (none))) else (none)) else (none))) else (some (-1)))=some r:=H
 have A4:=ae.mk Be
 clear Be
 by_cases c5:t159=true
 ·
  subst c5
  have H1:(if a2 < 0 then (some (-1)) else (if 0≤a1 then (if a1 < (l0.length:Int) then (if a2 ≥ ((dW ByteArray.empty l0 a1).size:Int) then (some (-1)) else (if 0≤a2 then (if a2 < ((dW ByteArray.empty l0 a1).size:Int) then ((eF.f (bt (dW ByteArray.empty l0 a1) a2) (l0.length:Int)).bind fun t162=>(some t162)) else (none)) else (none))) else (none)) else (none)))=some r:=by rw [if_pos rfl] at H;exact H
  clear H
  have H:=H1
  clear H1
  by_cases c6:a2 < 0
  ·
   rw [if_pos c6] at H
   have nR:decide (a2 < 0)=true:=decide_eq_true c6
   clear c6
   obtain rfl:=Option.some.inj H
   go_enter Tryd.func68,Tryd.ntmps68
   go_wp2_with (first|((with_reducible refine bu (f:=62) rfl ?_);refine dS (some 9) rfl rfl Tryd.func62 (by kernel_rfl) rfl #[.slice A0 l0.length c0,.int .i64 a1] rfl (by (try simp only [List.map_toArray,List.map_cons,List.map_nil]);first|done|rfl|(simp only [List.length_drop,List.length_take];rfl)) ?_;(with_reducible refine (eH.calls k _ _ l0 a1 true _ ?cu ?dw A4.out).mono ?_);(case cu=>repeat (first|exact HR0.out|(with_reducible refine Kd.bT ?_ _)|(with_reducible refine Kd.bQ ?_ _)|(with_reducible refine Kd.dD ?_)));(case dw=>exact tY.out);rintro e w' ⟨rfl,⟨nd,rfl⟩⟩;refine ⟨_,rfl,?_⟩))
   go_ret
   exact ⟨by first|rfl|(simp;done)|(simp [*];done),by repeat (first|exact aT.refl _|apply aT.step)⟩
  ·
   rw [if_neg c6] at H
   have nR:decide (a2 < 0)=false:=decide_eq_false c6
   clear c6
   by_cases c7:0≤a1
   ·
    rw [if_pos c7] at H
    have nV:decide (0≤a1)=true:=decide_eq_true c7
    clear c7
    by_cases c8:a1 < (l0.length:Int)
    ·
     rw [if_pos c8] at H
     have oU:decide (a1 < (l0.length:Int))=true:=decide_eq_true c8
     clear c8
     by_cases c9:a2 ≥ ((dW ByteArray.empty l0 a1).size:Int)
     ·
      rw [if_pos c9] at H
      have Eb:decide (((dW ByteArray.empty l0 a1).size:Int)≤a2)=true:=decide_eq_true c9
      clear c9
      obtain rfl:=Option.some.inj H
      go_enter Tryd.func68,Tryd.ntmps68
      go_wp2_with (first|((with_reducible refine bu (f:=62) rfl ?_);refine dS (some 9) rfl rfl Tryd.func62 (by kernel_rfl) rfl #[.slice A0 l0.length c0,.int .i64 a1] rfl (by (try simp only [List.map_toArray,List.map_cons,List.map_nil]);first|done|rfl|(simp only [List.length_drop,List.length_take];rfl)) ?_;(with_reducible refine (eH.calls k _ _ l0 a1 true _ ?cu ?dw A4.out).mono ?_);(case cu=>repeat (first|exact HR0.out|(with_reducible refine Kd.bT ?_ _)|(with_reducible refine Kd.bQ ?_ _)|(with_reducible refine Kd.dD ?_)));(case dw=>exact tY.out);rintro e w' ⟨rfl,⟨nd,rfl⟩⟩;refine ⟨_,rfl,?_⟩;have GK:0≤(a1:Int):=of_decide_eq_true (by first|(with_reducible assumption)|assumption);have Gv:a1 < (l0.length:Int):=of_decide_eq_true (by first|(with_reducible assumption)|assumption);obtain ⟨XK,e160,RP⟩:=Kd.jD HR0.out a1 GK Gv;cases e160;replace GK:=eq_true GK;replace Gv:=eq_true Gv))
      go_ret
      exact ⟨by first|rfl|(simp;done)|(simp [*];done),by repeat (first|exact aT.refl _|apply aT.step)⟩
     ·
      rw [if_neg c9] at H
      have Eb:decide (((dW ByteArray.empty l0 a1).size:Int)≤a2)=false:=decide_eq_false c9
      clear c9
      by_cases c10:0≤a2
      ·
       rw [if_pos c10] at H
       have oW:decide (0≤a2)=true:=decide_eq_true c10
       clear c10
       by_cases c11:a2 < ((dW ByteArray.empty l0 a1).size:Int)
       ·
        rw [if_pos c11] at H
        have uz:decide (a2 < ((dW ByteArray.empty l0 a1).size:Int))=true:=decide_eq_true c11
        clear c11
        replace H:=Option.bind_eq_some_iff.mp H
        obtain ⟨t162,aep,H⟩:=H
        replace H:(some t162)=some r:=H
        have A13:=ae.mk aep
        clear aep
        obtain rfl:=Option.some.inj H
        go_enter Tryd.func68,Tryd.ntmps68
        go_wp2_with (first|((with_reducible refine bu (f:=62) rfl ?_);refine dS (some 9) rfl rfl Tryd.func62 (by kernel_rfl) rfl #[.slice A0 l0.length c0,.int .i64 a1] rfl (by (try simp only [List.map_toArray,List.map_cons,List.map_nil]);first|done|rfl|(simp only [List.length_drop,List.length_take];rfl)) ?_;(with_reducible refine (eH.calls k _ _ l0 a1 true _ ?cu ?dw A4.out).mono ?_);(case cu=>repeat (first|exact HR0.out|(with_reducible refine Kd.bT ?_ _)|(with_reducible refine Kd.bQ ?_ _)|(with_reducible refine Kd.dD ?_)));(case dw=>exact tY.out);rintro e w' ⟨rfl,⟨nd,rfl⟩⟩;refine ⟨_,rfl,?_⟩;have GK:0≤(a1:Int):=of_decide_eq_true (by first|(with_reducible assumption)|assumption);have Gv:a1 < (l0.length:Int):=of_decide_eq_true (by first|(with_reducible assumption)|assumption);obtain ⟨XK,e160,RP⟩:=Kd.jD HR0.out a1 GK Gv;cases e160;replace GK:=eq_true GK;replace Gv:=eq_true Gv;have YC:0≤(a1:Int):=of_decide_eq_true (by first|(with_reducible assumption)|assumption);have Yr:a1 < (l0.length:Int):=of_decide_eq_true (by first|(with_reducible assumption)|assumption);obtain ⟨adl,e161,aex⟩:=Kd.jD HR0.out a1 YC Yr;obtain rfl:XK=adl:=(by injection e161);replace YC:=eq_true YC;replace Yr:=eq_true Yr;have p12:0≤(a2:Int):=of_decide_eq_true (by first|(with_reducible assumption)|assumption);have q12:a2 < ((dW ByteArray.empty l0 a1).size:Int):=of_decide_eq_true (by first|(with_reducible assumption)|assumption);have YS:=kL (dW ByteArray.empty l0 a1) a2;replace p12:=eq_true p12;replace q12:=eq_true q12)|((with_reducible refine bu (f:=43) rfl ?_);refine dS (some 32) rfl rfl Tryd.func43 (by kernel_rfl) rfl #[.int .u8 (bt (dW ByteArray.empty l0 a1) a2),.int .i64 (l0.length:Int)] rfl (by (try simp only [List.map_toArray,List.map_cons,List.map_nil]);first|done|rfl|(simp only [List.length_drop,List.length_take];rfl)) ?_;(with_reducible refine (eF.calls (bt (dW ByteArray.empty l0 a1) a2) (l0.length:Int) t162 _ A13.out).mono ?_);rintro e w' ⟨rfl,⟨nd,rfl⟩⟩;refine ⟨_,rfl,?_⟩))
        go_ret
        exact ⟨by first|rfl|(simp;done)|(simp [*];done),by repeat (first|exact aT.refl _|apply aT.step)⟩
       ·
        rw [if_neg c11] at H
        exact absurd H (by simp)
      ·
       rw [if_neg c10] at H
       exact absurd H (by simp)
    ·
     rw [if_neg c8] at H
     exact absurd H (by simp)
   ·
    rw [if_neg c7] at H
    exact absurd H (by simp)
 ·
  replace c5:=Bool.eq_false_iff.mpr c5
  subst c5
  have H1:(some (-1))=some r:=by rw [if_neg (show ¬ (false=true) by decide)] at H;exact H
  clear H
  have H:=H1
  clear H1
  obtain rfl:=Option.some.inj H
  go_enter Tryd.func68,Tryd.ntmps68
  go_wp2_with (first|((with_reducible refine bu (f:=62) rfl ?_);refine dS (some 9) rfl rfl Tryd.func62 (by kernel_rfl) rfl #[.slice A0 l0.length c0,.int .i64 a1] rfl (by (try simp only [List.map_toArray,List.map_cons,List.map_nil]);first|done|rfl|(simp only [List.length_drop,List.length_take];rfl)) ?_;(with_reducible refine (eH.calls k _ _ l0 a1 false _ ?cu ?dw A4.out).mono ?_);(case cu=>repeat (first|exact HR0.out|(with_reducible refine Kd.bT ?_ _)|(with_reducible refine Kd.bQ ?_ _)|(with_reducible refine Kd.dD ?_)));(case dw=>exact tY.out);rintro e w' ⟨rfl,⟨nd,rfl⟩⟩;refine ⟨_,rfl,?_⟩))
  go_ret
  exact ⟨by first|rfl|(simp;done)|(simp [*];done),by repeat (first|exact aT.refl _|apply aT.step)⟩
def fB.f (k:Nat) (aY:List ByteArray) (aU:ByteArray) (aV:ByteArray) (aI:List (gZ)) (a1:Int) (a2:Int):Option (Bool):=if a2 < 0 then (some false) else ((gz.f k aY a1).bind fun t164=>(if a2 ≥ t164 then (some false) else ((fU.f k aY a1 a2).bind fun t165=>(some (decide (t165 < 0))))))
theorem fB.mono:∀ a0 a1 a2 a3 a4 a5 k,dN (fB.f k a0 a1 a2 a3 a4 a5) (fB.f (k+1) a0 a1 a2 a3 a4 a5):=by
 intro a0 a1 a2 a3 a4 a5 k
 unfold fB.f
 repeat' with_reducible first|apply gz.mono|apply fU.mono|exact dN.refl _|exact dN.none _|refine dN.ite ?_ ?_|refine dN.bind ?_ (fun _=>?_)
set_option maxHeartbeats 8000000 in
set_option maxRecDepth 100000 in
theorem fB.calls (k:Nat) (eu:Option Addr) (ed:Nat) (aY:List ByteArray) (aU:ByteArray) (aV:ByteArray) (fV:Option Addr) (eX:Nat) (aI:List (gZ)) (a1:Int) (a2:Int) (r:Bool) (w:World) (jK:Kd.C Kd.string w eu aY.length aY) (jM:aY.length≤ed) (jJ:Kd.C tZ w fV aI.length aI) (jL:aI.length≤eX) (h:fB.f k aY aU aV aI a1 a2=some r) :
  Calls Tryd.prog 49 #[.agg #[.slice eu aY.length ed,.string aU,.string aV,.slice fV aI.length eX],.int .i64 a1,.int .i64 a2] w fun e w'=>e=.returned (.bool r)∧Below w.heap.size w w':=by
 have xM:=Tryd.underlying25
 have iq:=ae.mk jK
 have iC:=ae.mk jM
 clear jK jM
 have jG:=ae.mk jJ
 have jW:=ae.mk jL
 clear jJ jL
 have HB:=ae.mk (Below.refl w.heap.size w)
 have H:(if a2 < 0 then (some false) else ((gz.f k aY a1).bind fun t164=>(if a2 ≥ t164 then (some false) else ((fU.f k aY a1 a2).bind fun t165=>(some (decide (t165 < 0)))))))=some r:=h
 clear h
 by_cases c4:a2 < 0
 ·
  rw [if_pos c4] at H
  have nM:decide (a2 < 0)=true:=decide_eq_true c4
  clear c4
  obtain rfl:=Option.some.inj H
  go_enter Tryd.func49,Tryd.ntmps49
  go_wp2_with (first|((with_reducible refine dL (N:=3) rfl ?_);refine fF ?hg (N:=3) ?hd (cs:=#[.slice eu aY.length ed,.string aU,.string aV,.slice fV aI.length eX]) (t:=25) ?hr ?_;(case hd=>rfl);(case hg=>rfl);(case hr=>first|(go_simp;done)|(go_simp;rfl));intro Fa hg w5 hbox hb;have dV:=ae.mk (bg (by repeat (first|(with_reducible first|exact HB.out|apply ah|apply af|apply ai)|exact HB.out)) hb);have dU:=ae.mk (hbox);have dR:=ae.mk ((by rw [hg];exact (bW (by repeat (first|(with_reducible first|exact HB.out|apply ah|apply af|apply ai)|exact HB.out))):w.heap.size≤Fa));have gQ:=dR;clear HB;have HB:=dV;have Lm:=dU;have XZ:=dR;have CQ:=gQ;clear dV dU dR gQ;clear hb hbox hg))
  go_ret
  exact ⟨by first|rfl|(simp [aQ,aN] <;> rfl)|(simp [*,aQ,aN] <;> rfl),by repeat (first|(with_reducible first|exact HB.out|apply ah|apply af|apply ai|refine aj ?_ CQ.out)|exact HB.out)⟩
 ·
  rw [if_neg c4] at H
  have nM:decide (a2 < 0)=false:=decide_eq_false c4
  clear c4
  replace H:=Option.bind_eq_some_iff.mp H
  obtain ⟨t164,Lp,H⟩:=H
  replace H:(if a2 ≥ t164 then (some false) else ((fU.f k aY a1 a2).bind fun t165=>(some (decide (t165 < 0)))))=some r:=H
  have A6:=ae.mk Lp
  clear Lp
  by_cases c7:a2 ≥ t164
  ·
   rw [if_pos c7] at H
   have nV:decide (t164≤a2)=true:=decide_eq_true c7
   clear c7
   obtain rfl:=Option.some.inj H
   go_enter Tryd.func49,Tryd.ntmps49
   go_wp2_with (first|((with_reducible refine dL (N:=3) rfl ?_);refine fF ?hg (N:=3) ?hd (cs:=#[.slice eu aY.length ed,.string aU,.string aV,.slice fV aI.length eX]) (t:=25) ?hr ?_;(case hd=>rfl);(case hg=>rfl);(case hr=>first|(go_simp;done)|(go_simp;rfl));intro Fa hg w8 hbox hb;have dV:=ae.mk (bg (by repeat (first|(with_reducible first|exact HB.out|apply ah|apply af|apply ai)|exact HB.out)) hb);have dU:=ae.mk (hbox);have dR:=ae.mk ((by rw [hg];exact (bW (by repeat (first|(with_reducible first|exact HB.out|apply ah|apply af|apply ai)|exact HB.out))):w.heap.size≤Fa));have gQ:=dR;clear HB;have HB:=dV;have Lm:=dU;have XZ:=dR;have CQ:=gQ;clear dV dU dR gQ;clear hb hbox hg;obtain ⟨Ha,G9,G8,G7,G5,GZ,GY,GX⟩:=qP Lm.out)|(go_at_call 41;(with_reducible refine (gz.calls k _ _ aY a1 t164 _ ?cu ?dw A6.out).mono ?_);(case cu=>repeat (first|exact (Kd.bK iq.out HB.out)|(with_reducible refine Kd.bT ?_ _)|(with_reducible refine Kd.bQ ?_ _)|(with_reducible refine Kd.dD ?_)));(case dw=>exact iC.out);rintro e w' ⟨rfl,⟨nd,rfl⟩⟩))
   go_ret
   exact ⟨by first|rfl|(simp [aQ,aN] <;> rfl)|(simp [*,aQ,aN] <;> rfl),by repeat (first|(with_reducible first|exact HB.out|apply ah|apply af|apply ai|refine aj ?_ CQ.out)|exact HB.out)⟩
  ·
   rw [if_neg c7] at H
   have nV:decide (t164≤a2)=false:=decide_eq_false c7
   clear c7
   replace H:=Option.bind_eq_some_iff.mp H
   obtain ⟨t165,BF,H⟩:=H
   replace H:(some (decide (t165 < 0)))=some r:=H
   have X6:=ae.mk BF
   clear BF
   obtain rfl:=Option.some.inj H
   go_enter Tryd.func49,Tryd.ntmps49
   go_wp2_with (first|((with_reducible refine dL (N:=3) rfl ?_);refine fF ?hg (N:=3) ?hd (cs:=#[.slice eu aY.length ed,.string aU,.string aV,.slice fV aI.length eX]) (t:=25) ?hr ?_;(case hd=>rfl);(case hg=>rfl);(case hr=>first|(go_simp;done)|(go_simp;rfl));intro Fa hg w11 hbox hb;have dV:=ae.mk (bg (by repeat (first|(with_reducible first|exact HB.out|apply ah|apply af|apply ai)|exact HB.out)) hb);have dU:=ae.mk (hbox);have dR:=ae.mk ((by rw [hg];exact (bW (by repeat (first|(with_reducible first|exact HB.out|apply ah|apply af|apply ai)|exact HB.out))):w.heap.size≤Fa));have gQ:=dR;clear HB;have HB:=dV;have Lm:=dU;have XZ:=dR;have CQ:=gQ;clear dV dU dR gQ;clear hb hbox hg;obtain ⟨DY,DX,DW,DV,DK,DJ,DI,DF⟩:=qP Lm.out)|(go_at_call 41;(with_reducible refine (gz.calls k _ _ aY a1 t164 _ ?cu ?dw A6.out).mono ?_);(case cu=>repeat (first|exact (Kd.bK iq.out HB.out)|(with_reducible refine Kd.bT ?_ _)|(with_reducible refine Kd.bQ ?_ _)|(with_reducible refine Kd.dD ?_)));(case dw=>exact iC.out);rintro e w' ⟨rfl,⟨nd,rfl⟩⟩)|((with_reducible refine bu (f:=68) rfl ?_);refine dS (some 21) rfl rfl Tryd.func68 (by kernel_rfl) rfl #[.slice eu aY.length ed,.int .i64 a1,.int .i64 a2] rfl (by (try simp only [List.map_toArray,List.map_cons,List.map_nil]);first|done|rfl|(simp only [List.length_drop,List.length_take];rfl)) ?_;(with_reducible refine (fU.calls k _ _ aY a1 a2 t165 _ ?cu ?dw X6.out).mono ?_);(case cu=>repeat (first|exact (Kd.bK iq.out (by repeat (first|(with_reducible first|exact HB.out|apply ah|apply af|apply ai|refine aj ?_ CQ.out)|exact HB.out)))|(with_reducible refine Kd.bT ?_ _)|(with_reducible refine Kd.bQ ?_ _)|(with_reducible refine Kd.dD ?_)));(case dw=>exact iC.out);rintro e w' ⟨rfl,⟨nd,rfl⟩⟩;refine ⟨_,rfl,?_⟩))
   go_ret
   exact ⟨by first|rfl|(simp [aQ,aN] <;> rfl)|(simp [*,aQ,aN] <;> rfl),by repeat (first|(with_reducible first|exact HB.out|apply ah|apply af|apply ai|refine aj ?_ CQ.out)|exact HB.out)⟩
def gp.f (k:Nat) (aY:List ByteArray) (aU:ByteArray) (aV:ByteArray) (aI:List (gZ)) (a1:Int) (a2:Int):Option (Int):=if a2 < 0 then (some (-1)) else (if a2 > 6 then (some (-1)) else ((fU.f k aY a1 a2).bind fun t167=>(some t167)))
theorem gp.mono:∀ a0 a1 a2 a3 a4 a5 k,dN (gp.f k a0 a1 a2 a3 a4 a5) (gp.f (k+1) a0 a1 a2 a3 a4 a5):=by
 intro a0 a1 a2 a3 a4 a5 k
 unfold gp.f
 repeat' with_reducible first|apply fU.mono|exact dN.refl _|exact dN.none _|refine dN.ite ?_ ?_|refine dN.bind ?_ (fun _=>?_)
set_option maxHeartbeats 8000000 in
set_option maxRecDepth 100000 in
theorem gp.calls (k:Nat) (eu:Option Addr) (ed:Nat) (aY:List ByteArray) (aU:ByteArray) (aV:ByteArray) (fV:Option Addr) (eX:Nat) (aI:List (gZ)) (a1:Int) (a2:Int) (r:Int) (w:World) (jK:Kd.C Kd.string w eu aY.length aY) (jM:aY.length≤ed) (jJ:Kd.C tZ w fV aI.length aI) (jL:aI.length≤eX) (h:gp.f k aY aU aV aI a1 a2=some r) :
  Calls Tryd.prog 50 #[.agg #[.slice eu aY.length ed,.string aU,.string aV,.slice fV aI.length eX],.int .i64 a1,.int .i64 a2] w fun e w'=>e=.returned (.int .i64 r)∧Below w.heap.size w w':=by
 have xM:=Tryd.underlying25
 have iq:=ae.mk jK
 have iC:=ae.mk jM
 clear jK jM
 have jG:=ae.mk jJ
 have jW:=ae.mk jL
 clear jJ jL
 have HB:=ae.mk (Below.refl w.heap.size w)
 have H:(if a2 < 0 then (some (-1)) else (if a2 > 6 then (some (-1)) else ((fU.f k aY a1 a2).bind fun t167=>(some t167))))=some r:=h
 clear h
 by_cases c4:a2 < 0
 ·
  rw [if_pos c4] at H
  have nM:decide (a2 < 0)=true:=decide_eq_true c4
  clear c4
  obtain rfl:=Option.some.inj H
  go_enter Tryd.func50,Tryd.ntmps50
  go_wp2_with (first|((with_reducible refine dL (N:=3) rfl ?_);refine fF ?hg (N:=3) ?hd (cs:=#[.slice eu aY.length ed,.string aU,.string aV,.slice fV aI.length eX]) (t:=25) ?hr ?_;(case hd=>rfl);(case hg=>rfl);(case hr=>first|(go_simp;done)|(go_simp;rfl));intro E8 hg w5 hbox hb;have dV:=ae.mk (bg (by repeat (first|(with_reducible first|exact HB.out|apply ah|apply af|apply ai)|exact HB.out)) hb);have dU:=ae.mk (hbox);have dR:=ae.mk ((by rw [hg];exact (bW (by repeat (first|(with_reducible first|exact HB.out|apply ah|apply af|apply ai)|exact HB.out))):w.heap.size≤E8));have gQ:=dR;clear HB;have HB:=dV;have Qv:=dU;have XY:=dR;have F7:=gQ;clear dV dU dR gQ;clear hb hbox hg))
  go_ret
  exact ⟨by first|rfl|(simp [aQ,aN] <;> rfl)|(simp [*,aQ,aN] <;> rfl),by repeat (first|(with_reducible first|exact HB.out|apply ah|apply af|apply ai|refine aj ?_ F7.out)|exact HB.out)⟩
 ·
  rw [if_neg c4] at H
  have nM:decide (a2 < 0)=false:=decide_eq_false c4
  clear c4
  by_cases c6:a2 > 6
  ·
   rw [if_pos c6] at H
   have nR:decide (6 < a2)=true:=decide_eq_true c6
   clear c6
   obtain rfl:=Option.some.inj H
   go_enter Tryd.func50,Tryd.ntmps50
   go_wp2_with (first|((with_reducible refine dL (N:=3) rfl ?_);refine fF ?hg (N:=3) ?hd (cs:=#[.slice eu aY.length ed,.string aU,.string aV,.slice fV aI.length eX]) (t:=25) ?hr ?_;(case hd=>rfl);(case hg=>rfl);(case hr=>first|(go_simp;done)|(go_simp;rfl));intro E8 hg w7 hbox hb;have dV:=ae.mk (bg (by repeat (first|(with_reducible first|exact HB.out|apply ah|apply af|apply ai)|exact HB.out)) hb);have dU:=ae.mk (hbox);have dR:=ae.mk ((by rw [hg];exact (bW (by repeat (first|(with_reducible first|exact HB.out|apply ah|apply af|apply ai)|exact HB.out))):w.heap.size≤E8));have gQ:=dR;clear HB;have HB:=dV;have Qv:=dU;have XY:=dR;have F7:=gQ;clear dV dU dR gQ;clear hb hbox hg))
   go_ret
   exact ⟨by first|rfl|(simp [aQ,aN] <;> rfl)|(simp [*,aQ,aN] <;> rfl),by repeat (first|(with_reducible first|exact HB.out|apply ah|apply af|apply ai|refine aj ?_ F7.out)|exact HB.out)⟩
  ·
   rw [if_neg c6] at H
   have nR:decide (6 < a2)=false:=decide_eq_false c6
   clear c6
   replace H:=Option.bind_eq_some_iff.mp H
   obtain ⟨t167,X4,H⟩:=H
   replace H:(some t167)=some r:=H
   have A8:=ae.mk X4
   clear X4
   obtain rfl:=Option.some.inj H
   go_enter Tryd.func50,Tryd.ntmps50
   go_wp2_with (first|((with_reducible refine dL (N:=3) rfl ?_);refine fF ?hg (N:=3) ?hd (cs:=#[.slice eu aY.length ed,.string aU,.string aV,.slice fV aI.length eX]) (t:=25) ?hr ?_;(case hd=>rfl);(case hg=>rfl);(case hr=>first|(go_simp;done)|(go_simp;rfl));intro E8 hg w9 hbox hb;have dV:=ae.mk (bg (by repeat (first|(with_reducible first|exact HB.out|apply ah|apply af|apply ai)|exact HB.out)) hb);have dU:=ae.mk (hbox);have dR:=ae.mk ((by rw [hg];exact (bW (by repeat (first|(with_reducible first|exact HB.out|apply ah|apply af|apply ai)|exact HB.out))):w.heap.size≤E8));have gQ:=dR;clear HB;have HB:=dV;have Qv:=dU;have XY:=dR;have F7:=gQ;clear dV dU dR gQ;clear hb hbox hg;obtain ⟨xe,wZ,wY,wX,wW,wV,wU,wS⟩:=qP Qv.out)|((with_reducible refine bu (f:=68) rfl ?_);refine dS (some 17) rfl rfl Tryd.func68 (by kernel_rfl) rfl #[.slice eu aY.length ed,.int .i64 a1,.int .i64 a2] rfl (by (try simp only [List.map_toArray,List.map_cons,List.map_nil]);first|done|rfl|(simp only [List.length_drop,List.length_take];rfl)) ?_;(with_reducible refine (fU.calls k _ _ aY a1 a2 t167 _ ?cu ?dw A8.out).mono ?_);(case cu=>repeat (first|exact (Kd.bK iq.out HB.out)|(with_reducible refine Kd.bT ?_ _)|(with_reducible refine Kd.bQ ?_ _)|(with_reducible refine Kd.dD ?_)));(case dw=>exact iC.out);rintro e w' ⟨rfl,⟨nd,rfl⟩⟩;refine ⟨_,rfl,?_⟩))
   go_ret
   exact ⟨by first|rfl|(simp [aQ,aN] <;> rfl)|(simp [*,aQ,aN] <;> rfl),by repeat (first|(with_reducible first|exact HB.out|apply ah|apply af|apply ai|refine aj ?_ F7.out)|exact HB.out)⟩
end Go.Proofs.YtlemecdddhdagaaDoor.P
end
