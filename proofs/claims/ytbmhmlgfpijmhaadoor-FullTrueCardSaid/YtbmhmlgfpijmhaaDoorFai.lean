/- Parts of the proof of FullTrue: what the functions that it reaches compute, and plain facts about that. -/
import Derived.Test.YtbmhmlgfpijmhaaDoorFab
import Derived.Test.YtbmhmlgfpijmhaaDoorFae
import Derived.Test.YtbmhmlgfpijmhaaDoorFah
set_option linter.unusedVariables false
set_option linter.unusedSimpArgs false
section
namespace Go.Proofs.YtbmhmlgfpijmhaaDoor.P
open Go.RowKit Go.Proofs.af.bG Go.Proofs.af.dD Go.Proofs.af.dM
attribute [local go_sem] kF kD lK lJ jH jG kE kC
def eF.f (k:Nat) (l0:List ByteArray) (a1:Int):Option (Bool):=(aK.f k l0).bind fun t191=>(if t191=true then (if a1 ≥ 0 then (some (decide (a1 < (l0.length:Int)))) else (some false)) else (some false))
theorem eF.mono:∀ a0 a1 k,dN (eF.f k a0 a1) (eF.f (k+1) a0 a1):=by
 intro a0 a1 k
 unfold eF.f
 repeat' with_reducible first|apply aK.mono|exact dN.refl _|exact dN.none _|refine dN.ite ?_ ?_|refine dN.bind ?_ (fun _=>?_)
set_option maxHeartbeats 8000000 in
set_option maxRecDepth 100000 in
theorem eF.calls (k:Nat) (A0:Option Addr) (c0:Nat) (l0:List ByteArray) (a1:Int) (r:Bool) (w:World) (hr0:Kd.C Kd.string w A0 l0.length l0) (hc0:l0.length≤c0) (h:eF.f k l0 a1=some r) :
  Calls Tryd.prog 22 #[.slice A0 l0.length c0,.int .i64 a1] w fun e w'=>e=.returned (.bool r)∧aV w w':=by
 have HR0:=ae.mk hr0
 have vS:=ae.mk hc0
 clear hr0 hc0
 have H:((aK.f k l0).bind fun t191=>(if t191=true then (if a1 ≥ 0 then (some (decide (a1 < (l0.length:Int)))) else (some false)) else (some false)))=some r:=h
 clear h
 replace H:=Option.bind_eq_some_iff.mp H
 obtain ⟨t191,wW,H⟩:=H
 replace H:(if t191=true then (if a1 ≥ 0 then (some (decide (a1 < (l0.length:Int)))) else (some false)) else (some false))=some r:=H
 have A3:=ae.mk wW
 clear wW
 by_cases c4:t191=true
 ·
  subst c4
  have H1:(if a1 ≥ 0 then (some (decide (a1 < (l0.length:Int)))) else (some false))=some r:=by rw [if_pos rfl] at H;exact H
  clear H
  have H:=H1
  clear H1
  by_cases c5:a1 ≥ 0
  ·
   rw [if_pos c5] at H
   have qB:decide (0≤a1)=true:=decide_eq_true c5
   clear c5
   obtain rfl:=Option.some.inj H
   go_enter Tryd.func22,Tryd.ntmps22
   go_wp2_with (first|((with_reducible refine bT (f:=33) rfl ?_);refine gp (some 6) rfl rfl Tryd.func33 (by kernel_rfl) rfl #[.slice A0 l0.length c0] rfl (by (try simp only [List.map_toArray,List.map_cons,List.map_nil]);first|done|rfl|(simp only [List.length_drop,List.length_take];rfl)) ?_;(with_reducible refine (aK.calls k _ _ l0 true _ ?dR ?dU A3.out).mono ?_);(case dR=>repeat (first|exact HR0.out|(with_reducible refine Kd.dA ?_ _)|(with_reducible refine Kd.dL ?_ _)|(with_reducible refine Kd.dW ?_)));(case dU=>exact vS.out);rintro e w' ⟨rfl,⟨nd,rfl⟩⟩;refine ⟨_,rfl,?_⟩))
   go_ret
   exact ⟨by first|rfl|(simp;done)|(simp [*];done),by repeat (first|exact aV.refl _|apply aV.step)⟩
  ·
   rw [if_neg c5] at H
   have qB:decide (0≤a1)=false:=decide_eq_false c5
   clear c5
   obtain rfl:=Option.some.inj H
   go_enter Tryd.func22,Tryd.ntmps22
   go_wp2_with (first|((with_reducible refine bT (f:=33) rfl ?_);refine gp (some 6) rfl rfl Tryd.func33 (by kernel_rfl) rfl #[.slice A0 l0.length c0] rfl (by (try simp only [List.map_toArray,List.map_cons,List.map_nil]);first|done|rfl|(simp only [List.length_drop,List.length_take];rfl)) ?_;(with_reducible refine (aK.calls k _ _ l0 true _ ?dR ?dU A3.out).mono ?_);(case dR=>repeat (first|exact HR0.out|(with_reducible refine Kd.dA ?_ _)|(with_reducible refine Kd.dL ?_ _)|(with_reducible refine Kd.dW ?_)));(case dU=>exact vS.out);rintro e w' ⟨rfl,⟨nd,rfl⟩⟩;refine ⟨_,rfl,?_⟩))
   go_ret
   exact ⟨by first|rfl|(simp;done)|(simp [*];done),by repeat (first|exact aV.refl _|apply aV.step)⟩
 ·
  replace c4:=Bool.eq_false_iff.mpr c4
  subst c4
  have H1:(some false)=some r:=by rw [if_neg (show ¬ (false=true) by decide)] at H;exact H
  clear H
  have H:=H1
  clear H1
  obtain rfl:=Option.some.inj H
  go_enter Tryd.func22,Tryd.ntmps22
  go_wp2_with (first|((with_reducible refine bT (f:=33) rfl ?_);refine gp (some 6) rfl rfl Tryd.func33 (by kernel_rfl) rfl #[.slice A0 l0.length c0] rfl (by (try simp only [List.map_toArray,List.map_cons,List.map_nil]);first|done|rfl|(simp only [List.length_drop,List.length_take];rfl)) ?_;(with_reducible refine (aK.calls k _ _ l0 false _ ?dR ?dU A3.out).mono ?_);(case dR=>repeat (first|exact HR0.out|(with_reducible refine Kd.dA ?_ _)|(with_reducible refine Kd.dL ?_ _)|(with_reducible refine Kd.dW ?_)));(case dU=>exact vS.out);rintro e w' ⟨rfl,⟨nd,rfl⟩⟩;refine ⟨_,rfl,?_⟩))
  go_ret
  exact ⟨by first|rfl|(simp;done)|(simp [*];done),by repeat (first|exact aV.refl _|apply aV.step)⟩
def dn.f (k:Nat) (l0:List ByteArray) (a1:Int):Option (Int):=(eF.f k l0 a1).bind fun t192=>(if t192=true then (if 0≤a1 then (if a1 < (l0.length:Int) then (some ((dV ByteArray.empty l0 a1).size:Int)) else (none)) else (none)) else (some 0))
theorem dn.mono:∀ a0 a1 k,dN (dn.f k a0 a1) (dn.f (k+1) a0 a1):=by
 intro a0 a1 k
 unfold dn.f
 repeat' with_reducible first|apply eF.mono|exact dN.refl _|exact dN.none _|refine dN.ite ?_ ?_|refine dN.bind ?_ (fun _=>?_)
set_option maxHeartbeats 8000000 in
set_option maxRecDepth 100000 in
theorem dn.calls (k:Nat) (A0:Option Addr) (c0:Nat) (l0:List ByteArray) (a1:Int) (r:Int) (w:World) (hr0:Kd.C Kd.string w A0 l0.length l0) (hc0:l0.length≤c0) (h:dn.f k l0 a1=some r) :
  Calls Tryd.prog 14 #[.slice A0 l0.length c0,.int .i64 a1] w fun e w'=>e=.returned (.int .i64 r)∧aV w w':=by
 have HR0:=ae.mk hr0
 have vS:=ae.mk hc0
 clear hr0 hc0
 have H:((eF.f k l0 a1).bind fun t192=>(if t192=true then (if 0≤a1 then (if a1 < (l0.length:Int) then (some ((dV ByteArray.empty l0 a1).size:Int)) else (none)) else (none)) else (some 0)))=some r:=h
 clear h
 replace H:=Option.bind_eq_some_iff.mp H
 obtain ⟨t192,wW,H⟩:=H
 replace H:(if t192=true then (if 0≤a1 then (if a1 < (l0.length:Int) then (some ((dV ByteArray.empty l0 a1).size:Int)) else (none)) else (none)) else (some 0))=some r:=H
 have A3:=ae.mk wW
 clear wW
 by_cases c4:t192=true
 ·
  subst c4
  have H1:(if 0≤a1 then (if a1 < (l0.length:Int) then (some ((dV ByteArray.empty l0 a1).size:Int)) else (none)) else (none))=some r:=by rw [if_pos rfl] at H;exact H
  clear H
  have H:=H1
  clear H1
  by_cases c5:0≤a1
  ·
   rw [if_pos c5] at H
   have qB:decide (0≤a1)=true:=decide_eq_true c5
   clear c5
   by_cases c6:a1 < (l0.length:Int)
   ·
    rw [if_pos c6] at H
    have oP:decide (a1 < (l0.length:Int))=true:=decide_eq_true c6
    clear c6
    obtain rfl:=Option.some.inj H
    go_enter Tryd.func14,Tryd.ntmps14
    go_wp2_with (first|((with_reducible refine bT (f:=22) rfl ?_);refine gp (some 7) rfl rfl Tryd.func22 (by kernel_rfl) rfl #[.slice A0 l0.length c0,.int .i64 a1] rfl (by (try simp only [List.map_toArray,List.map_cons,List.map_nil]);first|done|rfl|(simp only [List.length_drop,List.length_take];rfl)) ?_;(with_reducible refine (eF.calls k _ _ l0 a1 true _ ?dR ?dU A3.out).mono ?_);(case dR=>repeat (first|exact HR0.out|(with_reducible refine Kd.dA ?_ _)|(with_reducible refine Kd.dL ?_ _)|(with_reducible refine Kd.dW ?_)));(case dU=>exact vS.out);rintro e w' ⟨rfl,⟨nd,rfl⟩⟩;refine ⟨_,rfl,?_⟩;have Wx:0≤(a1:Int):=of_decide_eq_true (by first|(with_reducible assumption)|assumption);have V9:a1 < (l0.length:Int):=of_decide_eq_true (by first|(with_reducible assumption)|assumption);obtain ⟨ai0,ahf,abq⟩:=Kd.kU HR0.out a1 Wx V9;cases ahf;replace Wx:=eq_true Wx;replace V9:=eq_true V9))
    go_ret
    exact ⟨by first|rfl|(simp;done)|(simp [*];done),by repeat (first|exact aV.refl _|apply aV.step)⟩
   ·
    rw [if_neg c6] at H
    exact absurd H (by simp)
  ·
   rw [if_neg c5] at H
   exact absurd H (by simp)
 ·
  replace c4:=Bool.eq_false_iff.mpr c4
  subst c4
  have H1:(some 0)=some r:=by rw [if_neg (show ¬ (false=true) by decide)] at H;exact H
  clear H
  have H:=H1
  clear H1
  obtain rfl:=Option.some.inj H
  go_enter Tryd.func14,Tryd.ntmps14
  go_wp2_with (first|((with_reducible refine bT (f:=22) rfl ?_);refine gp (some 7) rfl rfl Tryd.func22 (by kernel_rfl) rfl #[.slice A0 l0.length c0,.int .i64 a1] rfl (by (try simp only [List.map_toArray,List.map_cons,List.map_nil]);first|done|rfl|(simp only [List.length_drop,List.length_take];rfl)) ?_;(with_reducible refine (eF.calls k _ _ l0 a1 false _ ?dR ?dU A3.out).mono ?_);(case dR=>repeat (first|exact HR0.out|(with_reducible refine Kd.dA ?_ _)|(with_reducible refine Kd.dL ?_ _)|(with_reducible refine Kd.dW ?_)));(case dU=>exact vS.out);rintro e w' ⟨rfl,⟨nd,rfl⟩⟩;refine ⟨_,rfl,?_⟩))
  go_ret
  exact ⟨by first|rfl|(simp;done)|(simp [*];done),by repeat (first|exact aV.refl _|apply aV.step)⟩
def fQ.f (k:Nat) (l0:List ByteArray) (a1:Int) (a2:Int):Option (Int):=(eF.f k l0 a1).bind fun t194=>(if t194=true then (if a2 < 0 then (some (-1)) else (if 0≤a1 then (if a1 < (l0.length:Int) then (if a2 ≥ ((dV ByteArray.empty l0 a1).size:Int) then (some (-1)) else (if 0≤a2 then (if a2 < ((dV ByteArray.empty l0 a1).size:Int) then ((ed.f (bt (dV ByteArray.empty l0 a1) a2) (l0.length:Int)).bind fun t197=>(some t197)) else (none)) else (none))) else (none)) else (none))) else (some (-1)))
theorem fQ.mono:∀ a0 a1 a2 k,dN (fQ.f k a0 a1 a2) (fQ.f (k+1) a0 a1 a2):=by
 intro a0 a1 a2 k
 unfold fQ.f
 repeat' with_reducible first|apply eF.mono|exact dN.refl _|exact dN.none _|refine dN.ite ?_ ?_|refine dN.bind ?_ (fun _=>?_)
set_option maxHeartbeats 8000000 in
set_option maxRecDepth 100000 in
theorem fQ.calls (k:Nat) (A0:Option Addr) (c0:Nat) (l0:List ByteArray) (a1:Int) (a2:Int) (r:Int) (w:World) (hr0:Kd.C Kd.string w A0 l0.length l0) (hc0:l0.length≤c0) (h:fQ.f k l0 a1 a2=some r) :
  Calls Tryd.prog 50 #[.slice A0 l0.length c0,.int .i64 a1,.int .i64 a2] w fun e w'=>e=.returned (.int .i64 r)∧aV w w':=by
 have HR0:=ae.mk hr0
 have vS:=ae.mk hc0
 clear hr0 hc0
 have H:((eF.f k l0 a1).bind fun t194=>(if t194=true then (if a2 < 0 then (some (-1)) else (if 0≤a1 then (if a1 < (l0.length:Int) then (if a2 ≥ ((dV ByteArray.empty l0 a1).size:Int) then (some (-1)) else (if 0≤a2 then (if a2 < ((dV ByteArray.empty l0 a1).size:Int) then ((ed.f (bt (dV ByteArray.empty l0 a1) a2) (l0.length:Int)).bind fun t197=>(some t197)) else (none)) else (none))) else (none)) else (none))) else (some (-1))))=some r:=h
 clear h
 replace H:=Option.bind_eq_some_iff.mp H
 obtain ⟨t194,Md,H⟩:=H
 replace H:(if t194=true then (if a2 < 0 then (some (-1)) else (if 0≤a1 then (if a1 < (l0.length:Int) then (if a2 ≥ ((dV ByteArray.empty l0 a1).size:Int) then (some (-1)) else (if 0≤a2 then (if a2 < ((dV ByteArray.empty l0 a1).size:Int) then ((ed.f (bt (dV ByteArray.empty l0 a1) a2) (l0.length:Int)).bind fun t197=>(some t197)) else (none)) else (none))) else (none)) else (none))) else (some (-1)))=some r:=H
 have A4:=ae.mk Md
 clear Md
 by_cases c5:t194=true
 ·
  subst c5
  have H1:(if a2 < 0 then (some (-1)) else (if 0≤a1 then (if a1 < (l0.length:Int) then (if a2 ≥ ((dV ByteArray.empty l0 a1).size:Int) then (some (-1)) else (if 0≤a2 then (if a2 < ((dV ByteArray.empty l0 a1).size:Int) then ((ed.f (bt (dV ByteArray.empty l0 a1) a2) (l0.length:Int)).bind fun t197=>(some t197)) else (none)) else (none))) else (none)) else (none)))=some r:=by rw [if_pos rfl] at H;exact H
  clear H
  have H:=H1
  clear H1
  by_cases c6:a2 < 0
  ·
   rw [if_pos c6] at H
   have oP:decide (a2 < 0)=true:=decide_eq_true c6
   clear c6
   obtain rfl:=Option.some.inj H
   go_enter Tryd.func50,Tryd.ntmps50
   go_wp2_with (first|((with_reducible refine bT (f:=22) rfl ?_);refine gp (some 9) rfl rfl Tryd.func22 (by kernel_rfl) rfl #[.slice A0 l0.length c0,.int .i64 a1] rfl (by (try simp only [List.map_toArray,List.map_cons,List.map_nil]);first|done|rfl|(simp only [List.length_drop,List.length_take];rfl)) ?_;(with_reducible refine (eF.calls k _ _ l0 a1 true _ ?dR ?dU A4.out).mono ?_);(case dR=>repeat (first|exact HR0.out|(with_reducible refine Kd.dA ?_ _)|(with_reducible refine Kd.dL ?_ _)|(with_reducible refine Kd.dW ?_)));(case dU=>exact vS.out);rintro e w' ⟨rfl,⟨nd,rfl⟩⟩;refine ⟨_,rfl,?_⟩))
   go_ret
   exact ⟨by first|rfl|(simp;done)|(simp [*];done),by repeat (first|exact aV.refl _|apply aV.step)⟩
  ·
   rw [if_neg c6] at H
   have oP:decide (a2 < 0)=false:=decide_eq_false c6
   clear c6
   by_cases c7:0≤a1
   ·
    rw [if_pos c7] at H
    have pJ:decide (0≤a1)=true:=decide_eq_true c7
    clear c7
    by_cases c8:a1 < (l0.length:Int)
    ·
     rw [if_pos c8] at H
     have qU:decide (a1 < (l0.length:Int))=true:=decide_eq_true c8
     clear c8
     by_cases c9:a2 ≥ ((dV ByteArray.empty l0 a1).size:Int)
     ·
      rw [if_pos c9] at H
      have Fv:decide (((dV ByteArray.empty l0 a1).size:Int)≤a2)=true:=decide_eq_true c9
      clear c9
      obtain rfl:=Option.some.inj H
      go_enter Tryd.func50,Tryd.ntmps50
      go_wp2_with (first|((with_reducible refine bT (f:=22) rfl ?_);refine gp (some 9) rfl rfl Tryd.func22 (by kernel_rfl) rfl #[.slice A0 l0.length c0,.int .i64 a1] rfl (by (try simp only [List.map_toArray,List.map_cons,List.map_nil]);first|done|rfl|(simp only [List.length_drop,List.length_take];rfl)) ?_;(with_reducible refine (eF.calls k _ _ l0 a1 true _ ?dR ?dU A4.out).mono ?_);(case dR=>repeat (first|exact HR0.out|(with_reducible refine Kd.dA ?_ _)|(with_reducible refine Kd.dL ?_ _)|(with_reducible refine Kd.dW ?_)));(case dU=>exact vS.out);rintro e w' ⟨rfl,⟨nd,rfl⟩⟩;refine ⟨_,rfl,?_⟩;have Gw:0≤(a1:Int):=of_decide_eq_true (by first|(with_reducible assumption)|assumption);have Gt:a1 < (l0.length:Int):=of_decide_eq_true (by first|(with_reducible assumption)|assumption);obtain ⟨Vs,e195,Qh⟩:=Kd.kU HR0.out a1 Gw Gt;cases e195;replace Gw:=eq_true Gw;replace Gt:=eq_true Gt))
      go_ret
      exact ⟨by first|rfl|(simp;done)|(simp [*];done),by repeat (first|exact aV.refl _|apply aV.step)⟩
     ·
      rw [if_neg c9] at H
      have Fv:decide (((dV ByteArray.empty l0 a1).size:Int)≤a2)=false:=decide_eq_false c9
      clear c9
      by_cases c10:0≤a2
      ·
       rw [if_pos c10] at H
       have oU:decide (0≤a2)=true:=decide_eq_true c10
       clear c10
       by_cases c11:a2 < ((dV ByteArray.empty l0 a1).size:Int)
       ·
        rw [if_pos c11] at H
        have uo:decide (a2 < ((dV ByteArray.empty l0 a1).size:Int))=true:=decide_eq_true c11
        clear c11
        replace H:=Option.bind_eq_some_iff.mp H
        obtain ⟨t197,abe,H⟩:=H
        replace H:(some t197)=some r:=H
        have A13:=ae.mk abe
        clear abe
        obtain rfl:=Option.some.inj H
        go_enter Tryd.func50,Tryd.ntmps50
        go_wp2_with (first|((with_reducible refine bT (f:=22) rfl ?_);refine gp (some 9) rfl rfl Tryd.func22 (by kernel_rfl) rfl #[.slice A0 l0.length c0,.int .i64 a1] rfl (by (try simp only [List.map_toArray,List.map_cons,List.map_nil]);first|done|rfl|(simp only [List.length_drop,List.length_take];rfl)) ?_;(with_reducible refine (eF.calls k _ _ l0 a1 true _ ?dR ?dU A4.out).mono ?_);(case dR=>repeat (first|exact HR0.out|(with_reducible refine Kd.dA ?_ _)|(with_reducible refine Kd.dL ?_ _)|(with_reducible refine Kd.dW ?_)));(case dU=>exact vS.out);rintro e w' ⟨rfl,⟨nd,rfl⟩⟩;refine ⟨_,rfl,?_⟩;have Gw:0≤(a1:Int):=of_decide_eq_true (by first|(with_reducible assumption)|assumption);have Gt:a1 < (l0.length:Int):=of_decide_eq_true (by first|(with_reducible assumption)|assumption);obtain ⟨Vs,e195,Qh⟩:=Kd.kU HR0.out a1 Gw Gt;cases e195;replace Gw:=eq_true Gw;replace Gt:=eq_true Gt;have Wv:0≤(a1:Int):=of_decide_eq_true (by first|(with_reducible assumption)|assumption);have V8:a1 < (l0.length:Int):=of_decide_eq_true (by first|(with_reducible assumption)|assumption);obtain ⟨aar,ahe,abp⟩:=Kd.kU HR0.out a1 Wv V8;obtain rfl:Vs=aar:=(by injection ahe);replace Wv:=eq_true Wv;replace V8:=eq_true V8;have p12:0≤(a2:Int):=of_decide_eq_true (by first|(with_reducible assumption)|assumption);have q12:a2 < ((dV ByteArray.empty l0 a1).size:Int):=of_decide_eq_true (by first|(with_reducible assumption)|assumption);have Xa:=kP (dV ByteArray.empty l0 a1) a2;replace p12:=eq_true p12;replace q12:=eq_true q12)|((with_reducible refine bT (f:=35) rfl ?_);refine gp (some 32) rfl rfl Tryd.func35 (by kernel_rfl) rfl #[.int .u8 (bt (dV ByteArray.empty l0 a1) a2),.int .i64 (l0.length:Int)] rfl (by (try simp only [List.map_toArray,List.map_cons,List.map_nil]);first|done|rfl|(simp only [List.length_drop,List.length_take];rfl)) ?_;(with_reducible refine (ed.calls (bt (dV ByteArray.empty l0 a1) a2) (l0.length:Int) t197 _ A13.out).mono ?_);rintro e w' ⟨rfl,⟨nd,rfl⟩⟩;refine ⟨_,rfl,?_⟩))
        go_ret
        exact ⟨by first|rfl|(simp;done)|(simp [*];done),by repeat (first|exact aV.refl _|apply aV.step)⟩
       ·
        rw [if_neg c11] at H
        exact absurd H (by simp)
      ·
       rw [if_neg c10] at H
       exact absurd H (by simp)
    ·
     rw [if_neg c8] at H
     exact absurd H (by simp)
   ·
    rw [if_neg c7] at H
    exact absurd H (by simp)
 ·
  replace c5:=Bool.eq_false_iff.mpr c5
  subst c5
  have H1:(some (-1))=some r:=by rw [if_neg (show ¬ (false=true) by decide)] at H;exact H
  clear H
  have H:=H1
  clear H1
  obtain rfl:=Option.some.inj H
  go_enter Tryd.func50,Tryd.ntmps50
  go_wp2_with (first|((with_reducible refine bT (f:=22) rfl ?_);refine gp (some 9) rfl rfl Tryd.func22 (by kernel_rfl) rfl #[.slice A0 l0.length c0,.int .i64 a1] rfl (by (try simp only [List.map_toArray,List.map_cons,List.map_nil]);first|done|rfl|(simp only [List.length_drop,List.length_take];rfl)) ?_;(with_reducible refine (eF.calls k _ _ l0 a1 false _ ?dR ?dU A4.out).mono ?_);(case dR=>repeat (first|exact HR0.out|(with_reducible refine Kd.dA ?_ _)|(with_reducible refine Kd.dL ?_ _)|(with_reducible refine Kd.dW ?_)));(case dU=>exact vS.out);rintro e w' ⟨rfl,⟨nd,rfl⟩⟩;refine ⟨_,rfl,?_⟩))
  go_ret
  exact ⟨by first|rfl|(simp;done)|(simp [*];done),by repeat (first|exact aV.refl _|apply aV.step)⟩
def fE.f (k:Nat) (bC:List ByteArray) (aY:ByteArray) (aZ:ByteArray) (aJ:List (iG)) (a1:Int) (a2:Int):Option (Bool):=if a2 < 0 then (some false) else ((dn.f k bC a1).bind fun t199=>(if a2 ≥ t199 then (some false) else ((fQ.f k bC a1 a2).bind fun t200=>(some (decide (t200 < 0))))))
theorem fE.mono:∀ a0 a1 a2 a3 a4 a5 k,dN (fE.f k a0 a1 a2 a3 a4 a5) (fE.f (k+1) a0 a1 a2 a3 a4 a5):=by
 intro a0 a1 a2 a3 a4 a5 k
 unfold fE.f
 repeat' with_reducible first|apply dn.mono|apply fQ.mono|exact dN.refl _|exact dN.none _|refine dN.ite ?_ ?_|refine dN.bind ?_ (fun _=>?_)
set_option maxHeartbeats 8000000 in
set_option maxRecDepth 100000 in
theorem fE.calls (k:Nat) (eP:Option Addr) (eH:Nat) (bC:List ByteArray) (aY:ByteArray) (aZ:ByteArray) (gy:Option Addr) (fB:Nat) (aJ:List (iG)) (a1:Int) (a2:Int) (r:Bool) (w:World) (jV:Kd.C Kd.string w eP bC.length bC) (jX:bC.length≤eH) (jU:Kd.C k39 w gy aJ.length aJ) (jW:aJ.length≤fB) (h:fE.f k bC aY aZ aJ a1 a2=some r) :
  Calls Tryd.prog 40 #[.agg #[.slice eP bC.length eH,.string aY,.string aZ,.slice gy aJ.length fB],.int .i64 a1,.int .i64 a2] w fun e w'=>e=.returned (.bool r)∧Below w.heap.size w w':=by
 have yj:=Tryd.underlying25
 have ji:=ae.mk jV
 have jr:=ae.mk jX
 clear jV jX
 have jR:=ae.mk jU
 have lD:=ae.mk jW
 clear jU jW
 have HB:=ae.mk (Below.refl w.heap.size w)
 have H:(if a2 < 0 then (some false) else ((dn.f k bC a1).bind fun t199=>(if a2 ≥ t199 then (some false) else ((fQ.f k bC a1 a2).bind fun t200=>(some (decide (t200 < 0)))))))=some r:=h
 clear h
 by_cases c4:a2 < 0
 ·
  rw [if_pos c4] at H
  have oG:decide (a2 < 0)=true:=decide_eq_true c4
  clear c4
  obtain rfl:=Option.some.inj H
  go_enter Tryd.func40,Tryd.ntmps40
  go_wp2_with (first|((with_reducible refine bI (N:=3) rfl ?_);refine dZ ?hg (N:=3) ?hd (cs:=#[.slice eP bC.length eH,.string aY,.string aZ,.slice gy aJ.length fB]) (t:=25) ?hr ?_;(case hd=>rfl);(case hg=>rfl);(case hr=>first|(go_simp;done)|(go_simp;rfl));intro rV hg w5 hbox hb;have eU:=ae.mk (bz (by repeat (first|(with_reducible first|exact HB.out|apply ay|apply ai|apply ax)|exact HB.out)) hb);have eQ:=ae.mk (hbox);have eu:=ae.mk ((by rw [hg];exact (cu (by repeat (first|(with_reducible first|exact HB.out|apply ay|apply ai|apply ax)|exact HB.out))):w.heap.size≤rV));have ig:=eu;clear HB;have HB:=eU;have pz:=eQ;have VF:=eu;have BD:=ig;clear eU eQ eu ig;clear hb hbox hg))
  go_ret
  exact ⟨by first|rfl|(simp [aT,aQ] <;> rfl)|(simp [*,aT,aQ] <;> rfl),by repeat (first|(with_reducible first|exact HB.out|apply ay|apply ai|apply ax|refine aA ?_ BD.out)|exact HB.out)⟩
 ·
  rw [if_neg c4] at H
  have oG:decide (a2 < 0)=false:=decide_eq_false c4
  clear c4
  replace H:=Option.bind_eq_some_iff.mp H
  obtain ⟨t199,Pm,H⟩:=H
  replace H:(if a2 ≥ t199 then (some false) else ((fQ.f k bC a1 a2).bind fun t200=>(some (decide (t200 < 0)))))=some r:=H
  have A6:=ae.mk Pm
  clear Pm
  by_cases c7:a2 ≥ t199
  ·
   rw [if_pos c7] at H
   have pJ:decide (t199≤a2)=true:=decide_eq_true c7
   clear c7
   obtain rfl:=Option.some.inj H
   go_enter Tryd.func40,Tryd.ntmps40
   go_wp2_with (first|((with_reducible refine bI (N:=3) rfl ?_);refine dZ ?hg (N:=3) ?hd (cs:=#[.slice eP bC.length eH,.string aY,.string aZ,.slice gy aJ.length fB]) (t:=25) ?hr ?_;(case hd=>rfl);(case hg=>rfl);(case hr=>first|(go_simp;done)|(go_simp;rfl));intro rV hg w8 hbox hb;have eU:=ae.mk (bz (by repeat (first|(with_reducible first|exact HB.out|apply ay|apply ai|apply ax)|exact HB.out)) hb);have eQ:=ae.mk (hbox);have eu:=ae.mk ((by rw [hg];exact (cu (by repeat (first|(with_reducible first|exact HB.out|apply ay|apply ai|apply ax)|exact HB.out))):w.heap.size≤rV));have ig:=eu;clear HB;have HB:=eU;have pz:=eQ;have VF:=eu;have BD:=ig;clear eU eQ eu ig;clear hb hbox hg;have NZ:w8.cell? ⟨rV,0,none⟩=some (.slice eP bC.length eH):=(ah pz.out 0).trans rfl;have NY:w8.cell? ⟨rV,1,none⟩=some (.string aY):=(ah pz.out 1).trans rfl;have NW:w8.cell? ⟨rV,2,none⟩=some (.string aZ):=(ah pz.out 2).trans rfl;have NV:w8.cell? ⟨rV,3,none⟩=some (.slice gy aJ.length fB):=(ah pz.out 3).trans rfl;have NU:=ag pz.out 0;have NT:=ag pz.out 1;have NS:=ag pz.out 2;have NR:=ag pz.out 3)|(go_at_call 14;(with_reducible refine (dn.calls k _ _ bC a1 t199 _ ?dR ?dU A6.out).mono ?_);(case dR=>repeat (first|exact (Kd.bW ji.out HB.out)|(with_reducible refine Kd.dA ?_ _)|(with_reducible refine Kd.dL ?_ _)|(with_reducible refine Kd.dW ?_)));(case dU=>exact jr.out);rintro e w' ⟨rfl,⟨nd,rfl⟩⟩))
   go_ret
   exact ⟨by first|rfl|(simp [aT,aQ] <;> rfl)|(simp [*,aT,aQ] <;> rfl),by repeat (first|(with_reducible first|exact HB.out|apply ay|apply ai|apply ax|refine aA ?_ BD.out)|exact HB.out)⟩
  ·
   rw [if_neg c7] at H
   have pJ:decide (t199≤a2)=false:=decide_eq_false c7
   clear c7
   replace H:=Option.bind_eq_some_iff.mp H
   obtain ⟨t200,Px,H⟩:=H
   replace H:(some (decide (t200 < 0)))=some r:=H
   have Yv:=ae.mk Px
   clear Px
   obtain rfl:=Option.some.inj H
   go_enter Tryd.func40,Tryd.ntmps40
   go_wp2_with (first|((with_reducible refine bI (N:=3) rfl ?_);refine dZ ?hg (N:=3) ?hd (cs:=#[.slice eP bC.length eH,.string aY,.string aZ,.slice gy aJ.length fB]) (t:=25) ?hr ?_;(case hd=>rfl);(case hg=>rfl);(case hr=>first|(go_simp;done)|(go_simp;rfl));intro rV hg VT hbox hb;have eU:=ae.mk (bz (by repeat (first|(with_reducible first|exact HB.out|apply ay|apply ai|apply ax)|exact HB.out)) hb);have eQ:=ae.mk (hbox);have eu:=ae.mk ((by rw [hg];exact (cu (by repeat (first|(with_reducible first|exact HB.out|apply ay|apply ai|apply ax)|exact HB.out))):w.heap.size≤rV));have ig:=eu;clear HB;have HB:=eU;have pz:=eQ;have VF:=eu;have BD:=ig;clear eU eQ eu ig;clear hb hbox hg;have D5:VT.cell? ⟨rV,0,none⟩=some (.slice eP bC.length eH):=(ah pz.out 0).trans rfl;have DZ:VT.cell? ⟨rV,1,none⟩=some (.string aY):=(ah pz.out 1).trans rfl;have DY:VT.cell? ⟨rV,2,none⟩=some (.string aZ):=(ah pz.out 2).trans rfl;have DX:VT.cell? ⟨rV,3,none⟩=some (.slice gy aJ.length fB):=(ah pz.out 3).trans rfl;have DI:=ag pz.out 0;have DF:=ag pz.out 1;have DD:=ag pz.out 2;have DC:=ag pz.out 3)|(go_at_call 14;(with_reducible refine (dn.calls k _ _ bC a1 t199 _ ?dR ?dU A6.out).mono ?_);(case dR=>repeat (first|exact (Kd.bW ji.out HB.out)|(with_reducible refine Kd.dA ?_ _)|(with_reducible refine Kd.dL ?_ _)|(with_reducible refine Kd.dW ?_)));(case dU=>exact jr.out);rintro e w' ⟨rfl,⟨nd,rfl⟩⟩)|((with_reducible refine bT (f:=50) rfl ?_);refine gp (some 21) rfl rfl Tryd.func50 (by kernel_rfl) rfl #[.slice eP bC.length eH,.int .i64 a1,.int .i64 a2] rfl (by (try simp only [List.map_toArray,List.map_cons,List.map_nil]);first|done|rfl|(simp only [List.length_drop,List.length_take];rfl)) ?_;(with_reducible refine (fQ.calls k _ _ bC a1 a2 t200 _ ?dR ?dU Yv.out).mono ?_);(case dR=>repeat (first|exact (Kd.bW ji.out (by repeat (first|(with_reducible first|exact HB.out|apply ay|apply ai|apply ax|refine aA ?_ BD.out)|exact HB.out)))|(with_reducible refine Kd.dA ?_ _)|(with_reducible refine Kd.dL ?_ _)|(with_reducible refine Kd.dW ?_)));(case dU=>exact jr.out);rintro e w' ⟨rfl,⟨nd,rfl⟩⟩;refine ⟨_,rfl,?_⟩))
   go_ret
   exact ⟨by first|rfl|(simp [aT,aQ] <;> rfl)|(simp [*,aT,aQ] <;> rfl),by repeat (first|(with_reducible first|exact HB.out|apply ay|apply ai|apply ax|refine aA ?_ BD.out)|exact HB.out)⟩
def gm.f (k:Nat) (bC:List ByteArray) (aY:ByteArray) (aZ:ByteArray) (aJ:List (iG)) (a1:Int) (a2:Int):Option (Int):=if a2 < 0 then (some (-1)) else (if a2 > 6 then (some (-1)) else ((fQ.f k bC a1 a2).bind fun t202=>(some t202)))
theorem gm.mono:∀ a0 a1 a2 a3 a4 a5 k,dN (gm.f k a0 a1 a2 a3 a4 a5) (gm.f (k+1) a0 a1 a2 a3 a4 a5):=by
 intro a0 a1 a2 a3 a4 a5 k
 unfold gm.f
 repeat' with_reducible first|apply fQ.mono|exact dN.refl _|exact dN.none _|refine dN.ite ?_ ?_|refine dN.bind ?_ (fun _=>?_)
set_option maxHeartbeats 8000000 in
set_option maxRecDepth 100000 in
theorem gm.calls (k:Nat) (eP:Option Addr) (eH:Nat) (bC:List ByteArray) (aY:ByteArray) (aZ:ByteArray) (gy:Option Addr) (fB:Nat) (aJ:List (iG)) (a1:Int) (a2:Int) (r:Int) (w:World) (jV:Kd.C Kd.string w eP bC.length bC) (jX:bC.length≤eH) (jU:Kd.C k39 w gy aJ.length aJ) (jW:aJ.length≤fB) (h:gm.f k bC aY aZ aJ a1 a2=some r) :
  Calls Tryd.prog 41 #[.agg #[.slice eP bC.length eH,.string aY,.string aZ,.slice gy aJ.length fB],.int .i64 a1,.int .i64 a2] w fun e w'=>e=.returned (.int .i64 r)∧Below w.heap.size w w':=by
 have yj:=Tryd.underlying25
 have ji:=ae.mk jV
 have jr:=ae.mk jX
 clear jV jX
 have jR:=ae.mk jU
 have lD:=ae.mk jW
 clear jU jW
 have HB:=ae.mk (Below.refl w.heap.size w)
 have H:(if a2 < 0 then (some (-1)) else (if a2 > 6 then (some (-1)) else ((fQ.f k bC a1 a2).bind fun t202=>(some t202))))=some r:=h
 clear h
 by_cases c4:a2 < 0
 ·
  rw [if_pos c4] at H
  have oG:decide (a2 < 0)=true:=decide_eq_true c4
  clear c4
  obtain rfl:=Option.some.inj H
  go_enter Tryd.func41,Tryd.ntmps41
  go_wp2_with (first|((with_reducible refine bI (N:=3) rfl ?_);refine dZ ?hg (N:=3) ?hd (cs:=#[.slice eP bC.length eH,.string aY,.string aZ,.slice gy aJ.length fB]) (t:=25) ?hr ?_;(case hd=>rfl);(case hg=>rfl);(case hr=>first|(go_simp;done)|(go_simp;rfl));intro wK hg w5 hbox hb;have eU:=ae.mk (bz (by repeat (first|(with_reducible first|exact HB.out|apply ay|apply ai|apply ax)|exact HB.out)) hb);have eQ:=ae.mk (hbox);have eu:=ae.mk ((by rw [hg];exact (cu (by repeat (first|(with_reducible first|exact HB.out|apply ay|apply ai|apply ax)|exact HB.out))):w.heap.size≤wK));have ig:=eu;clear HB;have HB:=eU;have uY:=eQ;have VE:=eu;have F6:=ig;clear eU eQ eu ig;clear hb hbox hg))
  go_ret
  exact ⟨by first|rfl|(simp [aT,aQ] <;> rfl)|(simp [*,aT,aQ] <;> rfl),by repeat (first|(with_reducible first|exact HB.out|apply ay|apply ai|apply ax|refine aA ?_ F6.out)|exact HB.out)⟩
 ·
  rw [if_neg c4] at H
  have oG:decide (a2 < 0)=false:=decide_eq_false c4
  clear c4
  by_cases c6:a2 > 6
  ·
   rw [if_pos c6] at H
   have oP:decide (6 < a2)=true:=decide_eq_true c6
   clear c6
   obtain rfl:=Option.some.inj H
   go_enter Tryd.func41,Tryd.ntmps41
   go_wp2_with (first|((with_reducible refine bI (N:=3) rfl ?_);refine dZ ?hg (N:=3) ?hd (cs:=#[.slice eP bC.length eH,.string aY,.string aZ,.slice gy aJ.length fB]) (t:=25) ?hr ?_;(case hd=>rfl);(case hg=>rfl);(case hr=>first|(go_simp;done)|(go_simp;rfl));intro wK hg w7 hbox hb;have eU:=ae.mk (bz (by repeat (first|(with_reducible first|exact HB.out|apply ay|apply ai|apply ax)|exact HB.out)) hb);have eQ:=ae.mk (hbox);have eu:=ae.mk ((by rw [hg];exact (cu (by repeat (first|(with_reducible first|exact HB.out|apply ay|apply ai|apply ax)|exact HB.out))):w.heap.size≤wK));have ig:=eu;clear HB;have HB:=eU;have uY:=eQ;have VE:=eu;have F6:=ig;clear eU eQ eu ig;clear hb hbox hg))
   go_ret
   exact ⟨by first|rfl|(simp [aT,aQ] <;> rfl)|(simp [*,aT,aQ] <;> rfl),by repeat (first|(with_reducible first|exact HB.out|apply ay|apply ai|apply ax|refine aA ?_ F6.out)|exact HB.out)⟩
  ·
   rw [if_neg c6] at H
   have oP:decide (6 < a2)=false:=decide_eq_false c6
   clear c6
   replace H:=Option.bind_eq_some_iff.mp H
   obtain ⟨t202,A80,H⟩:=H
   replace H:(some t202)=some r:=H
   have A8:=ae.mk A80
   clear A80
   obtain rfl:=Option.some.inj H
   go_enter Tryd.func41,Tryd.ntmps41
   go_wp2_with (first|((with_reducible refine bI (N:=3) rfl ?_);refine dZ ?hg (N:=3) ?hd (cs:=#[.slice eP bC.length eH,.string aY,.string aZ,.slice gy aJ.length fB]) (t:=25) ?hr ?_;(case hd=>rfl);(case hg=>rfl);(case hr=>first|(go_simp;done)|(go_simp;rfl));intro wK hg w9 hbox hb;have eU:=ae.mk (bz (by repeat (first|(with_reducible first|exact HB.out|apply ay|apply ai|apply ax)|exact HB.out)) hb);have eQ:=ae.mk (hbox);have eu:=ae.mk ((by rw [hg];exact (cu (by repeat (first|(with_reducible first|exact HB.out|apply ay|apply ai|apply ax)|exact HB.out))):w.heap.size≤wK));have ig:=eu;clear HB;have HB:=eU;have uY:=eQ;have VE:=eu;have F6:=ig;clear eU eQ eu ig;clear hb hbox hg;have yS:w9.cell? ⟨wK,0,none⟩=some (.slice eP bC.length eH):=(ah uY.out 0).trans rfl;have yR:w9.cell? ⟨wK,1,none⟩=some (.string aY):=(ah uY.out 1).trans rfl;have yQ:w9.cell? ⟨wK,2,none⟩=some (.string aZ):=(ah uY.out 2).trans rfl;have yP:w9.cell? ⟨wK,3,none⟩=some (.slice gy aJ.length fB):=(ah uY.out 3).trans rfl;have yK:=ag uY.out 0;have yJ:=ag uY.out 1;have yI:=ag uY.out 2;have yH:=ag uY.out 3)|((with_reducible refine bT (f:=50) rfl ?_);refine gp (some 17) rfl rfl Tryd.func50 (by kernel_rfl) rfl #[.slice eP bC.length eH,.int .i64 a1,.int .i64 a2] rfl (by (try simp only [List.map_toArray,List.map_cons,List.map_nil]);first|done|rfl|(simp only [List.length_drop,List.length_take];rfl)) ?_;(with_reducible refine (fQ.calls k _ _ bC a1 a2 t202 _ ?dR ?dU A8.out).mono ?_);(case dR=>repeat (first|exact (Kd.bW ji.out HB.out)|(with_reducible refine Kd.dA ?_ _)|(with_reducible refine Kd.dL ?_ _)|(with_reducible refine Kd.dW ?_)));(case dU=>exact jr.out);rintro e w' ⟨rfl,⟨nd,rfl⟩⟩;refine ⟨_,rfl,?_⟩))
   go_ret
   exact ⟨by first|rfl|(simp [aT,aQ] <;> rfl)|(simp [*,aT,aQ] <;> rfl),by repeat (first|(with_reducible first|exact HB.out|apply ay|apply ai|apply ax|refine aA ?_ F6.out)|exact HB.out)⟩
def fK.f (k:Nat) (bC:List ByteArray) (aY:ByteArray) (aZ:ByteArray) (aJ:List (iG)) (a1:Int):Option (Int):=(fJ.f k bC aZ a1).bind fun t204=>(some t204)
theorem fK.mono:∀ a0 a1 a2 a3 a4 k,dN (fK.f k a0 a1 a2 a3 a4) (fK.f (k+1) a0 a1 a2 a3 a4):=by
 intro a0 a1 a2 a3 a4 k
 unfold fK.f
 repeat' with_reducible first|apply fJ.mono|exact dN.refl _|exact dN.none _|refine dN.ite ?_ ?_|refine dN.bind ?_ (fun _=>?_)
set_option maxHeartbeats 8000000 in
set_option maxRecDepth 100000 in
theorem fK.calls (k:Nat) (eP:Option Addr) (eH:Nat) (bC:List ByteArray) (aY:ByteArray) (aZ:ByteArray) (gy:Option Addr) (fB:Nat) (aJ:List (iG)) (a1:Int) (r:Int) (w:World) (jV:Kd.C Kd.string w eP bC.length bC) (jX:bC.length≤eH) (jU:Kd.C k39 w gy aJ.length aJ) (jW:aJ.length≤fB) (h:fK.f k bC aY aZ aJ a1=some r) :
  Calls Tryd.prog 42 #[.agg #[.slice eP bC.length eH,.string aY,.string aZ,.slice gy aJ.length fB],.int .u8 a1] w fun e w'=>e=.returned (.int .i64 r)∧Below w.heap.size w w':=by
 have yj:=Tryd.underlying25
 have ji:=ae.mk jV
 have jr:=ae.mk jX
 clear jV jX
 have jR:=ae.mk jU
 have lD:=ae.mk jW
 clear jU jW
 have HB:=ae.mk (Below.refl w.heap.size w)
 have H:((fJ.f k bC aZ a1).bind fun t204=>(some t204))=some r:=h
 clear h
 replace H:=Option.bind_eq_some_iff.mp H
 obtain ⟨t204,wW,H⟩:=H
 replace H:(some t204)=some r:=H
 have A3:=ae.mk wW
 clear wW
 obtain rfl:=Option.some.inj H
 go_enter Tryd.func42,Tryd.ntmps42
 go_wp2_with (first|((with_reducible refine bI (N:=2) rfl ?_);refine dZ ?hg (N:=2) ?hd (cs:=#[.slice eP bC.length eH,.string aY,.string aZ,.slice gy aJ.length fB]) (t:=25) ?hr ?_;(case hd=>rfl);(case hg=>rfl);(case hr=>first|(go_simp;done)|(go_simp;rfl));intro E5 hg w4 hbox hb;have eU:=ae.mk (bz (by repeat (first|(with_reducible first|exact HB.out|apply ay|apply ai|apply ax)|exact HB.out)) hb);have eQ:=ae.mk (hbox);have eu:=ae.mk ((by rw [hg];exact (cu (by repeat (first|(with_reducible first|exact HB.out|apply ay|apply ai|apply ax)|exact HB.out))):w.heap.size≤E5));have ig:=eu;clear HB;have HB:=eU;have xX:=eQ;have aju:=eu;have aaQ:=ig;clear eU eQ eu ig;clear hb hbox hg;have zH:w4.cell? ⟨E5,0,none⟩=some (.slice eP bC.length eH):=(ah xX.out 0).trans rfl;have zG:w4.cell? ⟨E5,1,none⟩=some (.string aY):=(ah xX.out 1).trans rfl;have zF:w4.cell? ⟨E5,2,none⟩=some (.string aZ):=(ah xX.out 2).trans rfl;have zD:w4.cell? ⟨E5,3,none⟩=some (.slice gy aJ.length fB):=(ah xX.out 3).trans rfl;have zC:=ag xX.out 0;have zB:=ag xX.out 1;have zA:=ag xX.out 2;have zy:=ag xX.out 3)|((with_reducible refine bT (f:=23) rfl ?_);refine gp (some 10) rfl rfl Tryd.func23 (by kernel_rfl) rfl #[.slice eP bC.length eH,.string aZ,.int .u8 a1] rfl (by (try simp only [List.map_toArray,List.map_cons,List.map_nil]);first|done|rfl|(simp only [List.length_drop,List.length_take];rfl)) ?_;(with_reducible refine (fJ.calls k _ _ bC aZ a1 t204 _ ?dR ?dU A3.out).mono ?_);(case dR=>repeat (first|exact (Kd.bW ji.out HB.out)|(with_reducible refine Kd.dA ?_ _)|(with_reducible refine Kd.dL ?_ _)|(with_reducible refine Kd.dW ?_)));(case dU=>exact jr.out);rintro e w' ⟨rfl,⟨nd,rfl⟩⟩;refine ⟨_,rfl,?_⟩))
 go_ret
 exact ⟨by first|rfl|(simp [aT,aQ] <;> rfl)|(simp [*,aT,aQ] <;> rfl),by repeat (first|(with_reducible first|exact HB.out|apply ay|apply ai|apply ax|refine aA ?_ aaQ.out)|exact HB.out)⟩
end Go.Proofs.YtbmhmlgfpijmhaaDoor.P
end
