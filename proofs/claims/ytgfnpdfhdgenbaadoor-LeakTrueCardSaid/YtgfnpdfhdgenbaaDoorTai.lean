/- Parts of the proof of LeakTrue: what the functions that it reaches compute, and plain facts about that. -/
import Derived.Test.YtgfnpdfhdgenbaaDoorTab
import Derived.Test.YtgfnpdfhdgenbaaDoorTac
import Derived.Test.YtgfnpdfhdgenbaaDoorTaf
import Derived.Test.YtgfnpdfhdgenbaaDoorTah
set_option linter.unusedVariables false
set_option linter.unusedSimpArgs false
section
namespace Go.Proofs.YtgfnpdfhdgenbaaDoor.P
open Go.RowKit Go.Proofs.ae.bf Go.Proofs.ae.bY Go.Proofs.ae.cZ
attribute [local go_sem] kU kS mF mD jR jQ kT kR
mutual
def au.j0:Nat→Bool→List ByteArray→ByteArray→ByteArray→List (gY)→Option (Int × Int)
 | 0,_,_,_,_,_=>none
 | k+1,x32,lU,lT,lS,iy=>if x32=true then (some ((-1),5)) else (if (iy.length:Int) < 1 then (au.j1 k true lU lT lS iy) else (au.j1 k (decide ((iy.length:Int) > 200)) lU lT lS iy))
def au.j1:Nat→Bool→List ByteArray→ByteArray→ByteArray→List (gY)→Option (Int × Int)
 | 0,_,_,_,_,_=>none
 | k+1,x42,lU,lT,lS,iy=>if x42=true then (some ((-1),3)) else (au.l0 k 0 lU lT lS iy)
def au.l0:Nat→Int→List ByteArray→ByteArray→ByteArray→List (gY)→Option (Int × Int)
 | 0,_,_,_,_,_=>none
 | k+1,x4,lU,lT,lS,iy=>if x4 < (iy.length:Int) then (if 0≤x4 then (if ((aC iy x4).f0)=3 then (au.j3 k x4 true lU lT lS iy ((aC iy x4).f0) ((aC iy x4).f1) ((aC iy x4).f2) ((aC iy x4).f3) ((aC iy x4).f4)) else (au.j3 k x4 (((aC iy x4).f0) == 4) lU lT lS iy ((aC iy x4).f0) ((aC iy x4).f1) ((aC iy x4).f2) ((aC iy x4).f3) ((aC iy x4).f4))) else (none)) else (some ((-1),0))
def au.j3:Nat→Int→Bool→List ByteArray→ByteArray→ByteArray→List (gY)→Int→Int→Int→Int→Int→Option (Int × Int)
 | 0,_,_,_,_,_,_,_,_,_,_,_=>none
 | k+1,x4,x6,lU,lT,lS,iy,rD,rC,ry,ru,qf=>(dI.f k rD rC ry ru qf).bind fun t192=>(if t192=true then (if x6=true then (if qf < 0 then (au.j4 k x4 true lU lT lS iy rD rC ry ru qf) else (au.j4 k x4 (decide (qf > (iy.length:Int))) lU lT lS iy rD rC ry ru qf)) else (au.j4 k x4 false lU lT lS iy rD rC ry ru qf)) else (some (x4,4)))
def au.j4:Nat→Int→Bool→List ByteArray→ByteArray→ByteArray→List (gY)→Int→Int→Int→Int→Int→Option (Int × Int)
 | 0,_,_,_,_,_,_,_,_,_,_,_=>none
 | k+1,x4,x68,lU,lT,lS,iy,rD,rC,ry,ru,qf=>if x68=true then (some (x4,12)) else ((bu.f k rD rC ry ru qf).bind fun t193=>(if t193=true then ((aQ.f k lU lT lS iy rD rC ry ru qf).bind fun t194=>(if t194=true then (au.l0 k (wrap64 (x4+1)) lU lT lS iy) else (some (x4,5)))) else (some (x4,5))))
end
def au.f (k:Nat) (bF:List ByteArray) (aZ:ByteArray) (bn:ByteArray) (aG:List (gY)):Option (Int × Int):=(aN.f k bF aZ).bind fun t188=>(if t188=true then ((aN.f k bF bn).bind fun t189=>(if t189=true then (if (aZ.size:Int) > 8 then (au.j0 k true bF aZ bn aG) else (au.j0 k (decide ((bn.size:Int) > 4)) bF aZ bn aG)) else (au.j0 k true bF aZ bn aG))) else (au.j0 k true bF aZ bn aG))
theorem au.iF:∀ k,(∀ y0 y1 y2 y3 y4,eu (au.j0 k y0 y1 y2 y3 y4) (au.j0 (k+1) y0 y1 y2 y3 y4))∧(∀ y0 y1 y2 y3 y4,eu (au.j1 k y0 y1 y2 y3 y4) (au.j1 (k+1) y0 y1 y2 y3 y4))∧(∀ y0 y1 y2 y3 y4,eu (au.l0 k y0 y1 y2 y3 y4) (au.l0 (k+1) y0 y1 y2 y3 y4))∧(∀ y0 y1 y2 y3 y4 y5 y6 y7 y8 y9 ML,eu (au.j3 k y0 y1 y2 y3 y4 y5 y6 y7 y8 y9 ML) (au.j3 (k+1) y0 y1 y2 y3 y4 y5 y6 y7 y8 y9 ML))∧(∀ y0 y1 y2 y3 y4 y5 y6 y7 y8 y9 ML,eu (au.j4 k y0 y1 y2 y3 y4 y5 y6 y7 y8 y9 ML) (au.j4 (k+1) y0 y1 y2 y3 y4 y5 y6 y7 y8 y9 ML))
 | 0=>⟨fun _ _ _ _ _ r h=>by simp [au.j0] at h,fun _ _ _ _ _ r h=>by simp [au.j1] at h,fun _ _ _ _ _ r h=>by simp [au.l0] at h,fun _ _ _ _ _ _ _ _ _ _ _ r h=>by simp [au.j3] at h,fun _ _ _ _ _ _ _ _ _ _ _ r h=>by simp [au.j4] at h⟩
 | k+1=>by
  obtain ⟨nI,ih1,ih2,ih3,WM⟩:=au.iF k
  refine ⟨?_,?_,?_,?_,?_⟩
  ·
   intro y0 y1 y2 y3 y4
   unfold au.j0
   repeat' with_reducible first|apply nI|apply ih1|apply ih2|apply ih3|apply WM|apply aN.mono|apply dI.mono|apply bu.mono|apply aQ.mono|exact eu.refl _|exact eu.none _|refine eu.ite ?_ ?_|refine eu.bind ?_ (fun _=>?_)
  ·
   intro y0 y1 y2 y3 y4
   unfold au.j1
   repeat' with_reducible first|apply nI|apply ih1|apply ih2|apply ih3|apply WM|apply aN.mono|apply dI.mono|apply bu.mono|apply aQ.mono|exact eu.refl _|exact eu.none _|refine eu.ite ?_ ?_|refine eu.bind ?_ (fun _=>?_)
  ·
   intro y0 y1 y2 y3 y4
   unfold au.l0
   repeat' with_reducible first|apply nI|apply ih1|apply ih2|apply ih3|apply WM|apply aN.mono|apply dI.mono|apply bu.mono|apply aQ.mono|exact eu.refl _|exact eu.none _|refine eu.ite ?_ ?_|refine eu.bind ?_ (fun _=>?_)
  ·
   intro y0 y1 y2 y3 y4 y5 y6 y7 y8 y9 ML
   unfold au.j3
   repeat' with_reducible first|apply nI|apply ih1|apply ih2|apply ih3|apply WM|apply aN.mono|apply dI.mono|apply bu.mono|apply aQ.mono|exact eu.refl _|exact eu.none _|refine eu.ite ?_ ?_|refine eu.bind ?_ (fun _=>?_)
  ·
   intro y0 y1 y2 y3 y4 y5 y6 y7 y8 y9 ML
   unfold au.j4
   repeat' with_reducible first|apply nI|apply ih1|apply ih2|apply ih3|apply WM|apply aN.mono|apply dI.mono|apply bu.mono|apply aQ.mono|exact eu.refl _|exact eu.none _|refine eu.ite ?_ ?_|refine eu.bind ?_ (fun _=>?_)
theorem au.mono:∀ a0 a1 a2 a3 k,eu (au.f k a0 a1 a2 a3) (au.f (k+1) a0 a1 a2 a3):=by
 intro a0 a1 a2 a3 k
 obtain ⟨nI,ih1,ih2,ih3,WM⟩:=au.iF k
 unfold au.f
 repeat' with_reducible first|apply nI|apply ih1|apply ih2|apply ih3|apply WM|apply aN.mono|apply dI.mono|apply bu.mono|apply aQ.mono|exact eu.refl _|exact eu.none _|refine eu.ite ?_ ?_|refine eu.bind ?_ (fun _=>?_)
set_option maxHeartbeats 8000000 in
set_option maxRecDepth 100000 in
theorem au.calls (k:Nat) (fA:Option Addr) (eY:Nat) (bF:List ByteArray) (aZ:ByteArray) (bn:ByteArray) (gz:Option Addr) (fC:Nat) (aG:List (gY)) (r1:Int) (r2:Int) (w:World) (jX:Kd.C Kd.string w fA bF.length bF) (jZ:bF.length≤eY) (jW:Kd.C uU w gz aG.length aG) (jY:aG.length≤fC) (EG:Kd.C zV w zW qJ.length qJ) (h:au.f k bF aZ bn aG=some (r1,r2)) :
  Calls Tryd.prog 14 #[.agg #[.slice fA bF.length eY,.string aZ,.string bn,.slice gz aG.length fC]] w fun e w'=>e=.returned (.tuple #[.int .i64 r1,.int .i64 r2])∧Below w.heap.size w w':=by
 have Ad:=Tryd.underlying25
 have zl:=Tryd.underlying45
 have jk:=af.mk jX
 have jv:=af.mk jZ
 clear jX jZ
 have jL:=af.mk jW
 have lX:=af.mk jY
 clear jW jY
 have Eb:=af.mk EG
 clear EG
 have HB:=af.mk (Below.refl w.heap.size w)
 have H:((aN.f k bF aZ).bind fun t188=>(if t188=true then ((aN.f k bF bn).bind fun t189=>(if t189=true then (if (aZ.size:Int) > 8 then (au.j0 k true bF aZ bn aG) else (au.j0 k (decide ((bn.size:Int) > 4)) bF aZ bn aG)) else (au.j0 k true bF aZ bn aG))) else (au.j0 k true bF aZ bn aG)))=some (r1,r2):=h
 clear h
 have HC2:=af.mk H
 clear H
 go_enter Tryd.func14,Tryd.ntmps14
 go_upto_region 1 with (first|((with_reducible refine bD (N:=1) rfl ?_);(try (refine iw (by rfl) ?_;dsimp only));refine ed ?hg (N:=1) ?hd (cs:=#[.slice fA bF.length eY,.string aZ,.string bn,.slice gz aG.length fC]) (t:=25) ?hr ?_;(case hd=>rfl);(case hg=>rfl);(case hr=>first|(go_simp;done)|(go_simp;rfl));intro pV hg w3 hbox hb;have dW:=af.mk (bC (by repeat (first|(with_reducible first|exact HB.out|apply aj|apply ag|apply ak)|exact HB.out)) hb);have dV:=af.mk (hbox);have dQ:=af.mk ((by rw [hg];exact (df (by repeat (first|(with_reducible first|exact HB.out|apply aj|apply ag|apply ak)|exact HB.out))):w.heap.size≤pV));have gK:=dQ;clear HB;have HB:=dW;have ik:=dV;have ak4:=dQ;have jO:=gK;clear dW dV dQ gK;clear hb hbox hg))
 (try simp only [Act.put,List.setIfInBounds_toArray,List.set_cons_zero,List.set_cons_succ])
 go_cut [32] (fun v32 wc=>∃ (kq:Nat) (Iq:Bool),v32=.bool Iq∧af (au.j0 kq Iq bF aZ bn aG=some (r1,r2))∧af (kq≤k)∧af (wc.heap[pV]? = some (.cells #[(.slice fA bF.length eY),.string aZ,.string bn,(.slice gz aG.length fC)] 25 (0,0)))∧af (Below w.heap.size w wc))
 case first =>
  have H:=HC2.out
  clear HC2
  replace H:=Option.bind_eq_some_iff.mp H
  obtain ⟨t188,FQ,H⟩:=H
  replace H:(if t188=true then ((aN.f k bF bn).bind fun t189=>(if t189=true then (if (aZ.size:Int) > 8 then (au.j0 k true bF aZ bn aG) else (au.j0 k (decide ((bn.size:Int) > 4)) bF aZ bn aG)) else (au.j0 k true bF aZ bn aG))) else (au.j0 k true bF aZ bn aG))=some (r1,r2):=H
  have A4:=af.mk FQ
  clear FQ
  by_cases c5:t188=true
  ·
   subst c5
   have H1:((aN.f k bF bn).bind fun t189=>(if t189=true then (if (aZ.size:Int) > 8 then (au.j0 k true bF aZ bn aG) else (au.j0 k (decide ((bn.size:Int) > 4)) bF aZ bn aG)) else (au.j0 k true bF aZ bn aG)))=some (r1,r2):=by rw [if_pos rfl] at H;exact H
   clear H
   have H:=H1
   clear H1
   replace H:=Option.bind_eq_some_iff.mp H
   obtain ⟨t189,Pm,H⟩:=H
   replace H:(if t189=true then (if (aZ.size:Int) > 8 then (au.j0 k true bF aZ bn aG) else (au.j0 k (decide ((bn.size:Int) > 4)) bF aZ bn aG)) else (au.j0 k true bF aZ bn aG))=some (r1,r2):=H
   have A6:=af.mk Pm
   clear Pm
   by_cases c7:t189=true
   ·
    subst c7
    have H1:(if (aZ.size:Int) > 8 then (au.j0 k true bF aZ bn aG) else (au.j0 k (decide ((bn.size:Int) > 4)) bF aZ bn aG))=some (r1,r2):=by rw [if_pos rfl] at H;exact H
    clear H
    have H:=H1
    clear H1
    by_cases c8:(aZ.size:Int) > 8
    ·
     rw [if_pos c8] at H
     have vY:decide (8 < (aZ.size:Int))=true:=decide_eq_true c8
     have ES:decide (8 < aZ.size)=true:=decide_eq_true (by omega)
     clear c8
     (first|rw [vY]|(simp only [aX,aY];rw [vY])|skip)
     have H':=af.mk H
     clear H
     obtain ⟨G9,G8,G7,G6,GM,GL,GK,GI⟩:=lZ ik.out
     go_wp2_with (first|((with_reducible refine bV (f:=22) rfl ?_);refine fU (some 11) rfl rfl Tryd.func22 (by kernel_rfl) rfl #[.slice fA bF.length eY,.string aZ] rfl (by (try simp only [List.map_toArray,List.map_cons,List.map_nil]);first|done|rfl|(simp only [List.length_drop,List.length_take];rfl)) ?_;(with_reducible refine (aN.calls k _ _ bF aZ true _ ?dX ?fB A4.out).mono ?_);(case dX=>repeat (first|exact (Kd.bQ jk.out HB.out)|(with_reducible refine Kd.dG ?_ _)|(with_reducible refine Kd.dH ?_ _)|(with_reducible refine Kd.dS ?_)));(case fB=>exact jv.out);rintro e w' ⟨rfl,⟨nd,rfl⟩⟩;refine ⟨_,rfl,?_⟩)|(go_at_call 22;(with_reducible refine (aN.calls k _ _ bF bn true _ ?dX ?fB A6.out).mono ?_);(case dX=>repeat (first|exact (Kd.bQ jk.out (by repeat (first|(with_reducible first|exact HB.out|apply aj|apply ag|apply ak|refine ay ?_ jO.out)|exact HB.out)))|(with_reducible refine Kd.dG ?_ _)|(with_reducible refine Kd.dH ?_ _)|(with_reducible refine Kd.dS ?_)));(case fB=>exact jv.out);rintro e w' ⟨rfl,⟨nd,rfl⟩⟩))
     go_meet
     case rel=>exact ⟨_,(true),(by first|rfl|(simp;done)|(simp [*];done)),H',⟨by first|omega|exact Nat.le_refl _⟩,⟨by (with_reducible repeat (first|refine ai ?_ _|refine ax ?_|refine ah ?_ _));exact ik.out⟩,⟨by repeat (first|(with_reducible first|exact HB.out|apply aj|apply ag|apply ak|refine ay ?_ jO.out)|exact HB.out)⟩⟩
    ·
     rw [if_neg c8] at H
     have vY:decide (8 < (aZ.size:Int))=false:=decide_eq_false c8
     have ES:decide (8 < aZ.size)=false:=decide_eq_false (by omega)
     clear c8
     (first|rw [vY]|(simp only [aX,aY];rw [vY])|skip)
     have H':=af.mk H
     clear H
     obtain ⟨DF,DD,DC,Dz,Dl,Dk,Dj,Di⟩:=lZ ik.out
     go_wp2_with (first|((with_reducible refine bV (f:=22) rfl ?_);refine fU (some 11) rfl rfl Tryd.func22 (by kernel_rfl) rfl #[.slice fA bF.length eY,.string aZ] rfl (by (try simp only [List.map_toArray,List.map_cons,List.map_nil]);first|done|rfl|(simp only [List.length_drop,List.length_take];rfl)) ?_;(with_reducible refine (aN.calls k _ _ bF aZ true _ ?dX ?fB A4.out).mono ?_);(case dX=>repeat (first|exact (Kd.bQ jk.out HB.out)|(with_reducible refine Kd.dG ?_ _)|(with_reducible refine Kd.dH ?_ _)|(with_reducible refine Kd.dS ?_)));(case fB=>exact jv.out);rintro e w' ⟨rfl,⟨nd,rfl⟩⟩;refine ⟨_,rfl,?_⟩)|(go_at_call 22;(with_reducible refine (aN.calls k _ _ bF bn true _ ?dX ?fB A6.out).mono ?_);(case dX=>repeat (first|exact (Kd.bQ jk.out (by repeat (first|(with_reducible first|exact HB.out|apply aj|apply ag|apply ak|refine ay ?_ jO.out)|exact HB.out)))|(with_reducible refine Kd.dG ?_ _)|(with_reducible refine Kd.dH ?_ _)|(with_reducible refine Kd.dS ?_)));(case fB=>exact jv.out);rintro e w' ⟨rfl,⟨nd,rfl⟩⟩))
     go_meet
     case rel=>exact ⟨_,(decide ((bn.size:Int) > 4)),(by first|rfl|(simp;done)|(simp [*];done)),H',⟨by first|omega|exact Nat.le_refl _⟩,⟨by (with_reducible repeat (first|refine ai ?_ _|refine ax ?_|refine ah ?_ _));exact ik.out⟩,⟨by repeat (first|(with_reducible first|exact HB.out|apply aj|apply ag|apply ak|refine ay ?_ jO.out)|exact HB.out)⟩⟩
   ·
    replace c7:=Bool.eq_false_iff.mpr c7
    subst c7
    have H1:(au.j0 k true bF aZ bn aG)=some (r1,r2):=by rw [if_neg (show ¬ (false=true) by decide)] at H;exact H
    clear H
    have H:=H1
    clear H1
    have H':=af.mk H
    clear H
    obtain ⟨yE,yD,yC,yB,yu,yt,yl,yj⟩:=lZ ik.out
    go_wp2_with (first|((with_reducible refine bV (f:=22) rfl ?_);refine fU (some 11) rfl rfl Tryd.func22 (by kernel_rfl) rfl #[.slice fA bF.length eY,.string aZ] rfl (by (try simp only [List.map_toArray,List.map_cons,List.map_nil]);first|done|rfl|(simp only [List.length_drop,List.length_take];rfl)) ?_;(with_reducible refine (aN.calls k _ _ bF aZ true _ ?dX ?fB A4.out).mono ?_);(case dX=>repeat (first|exact (Kd.bQ jk.out HB.out)|(with_reducible refine Kd.dG ?_ _)|(with_reducible refine Kd.dH ?_ _)|(with_reducible refine Kd.dS ?_)));(case fB=>exact jv.out);rintro e w' ⟨rfl,⟨nd,rfl⟩⟩;refine ⟨_,rfl,?_⟩)|(go_at_call 22;(with_reducible refine (aN.calls k _ _ bF bn false _ ?dX ?fB A6.out).mono ?_);(case dX=>repeat (first|exact (Kd.bQ jk.out (by repeat (first|(with_reducible first|exact HB.out|apply aj|apply ag|apply ak|refine ay ?_ jO.out)|exact HB.out)))|(with_reducible refine Kd.dG ?_ _)|(with_reducible refine Kd.dH ?_ _)|(with_reducible refine Kd.dS ?_)));(case fB=>exact jv.out);rintro e w' ⟨rfl,⟨nd,rfl⟩⟩))
    go_meet
    case rel=>exact ⟨_,(true),(by first|rfl|(simp;done)|(simp [*];done)),H',⟨by first|omega|exact Nat.le_refl _⟩,⟨by (with_reducible repeat (first|refine ai ?_ _|refine ax ?_|refine ah ?_ _));exact ik.out⟩,⟨by repeat (first|(with_reducible first|exact HB.out|apply aj|apply ag|apply ak|refine ay ?_ jO.out)|exact HB.out)⟩⟩
  ·
   replace c5:=Bool.eq_false_iff.mpr c5
   subst c5
   have H1:(au.j0 k true bF aZ bn aG)=some (r1,r2):=by rw [if_neg (show ¬ (false=true) by decide)] at H;exact H
   clear H
   have H:=H1
   clear H1
   have H':=af.mk H
   clear H
   obtain ⟨Ky,Kw,Kv,Ku,JM,JL,JK,JJ⟩:=lZ ik.out
   go_wp2_with (first|((with_reducible refine bV (f:=22) rfl ?_);refine fU (some 11) rfl rfl Tryd.func22 (by kernel_rfl) rfl #[.slice fA bF.length eY,.string aZ] rfl (by (try simp only [List.map_toArray,List.map_cons,List.map_nil]);first|done|rfl|(simp only [List.length_drop,List.length_take];rfl)) ?_;(with_reducible refine (aN.calls k _ _ bF aZ false _ ?dX ?fB A4.out).mono ?_);(case dX=>repeat (first|exact (Kd.bQ jk.out HB.out)|(with_reducible refine Kd.dG ?_ _)|(with_reducible refine Kd.dH ?_ _)|(with_reducible refine Kd.dS ?_)));(case fB=>exact jv.out);rintro e w' ⟨rfl,⟨nd,rfl⟩⟩;refine ⟨_,rfl,?_⟩))
   go_meet
   case rel=>exact ⟨_,(true),(by first|rfl|(simp;done)|(simp [*];done)),H',⟨by first|omega|exact Nat.le_refl _⟩,⟨by (with_reducible repeat (first|refine ai ?_ _|refine ax ?_|refine ah ?_ _));exact ik.out⟩,⟨by repeat (first|(with_reducible first|exact HB.out|apply aj|apply ag|apply ak|refine ay ?_ jO.out)|exact HB.out)⟩⟩
 case rest =>
  clear HC2
  obtain ⟨kq,Iq,rfl,HA,D8,ik,HB⟩:=hcut
  cases kq with
  | zero=>exact absurd HA.out (by simp [au.j0])
  | succ UM =>
   have H:=HA.out
   clear HA
   simp only [au.j0] at H
   by_cases c13:Iq=true
   ·
    subst c13
    have H1:(some ((-1),5))=some (r1,r2):=by rw [if_pos rfl] at H;exact H
    clear H
    have H:=H1
    clear H1
    simp only [Option.some.injEq,Prod.mk.injEq] at H
    obtain ⟨rfl,rfl⟩:=H
    go_wp2
    go_ret2
    exact ⟨by first|rfl|(simp [aU,aT] <;> rfl)|(simp [*,aU,aT] <;> rfl),by repeat (first|(with_reducible first|exact HB.out|apply aj|apply ag|apply ak|refine ay ?_ jO.out)|exact HB.out)⟩
   ·
    replace c13:=Bool.eq_false_iff.mpr c13
    subst c13
    have H1:(if (aG.length:Int) < 1 then (au.j1 UM true bF aZ bn aG) else (au.j1 UM (decide ((aG.length:Int) > 200)) bF aZ bn aG))=some (r1,r2):=by rw [if_neg (show ¬ (false=true) by decide)] at H;exact H
    clear H
    have H:=H1
    clear H1
    have Ik:=af.mk H
    clear H
    go_upto_region 3 with (fail)
    go_cut [42] (fun v42 wc=>∃ (kq:Nat) (BC:Bool),v42=.bool BC∧af (au.j1 kq BC bF aZ bn aG=some (r1,r2))∧af (kq≤UM)∧af (wc.heap[pV]? = some (.cells #[(.slice fA bF.length eY),.string aZ,.string bn,(.slice gz aG.length fC)] 25 (0,0)))∧af (Below w.heap.size w wc))
    case first =>
     have H:=Ik.out
     clear Ik
     by_cases c15:(aG.length:Int) < 1
     ·
      rw [if_pos c15] at H
      have pW:decide ((aG.length:Int) < 1)=true:=decide_eq_true c15
      have zG:decide (aG.length < 1)=true:=decide_eq_true (by omega)
      clear c15
      (first|rw [pW]|(simp only [aX,aY];rw [pW])|skip)
      have H':=af.mk H
      clear H
      obtain ⟨yA,yz,yx,yw,yh,yg,yf,yc⟩:=lZ ik.out
      go_wp2
      go_meet
      case rel=>exact ⟨_,(true),(by first|rfl|(simp;done)|(simp [*];done)),H',⟨by have:=D8.out;first|omega|exact Nat.le_refl _⟩,⟨by (with_reducible repeat (first|refine ai ?_ _|refine ax ?_|refine ah ?_ _));exact ik.out⟩,⟨by repeat (first|(with_reducible first|exact HB.out|apply aj|apply ag|apply ak|refine ay ?_ jO.out)|exact HB.out)⟩⟩
     ·
      rw [if_neg c15] at H
      have pW:decide ((aG.length:Int) < 1)=false:=decide_eq_false c15
      have zG:decide (aG.length < 1)=false:=decide_eq_false (by omega)
      clear c15
      (first|rw [pW]|(simp only [aX,aY];rw [pW])|skip)
      have H':=af.mk H
      clear H
      obtain ⟨Kr,Kq,Ko,J9,JH,JG,JF,JE⟩:=lZ ik.out
      go_wp2
      go_meet
      case rel=>exact ⟨_,(decide ((aG.length:Int) > 200)),(by first|rfl|(simp;done)|(simp [*];done)),H',⟨by have:=D8.out;first|omega|exact Nat.le_refl _⟩,⟨by (with_reducible repeat (first|refine ai ?_ _|refine ax ?_|refine ah ?_ _));exact ik.out⟩,⟨by repeat (first|(with_reducible first|exact HB.out|apply aj|apply ag|apply ak|refine ay ?_ jO.out)|exact HB.out)⟩⟩
    case rest =>
     clear Ik
     obtain ⟨kq,BC,rfl,HA,FB,ik,HB⟩:=hcut
     cases kq with
     | zero=>exact absurd HA.out (by simp [au.j1])
     | succ Qw =>
      have H:=HA.out
      clear HA
      simp only [au.j1] at H
      by_cases c18:BC=true
      ·
       subst c18
       have H1:(some ((-1),3))=some (r1,r2):=by rw [if_pos rfl] at H;exact H
       clear H
       have H:=H1
       clear H1
       simp only [Option.some.injEq,Prod.mk.injEq] at H
       obtain ⟨rfl,rfl⟩:=H
       go_wp2
       go_ret2
       exact ⟨by first|rfl|(simp [aU,aT] <;> rfl)|(simp [*,aU,aT] <;> rfl),by repeat (first|(with_reducible first|exact HB.out|apply aj|apply ag|apply ak|refine ay ?_ jO.out)|exact HB.out)⟩
      ·
       replace c18:=Bool.eq_false_iff.mpr c18
       subst c18
       have H1:(au.l0 Qw 0 bF aZ bn aG)=some (r1,r2):=by rw [if_neg (show ¬ (false=true) by decide)] at H;exact H
       clear H
       have H:=H1
       clear H1
       have H':=af.mk H
       clear H
       go_wp2
       go_loopg [4] Qw (fun kq v4 w'=>∃ (bU:Int),v4=.int .i64 bU∧af (au.l0 kq bU bF aZ bn aG=some (r1,r2))∧af (kq≤Qw)∧af (w'.heap[pV]? = some (.cells #[(.slice fA bF.length eY),.string aZ,.string bn,(.slice gz aG.length fC)] 25 (0,0)))∧af (Below w.heap.size w w'))
       case atStart=>exact ⟨(0),(by first|rfl|(simp;done)|(simp [*];done)),H',⟨Nat.le_refl _⟩,⟨by (with_reducible repeat (first|refine ai ?_ _|refine ax ?_|refine ah ?_ _));exact ik.out⟩,⟨by repeat (first|(with_reducible first|exact HB.out|apply aj|apply ag|apply ak|refine ay ?_ jO.out)|exact HB.out)⟩⟩
       case round =>
        clear H'
        obtain ⟨bU,rfl,HA,Ec,ik,HB⟩:=hrel
        cases gk with
        | zero=>exact absurd HA.out (by simp [au.l0])
        | succ k3 =>
         have H:=HA.out
         clear HA
         simp only [au.l0] at H
         by_cases c19:bU < (aG.length:Int)
         ·
          rw [if_pos c19] at H
          have zF:decide (bU < (aG.length:Int))=true:=decide_eq_true c19
          clear c19
          by_cases c20:0≤bU
          ·
           rw [if_pos c20] at H
           have KE:decide (0≤bU)=true:=decide_eq_true c20
           clear c20
           have X3:=af.mk H
           clear H
           obtain ⟨Tv,Tu,Tt,Tq,Rt,Rq,Ro,Rn⟩:=lZ ik.out
           have Wl:0≤(bU:Int):=of_decide_eq_true (by first|(with_reducible assumption)|assumption)
           have V6:bU < (aG.length:Int):=of_decide_eq_true (by first|(with_reducible assumption)|assumption)
           obtain ⟨tN,e190,CQ,CP,CO,CJ,CG⟩:=oP jL.out bU Wl V6
           cases e190
           replace CQ:=(HB.out.cell (World.block_lt_of_cell? w _ CQ)).trans CQ
           replace CP:=(HB.out.cell (World.block_lt_of_cell? w _ CP)).trans CP
           replace CO:=(HB.out.cell (World.block_lt_of_cell? w _ CO)).trans CO
           replace CJ:=(HB.out.cell (World.block_lt_of_cell? w _ CJ)).trans CJ
           replace CG:=(HB.out.cell (World.block_lt_of_cell? w _ CG)).trans CG
           replace Wl:=eq_true Wl
           replace V6:=eq_true V6
           go_upto_region 9 with (first|((with_reducible refine bD (N:=5) rfl ?_);(try (refine iw (by rfl) ?_;dsimp only));refine ed ?hg (N:=5) ?hd (cs:=#[.int .u8 0,.int .u8 0,.int .u8 0,.int .u8 0,.int .i64 0]) (t:=45) ?hr ?_;(case hd=>rfl);(case hg=>rfl);(case hr=>first|(go_simp;done)|(go_simp;rfl));intro tC hg Yd hbox hb;have dW:=af.mk (bJ (g:=pV) (o:=.cells #[.slice fA bF.length eY,.string aZ,.string bn,.slice (some tN) aG.length fC] 25 (0,0)) (by (with_reducible repeat (first|refine ai ?_ _|refine ax ?_|refine ah ?_ _));exact ik.out) hb);have dV:=af.mk (bC (by repeat (first|(with_reducible first|exact HB.out|apply aj|apply ag|apply ak|refine ay ?_ jO.out)|exact HB.out)) hb);have dQ:=af.mk (hbox);have gK:=af.mk ((by rw [hg];exact (df (by repeat (first|(with_reducible first|exact HB.out|apply aj|apply ag|apply ak|refine ay ?_ jO.out)|exact HB.out))):w.heap.size≤tC));have jT:=gK;have lL:=af.mk ((by rw [hg];exact Nat.ne_of_lt (iC (g:=pV) (o:=.cells #[.slice fA bF.length eY,.string aZ,.string bn,.slice (some tN) aG.length fC] 25 (0,0)) (by (with_reducible repeat (first|refine ai ?_ _|refine ax ?_|refine ah ?_ _));exact ik.out)):pV ≠ tC));have kQ:=af.mk lL.out.symm;clear ik;clear HB;have ik:=dW;have HB:=dV;have jg:=dQ;have ak3:=gK;have pJ:=jT;have iD:=lL;have lM:=kQ;clear dW dV dQ gK jT lL kQ;clear hb hbox hg;have UU:=lM.out;have UQ:=iD.out;obtain ⟨Dy,Dx,Dw,Dv,Du,Dh,Df,Dc,C9,CZ⟩:=iV jg.out))
           (try simp only [Act.put,List.setIfInBounds_toArray,List.set_cons_zero,List.set_cons_succ])
           go_cut [6] (fun v6 wc=>∃ (kq:Nat) (Aq:Bool),v6=.bool Aq∧af (au.j3 kq bU Aq bF aZ bn aG ((aC aG bU).f0) ((aC aG bU).f1) ((aC aG bU).f2) ((aC aG bU).f3) ((aC aG bU).f4)=some (r1,r2))∧af (kq≤k3)∧af (wc.heap[pV]? = some (.cells #[(.slice fA bF.length eY),.string aZ,.string bn,(.slice (some tN) aG.length fC)] 25 (0,0)))∧af (wc.heap[tC]? = some (.cells #[.int .u8 ((aC aG bU).f0),.int .u8 ((aC aG bU).f1),.int .u8 ((aC aG bU).f2),.int .u8 ((aC aG bU).f3),.int .i64 ((aC aG bU).f4)] 45 (0,0)))∧af (Below w.heap.size w wc))
           case first =>
            have H:=X3.out
            clear X3
            by_cases PG:((aC aG bU).f0)=3
            ·
             rw [if_pos PG] at H
             have EX:(((aC aG bU).f0) == 3)=true:=beq_iff_eq.mpr PG
             have ZF:(((aC aG bU).f0) != 3)=false:=bne_eq_false_iff_eq.mpr PG
             clear PG
             (first|rw [EX]|(simp only [aX,aY];rw [EX])|skip)
             have H':=af.mk H
             clear H
             have Y0:=lM.out
             have YW:=iD.out
             obtain ⟨J8,J7,J6,J5,Td,JD,JC,JB,JA,Rf⟩:=iV jg.out
             go_wp2
             go_meet
             case rel=>exact ⟨_,(true),(by first|rfl|(simp;done)|(simp [*];done)),H',⟨by have:=D8.out;have:=FB.out;have:=Ec.out;first|omega|exact Nat.le_refl _⟩,⟨by (with_reducible repeat (first|refine ai ?_ _|refine ax ?_|refine ah ?_ _));refine dD ?_ iD.out _;(with_reducible repeat (first|refine ai ?_ _|refine ax ?_|refine ah ?_ _));refine dD ?_ iD.out _;(with_reducible repeat (first|refine ai ?_ _|refine ax ?_|refine ah ?_ _));refine dD ?_ iD.out _;(with_reducible repeat (first|refine ai ?_ _|refine ax ?_|refine ah ?_ _));refine dD ?_ iD.out _;(with_reducible repeat (first|refine ai ?_ _|refine ax ?_|refine ah ?_ _));refine dD ?_ iD.out _;(with_reducible repeat (first|refine ai ?_ _|refine ax ?_|refine ah ?_ _));exact ik.out⟩,⟨by (with_reducible repeat (first|refine ai ?_ _|refine ax ?_|refine ah ?_ _));refine dh (cs:=#[.int .u8 ((aC aG bU).f0),.int .u8 ((aC aG bU).f1),.int .u8 ((aC aG bU).f2),.int .u8 ((aC aG bU).f3),.int .i64 0]) ?_ 4 _ rfl;(with_reducible repeat (first|refine ai ?_ _|refine ax ?_|refine ah ?_ _));refine dh (cs:=#[.int .u8 ((aC aG bU).f0),.int .u8 ((aC aG bU).f1),.int .u8 ((aC aG bU).f2),.int .u8 0,.int .i64 0]) ?_ 3 _ rfl;(with_reducible repeat (first|refine ai ?_ _|refine ax ?_|refine ah ?_ _));refine dh (cs:=#[.int .u8 ((aC aG bU).f0),.int .u8 ((aC aG bU).f1),.int .u8 0,.int .u8 0,.int .i64 0]) ?_ 2 _ rfl;(with_reducible repeat (first|refine ai ?_ _|refine ax ?_|refine ah ?_ _));refine dh (cs:=#[.int .u8 ((aC aG bU).f0),.int .u8 0,.int .u8 0,.int .u8 0,.int .i64 0]) ?_ 1 _ rfl;(with_reducible repeat (first|refine ai ?_ _|refine ax ?_|refine ah ?_ _));refine dh (cs:=#[.int .u8 0,.int .u8 0,.int .u8 0,.int .u8 0,.int .i64 0]) ?_ 0 _ rfl;(with_reducible repeat (first|refine ai ?_ _|refine ax ?_|refine ah ?_ _));exact jg.out⟩,⟨by repeat (first|(with_reducible first|exact HB.out|apply aj|apply ag|apply ak|refine ay ?_ jO.out|refine ay ?_ pJ.out)|exact HB.out)⟩⟩
            ·
             rw [if_neg PG] at H
             have EX:(((aC aG bU).f0) == 3)=false:=beq_eq_false_iff_ne.mpr PG
             have ZF:(((aC aG bU).f0) != 3)=true:=bne_iff_ne.mpr PG
             (first|rw [EX]|(simp only [aX,aY];rw [EX])|skip)
             have H':=af.mk H
             clear H
             have ajE:=lM.out
             have ajh:=iD.out
             obtain ⟨afG,afF,afE,afD,afC,adF,adE,adD,adC,adB⟩:=iV jg.out
             go_wp2
             go_meet
             case rel=>exact ⟨_,((((aC aG bU).f0) == 4)),(by first|rfl|(simp;done)|(simp [*];done)),H',⟨by have:=D8.out;have:=FB.out;have:=Ec.out;first|omega|exact Nat.le_refl _⟩,⟨by (with_reducible repeat (first|refine ai ?_ _|refine ax ?_|refine ah ?_ _));refine dD ?_ iD.out _;(with_reducible repeat (first|refine ai ?_ _|refine ax ?_|refine ah ?_ _));refine dD ?_ iD.out _;(with_reducible repeat (first|refine ai ?_ _|refine ax ?_|refine ah ?_ _));refine dD ?_ iD.out _;(with_reducible repeat (first|refine ai ?_ _|refine ax ?_|refine ah ?_ _));refine dD ?_ iD.out _;(with_reducible repeat (first|refine ai ?_ _|refine ax ?_|refine ah ?_ _));refine dD ?_ iD.out _;(with_reducible repeat (first|refine ai ?_ _|refine ax ?_|refine ah ?_ _));exact ik.out⟩,⟨by (with_reducible repeat (first|refine ai ?_ _|refine ax ?_|refine ah ?_ _));refine dh (cs:=#[.int .u8 ((aC aG bU).f0),.int .u8 ((aC aG bU).f1),.int .u8 ((aC aG bU).f2),.int .u8 ((aC aG bU).f3),.int .i64 0]) ?_ 4 _ rfl;(with_reducible repeat (first|refine ai ?_ _|refine ax ?_|refine ah ?_ _));refine dh (cs:=#[.int .u8 ((aC aG bU).f0),.int .u8 ((aC aG bU).f1),.int .u8 ((aC aG bU).f2),.int .u8 0,.int .i64 0]) ?_ 3 _ rfl;(with_reducible repeat (first|refine ai ?_ _|refine ax ?_|refine ah ?_ _));refine dh (cs:=#[.int .u8 ((aC aG bU).f0),.int .u8 ((aC aG bU).f1),.int .u8 0,.int .u8 0,.int .i64 0]) ?_ 2 _ rfl;(with_reducible repeat (first|refine ai ?_ _|refine ax ?_|refine ah ?_ _));refine dh (cs:=#[.int .u8 ((aC aG bU).f0),.int .u8 0,.int .u8 0,.int .u8 0,.int .i64 0]) ?_ 1 _ rfl;(with_reducible repeat (first|refine ai ?_ _|refine ax ?_|refine ah ?_ _));refine dh (cs:=#[.int .u8 0,.int .u8 0,.int .u8 0,.int .u8 0,.int .i64 0]) ?_ 0 _ rfl;(with_reducible repeat (first|refine ai ?_ _|refine ax ?_|refine ah ?_ _));exact jg.out⟩,⟨by repeat (first|(with_reducible first|exact HB.out|apply aj|apply ag|apply ak|refine ay ?_ jO.out|refine ay ?_ pJ.out)|exact HB.out)⟩⟩
           case rest =>
            clear X3
            obtain ⟨kq,Aq,rfl,HA,O4,ik,jg,HB⟩:=hcut
            cases kq with
            | zero=>exact absurd HA.out (by simp [au.j3])
            | succ xJ =>
             have H:=HA.out
             clear HA
             simp only [au.j3] at H
             replace H:=Option.bind_eq_some_iff.mp H
             obtain ⟨t192,aaP,H⟩:=H
             replace H:(if t192=true then (if Aq=true then (if ((aC aG bU).f4) < 0 then (au.j4 xJ bU true bF aZ bn aG ((aC aG bU).f0) ((aC aG bU).f1) ((aC aG bU).f2) ((aC aG bU).f3) ((aC aG bU).f4)) else (au.j4 xJ bU (decide (((aC aG bU).f4) > (aG.length:Int))) bF aZ bn aG ((aC aG bU).f0) ((aC aG bU).f1) ((aC aG bU).f2) ((aC aG bU).f3) ((aC aG bU).f4))) else (au.j4 xJ bU false bF aZ bn aG ((aC aG bU).f0) ((aC aG bU).f1) ((aC aG bU).f2) ((aC aG bU).f3) ((aC aG bU).f4))) else (some (bU,4)))=some (r1,r2):=H
             have A31:=af.mk aaP
             clear aaP
             by_cases c32:t192=true
             ·
              subst c32
              have H1:(if Aq=true then (if ((aC aG bU).f4) < 0 then (au.j4 xJ bU true bF aZ bn aG ((aC aG bU).f0) ((aC aG bU).f1) ((aC aG bU).f2) ((aC aG bU).f3) ((aC aG bU).f4)) else (au.j4 xJ bU (decide (((aC aG bU).f4) > (aG.length:Int))) bF aZ bn aG ((aC aG bU).f0) ((aC aG bU).f1) ((aC aG bU).f2) ((aC aG bU).f3) ((aC aG bU).f4))) else (au.j4 xJ bU false bF aZ bn aG ((aC aG bU).f0) ((aC aG bU).f1) ((aC aG bU).f2) ((aC aG bU).f3) ((aC aG bU).f4)))=some (r1,r2):=by rw [if_pos rfl] at H;exact H
              clear H
              have H:=H1
              clear H1
              have X0:=af.mk H
              clear H
              have UT:=lM.out
              have UO:=iD.out
              obtain ⟨Dt,Dq,Dp,Dn,S9,CY,CX,CW,CV,Q8⟩:=iV jg.out
              go_upto_region 12 with (first|((with_reducible refine bV (f:=23) rfl ?_);refine fU (some 65) rfl rfl Tryd.func23 (by kernel_rfl) rfl #[.agg #[.int .u8 ((aC aG bU).f0),.int .u8 ((aC aG bU).f1),.int .u8 ((aC aG bU).f2),.int .u8 ((aC aG bU).f3),.int .i64 ((aC aG bU).f4)]] rfl (by (try simp only [List.map_toArray,List.map_cons,List.map_nil]);first|done|rfl|(simp only [List.length_drop,List.length_take];rfl)) ?_;(with_reducible refine (dI.calls xJ ((aC aG bU).f0) ((aC aG bU).f1) ((aC aG bU).f2) ((aC aG bU).f3) ((aC aG bU).f4) true _ ?dX A31.out).mono ?_);(case dX=>repeat (first|exact (Kd.bQ Eb.out HB.out)|(with_reducible refine Kd.dG ?_ _)|(with_reducible refine Kd.dH ?_ _)|(with_reducible refine Kd.dS ?_)));rintro e w36 ⟨rfl,hb⟩;refine ⟨_,rfl,?_⟩;have dW:=af.mk (bJ (g:=pV) (o:=.cells #[.slice fA bF.length eY,.string aZ,.string bn,.slice (some tN) aG.length fC] 25 (0,0)) (by (with_reducible repeat (first|refine ai ?_ _|refine ax ?_|refine ah ?_ _));exact ik.out) hb);have dV:=af.mk (bJ (g:=tC) (o:=.cells #[.int .u8 ((aC aG bU).f0),.int .u8 ((aC aG bU).f1),.int .u8 ((aC aG bU).f2),.int .u8 ((aC aG bU).f3),.int .i64 ((aC aG bU).f4)] 45 (0,0)) (by (with_reducible repeat (first|refine ai ?_ _|refine ax ?_|refine ah ?_ _));exact jg.out) hb);have dQ:=af.mk (bC (by repeat (first|(with_reducible first|exact HB.out|apply aj|apply ag|apply ak|refine ay ?_ jO.out|refine ay ?_ pJ.out)|exact HB.out)) hb);clear ik;clear jg;clear HB;have ik:=dW;have jg:=dV;have HB:=dQ;clear dW dV dQ;(try clear hb);(try clear hb2);(try clear hk);(try clear hi)))
              (try simp only [Act.put,List.setIfInBounds_toArray,List.set_cons_zero,List.set_cons_succ])
              go_cut [68] (fun v68 wc=>∃ (kq:Nat) (BB:Bool),v68=.bool BB∧af (au.j4 kq bU BB bF aZ bn aG ((aC aG bU).f0) ((aC aG bU).f1) ((aC aG bU).f2) ((aC aG bU).f3) ((aC aG bU).f4)=some (r1,r2))∧af (kq≤xJ)∧af (wc.heap[pV]? = some (.cells #[(.slice fA bF.length eY),.string aZ,.string bn,(.slice (some tN) aG.length fC)] 25 (0,0)))∧af (wc.heap[tC]? = some (.cells #[.int .u8 ((aC aG bU).f0),.int .u8 ((aC aG bU).f1),.int .u8 ((aC aG bU).f2),.int .u8 ((aC aG bU).f3),.int .i64 ((aC aG bU).f4)] 45 (0,0)))∧af (Below w.heap.size w wc))
              case first =>
               have H:=X0.out
               clear X0
               by_cases c37:Aq=true
               ·
                subst c37
                have H1:(if ((aC aG bU).f4) < 0 then (au.j4 xJ bU true bF aZ bn aG ((aC aG bU).f0) ((aC aG bU).f1) ((aC aG bU).f2) ((aC aG bU).f3) ((aC aG bU).f4)) else (au.j4 xJ bU (decide (((aC aG bU).f4) > (aG.length:Int))) bF aZ bn aG ((aC aG bU).f0) ((aC aG bU).f1) ((aC aG bU).f2) ((aC aG bU).f3) ((aC aG bU).f4)))=some (r1,r2):=by rw [if_pos rfl] at H;exact H
                clear H
                have H:=H1
                clear H1
                by_cases EU:((aC aG bU).f4) < 0
                ·
                 rw [if_pos EU] at H
                 have zD:decide (((aC aG bU).f4) < 0)=true:=decide_eq_true EU
                 clear EU
                 (first|rw [zD]|(simp only [aX,aY];rw [zD])|skip)
                 have H':=af.mk H
                 clear H
                 have ajz:=lM.out
                 have ajc:=iD.out
                 obtain ⟨afq,afp,afo,afn,afm,adp,ado,adn,adm,adl⟩:=iV jg.out
                 go_wp2
                 go_meet
                 case rel=>exact ⟨_,(true),(by first|rfl|(simp;done)|(simp [*];done)),H',⟨by have:=D8.out;have:=FB.out;have:=Ec.out;have:=O4.out;first|omega|exact Nat.le_refl _⟩,⟨by (with_reducible repeat (first|refine ai ?_ _|refine ax ?_|refine ah ?_ _));exact ik.out⟩,⟨by (with_reducible repeat (first|refine ai ?_ _|refine ax ?_|refine ah ?_ _));exact jg.out⟩,⟨by repeat (first|(with_reducible first|exact HB.out|apply aj|apply ag|apply ak|refine ay ?_ jO.out|refine ay ?_ pJ.out)|exact HB.out)⟩⟩
                ·
                 rw [if_neg EU] at H
                 have zD:decide (((aC aG bU).f4) < 0)=false:=decide_eq_false EU
                 clear EU
                 (first|rw [zD]|(simp only [aX,aY];rw [zD])|skip)
                 have H':=af.mk H
                 clear H
                 have ajy:=lM.out
                 have ajb:=iD.out
                 obtain ⟨afl,afk,afj,afi,afh,adk,adi,adh,adg,adf⟩:=iV jg.out
                 obtain ⟨SQ,SN,SL,SK,QZ,QY,QX,QW⟩:=lZ ik.out
                 go_wp2
                 go_meet
                 case rel=>exact ⟨_,(decide (((aC aG bU).f4) > (aG.length:Int))),(by first|rfl|(simp;done)|(simp [*];done)),H',⟨by have:=D8.out;have:=FB.out;have:=Ec.out;have:=O4.out;first|omega|exact Nat.le_refl _⟩,⟨by (with_reducible repeat (first|refine ai ?_ _|refine ax ?_|refine ah ?_ _));exact ik.out⟩,⟨by (with_reducible repeat (first|refine ai ?_ _|refine ax ?_|refine ah ?_ _));exact jg.out⟩,⟨by repeat (first|(with_reducible first|exact HB.out|apply aj|apply ag|apply ak|refine ay ?_ jO.out|refine ay ?_ pJ.out)|exact HB.out)⟩⟩
               ·
                replace c37:=Bool.eq_false_iff.mpr c37
                subst c37
                have H1:(au.j4 xJ bU false bF aZ bn aG ((aC aG bU).f0) ((aC aG bU).f1) ((aC aG bU).f2) ((aC aG bU).f3) ((aC aG bU).f4))=some (r1,r2):=by rw [if_neg (show ¬ (false=true) by decide)] at H;exact H
                clear H
                have H:=H1
                clear H1
                have H':=af.mk H
                clear H
                go_wp2
                go_meet
                case rel=>exact ⟨_,(false),(by first|rfl|(simp;done)|(simp [*];done)),H',⟨by have:=D8.out;have:=FB.out;have:=Ec.out;have:=O4.out;first|omega|exact Nat.le_refl _⟩,⟨by (with_reducible repeat (first|refine ai ?_ _|refine ax ?_|refine ah ?_ _));exact ik.out⟩,⟨by (with_reducible repeat (first|refine ai ?_ _|refine ax ?_|refine ah ?_ _));exact jg.out⟩,⟨by repeat (first|(with_reducible first|exact HB.out|apply aj|apply ag|apply ak|refine ay ?_ jO.out|refine ay ?_ pJ.out)|exact HB.out)⟩⟩
              case rest =>
               clear X0
               obtain ⟨kq,BB,rfl,HA,aar,ik,jg,HB⟩:=hcut
               cases kq with
               | zero=>exact absurd HA.out (by simp [au.j4])
               | succ uO =>
                have H:=HA.out
                clear HA
                simp only [au.j4] at H
                by_cases MG:BB=true
                ·
                 subst MG
                 have H1:(some (bU,12))=some (r1,r2):=by rw [if_pos rfl] at H;exact H
                 clear H
                 have H:=H1
                 clear H1
                 simp only [Option.some.injEq,Prod.mk.injEq] at H
                 obtain ⟨rfl,rfl⟩:=H
                 go_wp2
                 go_ret2
                 exact ⟨by first|rfl|(simp [aU,aT] <;> rfl)|(simp [*,aU,aT] <;> rfl),by repeat (first|(with_reducible first|exact HB.out|apply aj|apply ag|apply ak|refine ay ?_ jO.out|refine ay ?_ pJ.out)|exact HB.out)⟩
                ·
                 replace MG:=Bool.eq_false_iff.mpr MG
                 subst MG
                 have H1:((bu.f uO ((aC aG bU).f0) ((aC aG bU).f1) ((aC aG bU).f2) ((aC aG bU).f3) ((aC aG bU).f4)).bind fun t193=>(if t193=true then ((aQ.f uO bF aZ bn aG ((aC aG bU).f0) ((aC aG bU).f1) ((aC aG bU).f2) ((aC aG bU).f3) ((aC aG bU).f4)).bind fun t194=>(if t194=true then (au.l0 uO (wrap64 (bU+1)) bF aZ bn aG) else (some (bU,5)))) else (some (bU,5))))=some (r1,r2):=by rw [if_neg (show ¬ (false=true) by decide)] at H;exact H
                 clear H
                 have H:=H1
                 clear H1
                 replace H:=Option.bind_eq_some_iff.mp H
                 obtain ⟨t193,aaL,H⟩:=H
                 replace H:(if t193=true then ((aQ.f uO bF aZ bn aG ((aC aG bU).f0) ((aC aG bU).f1) ((aC aG bU).f2) ((aC aG bU).f3) ((aC aG bU).f4)).bind fun t194=>(if t194=true then (au.l0 uO (wrap64 (bU+1)) bF aZ bn aG) else (some (bU,5)))) else (some (bU,5)))=some (r1,r2):=H
                 have A45:=af.mk aaL
                 clear aaL
                 by_cases c46:t193=true
                 ·
                  subst c46
                  have H1:((aQ.f uO bF aZ bn aG ((aC aG bU).f0) ((aC aG bU).f1) ((aC aG bU).f2) ((aC aG bU).f3) ((aC aG bU).f4)).bind fun t194=>(if t194=true then (au.l0 uO (wrap64 (bU+1)) bF aZ bn aG) else (some (bU,5))))=some (r1,r2):=by rw [if_pos rfl] at H;exact H
                  clear H
                  have H:=H1
                  clear H1
                  replace H:=Option.bind_eq_some_iff.mp H
                  obtain ⟨t194,aaK,H⟩:=H
                  replace H:(if t194=true then (au.l0 uO (wrap64 (bU+1)) bF aZ bn aG) else (some (bU,5)))=some (r1,r2):=H
                  have A47:=af.mk aaK
                  clear aaK
                  by_cases XB:t194=true
                  ·
                   subst XB
                   have H1:(au.l0 uO (wrap64 (bU+1)) bF aZ bn aG)=some (r1,r2):=by rw [if_pos rfl] at H;exact H
                   clear H
                   have H:=H1
                   clear H1
                   have H':=af.mk H
                   clear H
                   have ajt:=lM.out
                   have ai6:=iD.out
                   obtain ⟨ae1,ae0,aeZ,aeY,aeX,acX,acW,acV,acU,acT⟩:=iV jg.out
                   go_wp2_with (first|((with_reducible refine bV (f:=24) rfl ?_);refine fU (some 86) rfl rfl Tryd.func24 (by kernel_rfl) rfl #[.agg #[.int .u8 ((aC aG bU).f0),.int .u8 ((aC aG bU).f1),.int .u8 ((aC aG bU).f2),.int .u8 ((aC aG bU).f3),.int .i64 ((aC aG bU).f4)]] rfl (by (try simp only [List.map_toArray,List.map_cons,List.map_nil]);first|done|rfl|(simp only [List.length_drop,List.length_take];rfl)) ?_;(with_reducible refine (bu.calls uO ((aC aG bU).f0) ((aC aG bU).f1) ((aC aG bU).f2) ((aC aG bU).f3) ((aC aG bU).f4) true _ A45.out).mono ?_);rintro e FT ⟨rfl,hb⟩;refine ⟨_,rfl,?_⟩;have dW:=af.mk (bJ (g:=pV) (o:=.cells #[.slice fA bF.length eY,.string aZ,.string bn,.slice (some tN) aG.length fC] 25 (0,0)) (by (with_reducible repeat (first|refine ai ?_ _|refine ax ?_|refine ah ?_ _));exact ik.out) hb);have dV:=af.mk (bJ (g:=tC) (o:=.cells #[.int .u8 ((aC aG bU).f0),.int .u8 ((aC aG bU).f1),.int .u8 ((aC aG bU).f2),.int .u8 ((aC aG bU).f3),.int .i64 ((aC aG bU).f4)] 45 (0,0)) (by (with_reducible repeat (first|refine ai ?_ _|refine ax ?_|refine ah ?_ _));exact jg.out) hb);have dQ:=af.mk (bC (by repeat (first|(with_reducible first|exact HB.out|apply aj|apply ag|apply ak|refine ay ?_ jO.out|refine ay ?_ pJ.out)|exact HB.out)) hb);clear ik;clear jg;clear HB;have ik:=dW;have jg:=dV;have HB:=dQ;clear dW dV dQ;(try clear hb);(try clear hb2);(try clear hk);(try clear hi);obtain ⟨SC,SB,SA,Sz,QR,QQ,QP,QO⟩:=lZ ik.out;obtain ⟨aeU,aeT,aeS,aeR,aeQ,acQ,acP,acO,acN,acM⟩:=iV jg.out)|(go_at_call 25;(with_reducible refine (aQ.calls uO _ _ bF aZ bn _ _ aG ((aC aG bU).f0) ((aC aG bU).f1) ((aC aG bU).f2) ((aC aG bU).f3) ((aC aG bU).f4) true _ ?dX ?fB ?jr ?jq A47.out).mono ?_);(case dX=>repeat (first|exact (Kd.bQ jk.out HB.out)|(with_reducible refine Kd.dG ?_ _)|(with_reducible refine Kd.dH ?_ _)|(with_reducible refine Kd.dS ?_)));(case fB=>exact jv.out);(case jr=>repeat (first|exact (Kd.bQ jL.out HB.out)|(with_reducible refine Kd.dG ?_ _)|(with_reducible refine Kd.dH ?_ _)|(with_reducible refine Kd.dS ?_)));(case jq=>exact lX.out);rintro e w54 ⟨rfl,hb⟩;have dW:=af.mk (bJ (g:=pV) (o:=.cells #[.slice fA bF.length eY,.string aZ,.string bn,.slice (some tN) aG.length fC] 25 (0,0)) (by (with_reducible repeat (first|refine ai ?_ _|refine ax ?_|refine ah ?_ _));exact ik.out) hb);have dV:=af.mk (bJ (g:=tC) (o:=.cells #[.int .u8 ((aC aG bU).f0),.int .u8 ((aC aG bU).f1),.int .u8 ((aC aG bU).f2),.int .u8 ((aC aG bU).f3),.int .i64 ((aC aG bU).f4)] 45 (0,0)) (by (with_reducible repeat (first|refine ai ?_ _|refine ax ?_|refine ah ?_ _));exact jg.out) hb);have dQ:=af.mk (bC (by repeat (first|(with_reducible first|exact HB.out|apply aj|apply ag|apply ak|refine ay ?_ jO.out|refine ay ?_ pJ.out)|exact HB.out)) hb);clear ik;clear jg;clear HB;have ik:=dW;have jg:=dV;have HB:=dQ;clear dW dV dQ;(try clear hb);(try clear hb2);(try clear hk);(try clear hi)))
                   go_roundg uO
                   case measure=>have:=D8.out;have:=FB.out;have:=Ec.out;have:=O4.out;have:=aar.out;omega
                   case rel=>exact ⟨(wrap64 (bU+1)),(by first|rfl|(simp;done)|(simp [*];done)),H',⟨by have:=D8.out;have:=FB.out;have:=Ec.out;have:=O4.out;have:=aar.out;omega⟩,⟨by (with_reducible repeat (first|refine ai ?_ _|refine ax ?_|refine ah ?_ _));exact ik.out⟩,⟨by repeat (first|(with_reducible first|exact HB.out|apply aj|apply ag|apply ak|refine ay ?_ jO.out|refine ay ?_ pJ.out)|exact HB.out)⟩⟩
                  ·
                   replace XB:=Bool.eq_false_iff.mpr XB
                   subst XB
                   have H1:(some (bU,5))=some (r1,r2):=by rw [if_neg (show ¬ (false=true) by decide)] at H;exact H
                   clear H
                   have H:=H1
                   clear H1
                   simp only [Option.some.injEq,Prod.mk.injEq] at H
                   obtain ⟨rfl,rfl⟩:=H
                   have ajq:=lM.out
                   have ai3:=iD.out
                   obtain ⟨aeK,aeJ,aeI,aeH,aeG,acG,acF,acE,acD,acC⟩:=iV jg.out
                   go_wp2_with (first|((with_reducible refine bV (f:=24) rfl ?_);refine fU (some 86) rfl rfl Tryd.func24 (by kernel_rfl) rfl #[.agg #[.int .u8 ((aC aG bU).f0),.int .u8 ((aC aG bU).f1),.int .u8 ((aC aG bU).f2),.int .u8 ((aC aG bU).f3),.int .i64 ((aC aG bU).f4)]] rfl (by (try simp only [List.map_toArray,List.map_cons,List.map_nil]);first|done|rfl|(simp only [List.length_drop,List.length_take];rfl)) ?_;(with_reducible refine (bu.calls uO ((aC aG bU).f0) ((aC aG bU).f1) ((aC aG bU).f2) ((aC aG bU).f3) ((aC aG bU).f4) true _ A45.out).mono ?_);rintro e w57 ⟨rfl,hb⟩;refine ⟨_,rfl,?_⟩;have dW:=af.mk (bJ (g:=pV) (o:=.cells #[.slice fA bF.length eY,.string aZ,.string bn,.slice (some tN) aG.length fC] 25 (0,0)) (by (with_reducible repeat (first|refine ai ?_ _|refine ax ?_|refine ah ?_ _));exact ik.out) hb);have dV:=af.mk (bJ (g:=tC) (o:=.cells #[.int .u8 ((aC aG bU).f0),.int .u8 ((aC aG bU).f1),.int .u8 ((aC aG bU).f2),.int .u8 ((aC aG bU).f3),.int .i64 ((aC aG bU).f4)] 45 (0,0)) (by (with_reducible repeat (first|refine ai ?_ _|refine ax ?_|refine ah ?_ _));exact jg.out) hb);have dQ:=af.mk (bC (by repeat (first|(with_reducible first|exact HB.out|apply aj|apply ag|apply ak|refine ay ?_ jO.out|refine ay ?_ pJ.out)|exact HB.out)) hb);clear ik;clear jg;clear HB;have ik:=dW;have jg:=dV;have HB:=dQ;clear dW dV dQ;(try clear hb);(try clear hb2);(try clear hk);(try clear hi);obtain ⟨Sv,Su,Sr,Sm,QN,QM,QL,QK⟩:=lZ ik.out;obtain ⟨JX,JW,JV,JU,JS,Ju,Jt,Js,Jr,Jq⟩:=iV jg.out)|(go_at_call 25;(with_reducible refine (aQ.calls uO _ _ bF aZ bn _ _ aG ((aC aG bU).f0) ((aC aG bU).f1) ((aC aG bU).f2) ((aC aG bU).f3) ((aC aG bU).f4) false _ ?dX ?fB ?jr ?jq A47.out).mono ?_);(case dX=>repeat (first|exact (Kd.bQ jk.out HB.out)|(with_reducible refine Kd.dG ?_ _)|(with_reducible refine Kd.dH ?_ _)|(with_reducible refine Kd.dS ?_)));(case fB=>exact jv.out);(case jr=>repeat (first|exact (Kd.bQ jL.out HB.out)|(with_reducible refine Kd.dG ?_ _)|(with_reducible refine Kd.dH ?_ _)|(with_reducible refine Kd.dS ?_)));(case jq=>exact lX.out);rintro e w60 ⟨rfl,hb⟩;have dW:=af.mk (bJ (g:=pV) (o:=.cells #[.slice fA bF.length eY,.string aZ,.string bn,.slice (some tN) aG.length fC] 25 (0,0)) (by (with_reducible repeat (first|refine ai ?_ _|refine ax ?_|refine ah ?_ _));exact ik.out) hb);have dV:=af.mk (bJ (g:=tC) (o:=.cells #[.int .u8 ((aC aG bU).f0),.int .u8 ((aC aG bU).f1),.int .u8 ((aC aG bU).f2),.int .u8 ((aC aG bU).f3),.int .i64 ((aC aG bU).f4)] 45 (0,0)) (by (with_reducible repeat (first|refine ai ?_ _|refine ax ?_|refine ah ?_ _));exact jg.out) hb);have dQ:=af.mk (bC (by repeat (first|(with_reducible first|exact HB.out|apply aj|apply ag|apply ak|refine ay ?_ jO.out|refine ay ?_ pJ.out)|exact HB.out)) hb);clear ik;clear jg;clear HB;have ik:=dW;have jg:=dV;have HB:=dQ;clear dW dV dQ;(try clear hb);(try clear hb2);(try clear hk);(try clear hi)))
                   go_ret2
                   exact ⟨by first|rfl|(simp [aU,aT] <;> rfl)|(simp [*,aU,aT] <;> rfl),by repeat (first|(with_reducible first|exact HB.out|apply aj|apply ag|apply ak|refine ay ?_ jO.out|refine ay ?_ pJ.out)|exact HB.out)⟩
                 ·
                  replace c46:=Bool.eq_false_iff.mpr c46
                  subst c46
                  have H1:(some (bU,5))=some (r1,r2):=by rw [if_neg (show ¬ (false=true) by decide)] at H;exact H
                  clear H
                  have H:=H1
                  clear H1
                  simp only [Option.some.injEq,Prod.mk.injEq] at H
                  obtain ⟨rfl,rfl⟩:=H
                  have ajo:=lM.out
                  have ai1:=iD.out
                  obtain ⟨RX,RV,RU,RS,RQ,QE,QD,QC,QB,QA⟩:=iV jg.out
                  go_wp2_with (first|((with_reducible refine bV (f:=24) rfl ?_);refine fU (some 86) rfl rfl Tryd.func24 (by kernel_rfl) rfl #[.agg #[.int .u8 ((aC aG bU).f0),.int .u8 ((aC aG bU).f1),.int .u8 ((aC aG bU).f2),.int .u8 ((aC aG bU).f3),.int .i64 ((aC aG bU).f4)]] rfl (by (try simp only [List.map_toArray,List.map_cons,List.map_nil]);first|done|rfl|(simp only [List.length_drop,List.length_take];rfl)) ?_;(with_reducible refine (bu.calls uO ((aC aG bU).f0) ((aC aG bU).f1) ((aC aG bU).f2) ((aC aG bU).f3) ((aC aG bU).f4) false _ A45.out).mono ?_);rintro e w63 ⟨rfl,hb⟩;refine ⟨_,rfl,?_⟩;have dW:=af.mk (bJ (g:=pV) (o:=.cells #[.slice fA bF.length eY,.string aZ,.string bn,.slice (some tN) aG.length fC] 25 (0,0)) (by (with_reducible repeat (first|refine ai ?_ _|refine ax ?_|refine ah ?_ _));exact ik.out) hb);have dV:=af.mk (bJ (g:=tC) (o:=.cells #[.int .u8 ((aC aG bU).f0),.int .u8 ((aC aG bU).f1),.int .u8 ((aC aG bU).f2),.int .u8 ((aC aG bU).f3),.int .i64 ((aC aG bU).f4)] 45 (0,0)) (by (with_reducible repeat (first|refine ai ?_ _|refine ax ?_|refine ah ?_ _));exact jg.out) hb);have dQ:=af.mk (bC (by repeat (first|(with_reducible first|exact HB.out|apply aj|apply ag|apply ak|refine ay ?_ jO.out|refine ay ?_ pJ.out)|exact HB.out)) hb);clear ik;clear jg;clear HB;have ik:=dW;have jg:=dV;have HB:=dQ;clear dW dV dQ;(try clear hb);(try clear hb2);(try clear hk);(try clear hi)))
                  go_ret2
                  exact ⟨by first|rfl|(simp [aU,aT] <;> rfl)|(simp [*,aU,aT] <;> rfl),by repeat (first|(with_reducible first|exact HB.out|apply aj|apply ag|apply ak|refine ay ?_ jO.out|refine ay ?_ pJ.out)|exact HB.out)⟩
             ·
              replace c32:=Bool.eq_false_iff.mpr c32
              subst c32
              have H1:(some (bU,4))=some (r1,r2):=by rw [if_neg (show ¬ (false=true) by decide)] at H;exact H
              clear H
              have H:=H1
              clear H1
              simp only [Option.some.injEq,Prod.mk.injEq] at H
              obtain ⟨rfl,rfl⟩:=H
              have UR:=lM.out
              have UN:=iD.out
              obtain ⟨JR,JQ,JP,JO,RP,Jp,Jo,Jn,Jm,Qz⟩:=iV jg.out
              go_wp2_with (first|((with_reducible refine bV (f:=23) rfl ?_);refine fU (some 65) rfl rfl Tryd.func23 (by kernel_rfl) rfl #[.agg #[.int .u8 ((aC aG bU).f0),.int .u8 ((aC aG bU).f1),.int .u8 ((aC aG bU).f2),.int .u8 ((aC aG bU).f3),.int .i64 ((aC aG bU).f4)]] rfl (by (try simp only [List.map_toArray,List.map_cons,List.map_nil]);first|done|rfl|(simp only [List.length_drop,List.length_take];rfl)) ?_;(with_reducible refine (dI.calls xJ ((aC aG bU).f0) ((aC aG bU).f1) ((aC aG bU).f2) ((aC aG bU).f3) ((aC aG bU).f4) false _ ?dX A31.out).mono ?_);(case dX=>repeat (first|exact (Kd.bQ Eb.out HB.out)|(with_reducible refine Kd.dG ?_ _)|(with_reducible refine Kd.dH ?_ _)|(with_reducible refine Kd.dS ?_)));rintro e w66 ⟨rfl,hb⟩;refine ⟨_,rfl,?_⟩;have dW:=af.mk (bJ (g:=pV) (o:=.cells #[.slice fA bF.length eY,.string aZ,.string bn,.slice (some tN) aG.length fC] 25 (0,0)) (by (with_reducible repeat (first|refine ai ?_ _|refine ax ?_|refine ah ?_ _));exact ik.out) hb);have dV:=af.mk (bJ (g:=tC) (o:=.cells #[.int .u8 ((aC aG bU).f0),.int .u8 ((aC aG bU).f1),.int .u8 ((aC aG bU).f2),.int .u8 ((aC aG bU).f3),.int .i64 ((aC aG bU).f4)] 45 (0,0)) (by (with_reducible repeat (first|refine ai ?_ _|refine ax ?_|refine ah ?_ _));exact jg.out) hb);have dQ:=af.mk (bC (by repeat (first|(with_reducible first|exact HB.out|apply aj|apply ag|apply ak|refine ay ?_ jO.out|refine ay ?_ pJ.out)|exact HB.out)) hb);clear ik;clear jg;clear HB;have ik:=dW;have jg:=dV;have HB:=dQ;clear dW dV dQ;(try clear hb);(try clear hb2);(try clear hk);(try clear hi)))
              go_ret2
              exact ⟨by first|rfl|(simp [aU,aT] <;> rfl)|(simp [*,aU,aT] <;> rfl),by repeat (first|(with_reducible first|exact HB.out|apply aj|apply ag|apply ak|refine ay ?_ jO.out|refine ay ?_ pJ.out)|exact HB.out)⟩
          ·
           rw [if_neg c20] at H
           exact absurd H (by simp)
         ·
          rw [if_neg c19] at H
          have zF:decide (bU < (aG.length:Int))=false:=decide_eq_false c19
          clear c19
          simp only [Option.some.injEq,Prod.mk.injEq] at H
          obtain ⟨rfl,rfl⟩:=H
          obtain ⟨aeq,aep,aeo,aen,acj,aci,ach,acg⟩:=lZ ik.out
          go_wp2
          go_ret2
          exact ⟨by first|rfl|(simp [aU,aT] <;> rfl)|(simp [*,aU,aT] <;> rfl),by repeat (first|(with_reducible first|exact HB.out|apply aj|apply ag|apply ak|refine ay ?_ jO.out)|exact HB.out)⟩
end Go.Proofs.YtgfnpdfhdgenbaaDoor.P
end
section
namespace Go.Proofs.YtgfnpdfhdgenbaaDoor.P
open Go.RowKit Go.Proofs.ae.bf Go.Proofs.ae.bY Go.Proofs.ae.cZ
theorem Ev.ite {α:Type} {p:Prop} [Decidable p] {f g:Nat→Option α} {a b:α} (h1:p→Ev f a) (h2:¬p→Ev g b):Ev (fun k=>if p then f k else g k) (if p then a else b):=by
  by_cases h:p
  · rw [if_pos h];exact Ev.congr (fun k=>if_pos h) (h1 h)
  · rw [if_neg h];exact Ev.congr (fun k=>if_neg h) (h2 h)
theorem Ev.out {α:Type} {g:Nat→Option α} {a b:α} (h:Ev g a) (e:a=b):Ev g b:=e ▸ h
def scan {β:Type} (bad:Nat→Option β) (fin:β):Nat→Nat→β
  | 0,_=>fin
  | d+1,i=>match bad i with
    | some b=>b
    | none=>scan bad fin d (i+1)
theorem AX {β:Type} {bad:Nat→Option β} {fin:β} {d i:Nat} (h:bad i=none):scan bad fin (d+1) i=scan bad fin d (i+1):=by simp [scan,h]
theorem AV {β:Type} {bad:Nat→Option β} {fin:β} {d i:Nat} {b:β} (h:bad i=some b):scan bad fin (d+1) i=b:=by simp [scan,h]
theorem rJ {β:Type} {bad:Nat→Option β} {fin:β}:∀ (d i:Nat),(scan bad fin d i=fin∧∀ j,i≤j→j < i+d→bad j=none) ∨ ∃ j b,i≤j∧j < i+d∧bad j=some b∧scan bad fin d i=b∧∀ q,i≤q→q < j→bad q=none
  | 0,_=>.inl ⟨rfl,fun j h1 h2=>by omega⟩
  | d+1,i=>by
    cases hb:bad i with
    | some b=>exact .inr ⟨i,b,Nat.le_refl _,by omega,hb,AV hb,fun q h1 h2=>by omega⟩
    | none =>
      rw [AX hb]
      rcases rJ (bad:=bad) (fin:=fin) d (i+1) with ⟨h1,h2⟩|⟨j,b,h1,h2,h3,h4,h5⟩
      · refine .inl ⟨h1,fun j hj hj2=>?_⟩
        rcases Nat.eq_or_lt_of_le hj with e|e
        · rw [← e];exact hb
        · exact h2 j e (by omega)
      · refine .inr ⟨j,b,by omega,by omega,h3,h4,fun q hq hq2=>?_⟩
        rcases Nat.eq_or_lt_of_le hq with e|e
        · rw [← e];exact hb
        · exact h5 q e hq2
theorem oM {β:Type} {g:Nat→Nat→Option β} (bad:Nat→Option β) (n:Nat) (fin:β)
    (step:∀ i,i < n→bad i=none→∀ r,Ev (fun k=>g k (i+1)) r→Ev (fun k=>g k i) r)
    (stop:∀ i,i < n→∀ b,bad i=some b→Ev (fun k=>g k i) b)
    (done:(∀ j,j < n→bad j=none)→Ev (fun k=>g k n) fin):∀ d i,i+d=n→(∀ j,j < i→bad j=none)→Ev (fun k=>g k i) (scan bad fin d i)
  | 0,i,h,hp=>by
    obtain rfl:i=n:=by omega
    exact done hp
  | d+1,i,h,hp=>by
    cases hb:bad i with
    | some b=>rw [AV hb];exact stop i (by omega) b hb
    | none =>
      rw [AX hb]
      refine step i (by omega) hb _ (oM bad n fin step stop done d (i+1) (by omega) fun j hj=>?_)
      rcases Nat.lt_succ_iff_lt_or_eq.1 hj with h1|h1
      · exact hp j h1
      · rw [h1];exact hb
def allB (n:Nat) (p:Nat→Bool):Bool:=(List.range n).all p
theorem nZ {n:Nat} {p:Nat→Bool}:allB n p=true ↔ ∀ j,j < n→p j=true:=by simp [allB]
theorem yS (n:Nat) (p:Nat→Bool) (fin:Bool):scan (fun i=>if p i then none else some false) fin n 0=(allB n p && fin):=by
  rcases rJ (bad:=fun i=>if p i then none else some false) (fin:=fin) n 0 with ⟨h1,h2⟩|⟨j,b,h1,h2,h3,h4,h5⟩
  · rw [h1]
    have:allB n p=true:=nZ.2 fun j hj=>by
      have:=h2 j (Nat.zero_le _) (by omega)
      simpa using this
    rw [this,Bool.true_and]
  · rw [h4]
    have hp:p j=false∧b=false:=by
      cases hp:p j <;> simp [hp] at h3
      exact ⟨rfl,h3⟩
    have:allB n p=false:=by
      rw [← Bool.not_eq_true,nZ]
      intro h
      have:=h j (by omega)
      rw [hp.1] at this
      cases this
    rw [this,hp.2,Bool.false_and]
theorem wrapN {i n:Nat} (h:i < n) (hn:n≤9223372036854775807):wrap64 ((i:Int)+1)=((i+1:Nat):Int):=by
  unfold wrap64
  omega
def nJ (c n:Int):Int:=if 48≤c then (if c - 48 < n then c - 48 else -1) else -1
theorem xA {c n:Int} (h:0≤nJ c n):nJ c n=c - 48∧48≤c∧c - 48 < n:=by
  unfold nJ at h ⊢
  split at h <;> rename_i h1
  · split at h <;> rename_i h2
    · rw [if_pos h1,if_pos h2];exact ⟨rfl,h1,h2⟩
    · omega
  · omega
theorem Oz {c n:Int}:0≤nJ c n ↔ 48≤c∧c - 48 < n:=by
  refine ⟨fun h=>(xA h).2,fun ⟨h1,h2⟩=>?_⟩
  unfold nJ
  rw [if_pos h1,if_pos h2]
  omega
def okB (s:ByteArray) (n:Int):Bool:=allB s.size fun i=>bt s i == 105 || decide (0≤nJ (bt s i) n)
def zZ (s:ByteArray) (n:Int):Bool:=decide (0 < s.size) && decide (s.size≤6) && okB s n
def jH (t:List ByteArray):Bool:=allB t.length (fun j=>zZ (eG ByteArray.empty t j) t.length) && (decide (1≤t.length) && decide (t.length≤8))
def sU (t:List ByteArray) (s:ByteArray):Bool:=allB s.size (fun i=>decide (0≤nJ (bt s i) t.length)) && jH t
theorem qK (s:ByteArray) (a:Nat) (h:a < s.size):(s.extract a (a+1)).size=1:=by
  simp
  omega
theorem Fa (s:ByteArray) (a:Nat) (h:a < s.size):bt (s.extract a (a+1)) 0=bt s a:=by
  unfold bt
  have h1:(0:Int).toNat < (s.extract a (a+1)).size:=by rw [qK s a h];decide
  have h2:(a:Int).toNat < s.size:=by omega
  rw [dif_pos h1,dif_pos h2]
  congr 2
  show (s.extract a (a+1)).data[(0:Int).toNat]=s.data[(a:Int).toNat]
  simp
def bP (t:List ByteArray) (s:ByteArray) (a:Int):Int:=if a < s.size then (if (decide (0≤nJ (bt s a) t.length) && jH t)=true then bt s a - 48 else -1) else -1
def Py (t:List ByteArray) (i:Int):ByteArray:=if (jH t && (decide (0≤i) && decide (i < t.length)))=true then eG ByteArray.empty t i else ⟨#[]⟩
def iH (t:List ByteArray) (i:Int):Int:=(Py t i).size
def U8 (n:Int):Prop:=0≤n∧n≤255
def I64 (n:Int):Prop:=-9223372036854775808≤n∧n≤9223372036854775807
def WfI (x:gY):Prop:=U8 x.f0∧U8 x.f1∧U8 x.f2∧U8 x.f3∧I64 x.f4
def Wf (code:List gY):Prop:=∀ i:Nat,WfI (code.getD i z45)
theorem agF:WfI z45:=by
  unfold WfI U8 I64
  decide
theorem UG (l:List gY) (i:Nat):aC l (i:Int)=l.getD i z45:=rfl
theorem getD_take (l:List gY) (m i:Nat):(l.take m).getD i z45=if i < m then l.getD i z45 else z45:=by
  rw [List.getD_eq_getElem?_getD,List.getD_eq_getElem?_getD,List.getElem?_take]
  split <;> rfl
theorem Wf.take {code:List gY} (h:Wf code) (m:Nat):Wf (code.take m):=fun i=>by
  rw [getD_take]
  split
  · exact h i
  · exact agF
theorem yU {t:List ByteArray} (h:jH t=true) (i:Nat) (hi:i < t.length):1≤iH t i∧iH t i≤6:=by
  have h':=h
  unfold jH at h'
  simp only [Bool.and_eq_true,decide_eq_true_eq] at h'
  have h2:=nZ.1 h'.1 i hi
  unfold zZ at h2
  simp only [Bool.and_eq_true,decide_eq_true_eq] at h2
  unfold iH Py
  rw [h,if_pos (by simp;omega)]
  omega
theorem Eh (t:List ByteArray) (i:Int):0≤iH t i∧iH t i≤6:=by
  by_cases h:(jH t && (decide (0≤i) && decide (i < t.length)))=true
  · simp only [Bool.and_eq_true,decide_eq_true_eq] at h
    obtain ⟨n,rfl⟩:=Int.eq_ofNat_of_zero_le h.2.1
    have:=yU h.1 n (by omega)
    omega
  · unfold iH Py
    rw [if_neg h]
    decide
end Go.Proofs.YtgfnpdfhdgenbaaDoor.P
end
section
namespace Go.Proofs.YtgfnpdfhdgenbaaDoor.P
open Go.RowKit Go.Proofs.ae.bf Go.Proofs.ae.bY Go.Proofs.ae.cZ
attribute [local go_sem] kU kS mF mD jR jQ kT kR
def gq.f (k:Nat) (bF:List ByteArray) (aZ:ByteArray) (bn:ByteArray) (aG:List (gY)):Option (Bool):=(bM.f k bF aZ bn aG).bind fun t196=>(if t196=true then (if (aG.length:Int) > 60 then (some false) else ((au.f k bF aZ bn aG).bind fun zI=>(some (zI.2 == 0)))) else (some false))
theorem gq.mono:∀ a0 a1 a2 a3 k,eu (gq.f k a0 a1 a2 a3) (gq.f (k+1) a0 a1 a2 a3):=by
 intro a0 a1 a2 a3 k
 unfold gq.f
 repeat' with_reducible first|apply bM.mono|apply au.mono|exact eu.refl _|exact eu.none _|refine eu.ite ?_ ?_|refine eu.bind ?_ (fun _=>?_)
set_option maxHeartbeats 8000000 in
set_option maxRecDepth 100000 in
theorem gq.calls (k:Nat) (fA:Option Addr) (eY:Nat) (bF:List ByteArray) (aZ:ByteArray) (bn:ByteArray) (gz:Option Addr) (fC:Nat) (aG:List (gY)) (r:Bool) (w:World) (jX:Kd.C Kd.string w fA bF.length bF) (jZ:bF.length≤eY) (jW:Kd.C uU w gz aG.length aG) (jY:aG.length≤fC) (EG:Kd.C zV w zW qJ.length qJ) (h:gq.f k bF aZ bn aG=some r) :
  Calls Tryd.prog 6 #[.agg #[.slice fA bF.length eY,.string aZ,.string bn,.slice gz aG.length fC]] w fun e w'=>e=.returned (.bool r)∧Below w.heap.size w w':=by
 have Ad:=Tryd.underlying25
 have jk:=af.mk jX
 have jv:=af.mk jZ
 clear jX jZ
 have jL:=af.mk jW
 have lX:=af.mk jY
 clear jW jY
 have Eb:=af.mk EG
 clear EG
 have HB:=af.mk (Below.refl w.heap.size w)
 have H:((bM.f k bF aZ bn aG).bind fun t196=>(if t196=true then (if (aG.length:Int) > 60 then (some false) else ((au.f k bF aZ bn aG).bind fun zI=>(some (zI.2 == 0)))) else (some false)))=some r:=h
 clear h
 replace H:=Option.bind_eq_some_iff.mp H
 obtain ⟨t196,KR,H⟩:=H
 replace H:(if t196=true then (if (aG.length:Int) > 60 then (some false) else ((au.f k bF aZ bn aG).bind fun zI=>(some (zI.2 == 0)))) else (some false))=some r:=H
 have A2:=af.mk KR
 clear KR
 by_cases c3:t196=true
 ·
  subst c3
  have H1:(if (aG.length:Int) > 60 then (some false) else ((au.f k bF aZ bn aG).bind fun zI=>(some (zI.2 == 0))))=some r:=by rw [if_pos rfl] at H;exact H
  clear H
  have H:=H1
  clear H1
  by_cases c4:(aG.length:Int) > 60
  ·
   rw [if_pos c4] at H
   have qp:decide (60 < (aG.length:Int))=true:=decide_eq_true c4
   have DW:decide (60 < aG.length)=true:=decide_eq_true (by omega)
   clear c4
   obtain rfl:=Option.some.inj H
   go_enter Tryd.func6,Tryd.ntmps6
   go_wp2_with (first|((with_reducible refine bD (N:=1) rfl ?_);(try (refine iw (by rfl) ?_;dsimp only));refine ed ?hg (N:=1) ?hd (cs:=#[.slice fA bF.length eY,.string aZ,.string bn,.slice gz aG.length fC]) (t:=25) ?hr ?_;(case hd=>rfl);(case hg=>rfl);(case hr=>first|(go_simp;done)|(go_simp;rfl));intro vS hg w5 hbox hb;have dW:=af.mk (bC (by repeat (first|(with_reducible first|exact HB.out|apply aj|apply ag|apply ak)|exact HB.out)) hb);have dV:=af.mk (hbox);have dQ:=af.mk ((by rw [hg];exact (df (by repeat (first|(with_reducible first|exact HB.out|apply aj|apply ag|apply ak)|exact HB.out))):w.heap.size≤vS));have gK:=dQ;clear HB;have HB:=dW;have ou:=dV;have VH:=dQ;have wG:=gK;clear dW dV dQ gK;clear hb hbox hg;obtain ⟨Xf,Xe,Xd,Xc,WV,WU,WT,WS⟩:=lZ ou.out)|((with_reducible refine bV (f:=13) rfl ?_);refine fU (some 6) rfl rfl Tryd.func13 (by kernel_rfl) rfl #[.agg #[.slice fA bF.length eY,.string aZ,.string bn,.slice gz aG.length fC]] rfl (by (try simp only [List.map_toArray,List.map_cons,List.map_nil]);first|done|rfl|(simp only [List.length_drop,List.length_take];rfl)) ?_;(with_reducible refine (bM.calls k _ _ bF aZ bn _ _ aG true _ ?dX ?fB ?jr ?jq A2.out).mono ?_);(case dX=>repeat (first|exact (Kd.bQ jk.out HB.out)|(with_reducible refine Kd.dG ?_ _)|(with_reducible refine Kd.dH ?_ _)|(with_reducible refine Kd.dS ?_)));(case fB=>exact jv.out);(case jr=>repeat (first|exact (Kd.bQ jL.out HB.out)|(with_reducible refine Kd.dG ?_ _)|(with_reducible refine Kd.dH ?_ _)|(with_reducible refine Kd.dS ?_)));(case jq=>exact lX.out);rintro e w7 ⟨rfl,hb⟩;refine ⟨_,rfl,?_⟩;have dW:=af.mk (bJ (g:=vS) (o:=.cells #[.slice fA bF.length eY,.string aZ,.string bn,.slice gz aG.length fC] 25 (0,0)) (by (with_reducible repeat (first|refine ai ?_ _|refine ax ?_|refine ah ?_ _));exact ou.out) hb);have dV:=af.mk (bC (by repeat (first|(with_reducible first|exact HB.out|apply aj|apply ag|apply ak|refine ay ?_ wG.out)|exact HB.out)) hb);clear ou;clear HB;have ou:=dW;have HB:=dV;clear dW dV;(try clear hb);(try clear hb2);(try clear hk);(try clear hi);obtain ⟨Hg,Hf,He,Ha,GV,GU,GR,GN⟩:=lZ ou.out))
   go_ret
   exact ⟨by first|rfl|(simp [aU,aT] <;> rfl)|(simp [*,aU,aT] <;> rfl),by repeat (first|(with_reducible first|exact HB.out|apply aj|apply ag|apply ak|refine ay ?_ wG.out)|exact HB.out)⟩
  ·
   rw [if_neg c4] at H
   have qp:decide (60 < (aG.length:Int))=false:=decide_eq_false c4
   have DW:decide (60 < aG.length)=false:=decide_eq_false (by omega)
   clear c4
   replace H:=Option.bind_eq_some_iff.mp H
   obtain ⟨⟨t197,t198⟩,VM,H⟩:=H
   replace H:(some (t198 == 0))=some r:=H
   have A9:=af.mk VM
   clear VM
   obtain rfl:=Option.some.inj H
   go_enter Tryd.func6,Tryd.ntmps6
   go_wp2_with (first|((with_reducible refine bD (N:=1) rfl ?_);(try (refine iw (by rfl) ?_;dsimp only));refine ed ?hg (N:=1) ?hd (cs:=#[.slice fA bF.length eY,.string aZ,.string bn,.slice gz aG.length fC]) (t:=25) ?hr ?_;(case hd=>rfl);(case hg=>rfl);(case hr=>first|(go_simp;done)|(go_simp;rfl));intro vS hg w10 hbox hb;have dW:=af.mk (bC (by repeat (first|(with_reducible first|exact HB.out|apply aj|apply ag|apply ak)|exact HB.out)) hb);have dV:=af.mk (hbox);have dQ:=af.mk ((by rw [hg];exact (df (by repeat (first|(with_reducible first|exact HB.out|apply aj|apply ag|apply ak)|exact HB.out))):w.heap.size≤vS));have gK:=dQ;clear HB;have HB:=dW;have ou:=dV;have VH:=dQ;have wG:=gK;clear dW dV dQ gK;clear hb hbox hg;obtain ⟨yE,yD,yC,yB,yu,yt,yl,yj⟩:=lZ ou.out)|((with_reducible refine bV (f:=13) rfl ?_);refine fU (some 6) rfl rfl Tryd.func13 (by kernel_rfl) rfl #[.agg #[.slice fA bF.length eY,.string aZ,.string bn,.slice gz aG.length fC]] rfl (by (try simp only [List.map_toArray,List.map_cons,List.map_nil]);first|done|rfl|(simp only [List.length_drop,List.length_take];rfl)) ?_;(with_reducible refine (bM.calls k _ _ bF aZ bn _ _ aG true _ ?dX ?fB ?jr ?jq A2.out).mono ?_);(case dX=>repeat (first|exact (Kd.bQ jk.out HB.out)|(with_reducible refine Kd.dG ?_ _)|(with_reducible refine Kd.dH ?_ _)|(with_reducible refine Kd.dS ?_)));(case fB=>exact jv.out);(case jr=>repeat (first|exact (Kd.bQ jL.out HB.out)|(with_reducible refine Kd.dG ?_ _)|(with_reducible refine Kd.dH ?_ _)|(with_reducible refine Kd.dS ?_)));(case jq=>exact lX.out);rintro e w12 ⟨rfl,hb⟩;refine ⟨_,rfl,?_⟩;have dW:=af.mk (bJ (g:=vS) (o:=.cells #[.slice fA bF.length eY,.string aZ,.string bn,.slice gz aG.length fC] 25 (0,0)) (by (with_reducible repeat (first|refine ai ?_ _|refine ax ?_|refine ah ?_ _));exact ou.out) hb);have dV:=af.mk (bC (by repeat (first|(with_reducible first|exact HB.out|apply aj|apply ag|apply ak|refine ay ?_ wG.out)|exact HB.out)) hb);clear ou;clear HB;have ou:=dW;have HB:=dV;clear dW dV;(try clear hb);(try clear hb2);(try clear hk);(try clear hi);obtain ⟨TJ,TI,TG,TF,RH,RG,RF,RD⟩:=lZ ou.out)|((with_reducible refine bV (f:=14) rfl ?_);refine fU (some 16) rfl rfl Tryd.func14 (by kernel_rfl) rfl #[.agg #[.slice fA bF.length eY,.string aZ,.string bn,.slice gz aG.length fC]] rfl (by (try simp only [List.map_toArray,List.map_cons,List.map_nil]);first|done|rfl|(simp only [List.length_drop,List.length_take];rfl)) ?_;(with_reducible refine (au.calls k _ _ bF aZ bn _ _ aG t197 t198 _ ?dX ?fB ?jr ?jq ?Yy A9.out).mono ?_);(case dX=>repeat (first|exact (Kd.bQ jk.out HB.out)|(with_reducible refine Kd.dG ?_ _)|(with_reducible refine Kd.dH ?_ _)|(with_reducible refine Kd.dS ?_)));(case fB=>exact jv.out);(case jr=>repeat (first|exact (Kd.bQ jL.out HB.out)|(with_reducible refine Kd.dG ?_ _)|(with_reducible refine Kd.dH ?_ _)|(with_reducible refine Kd.dS ?_)));(case jq=>exact lX.out);(case Yy=>repeat (first|exact (Kd.bQ Eb.out HB.out)|(with_reducible refine Kd.dG ?_ _)|(with_reducible refine Kd.dH ?_ _)|(with_reducible refine Kd.dS ?_)));rintro e w14 ⟨rfl,hb⟩;refine ⟨_,rfl,?_⟩;have dW:=af.mk (bJ (g:=vS) (o:=.cells #[.slice fA bF.length eY,.string aZ,.string bn,.slice gz aG.length fC] 25 (0,0)) (by (with_reducible repeat (first|refine ai ?_ _|refine ax ?_|refine ah ?_ _));exact ou.out) hb);have dV:=af.mk (bC (by repeat (first|(with_reducible first|exact HB.out|apply aj|apply ag|apply ak|refine ay ?_ wG.out)|exact HB.out)) hb);clear ou;clear HB;have ou:=dW;have HB:=dV;clear dW dV;(try clear hb);(try clear hb2);(try clear hk);(try clear hi)))
   go_ret
   exact ⟨by first|rfl|(simp [aU,aT] <;> rfl)|(simp [*,aU,aT] <;> rfl),by repeat (first|(with_reducible first|exact HB.out|apply aj|apply ag|apply ak|refine ay ?_ wG.out)|exact HB.out)⟩
 ·
  replace c3:=Bool.eq_false_iff.mpr c3
  subst c3
  have H1:(some false)=some r:=by rw [if_neg (show ¬ (false=true) by decide)] at H;exact H
  clear H
  have H:=H1
  clear H1
  obtain rfl:=Option.some.inj H
  go_enter Tryd.func6,Tryd.ntmps6
  go_wp2_with (first|((with_reducible refine bD (N:=1) rfl ?_);(try (refine iw (by rfl) ?_;dsimp only));refine ed ?hg (N:=1) ?hd (cs:=#[.slice fA bF.length eY,.string aZ,.string bn,.slice gz aG.length fC]) (t:=25) ?hr ?_;(case hd=>rfl);(case hg=>rfl);(case hr=>first|(go_simp;done)|(go_simp;rfl));intro vS hg w15 hbox hb;have dW:=af.mk (bC (by repeat (first|(with_reducible first|exact HB.out|apply aj|apply ag|apply ak)|exact HB.out)) hb);have dV:=af.mk (hbox);have dQ:=af.mk ((by rw [hg];exact (df (by repeat (first|(with_reducible first|exact HB.out|apply aj|apply ag|apply ak)|exact HB.out))):w.heap.size≤vS));have gK:=dQ;clear HB;have HB:=dW;have ou:=dV;have VH:=dQ;have wG:=gK;clear dW dV dQ gK;clear hb hbox hg;obtain ⟨yA,yz,yx,yw,yh,yg,yf,yc⟩:=lZ ou.out)|((with_reducible refine bV (f:=13) rfl ?_);refine fU (some 6) rfl rfl Tryd.func13 (by kernel_rfl) rfl #[.agg #[.slice fA bF.length eY,.string aZ,.string bn,.slice gz aG.length fC]] rfl (by (try simp only [List.map_toArray,List.map_cons,List.map_nil]);first|done|rfl|(simp only [List.length_drop,List.length_take];rfl)) ?_;(with_reducible refine (bM.calls k _ _ bF aZ bn _ _ aG false _ ?dX ?fB ?jr ?jq A2.out).mono ?_);(case dX=>repeat (first|exact (Kd.bQ jk.out HB.out)|(with_reducible refine Kd.dG ?_ _)|(with_reducible refine Kd.dH ?_ _)|(with_reducible refine Kd.dS ?_)));(case fB=>exact jv.out);(case jr=>repeat (first|exact (Kd.bQ jL.out HB.out)|(with_reducible refine Kd.dG ?_ _)|(with_reducible refine Kd.dH ?_ _)|(with_reducible refine Kd.dS ?_)));(case jq=>exact lX.out);rintro e w17 ⟨rfl,hb⟩;refine ⟨_,rfl,?_⟩;have dW:=af.mk (bJ (g:=vS) (o:=.cells #[.slice fA bF.length eY,.string aZ,.string bn,.slice gz aG.length fC] 25 (0,0)) (by (with_reducible repeat (first|refine ai ?_ _|refine ax ?_|refine ah ?_ _));exact ou.out) hb);have dV:=af.mk (bC (by repeat (first|(with_reducible first|exact HB.out|apply aj|apply ag|apply ak|refine ay ?_ wG.out)|exact HB.out)) hb);clear ou;clear HB;have ou:=dW;have HB:=dV;clear dW dV;(try clear hb);(try clear hb2);(try clear hk);(try clear hi)))
  go_ret
  exact ⟨by first|rfl|(simp [aU,aT] <;> rfl)|(simp [*,aU,aT] <;> rfl),by repeat (first|(with_reducible first|exact HB.out|apply aj|apply ag|apply ak|refine ay ?_ wG.out)|exact HB.out)⟩
end Go.Proofs.YtgfnpdfhdgenbaaDoor.P
end
