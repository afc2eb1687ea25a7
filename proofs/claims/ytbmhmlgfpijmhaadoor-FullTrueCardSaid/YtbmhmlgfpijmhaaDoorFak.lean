/- Parts of the proof of FullTrue: what the functions that it reaches compute, and plain facts about that. -/
import Derived.Test.YtbmhmlgfpijmhaaDoorFab
import Derived.Test.YtbmhmlgfpijmhaaDoorFae
import Derived.Test.YtbmhmlgfpijmhaaDoorFah
import Derived.Test.YtbmhmlgfpijmhaaDoorFaj
set_option linter.unusedVariables false
set_option linter.unusedSimpArgs false
section
namespace Go.Proofs.YtbmhmlgfpijmhaaDoor.P
open Go.RowKit Go.Proofs.af.bG Go.Proofs.af.dD Go.Proofs.af.dM
attribute [local go_sem] kF kD lK lJ jH jG kE kC
mutual
def az.j0:Nat→Bool→List ByteArray→ByteArray→ByteArray→List (iG)→Option (Int × Int)
 | 0,_,_,_,_,_=>none
 | k+1,x32,mV,mQ,mP,iT=>if x32=true then (some ((-1),5)) else (if (iT.length:Int) < 1 then (az.j1 k true mV mQ mP iT) else (az.j1 k (decide ((iT.length:Int) > 200)) mV mQ mP iT))
def az.j1:Nat→Bool→List ByteArray→ByteArray→ByteArray→List (iG)→Option (Int × Int)
 | 0,_,_,_,_,_=>none
 | k+1,x42,mV,mQ,mP,iT=>if x42=true then (some ((-1),3)) else (az.l0 k 0 mV mQ mP iT)
def az.l0:Nat→Int→List ByteArray→ByteArray→ByteArray→List (iG)→Option (Int × Int)
 | 0,_,_,_,_,_=>none
 | k+1,x4,mV,mQ,mP,iT=>if x4 < (iT.length:Int) then (if 0≤x4 then (if ((aj iT x4).f0)=3 then (az.j3 k x4 true mV mQ mP iT ((aj iT x4).f0) ((aj iT x4).f1) ((aj iT x4).f2) ((aj iT x4).f3) ((aj iT x4).f4)) else (az.j3 k x4 (((aj iT x4).f0) == 4) mV mQ mP iT ((aj iT x4).f0) ((aj iT x4).f1) ((aj iT x4).f2) ((aj iT x4).f3) ((aj iT x4).f4))) else (none)) else (some ((-1),0))
def az.j3:Nat→Int→Bool→List ByteArray→ByteArray→ByteArray→List (iG)→Int→Int→Int→Int→Int→Option (Int × Int)
 | 0,_,_,_,_,_,_,_,_,_,_,_=>none
 | k+1,x4,x6,mV,mQ,mP,iT,sJ,sH,sG,sF,qH=>(dS.f k sJ sH sG sF qH).bind fun t227=>(if t227=true then (if x6=true then (if qH < 0 then (az.j4 k x4 true mV mQ mP iT sJ sH sG sF qH) else (az.j4 k x4 (decide (qH > (iT.length:Int))) mV mQ mP iT sJ sH sG sF qH)) else (az.j4 k x4 false mV mQ mP iT sJ sH sG sF qH)) else (some (x4,4)))
def az.j4:Nat→Int→Bool→List ByteArray→ByteArray→ByteArray→List (iG)→Int→Int→Int→Int→Int→Option (Int × Int)
 | 0,_,_,_,_,_,_,_,_,_,_,_=>none
 | k+1,x4,x68,mV,mQ,mP,iT,sJ,sH,sG,sF,qH=>if x68=true then (some (x4,12)) else ((bF.f k sJ sH sG sF qH).bind fun t228=>(if t228=true then ((aX.f k mV mQ mP iT sJ sH sG sF qH).bind fun t229=>(if t229=true then (az.l0 k (wrap64 (x4+1)) mV mQ mP iT) else (some (x4,5)))) else (some (x4,5))))
end
def az.f (k:Nat) (bC:List ByteArray) (aY:ByteArray) (aZ:ByteArray) (aJ:List (iG)):Option (Int × Int):=(aW.f k bC aY).bind fun t223=>(if t223=true then ((aW.f k bC aZ).bind fun t224=>(if t224=true then (if (aY.size:Int) > 8 then (az.j0 k true bC aY aZ aJ) else (az.j0 k (decide ((aZ.size:Int) > 4)) bC aY aZ aJ)) else (az.j0 k true bC aY aZ aJ))) else (az.j0 k true bC aY aZ aJ))
theorem az.iq:∀ k,(∀ y0 y1 y2 y3 y4,dN (az.j0 k y0 y1 y2 y3 y4) (az.j0 (k+1) y0 y1 y2 y3 y4))∧(∀ y0 y1 y2 y3 y4,dN (az.j1 k y0 y1 y2 y3 y4) (az.j1 (k+1) y0 y1 y2 y3 y4))∧(∀ y0 y1 y2 y3 y4,dN (az.l0 k y0 y1 y2 y3 y4) (az.l0 (k+1) y0 y1 y2 y3 y4))∧(∀ y0 y1 y2 y3 y4 y5 y6 y7 y8 y9 su,dN (az.j3 k y0 y1 y2 y3 y4 y5 y6 y7 y8 y9 su) (az.j3 (k+1) y0 y1 y2 y3 y4 y5 y6 y7 y8 y9 su))∧(∀ y0 y1 y2 y3 y4 y5 y6 y7 y8 y9 su,dN (az.j4 k y0 y1 y2 y3 y4 y5 y6 y7 y8 y9 su) (az.j4 (k+1) y0 y1 y2 y3 y4 y5 y6 y7 y8 y9 su))
 | 0=>⟨fun _ _ _ _ _ r h=>by simp [az.j0] at h,fun _ _ _ _ _ r h=>by simp [az.j1] at h,fun _ _ _ _ _ r h=>by simp [az.l0] at h,fun _ _ _ _ _ _ _ _ _ _ _ r h=>by simp [az.j3] at h,fun _ _ _ _ _ _ _ _ _ _ _ r h=>by simp [az.j4] at h⟩
 | k+1=>by
  obtain ⟨kZ,ih1,ih2,ih3,F8⟩:=az.iq k
  refine ⟨?_,?_,?_,?_,?_⟩
  ·
   intro y0 y1 y2 y3 y4
   unfold az.j0
   repeat' with_reducible first|apply kZ|apply ih1|apply ih2|apply ih3|apply F8|apply aW.mono|apply dS.mono|apply bF.mono|apply aX.mono|exact dN.refl _|exact dN.none _|refine dN.ite ?_ ?_|refine dN.bind ?_ (fun _=>?_)
  ·
   intro y0 y1 y2 y3 y4
   unfold az.j1
   repeat' with_reducible first|apply kZ|apply ih1|apply ih2|apply ih3|apply F8|apply aW.mono|apply dS.mono|apply bF.mono|apply aX.mono|exact dN.refl _|exact dN.none _|refine dN.ite ?_ ?_|refine dN.bind ?_ (fun _=>?_)
  ·
   intro y0 y1 y2 y3 y4
   unfold az.l0
   repeat' with_reducible first|apply kZ|apply ih1|apply ih2|apply ih3|apply F8|apply aW.mono|apply dS.mono|apply bF.mono|apply aX.mono|exact dN.refl _|exact dN.none _|refine dN.ite ?_ ?_|refine dN.bind ?_ (fun _=>?_)
  ·
   intro y0 y1 y2 y3 y4 y5 y6 y7 y8 y9 su
   unfold az.j3
   repeat' with_reducible first|apply kZ|apply ih1|apply ih2|apply ih3|apply F8|apply aW.mono|apply dS.mono|apply bF.mono|apply aX.mono|exact dN.refl _|exact dN.none _|refine dN.ite ?_ ?_|refine dN.bind ?_ (fun _=>?_)
  ·
   intro y0 y1 y2 y3 y4 y5 y6 y7 y8 y9 su
   unfold az.j4
   repeat' with_reducible first|apply kZ|apply ih1|apply ih2|apply ih3|apply F8|apply aW.mono|apply dS.mono|apply bF.mono|apply aX.mono|exact dN.refl _|exact dN.none _|refine dN.ite ?_ ?_|refine dN.bind ?_ (fun _=>?_)
theorem az.mono:∀ a0 a1 a2 a3 k,dN (az.f k a0 a1 a2 a3) (az.f (k+1) a0 a1 a2 a3):=by
 intro a0 a1 a2 a3 k
 obtain ⟨kZ,ih1,ih2,ih3,F8⟩:=az.iq k
 unfold az.f
 repeat' with_reducible first|apply kZ|apply ih1|apply ih2|apply ih3|apply F8|apply aW.mono|apply dS.mono|apply bF.mono|apply aX.mono|exact dN.refl _|exact dN.none _|refine dN.ite ?_ ?_|refine dN.bind ?_ (fun _=>?_)
set_option maxHeartbeats 8000000 in
set_option maxRecDepth 100000 in
theorem az.calls (k:Nat) (eP:Option Addr) (eH:Nat) (bC:List ByteArray) (aY:ByteArray) (aZ:ByteArray) (gy:Option Addr) (fB:Nat) (aJ:List (iG)) (r1:Int) (r2:Int) (w:World) (jV:Kd.C Kd.string w eP bC.length bC) (jX:bC.length≤eH) (jU:Kd.C k39 w gy aJ.length aJ) (jW:aJ.length≤fB) (EW:Kd.C Ad w Ae rF.length rF) (h:az.f k bC aY aZ aJ=some (r1,r2)) :
  Calls Tryd.prog 18 #[.agg #[.slice eP bC.length eH,.string aY,.string aZ,.slice gy aJ.length fB]] w fun e w'=>e=.returned (.tuple #[.int .i64 r1,.int .i64 r2])∧Below w.heap.size w w':=by
 have yj:=Tryd.underlying25
 have Ai:=Tryd.underlying39
 have ji:=ae.mk jV
 have jr:=ae.mk jX
 clear jV jX
 have jR:=ae.mk jU
 have lD:=ae.mk jW
 clear jU jW
 have Gf:=ae.mk EW
 clear EW
 have HB:=ae.mk (Below.refl w.heap.size w)
 have H:((aW.f k bC aY).bind fun t223=>(if t223=true then ((aW.f k bC aZ).bind fun t224=>(if t224=true then (if (aY.size:Int) > 8 then (az.j0 k true bC aY aZ aJ) else (az.j0 k (decide ((aZ.size:Int) > 4)) bC aY aZ aJ)) else (az.j0 k true bC aY aZ aJ))) else (az.j0 k true bC aY aZ aJ)))=some (r1,r2):=h
 clear h
 have HC2:=ae.mk H
 clear H
 go_enter Tryd.func18,Tryd.ntmps18
 go_upto_region 1 with (first|((with_reducible refine bI (N:=1) rfl ?_);(try (refine iP (by rfl) ?_;dsimp only));refine dZ ?hg (N:=1) ?hd (cs:=#[.slice eP bC.length eH,.string aY,.string aZ,.slice gy aJ.length fB]) (t:=25) ?hr ?_;(case hd=>rfl);(case hg=>rfl);(case hr=>first|(go_simp;done)|(go_simp;rfl));intro iF hg w3 hbox hb;have eU:=ae.mk (bz (by repeat (first|(with_reducible first|exact HB.out|apply ay|apply ai|apply ax)|exact HB.out)) hb);have eQ:=ae.mk (hbox);have eu:=ae.mk ((by rw [hg];exact (cu (by repeat (first|(with_reducible first|exact HB.out|apply ay|apply ai|apply ax)|exact HB.out))):w.heap.size≤iF));have ig:=eu;clear HB;have HB:=eU;have dP:=eQ;have ajr:=eu;have kR:=ig;clear eU eQ eu ig;clear hb hbox hg))
 (try simp only [Act.put,List.setIfInBounds_toArray,List.set_cons_zero,List.set_cons_succ])
 go_cut [32] (fun v32 wc=>∃ (kq:Nat) (Ho:Bool),v32=.bool Ho∧ae (az.j0 kq Ho bC aY aZ aJ=some (r1,r2))∧ae (kq≤k)∧ae (wc.heap[iF]? = some (.cells #[(.slice eP bC.length eH),.string aY,.string aZ,(.slice gy aJ.length fB)] 25 (0,0)))∧ae (Below w.heap.size w wc))
 case first =>
  have H:=HC2.out
  clear HC2
  replace H:=Option.bind_eq_some_iff.mp H
  obtain ⟨t223,Md,H⟩:=H
  replace H:(if t223=true then ((aW.f k bC aZ).bind fun t224=>(if t224=true then (if (aY.size:Int) > 8 then (az.j0 k true bC aY aZ aJ) else (az.j0 k (decide ((aZ.size:Int) > 4)) bC aY aZ aJ)) else (az.j0 k true bC aY aZ aJ))) else (az.j0 k true bC aY aZ aJ))=some (r1,r2):=H
  have A4:=ae.mk Md
  clear Md
  by_cases c5:t223=true
  ·
   subst c5
   have H1:((aW.f k bC aZ).bind fun t224=>(if t224=true then (if (aY.size:Int) > 8 then (az.j0 k true bC aY aZ aJ) else (az.j0 k (decide ((aZ.size:Int) > 4)) bC aY aZ aJ)) else (az.j0 k true bC aY aZ aJ)))=some (r1,r2):=by rw [if_pos rfl] at H;exact H
   clear H
   have H:=H1
   clear H1
   replace H:=Option.bind_eq_some_iff.mp H
   obtain ⟨t224,Pm,H⟩:=H
   replace H:(if t224=true then (if (aY.size:Int) > 8 then (az.j0 k true bC aY aZ aJ) else (az.j0 k (decide ((aZ.size:Int) > 4)) bC aY aZ aJ)) else (az.j0 k true bC aY aZ aJ))=some (r1,r2):=H
   have A6:=ae.mk Pm
   clear Pm
   by_cases c7:t224=true
   ·
    subst c7
    have H1:(if (aY.size:Int) > 8 then (az.j0 k true bC aY aZ aJ) else (az.j0 k (decide ((aZ.size:Int) > 4)) bC aY aZ aJ))=some (r1,r2):=by rw [if_pos rfl] at H;exact H
    clear H
    have H:=H1
    clear H1
    by_cases c8:(aY.size:Int) > 8
    ·
     rw [if_pos c8] at H
     have qU:decide (8 < (aY.size:Int))=true:=decide_eq_true c8
     have Ed:decide (8 < aY.size)=true:=decide_eq_true (by omega)
     clear c8
     (first|rw [qU]|(simp only [bY,bZ];rw [qU])|skip)
     have H':=ae.mk H
     clear H
     have NZ:w3.cell? ⟨iF,0,none⟩=some (.slice eP bC.length eH):=(ah dP.out 0).trans rfl
     have NY:w3.cell? ⟨iF,1,none⟩=some (.string aY):=(ah dP.out 1).trans rfl
     have NW:w3.cell? ⟨iF,2,none⟩=some (.string aZ):=(ah dP.out 2).trans rfl
     have NV:w3.cell? ⟨iF,3,none⟩=some (.slice gy aJ.length fB):=(ah dP.out 3).trans rfl
     have NU:=ag dP.out 0
     have NT:=ag dP.out 1
     have NS:=ag dP.out 2
     have NR:=ag dP.out 3
     go_wp2_with (first|((with_reducible refine bT (f:=27) rfl ?_);refine gp (some 11) rfl rfl Tryd.func27 (by kernel_rfl) rfl #[.slice eP bC.length eH,.string aY] rfl (by (try simp only [List.map_toArray,List.map_cons,List.map_nil]);first|done|rfl|(simp only [List.length_drop,List.length_take];rfl)) ?_;(with_reducible refine (aW.calls k _ _ bC aY true _ ?dR ?dU A4.out).mono ?_);(case dR=>repeat (first|exact (Kd.bW ji.out HB.out)|(with_reducible refine Kd.dA ?_ _)|(with_reducible refine Kd.dL ?_ _)|(with_reducible refine Kd.dW ?_)));(case dU=>exact jr.out);rintro e w' ⟨rfl,⟨nd,rfl⟩⟩;refine ⟨_,rfl,?_⟩)|(go_at_call 27;(with_reducible refine (aW.calls k _ _ bC aZ true _ ?dR ?dU A6.out).mono ?_);(case dR=>repeat (first|exact (Kd.bW ji.out (by repeat (first|(with_reducible first|exact HB.out|apply ay|apply ai|apply ax|refine aA ?_ kR.out)|exact HB.out)))|(with_reducible refine Kd.dA ?_ _)|(with_reducible refine Kd.dL ?_ _)|(with_reducible refine Kd.dW ?_)));(case dU=>exact jr.out);rintro e w' ⟨rfl,⟨nd,rfl⟩⟩))
     go_meet
     case rel=>exact ⟨_,(true),(by first|rfl|(simp;done)|(simp [*];done)),H',⟨by first|omega|exact Nat.le_refl _⟩,⟨by (with_reducible repeat (first|refine au ?_ _|refine aC ?_|refine ak ?_ _));exact dP.out⟩,⟨by repeat (first|(with_reducible first|exact HB.out|apply ay|apply ai|apply ax|refine aA ?_ kR.out)|exact HB.out)⟩⟩
    ·
     rw [if_neg c8] at H
     have qU:decide (8 < (aY.size:Int))=false:=decide_eq_false c8
     have Ed:decide (8 < aY.size)=false:=decide_eq_false (by omega)
     clear c8
     (first|rw [qU]|(simp only [bY,bZ];rw [qU])|skip)
     have H':=ae.mk H
     clear H
     have yS:w3.cell? ⟨iF,0,none⟩=some (.slice eP bC.length eH):=(ah dP.out 0).trans rfl
     have yR:w3.cell? ⟨iF,1,none⟩=some (.string aY):=(ah dP.out 1).trans rfl
     have yQ:w3.cell? ⟨iF,2,none⟩=some (.string aZ):=(ah dP.out 2).trans rfl
     have yP:w3.cell? ⟨iF,3,none⟩=some (.slice gy aJ.length fB):=(ah dP.out 3).trans rfl
     have yK:=ag dP.out 0
     have yJ:=ag dP.out 1
     have yI:=ag dP.out 2
     have yH:=ag dP.out 3
     go_wp2_with (first|((with_reducible refine bT (f:=27) rfl ?_);refine gp (some 11) rfl rfl Tryd.func27 (by kernel_rfl) rfl #[.slice eP bC.length eH,.string aY] rfl (by (try simp only [List.map_toArray,List.map_cons,List.map_nil]);first|done|rfl|(simp only [List.length_drop,List.length_take];rfl)) ?_;(with_reducible refine (aW.calls k _ _ bC aY true _ ?dR ?dU A4.out).mono ?_);(case dR=>repeat (first|exact (Kd.bW ji.out HB.out)|(with_reducible refine Kd.dA ?_ _)|(with_reducible refine Kd.dL ?_ _)|(with_reducible refine Kd.dW ?_)));(case dU=>exact jr.out);rintro e w' ⟨rfl,⟨nd,rfl⟩⟩;refine ⟨_,rfl,?_⟩)|(go_at_call 27;(with_reducible refine (aW.calls k _ _ bC aZ true _ ?dR ?dU A6.out).mono ?_);(case dR=>repeat (first|exact (Kd.bW ji.out (by repeat (first|(with_reducible first|exact HB.out|apply ay|apply ai|apply ax|refine aA ?_ kR.out)|exact HB.out)))|(with_reducible refine Kd.dA ?_ _)|(with_reducible refine Kd.dL ?_ _)|(with_reducible refine Kd.dW ?_)));(case dU=>exact jr.out);rintro e w' ⟨rfl,⟨nd,rfl⟩⟩))
     go_meet
     case rel=>exact ⟨_,(decide ((aZ.size:Int) > 4)),(by first|rfl|(simp;done)|(simp [*];done)),H',⟨by first|omega|exact Nat.le_refl _⟩,⟨by (with_reducible repeat (first|refine au ?_ _|refine aC ?_|refine ak ?_ _));exact dP.out⟩,⟨by repeat (first|(with_reducible first|exact HB.out|apply ay|apply ai|apply ax|refine aA ?_ kR.out)|exact HB.out)⟩⟩
   ·
    replace c7:=Bool.eq_false_iff.mpr c7
    subst c7
    have H1:(az.j0 k true bC aY aZ aJ)=some (r1,r2):=by rw [if_neg (show ¬ (false=true) by decide)] at H;exact H
    clear H
    have H:=H1
    clear H1
    have H':=ae.mk H
    clear H
    have D9:w3.cell? ⟨iF,0,none⟩=some (.slice eP bC.length eH):=(ah dP.out 0).trans rfl
    have D8:w3.cell? ⟨iF,1,none⟩=some (.string aY):=(ah dP.out 1).trans rfl
    have D7:w3.cell? ⟨iF,2,none⟩=some (.string aZ):=(ah dP.out 2).trans rfl
    have D6:w3.cell? ⟨iF,3,none⟩=some (.slice gy aJ.length fB):=(ah dP.out 3).trans rfl
    have DN:=ag dP.out 0
    have DL:=ag dP.out 1
    have DK:=ag dP.out 2
    have DJ:=ag dP.out 3
    go_wp2_with (first|((with_reducible refine bT (f:=27) rfl ?_);refine gp (some 11) rfl rfl Tryd.func27 (by kernel_rfl) rfl #[.slice eP bC.length eH,.string aY] rfl (by (try simp only [List.map_toArray,List.map_cons,List.map_nil]);first|done|rfl|(simp only [List.length_drop,List.length_take];rfl)) ?_;(with_reducible refine (aW.calls k _ _ bC aY true _ ?dR ?dU A4.out).mono ?_);(case dR=>repeat (first|exact (Kd.bW ji.out HB.out)|(with_reducible refine Kd.dA ?_ _)|(with_reducible refine Kd.dL ?_ _)|(with_reducible refine Kd.dW ?_)));(case dU=>exact jr.out);rintro e w' ⟨rfl,⟨nd,rfl⟩⟩;refine ⟨_,rfl,?_⟩)|(go_at_call 27;(with_reducible refine (aW.calls k _ _ bC aZ false _ ?dR ?dU A6.out).mono ?_);(case dR=>repeat (first|exact (Kd.bW ji.out (by repeat (first|(with_reducible first|exact HB.out|apply ay|apply ai|apply ax|refine aA ?_ kR.out)|exact HB.out)))|(with_reducible refine Kd.dA ?_ _)|(with_reducible refine Kd.dL ?_ _)|(with_reducible refine Kd.dW ?_)));(case dU=>exact jr.out);rintro e w' ⟨rfl,⟨nd,rfl⟩⟩))
    go_meet
    case rel=>exact ⟨_,(true),(by first|rfl|(simp;done)|(simp [*];done)),H',⟨by first|omega|exact Nat.le_refl _⟩,⟨by (with_reducible repeat (first|refine au ?_ _|refine aC ?_|refine ak ?_ _));exact dP.out⟩,⟨by repeat (first|(with_reducible first|exact HB.out|apply ay|apply ai|apply ax|refine aA ?_ kR.out)|exact HB.out)⟩⟩
  ·
   replace c5:=Bool.eq_false_iff.mpr c5
   subst c5
   have H1:(az.j0 k true bC aY aZ aJ)=some (r1,r2):=by rw [if_neg (show ¬ (false=true) by decide)] at H;exact H
   clear H
   have H:=H1
   clear H1
   have H':=ae.mk H
   clear H
   have D5:w3.cell? ⟨iF,0,none⟩=some (.slice eP bC.length eH):=(ah dP.out 0).trans rfl
   have DZ:w3.cell? ⟨iF,1,none⟩=some (.string aY):=(ah dP.out 1).trans rfl
   have DY:w3.cell? ⟨iF,2,none⟩=some (.string aZ):=(ah dP.out 2).trans rfl
   have DX:w3.cell? ⟨iF,3,none⟩=some (.slice gy aJ.length fB):=(ah dP.out 3).trans rfl
   have DI:=ag dP.out 0
   have DF:=ag dP.out 1
   have DD:=ag dP.out 2
   have DC:=ag dP.out 3
   go_wp2_with (first|((with_reducible refine bT (f:=27) rfl ?_);refine gp (some 11) rfl rfl Tryd.func27 (by kernel_rfl) rfl #[.slice eP bC.length eH,.string aY] rfl (by (try simp only [List.map_toArray,List.map_cons,List.map_nil]);first|done|rfl|(simp only [List.length_drop,List.length_take];rfl)) ?_;(with_reducible refine (aW.calls k _ _ bC aY false _ ?dR ?dU A4.out).mono ?_);(case dR=>repeat (first|exact (Kd.bW ji.out HB.out)|(with_reducible refine Kd.dA ?_ _)|(with_reducible refine Kd.dL ?_ _)|(with_reducible refine Kd.dW ?_)));(case dU=>exact jr.out);rintro e w' ⟨rfl,⟨nd,rfl⟩⟩;refine ⟨_,rfl,?_⟩))
   go_meet
   case rel=>exact ⟨_,(true),(by first|rfl|(simp;done)|(simp [*];done)),H',⟨by first|omega|exact Nat.le_refl _⟩,⟨by (with_reducible repeat (first|refine au ?_ _|refine aC ?_|refine ak ?_ _));exact dP.out⟩,⟨by repeat (first|(with_reducible first|exact HB.out|apply ay|apply ai|apply ax|refine aA ?_ kR.out)|exact HB.out)⟩⟩
 case rest =>
  clear HC2
  obtain ⟨kq,Ho,rfl,HA,En,dP,HB⟩:=hcut
  cases kq with
  | zero=>exact absurd HA.out (by simp [az.j0])
  | succ UN =>
   have H:=HA.out
   clear HA
   simp only [az.j0] at H
   by_cases c13:Ho=true
   ·
    subst c13
    have H1:(some ((-1),5))=some (r1,r2):=by rw [if_pos rfl] at H;exact H
    clear H
    have H:=H1
    clear H1
    simp only [Option.some.injEq,Prod.mk.injEq] at H
    obtain ⟨rfl,rfl⟩:=H
    go_wp2
    go_ret2
    exact ⟨by first|rfl|(simp [aT,aQ] <;> rfl)|(simp [*,aT,aQ] <;> rfl),by repeat (first|(with_reducible first|exact HB.out|apply ay|apply ai|apply ax|refine aA ?_ kR.out)|exact HB.out)⟩
   ·
    replace c13:=Bool.eq_false_iff.mpr c13
    subst c13
    have H1:(if (aJ.length:Int) < 1 then (az.j1 UN true bC aY aZ aJ) else (az.j1 UN (decide ((aJ.length:Int) > 200)) bC aY aZ aJ))=some (r1,r2):=by rw [if_neg (show ¬ (false=true) by decide)] at H;exact H
    clear H
    have H:=H1
    clear H1
    have Hg:=ae.mk H
    clear H
    go_upto_region 3 with (fail)
    go_cut [42] (fun v42 wc=>∃ (kq:Nat) (BM:Bool),v42=.bool BM∧ae (az.j1 kq BM bC aY aZ aJ=some (r1,r2))∧ae (kq≤UN)∧ae (wc.heap[iF]? = some (.cells #[(.slice eP bC.length eH),.string aY,.string aZ,(.slice gy aJ.length fB)] 25 (0,0)))∧ae (Below w.heap.size w wc))
    case first =>
     have H:=Hg.out
     clear Hg
     by_cases c15:(aJ.length:Int) < 1
     ·
      rw [if_pos c15] at H
      have qF:decide ((aJ.length:Int) < 1)=true:=decide_eq_true c15
      have FH:decide (aJ.length < 1)=true:=decide_eq_true (by omega)
      clear c15
      (first|rw [qF]|(simp only [bY,bZ];rw [qF])|skip)
      have H':=ae.mk H
      clear H
      have yO:wc.cell? ⟨iF,0,none⟩=some (.slice eP bC.length eH):=(ah dP.out 0).trans rfl
      have yN:wc.cell? ⟨iF,1,none⟩=some (.string aY):=(ah dP.out 1).trans rfl
      have yM:wc.cell? ⟨iF,2,none⟩=some (.string aZ):=(ah dP.out 2).trans rfl
      have yL:wc.cell? ⟨iF,3,none⟩=some (.slice gy aJ.length fB):=(ah dP.out 3).trans rfl
      have yG:=ag dP.out 0
      have yF:=ag dP.out 1
      have yE:=ag dP.out 2
      have yD:=ag dP.out 3
      go_wp2
      go_meet
      case rel=>exact ⟨_,(true),(by first|rfl|(simp;done)|(simp [*];done)),H',⟨by have:=En.out;first|omega|exact Nat.le_refl _⟩,⟨by (with_reducible repeat (first|refine au ?_ _|refine aC ?_|refine ak ?_ _));exact dP.out⟩,⟨by repeat (first|(with_reducible first|exact HB.out|apply ay|apply ai|apply ax|refine aA ?_ kR.out)|exact HB.out)⟩⟩
     ·
      rw [if_neg c15] at H
      have qF:decide ((aJ.length:Int) < 1)=false:=decide_eq_false c15
      have FH:decide (aJ.length < 1)=false:=decide_eq_false (by omega)
      clear c15
      (first|rw [qF]|(simp only [bY,bZ];rw [qF])|skip)
      have H':=ae.mk H
      clear H
      have Kz:wc.cell? ⟨iF,0,none⟩=some (.slice eP bC.length eH):=(ah dP.out 0).trans rfl
      have Ky:wc.cell? ⟨iF,1,none⟩=some (.string aY):=(ah dP.out 1).trans rfl
      have Kw:wc.cell? ⟨iF,2,none⟩=some (.string aZ):=(ah dP.out 2).trans rfl
      have Kv:wc.cell? ⟨iF,3,none⟩=some (.slice gy aJ.length fB):=(ah dP.out 3).trans rfl
      have Jz:=ag dP.out 0
      have Jy:=ag dP.out 1
      have Jw:=ag dP.out 2
      have Jv:=ag dP.out 3
      go_wp2
      go_meet
      case rel=>exact ⟨_,(decide ((aJ.length:Int) > 200)),(by first|rfl|(simp;done)|(simp [*];done)),H',⟨by have:=En.out;first|omega|exact Nat.le_refl _⟩,⟨by (with_reducible repeat (first|refine au ?_ _|refine aC ?_|refine ak ?_ _));exact dP.out⟩,⟨by repeat (first|(with_reducible first|exact HB.out|apply ay|apply ai|apply ax|refine aA ?_ kR.out)|exact HB.out)⟩⟩
    case rest =>
     clear Hg
     obtain ⟨kq,BM,rfl,HA,FY,dP,HB⟩:=hcut
     cases kq with
     | zero=>exact absurd HA.out (by simp [az.j1])
     | succ Qd =>
      have H:=HA.out
      clear HA
      simp only [az.j1] at H
      by_cases c18:BM=true
      ·
       subst c18
       have H1:(some ((-1),3))=some (r1,r2):=by rw [if_pos rfl] at H;exact H
       clear H
       have H:=H1
       clear H1
       simp only [Option.some.injEq,Prod.mk.injEq] at H
       obtain ⟨rfl,rfl⟩:=H
       go_wp2
       go_ret2
       exact ⟨by first|rfl|(simp [aT,aQ] <;> rfl)|(simp [*,aT,aQ] <;> rfl),by repeat (first|(with_reducible first|exact HB.out|apply ay|apply ai|apply ax|refine aA ?_ kR.out)|exact HB.out)⟩
      ·
       replace c18:=Bool.eq_false_iff.mpr c18
       subst c18
       have H1:(az.l0 Qd 0 bC aY aZ aJ)=some (r1,r2):=by rw [if_neg (show ¬ (false=true) by decide)] at H;exact H
       clear H
       have H:=H1
       clear H1
       have H':=ae.mk H
       clear H
       go_wp2
       go_loopg [4] Qd (fun kq v4 w'=>∃ (bP:Int),v4=.int .i64 bP∧ae (az.l0 kq bP bC aY aZ aJ=some (r1,r2))∧ae (kq≤Qd)∧ae (w'.heap[iF]? = some (.cells #[(.slice eP bC.length eH),.string aY,.string aZ,(.slice gy aJ.length fB)] 25 (0,0)))∧ae (Below w.heap.size w w'))
       case atStart=>exact ⟨(0),(by first|rfl|(simp;done)|(simp [*];done)),H',⟨Nat.le_refl _⟩,⟨by (with_reducible repeat (first|refine au ?_ _|refine aC ?_|refine ak ?_ _));exact dP.out⟩,⟨by repeat (first|(with_reducible first|exact HB.out|apply ay|apply ai|apply ax|refine aA ?_ kR.out)|exact HB.out)⟩⟩
       case round =>
        clear H'
        obtain ⟨bP,rfl,HA,yl,dP,HB⟩:=hrel
        cases gk with
        | zero=>exact absurd HA.out (by simp [az.l0])
        | succ k3 =>
         have H:=HA.out
         clear HA
         simp only [az.l0] at H
         by_cases c19:bP < (aJ.length:Int)
         ·
          rw [if_pos c19] at H
          have Bv:decide (bP < (aJ.length:Int))=true:=decide_eq_true c19
          clear c19
          by_cases c20:0≤bP
          ·
           rw [if_pos c20] at H
           have OG:decide (0≤bP)=true:=decide_eq_true c20
           clear c20
           have Yc:=ae.mk H
           clear H
           have TJ:wr.cell? ⟨iF,0,none⟩=some (.slice eP bC.length eH):=(ah dP.out 0).trans rfl
           have TI:wr.cell? ⟨iF,1,none⟩=some (.string aY):=(ah dP.out 1).trans rfl
           have TG:wr.cell? ⟨iF,2,none⟩=some (.string aZ):=(ah dP.out 2).trans rfl
           have TF:wr.cell? ⟨iF,3,none⟩=some (.slice gy aJ.length fB):=(ah dP.out 3).trans rfl
           have Rj:=ag dP.out 0
           have Ri:=ag dP.out 1
           have Rh:=ag dP.out 2
           have Rf:=ag dP.out 3
           have Wu:0≤(bP:Int):=of_decide_eq_true (by first|(with_reducible assumption)|assumption)
           have V7:bP < (aJ.length:Int):=of_decide_eq_true (by first|(with_reducible assumption)|assumption)
           obtain ⟨rC,ahd,CV,CU,CS,CQ,CP⟩:=vM jR.out bP Wu V7
           cases ahd
           replace CV:=(HB.out.cell (World.block_lt_of_cell? w _ CV)).trans CV
           replace CU:=(HB.out.cell (World.block_lt_of_cell? w _ CU)).trans CU
           replace CS:=(HB.out.cell (World.block_lt_of_cell? w _ CS)).trans CS
           replace CQ:=(HB.out.cell (World.block_lt_of_cell? w _ CQ)).trans CQ
           replace CP:=(HB.out.cell (World.block_lt_of_cell? w _ CP)).trans CP
           replace Wu:=eq_true Wu
           replace V7:=eq_true V7
           go_upto_region 9 with (first|((with_reducible refine bI (N:=5) rfl ?_);(try (refine iP (by rfl) ?_;dsimp only));refine dZ ?hg (N:=5) ?hd (cs:=#[.int .u8 0,.int .u8 0,.int .u8 0,.int .u8 0,.int .i64 0]) (t:=39) ?hr ?_;(case hd=>rfl);(case hg=>rfl);(case hr=>first|(go_simp;done)|(go_simp;rfl));intro gZ hg vT hbox hb;have eU:=ae.mk (bK (g:=iF) (o:=.cells #[.slice eP bC.length eH,.string aY,.string aZ,.slice (some rC) aJ.length fB] 25 (0,0)) (by (with_reducible repeat (first|refine au ?_ _|refine aC ?_|refine ak ?_ _));exact dP.out) hb);have eQ:=ae.mk (bz (by repeat (first|(with_reducible first|exact HB.out|apply ay|apply ai|apply ax|refine aA ?_ kR.out)|exact HB.out)) hb);have eu:=ae.mk (hbox);have ig:=ae.mk ((by rw [hg];exact (cu (by repeat (first|(with_reducible first|exact HB.out|apply ay|apply ai|apply ax|refine aA ?_ kR.out)|exact HB.out))):w.heap.size≤gZ));have mW:=ig;have mM:=ae.mk ((by rw [hg];exact Nat.ne_of_lt (jJ (g:=iF) (o:=.cells #[.slice eP bC.length eH,.string aY,.string aZ,.slice (some rC) aJ.length fB] 25 (0,0)) (by (with_reducible repeat (first|refine au ?_ _|refine aC ?_|refine ak ?_ _));exact dP.out)):iF ≠ gZ));have nD:=ae.mk mM.out.symm;clear dP;clear HB;have dP:=eU;have HB:=eQ;have dB:=eu;have ajq:=ig;have qp:=mW;have iV:=mM;have mG:=nD;clear eU eQ eu ig mW mM nD;clear hb hbox hg;have Zl:=mG.out;have Zb:=iV.out;have Ko:vT.cell? ⟨gZ,0,none⟩=some (.int .u8 0):=(ah dB.out 0).trans rfl;have J9:vT.cell? ⟨gZ,1,none⟩=some (.int .u8 0):=(ah dB.out 1).trans rfl;have J8:vT.cell? ⟨gZ,2,none⟩=some (.int .u8 0):=(ah dB.out 2).trans rfl;have J7:vT.cell? ⟨gZ,3,none⟩=some (.int .u8 0):=(ah dB.out 3).trans rfl;have J6:vT.cell? ⟨gZ,4,none⟩=some (.int .i64 0):=(ah dB.out 4).trans rfl;have Jq:=ag dB.out 0;have Jp:=ag dB.out 1;have Jo:=ag dB.out 2;have Jn:=ag dB.out 3;have Jm:=ag dB.out 4))
           (try simp only [Act.put,List.setIfInBounds_toArray,List.set_cons_zero,List.set_cons_succ])
           go_cut [6] (fun v6 wc=>∃ (kq:Nat) (Au:Bool),v6=.bool Au∧ae (az.j3 kq bP Au bC aY aZ aJ ((aj aJ bP).f0) ((aj aJ bP).f1) ((aj aJ bP).f2) ((aj aJ bP).f3) ((aj aJ bP).f4)=some (r1,r2))∧ae (kq≤k3)∧ae (wc.heap[iF]? = some (.cells #[(.slice eP bC.length eH),.string aY,.string aZ,(.slice (some rC) aJ.length fB)] 25 (0,0)))∧ae (wc.heap[gZ]? = some (.cells #[.int .u8 ((aj aJ bP).f0),.int .u8 ((aj aJ bP).f1),.int .u8 ((aj aJ bP).f2),.int .u8 ((aj aJ bP).f3),.int .i64 ((aj aJ bP).f4)] 39 (0,0)))∧ae (Below w.heap.size w wc))
           case first =>
            have H:=Yc.out
            clear Yc
            by_cases KG:((aj aJ bP).f0)=3
            ·
             rw [if_pos KG] at H
             have zN:(((aj aJ bP).f0) == 3)=true:=beq_iff_eq.mpr KG
             have aad:(((aj aJ bP).f0) != 3)=false:=bne_eq_false_iff_eq.mpr KG
             clear KG
             (first|rw [zN]|(simp only [bY,bZ];rw [zN])|skip)
             have H':=ae.mk H
             clear H
             have Zj:=mG.out
             have Y9:=iV.out
             have J5:vT.cell? ⟨gZ,0,none⟩=some (.int .u8 0):=(ah dB.out 0).trans rfl
             have J4:vT.cell? ⟨gZ,1,none⟩=some (.int .u8 0):=(ah dB.out 1).trans rfl
             have J3:vT.cell? ⟨gZ,2,none⟩=some (.int .u8 0):=(ah dB.out 2).trans rfl
             have JZ:vT.cell? ⟨gZ,3,none⟩=some (.int .u8 0):=(ah dB.out 3).trans rfl
             have Tv:vT.cell? ⟨gZ,4,none⟩=some (.int .i64 0):=(ah dB.out 4).trans rfl
             have Jl:=ag dB.out 0
             have Jk:=ag dB.out 1
             have Jj:=ag dB.out 2
             have Ji:=ag dB.out 3
             have Q3:=ag dB.out 4
             go_wp2
             go_meet
             case rel=>exact ⟨_,(true),(by first|rfl|(simp;done)|(simp [*];done)),H',⟨by have:=En.out;have:=FY.out;have:=yl.out;first|omega|exact Nat.le_refl _⟩,⟨by (with_reducible repeat (first|refine au ?_ _|refine aC ?_|refine ak ?_ _));refine fA ?_ iV.out _;(with_reducible repeat (first|refine au ?_ _|refine aC ?_|refine ak ?_ _));refine fA ?_ iV.out _;(with_reducible repeat (first|refine au ?_ _|refine aC ?_|refine ak ?_ _));refine fA ?_ iV.out _;(with_reducible repeat (first|refine au ?_ _|refine aC ?_|refine ak ?_ _));refine fA ?_ iV.out _;(with_reducible repeat (first|refine au ?_ _|refine aC ?_|refine ak ?_ _));refine fA ?_ iV.out _;(with_reducible repeat (first|refine au ?_ _|refine aC ?_|refine ak ?_ _));exact dP.out⟩,⟨by (with_reducible repeat (first|refine au ?_ _|refine aC ?_|refine ak ?_ _));refine dw (cs:=#[.int .u8 ((aj aJ bP).f0),.int .u8 ((aj aJ bP).f1),.int .u8 ((aj aJ bP).f2),.int .u8 ((aj aJ bP).f3),.int .i64 0]) ?_ 4 _ rfl;(with_reducible repeat (first|refine au ?_ _|refine aC ?_|refine ak ?_ _));refine dw (cs:=#[.int .u8 ((aj aJ bP).f0),.int .u8 ((aj aJ bP).f1),.int .u8 ((aj aJ bP).f2),.int .u8 0,.int .i64 0]) ?_ 3 _ rfl;(with_reducible repeat (first|refine au ?_ _|refine aC ?_|refine ak ?_ _));refine dw (cs:=#[.int .u8 ((aj aJ bP).f0),.int .u8 ((aj aJ bP).f1),.int .u8 0,.int .u8 0,.int .i64 0]) ?_ 2 _ rfl;(with_reducible repeat (first|refine au ?_ _|refine aC ?_|refine ak ?_ _));refine dw (cs:=#[.int .u8 ((aj aJ bP).f0),.int .u8 0,.int .u8 0,.int .u8 0,.int .i64 0]) ?_ 1 _ rfl;(with_reducible repeat (first|refine au ?_ _|refine aC ?_|refine ak ?_ _));refine dw (cs:=#[.int .u8 0,.int .u8 0,.int .u8 0,.int .u8 0,.int .i64 0]) ?_ 0 _ rfl;(with_reducible repeat (first|refine au ?_ _|refine aC ?_|refine ak ?_ _));exact dB.out⟩,⟨by repeat (first|(with_reducible first|exact HB.out|apply ay|apply ai|apply ax|refine aA ?_ kR.out|refine aA ?_ qp.out)|exact HB.out)⟩⟩
            ·
             rw [if_neg KG] at H
             have zN:(((aj aJ bP).f0) == 3)=false:=beq_eq_false_iff_ne.mpr KG
             have aad:(((aj aJ bP).f0) != 3)=true:=bne_iff_ne.mpr KG
             (first|rw [zN]|(simp only [bY,bZ];rw [zN])|skip)
             have H':=ae.mk H
             clear H
             have aiu:=mG.out
             have aia:=iV.out
             have afe:vT.cell? ⟨gZ,0,none⟩=some (.int .u8 0):=(ah dB.out 0).trans rfl
             have afd:vT.cell? ⟨gZ,1,none⟩=some (.int .u8 0):=(ah dB.out 1).trans rfl
             have afc:vT.cell? ⟨gZ,2,none⟩=some (.int .u8 0):=(ah dB.out 2).trans rfl
             have afb:vT.cell? ⟨gZ,3,none⟩=some (.int .u8 0):=(ah dB.out 3).trans rfl
             have afa:vT.cell? ⟨gZ,4,none⟩=some (.int .i64 0):=(ah dB.out 4).trans rfl
             have adK:=ag dB.out 0
             have adJ:=ag dB.out 1
             have adI:=ag dB.out 2
             have adH:=ag dB.out 3
             have adG:=ag dB.out 4
             go_wp2
             go_meet
             case rel=>exact ⟨_,((((aj aJ bP).f0) == 4)),(by first|rfl|(simp;done)|(simp [*];done)),H',⟨by have:=En.out;have:=FY.out;have:=yl.out;first|omega|exact Nat.le_refl _⟩,⟨by (with_reducible repeat (first|refine au ?_ _|refine aC ?_|refine ak ?_ _));refine fA ?_ iV.out _;(with_reducible repeat (first|refine au ?_ _|refine aC ?_|refine ak ?_ _));refine fA ?_ iV.out _;(with_reducible repeat (first|refine au ?_ _|refine aC ?_|refine ak ?_ _));refine fA ?_ iV.out _;(with_reducible repeat (first|refine au ?_ _|refine aC ?_|refine ak ?_ _));refine fA ?_ iV.out _;(with_reducible repeat (first|refine au ?_ _|refine aC ?_|refine ak ?_ _));refine fA ?_ iV.out _;(with_reducible repeat (first|refine au ?_ _|refine aC ?_|refine ak ?_ _));exact dP.out⟩,⟨by (with_reducible repeat (first|refine au ?_ _|refine aC ?_|refine ak ?_ _));refine dw (cs:=#[.int .u8 ((aj aJ bP).f0),.int .u8 ((aj aJ bP).f1),.int .u8 ((aj aJ bP).f2),.int .u8 ((aj aJ bP).f3),.int .i64 0]) ?_ 4 _ rfl;(with_reducible repeat (first|refine au ?_ _|refine aC ?_|refine ak ?_ _));refine dw (cs:=#[.int .u8 ((aj aJ bP).f0),.int .u8 ((aj aJ bP).f1),.int .u8 ((aj aJ bP).f2),.int .u8 0,.int .i64 0]) ?_ 3 _ rfl;(with_reducible repeat (first|refine au ?_ _|refine aC ?_|refine ak ?_ _));refine dw (cs:=#[.int .u8 ((aj aJ bP).f0),.int .u8 ((aj aJ bP).f1),.int .u8 0,.int .u8 0,.int .i64 0]) ?_ 2 _ rfl;(with_reducible repeat (first|refine au ?_ _|refine aC ?_|refine ak ?_ _));refine dw (cs:=#[.int .u8 ((aj aJ bP).f0),.int .u8 0,.int .u8 0,.int .u8 0,.int .i64 0]) ?_ 1 _ rfl;(with_reducible repeat (first|refine au ?_ _|refine aC ?_|refine ak ?_ _));refine dw (cs:=#[.int .u8 0,.int .u8 0,.int .u8 0,.int .u8 0,.int .i64 0]) ?_ 0 _ rfl;(with_reducible repeat (first|refine au ?_ _|refine aC ?_|refine ak ?_ _));exact dB.out⟩,⟨by repeat (first|(with_reducible first|exact HB.out|apply ay|apply ai|apply ax|refine aA ?_ kR.out|refine aA ?_ qp.out)|exact HB.out)⟩⟩
           case rest =>
            clear Yc
            obtain ⟨kq,Au,rfl,HA,O5,dP,dB,HB⟩:=hcut
            cases kq with
            | zero=>exact absurd HA.out (by simp [az.j3])
            | succ yg =>
             have H:=HA.out
             clear HA
             simp only [az.j3] at H
             replace H:=Option.bind_eq_some_iff.mp H
             obtain ⟨t227,aa7,H⟩:=H
             replace H:(if t227=true then (if Au=true then (if ((aj aJ bP).f4) < 0 then (az.j4 yg bP true bC aY aZ aJ ((aj aJ bP).f0) ((aj aJ bP).f1) ((aj aJ bP).f2) ((aj aJ bP).f3) ((aj aJ bP).f4)) else (az.j4 yg bP (decide (((aj aJ bP).f4) > (aJ.length:Int))) bC aY aZ aJ ((aj aJ bP).f0) ((aj aJ bP).f1) ((aj aJ bP).f2) ((aj aJ bP).f3) ((aj aJ bP).f4))) else (az.j4 yg bP false bC aY aZ aJ ((aj aJ bP).f0) ((aj aJ bP).f1) ((aj aJ bP).f2) ((aj aJ bP).f3) ((aj aJ bP).f4))) else (some (bP,4)))=some (r1,r2):=H
             have A31:=ae.mk aa7
             clear aa7
             by_cases c32:t227=true
             ·
              subst c32
              have H1:(if Au=true then (if ((aj aJ bP).f4) < 0 then (az.j4 yg bP true bC aY aZ aJ ((aj aJ bP).f0) ((aj aJ bP).f1) ((aj aJ bP).f2) ((aj aJ bP).f3) ((aj aJ bP).f4)) else (az.j4 yg bP (decide (((aj aJ bP).f4) > (aJ.length:Int))) bC aY aZ aJ ((aj aJ bP).f0) ((aj aJ bP).f1) ((aj aJ bP).f2) ((aj aJ bP).f3) ((aj aJ bP).f4))) else (az.j4 yg bP false bC aY aZ aJ ((aj aJ bP).f0) ((aj aJ bP).f1) ((aj aJ bP).f2) ((aj aJ bP).f3) ((aj aJ bP).f4)))=some (r1,r2):=by rw [if_pos rfl] at H;exact H
              clear H
              have H:=H1
              clear H1
              have Ya:=ae.mk H
              clear H
              have UU:=mG.out
              have UR:=iV.out
              have JU:wc.cell? ⟨gZ,0,none⟩=some (.int .u8 ((aj aJ bP).f0)):=(ah dB.out 0).trans rfl
              have JS:wc.cell? ⟨gZ,1,none⟩=some (.int .u8 ((aj aJ bP).f1)):=(ah dB.out 1).trans rfl
              have JR:wc.cell? ⟨gZ,2,none⟩=some (.int .u8 ((aj aJ bP).f2)):=(ah dB.out 2).trans rfl
              have JQ:wc.cell? ⟨gZ,3,none⟩=some (.int .u8 ((aj aJ bP).f3)):=(ah dB.out 3).trans rfl
              have Tj:wc.cell? ⟨gZ,4,none⟩=some (.int .i64 ((aj aJ bP).f4)):=(ah dB.out 4).trans rfl
              have Jd:=ag dB.out 0
              have Jc:=ag dB.out 1
              have Jb:=ag dB.out 2
              have Ja:=ag dB.out 3
              have QU:=ag dB.out 4
              go_upto_region 12 with (first|((with_reducible refine bT (f:=28) rfl ?_);refine gp (some 65) rfl rfl Tryd.func28 (by kernel_rfl) rfl #[.agg #[.int .u8 ((aj aJ bP).f0),.int .u8 ((aj aJ bP).f1),.int .u8 ((aj aJ bP).f2),.int .u8 ((aj aJ bP).f3),.int .i64 ((aj aJ bP).f4)]] rfl (by (try simp only [List.map_toArray,List.map_cons,List.map_nil]);first|done|rfl|(simp only [List.length_drop,List.length_take];rfl)) ?_;(with_reducible refine (dS.calls yg ((aj aJ bP).f0) ((aj aJ bP).f1) ((aj aJ bP).f2) ((aj aJ bP).f3) ((aj aJ bP).f4) true _ ?dR A31.out).mono ?_);(case dR=>repeat (first|exact (Kd.bW Gf.out HB.out)|(with_reducible refine Kd.dA ?_ _)|(with_reducible refine Kd.dL ?_ _)|(with_reducible refine Kd.dW ?_)));rintro e Gi ⟨rfl,hb⟩;refine ⟨_,rfl,?_⟩;have eU:=ae.mk (bK (g:=iF) (o:=.cells #[.slice eP bC.length eH,.string aY,.string aZ,.slice (some rC) aJ.length fB] 25 (0,0)) (by (with_reducible repeat (first|refine au ?_ _|refine aC ?_|refine ak ?_ _));exact dP.out) hb);have eQ:=ae.mk (bK (g:=gZ) (o:=.cells #[.int .u8 ((aj aJ bP).f0),.int .u8 ((aj aJ bP).f1),.int .u8 ((aj aJ bP).f2),.int .u8 ((aj aJ bP).f3),.int .i64 ((aj aJ bP).f4)] 39 (0,0)) (by (with_reducible repeat (first|refine au ?_ _|refine aC ?_|refine ak ?_ _));exact dB.out) hb);have eu:=ae.mk (bz (by repeat (first|(with_reducible first|exact HB.out|apply ay|apply ai|apply ax|refine aA ?_ kR.out|refine aA ?_ qp.out)|exact HB.out)) hb);clear dP;clear dB;clear HB;have dP:=eU;have dB:=eQ;have HB:=eu;clear eU eQ eu;(try clear hb);(try clear hb2);(try clear hk);(try clear hi)))
              (try simp only [Act.put,List.setIfInBounds_toArray,List.set_cons_zero,List.set_cons_succ])
              go_cut [68] (fun v68 wc=>∃ (kq:Nat) (BI:Bool),v68=.bool BI∧ae (az.j4 kq bP BI bC aY aZ aJ ((aj aJ bP).f0) ((aj aJ bP).f1) ((aj aJ bP).f2) ((aj aJ bP).f3) ((aj aJ bP).f4)=some (r1,r2))∧ae (kq≤yg)∧ae (wc.heap[iF]? = some (.cells #[(.slice eP bC.length eH),.string aY,.string aZ,(.slice (some rC) aJ.length fB)] 25 (0,0)))∧ae (wc.heap[gZ]? = some (.cells #[.int .u8 ((aj aJ bP).f0),.int .u8 ((aj aJ bP).f1),.int .u8 ((aj aJ bP).f2),.int .u8 ((aj aJ bP).f3),.int .i64 ((aj aJ bP).f4)] 39 (0,0)))∧ae (Below w.heap.size w wc))
              case first =>
               have H:=Ya.out
               clear Ya
               by_cases c37:Au=true
               ·
                subst c37
                have H1:(if ((aj aJ bP).f4) < 0 then (az.j4 yg bP true bC aY aZ aJ ((aj aJ bP).f0) ((aj aJ bP).f1) ((aj aJ bP).f2) ((aj aJ bP).f3) ((aj aJ bP).f4)) else (az.j4 yg bP (decide (((aj aJ bP).f4) > (aJ.length:Int))) bC aY aZ aJ ((aj aJ bP).f0) ((aj aJ bP).f1) ((aj aJ bP).f2) ((aj aJ bP).f3) ((aj aJ bP).f4)))=some (r1,r2):=by rw [if_pos rfl] at H;exact H
                clear H
                have H:=H1
                clear H1
                by_cases zY:((aj aJ bP).f4) < 0
                ·
                 rw [if_pos zY] at H
                 have rX:decide (((aj aJ bP).f4) < 0)=true:=decide_eq_true zY
                 clear zY
                 (first|rw [rX]|(simp only [bY,bZ];rw [rX])|skip)
                 have H':=ae.mk H
                 clear H
                 have ais:=mG.out
                 have ah8:=iV.out
                 have S9:Gi.cell? ⟨gZ,0,none⟩=some (.int .u8 ((aj aJ bP).f0)):=(ah dB.out 0).trans rfl
                 have SY:Gi.cell? ⟨gZ,1,none⟩=some (.int .u8 ((aj aJ bP).f1)):=(ah dB.out 1).trans rfl
                 have SX:Gi.cell? ⟨gZ,2,none⟩=some (.int .u8 ((aj aJ bP).f2)):=(ah dB.out 2).trans rfl
                 have SV:Gi.cell? ⟨gZ,3,none⟩=some (.int .u8 ((aj aJ bP).f3)):=(ah dB.out 3).trans rfl
                 have aeV:Gi.cell? ⟨gZ,4,none⟩=some (.int .i64 ((aj aJ bP).f4)):=(ah dB.out 4).trans rfl
                 have QP:=ag dB.out 0
                 have QO:=ag dB.out 1
                 have QN:=ag dB.out 2
                 have QM:=ag dB.out 3
                 have adr:=ag dB.out 4
                 go_wp2
                 go_meet
                 case rel=>exact ⟨_,(true),(by first|rfl|(simp;done)|(simp [*];done)),H',⟨by have:=En.out;have:=FY.out;have:=yl.out;have:=O5.out;first|omega|exact Nat.le_refl _⟩,⟨by (with_reducible repeat (first|refine au ?_ _|refine aC ?_|refine ak ?_ _));exact dP.out⟩,⟨by (with_reducible repeat (first|refine au ?_ _|refine aC ?_|refine ak ?_ _));exact dB.out⟩,⟨by repeat (first|(with_reducible first|exact HB.out|apply ay|apply ai|apply ax|refine aA ?_ kR.out|refine aA ?_ qp.out)|exact HB.out)⟩⟩
                ·
                 rw [if_neg zY] at H
                 have rX:decide (((aj aJ bP).f4) < 0)=false:=decide_eq_false zY
                 clear zY
                 (first|rw [rX]|(simp only [bY,bZ];rw [rX])|skip)
                 have H':=ae.mk H
                 clear H
                 have Zi:=mG.out
                 have Y8:=iV.out
                 have SS:Gi.cell? ⟨gZ,0,none⟩=some (.int .u8 ((aj aJ bP).f0)):=(ah dB.out 0).trans rfl
                 have SQ:Gi.cell? ⟨gZ,1,none⟩=some (.int .u8 ((aj aJ bP).f1)):=(ah dB.out 1).trans rfl
                 have SN:Gi.cell? ⟨gZ,2,none⟩=some (.int .u8 ((aj aJ bP).f2)):=(ah dB.out 2).trans rfl
                 have SL:Gi.cell? ⟨gZ,3,none⟩=some (.int .u8 ((aj aJ bP).f3)):=(ah dB.out 3).trans rfl
                 have SK:Gi.cell? ⟨gZ,4,none⟩=some (.int .i64 ((aj aJ bP).f4)):=(ah dB.out 4).trans rfl
                 have QL:=ag dB.out 0
                 have QK:=ag dB.out 1
                 have QJ:=ag dB.out 2
                 have QI:=ag dB.out 3
                 have QH:=ag dB.out 4
                 have SI:Gi.cell? ⟨iF,0,none⟩=some (.slice eP bC.length eH):=(ah dP.out 0).trans rfl
                 have SH:Gi.cell? ⟨iF,1,none⟩=some (.string aY):=(ah dP.out 1).trans rfl
                 have SG:Gi.cell? ⟨iF,2,none⟩=some (.string aZ):=(ah dP.out 2).trans rfl
                 have SE:Gi.cell? ⟨iF,3,none⟩=some (.slice (some rC) aJ.length fB):=(ah dP.out 3).trans rfl
                 have QG:=ag dP.out 0
                 have QF:=ag dP.out 1
                 have QE:=ag dP.out 2
                 have QD:=ag dP.out 3
                 go_wp2
                 go_meet
                 case rel=>exact ⟨_,(decide (((aj aJ bP).f4) > (aJ.length:Int))),(by first|rfl|(simp;done)|(simp [*];done)),H',⟨by have:=En.out;have:=FY.out;have:=yl.out;have:=O5.out;first|omega|exact Nat.le_refl _⟩,⟨by (with_reducible repeat (first|refine au ?_ _|refine aC ?_|refine ak ?_ _));exact dP.out⟩,⟨by (with_reducible repeat (first|refine au ?_ _|refine aC ?_|refine ak ?_ _));exact dB.out⟩,⟨by repeat (first|(with_reducible first|exact HB.out|apply ay|apply ai|apply ax|refine aA ?_ kR.out|refine aA ?_ qp.out)|exact HB.out)⟩⟩
               ·
                replace c37:=Bool.eq_false_iff.mpr c37
                subst c37
                have H1:(az.j4 yg bP false bC aY aZ aJ ((aj aJ bP).f0) ((aj aJ bP).f1) ((aj aJ bP).f2) ((aj aJ bP).f3) ((aj aJ bP).f4))=some (r1,r2):=by rw [if_neg (show ¬ (false=true) by decide)] at H;exact H
                clear H
                have H:=H1
                clear H1
                have H':=ae.mk H
                clear H
                go_wp2
                go_meet
                case rel=>exact ⟨_,(false),(by first|rfl|(simp;done)|(simp [*];done)),H',⟨by have:=En.out;have:=FY.out;have:=yl.out;have:=O5.out;first|omega|exact Nat.le_refl _⟩,⟨by (with_reducible repeat (first|refine au ?_ _|refine aC ?_|refine ak ?_ _));exact dP.out⟩,⟨by (with_reducible repeat (first|refine au ?_ _|refine aC ?_|refine ak ?_ _));exact dB.out⟩,⟨by repeat (first|(with_reducible first|exact HB.out|apply ay|apply ai|apply ax|refine aA ?_ kR.out|refine aA ?_ qp.out)|exact HB.out)⟩⟩
              case rest =>
               clear Ya
               obtain ⟨kq,BI,rfl,HA,aaI,dP,dB,HB⟩:=hcut
               cases kq with
               | zero=>exact absurd HA.out (by simp [az.j4])
               | succ vH =>
                have H:=HA.out
                clear HA
                simp only [az.j4] at H
                by_cases c44:BI=true
                ·
                 subst c44
                 have H1:(some (bP,12))=some (r1,r2):=by rw [if_pos rfl] at H;exact H
                 clear H
                 have H:=H1
                 clear H1
                 simp only [Option.some.injEq,Prod.mk.injEq] at H
                 obtain ⟨rfl,rfl⟩:=H
                 go_wp2
                 go_ret2
                 exact ⟨by first|rfl|(simp [aT,aQ] <;> rfl)|(simp [*,aT,aQ] <;> rfl),by repeat (first|(with_reducible first|exact HB.out|apply ay|apply ai|apply ax|refine aA ?_ kR.out|refine aA ?_ qp.out)|exact HB.out)⟩
                ·
                 replace c44:=Bool.eq_false_iff.mpr c44
                 subst c44
                 have H1:((bF.f vH ((aj aJ bP).f0) ((aj aJ bP).f1) ((aj aJ bP).f2) ((aj aJ bP).f3) ((aj aJ bP).f4)).bind fun t228=>(if t228=true then ((aX.f vH bC aY aZ aJ ((aj aJ bP).f0) ((aj aJ bP).f1) ((aj aJ bP).f2) ((aj aJ bP).f3) ((aj aJ bP).f4)).bind fun t229=>(if t229=true then (az.l0 vH (wrap64 (bP+1)) bC aY aZ aJ) else (some (bP,5)))) else (some (bP,5))))=some (r1,r2):=by rw [if_neg (show ¬ (false=true) by decide)] at H;exact H
                 clear H
                 have H:=H1
                 clear H1
                 replace H:=Option.bind_eq_some_iff.mp H
                 obtain ⟨t228,aa2,H⟩:=H
                 replace H:(if t228=true then ((aX.f vH bC aY aZ aJ ((aj aJ bP).f0) ((aj aJ bP).f1) ((aj aJ bP).f2) ((aj aJ bP).f3) ((aj aJ bP).f4)).bind fun t229=>(if t229=true then (az.l0 vH (wrap64 (bP+1)) bC aY aZ aJ) else (some (bP,5)))) else (some (bP,5)))=some (r1,r2):=H
                 have A45:=ae.mk aa2
                 clear aa2
                 by_cases c46:t228=true
                 ·
                  subst c46
                  have H1:((aX.f vH bC aY aZ aJ ((aj aJ bP).f0) ((aj aJ bP).f1) ((aj aJ bP).f2) ((aj aJ bP).f3) ((aj aJ bP).f4)).bind fun t229=>(if t229=true then (az.l0 vH (wrap64 (bP+1)) bC aY aZ aJ) else (some (bP,5))))=some (r1,r2):=by rw [if_pos rfl] at H;exact H
                  clear H
                  have H:=H1
                  clear H1
                  replace H:=Option.bind_eq_some_iff.mp H
                  obtain ⟨t229,aa0,H⟩:=H
                  replace H:(if t229=true then (az.l0 vH (wrap64 (bP+1)) bC aY aZ aJ) else (some (bP,5)))=some (r1,r2):=H
                  have A47:=ae.mk aa0
                  clear aa0
                  by_cases c48:t229=true
                  ·
                   subst c48
                   have H1:(az.l0 vH (wrap64 (bP+1)) bC aY aZ aJ)=some (r1,r2):=by rw [if_pos rfl] at H;exact H
                   clear H
                   have H:=H1
                   clear H1
                   have H':=ae.mk H
                   clear H
                   have ain:=mG.out
                   have ah3:=iV.out
                   have aeP:wc.cell? ⟨gZ,0,none⟩=some (.int .u8 ((aj aJ bP).f0)):=(ah dB.out 0).trans rfl
                   have aeO:wc.cell? ⟨gZ,1,none⟩=some (.int .u8 ((aj aJ bP).f1)):=(ah dB.out 1).trans rfl
                   have aeN:wc.cell? ⟨gZ,2,none⟩=some (.int .u8 ((aj aJ bP).f2)):=(ah dB.out 2).trans rfl
                   have aeM:wc.cell? ⟨gZ,3,none⟩=some (.int .u8 ((aj aJ bP).f3)):=(ah dB.out 3).trans rfl
                   have aeL:wc.cell? ⟨gZ,4,none⟩=some (.int .i64 ((aj aJ bP).f4)):=(ah dB.out 4).trans rfl
                   have adl:=ag dB.out 0
                   have adk:=ag dB.out 1
                   have adi:=ag dB.out 2
                   have adh:=ag dB.out 3
                   have adg:=ag dB.out 4
                   go_wp2_with (first|((with_reducible refine bT (f:=29) rfl ?_);refine gp (some 86) rfl rfl Tryd.func29 (by kernel_rfl) rfl #[.agg #[.int .u8 ((aj aJ bP).f0),.int .u8 ((aj aJ bP).f1),.int .u8 ((aj aJ bP).f2),.int .u8 ((aj aJ bP).f3),.int .i64 ((aj aJ bP).f4)]] rfl (by (try simp only [List.map_toArray,List.map_cons,List.map_nil]);first|done|rfl|(simp only [List.length_drop,List.length_take];rfl)) ?_;(with_reducible refine (bF.calls vH ((aj aJ bP).f0) ((aj aJ bP).f1) ((aj aJ bP).f2) ((aj aJ bP).f3) ((aj aJ bP).f4) true _ A45.out).mono ?_);rintro e vW ⟨rfl,hb⟩;refine ⟨_,rfl,?_⟩;have eU:=ae.mk (bK (g:=iF) (o:=.cells #[.slice eP bC.length eH,.string aY,.string aZ,.slice (some rC) aJ.length fB] 25 (0,0)) (by (with_reducible repeat (first|refine au ?_ _|refine aC ?_|refine ak ?_ _));exact dP.out) hb);have eQ:=ae.mk (bK (g:=gZ) (o:=.cells #[.int .u8 ((aj aJ bP).f0),.int .u8 ((aj aJ bP).f1),.int .u8 ((aj aJ bP).f2),.int .u8 ((aj aJ bP).f3),.int .i64 ((aj aJ bP).f4)] 39 (0,0)) (by (with_reducible repeat (first|refine au ?_ _|refine aC ?_|refine ak ?_ _));exact dB.out) hb);have eu:=ae.mk (bz (by repeat (first|(with_reducible first|exact HB.out|apply ay|apply ai|apply ax|refine aA ?_ kR.out|refine aA ?_ qp.out)|exact HB.out)) hb);clear dP;clear dB;clear HB;have dP:=eU;have dB:=eQ;have HB:=eu;clear eU eQ eu;(try clear hb);(try clear hb2);(try clear hk);(try clear hi);have JP:vW.cell? ⟨iF,0,none⟩=some (.slice eP bC.length eH):=(ah dP.out 0).trans rfl;have JO:vW.cell? ⟨iF,1,none⟩=some (.string aY):=(ah dP.out 1).trans rfl;have JM:vW.cell? ⟨iF,2,none⟩=some (.string aZ):=(ah dP.out 2).trans rfl;have JL:vW.cell? ⟨iF,3,none⟩=some (.slice (some rC) aJ.length fB):=(ah dP.out 3).trans rfl;have I9:=ag dP.out 0;have I8:=ag dP.out 1;have I7:=ag dP.out 2;have I5:=ag dP.out 3;have aeG:vW.cell? ⟨gZ,0,none⟩=some (.int .u8 ((aj aJ bP).f0)):=(ah dB.out 0).trans rfl;have aeF:vW.cell? ⟨gZ,1,none⟩=some (.int .u8 ((aj aJ bP).f1)):=(ah dB.out 1).trans rfl;have aeE:vW.cell? ⟨gZ,2,none⟩=some (.int .u8 ((aj aJ bP).f2)):=(ah dB.out 2).trans rfl;have aeD:vW.cell? ⟨gZ,3,none⟩=some (.int .u8 ((aj aJ bP).f3)):=(ah dB.out 3).trans rfl;have aeC:vW.cell? ⟨gZ,4,none⟩=some (.int .i64 ((aj aJ bP).f4)):=(ah dB.out 4).trans rfl;have ac9:=ag dB.out 0;have ac8:=ag dB.out 1;have ac7:=ag dB.out 2;have ac6:=ag dB.out 3;have ac5:=ag dB.out 4)|(go_at_call 30;(with_reducible refine (aX.calls vH _ _ bC aY aZ _ _ aJ ((aj aJ bP).f0) ((aj aJ bP).f1) ((aj aJ bP).f2) ((aj aJ bP).f3) ((aj aJ bP).f4) true _ ?dR ?dU ?jq ?jo A47.out).mono ?_);(case dR=>repeat (first|exact (Kd.bW ji.out HB.out)|(with_reducible refine Kd.dA ?_ _)|(with_reducible refine Kd.dL ?_ _)|(with_reducible refine Kd.dW ?_)));(case dU=>exact jr.out);(case jq=>repeat (first|exact (Kd.bW jR.out HB.out)|(with_reducible refine Kd.dA ?_ _)|(with_reducible refine Kd.dL ?_ _)|(with_reducible refine Kd.dW ?_)));(case jo=>exact lD.out);rintro e w54 ⟨rfl,hb⟩;have eU:=ae.mk (bK (g:=iF) (o:=.cells #[.slice eP bC.length eH,.string aY,.string aZ,.slice (some rC) aJ.length fB] 25 (0,0)) (by (with_reducible repeat (first|refine au ?_ _|refine aC ?_|refine ak ?_ _));exact dP.out) hb);have eQ:=ae.mk (bK (g:=gZ) (o:=.cells #[.int .u8 ((aj aJ bP).f0),.int .u8 ((aj aJ bP).f1),.int .u8 ((aj aJ bP).f2),.int .u8 ((aj aJ bP).f3),.int .i64 ((aj aJ bP).f4)] 39 (0,0)) (by (with_reducible repeat (first|refine au ?_ _|refine aC ?_|refine ak ?_ _));exact dB.out) hb);have eu:=ae.mk (bz (by repeat (first|(with_reducible first|exact HB.out|apply ay|apply ai|apply ax|refine aA ?_ kR.out|refine aA ?_ qp.out)|exact HB.out)) hb);clear dP;clear dB;clear HB;have dP:=eU;have dB:=eQ;have HB:=eu;clear eU eQ eu;(try clear hb);(try clear hb2);(try clear hk);(try clear hi)))
                   go_roundg vH
                   case measure=>have:=En.out;have:=FY.out;have:=yl.out;have:=O5.out;have:=aaI.out;omega
                   case rel=>exact ⟨(wrap64 (bP+1)),(by first|rfl|(simp;done)|(simp [*];done)),H',⟨by have:=En.out;have:=FY.out;have:=yl.out;have:=O5.out;have:=aaI.out;omega⟩,⟨by (with_reducible repeat (first|refine au ?_ _|refine aC ?_|refine ak ?_ _));exact dP.out⟩,⟨by repeat (first|(with_reducible first|exact HB.out|apply ay|apply ai|apply ax|refine aA ?_ kR.out|refine aA ?_ qp.out)|exact HB.out)⟩⟩
                  ·
                   replace c48:=Bool.eq_false_iff.mpr c48
                   subst c48
                   have H1:(some (bP,5))=some (r1,r2):=by rw [if_neg (show ¬ (false=true) by decide)] at H;exact H
                   clear H
                   have H:=H1
                   clear H1
                   simp only [Option.some.injEq,Prod.mk.injEq] at H
                   obtain ⟨rfl,rfl⟩:=H
                   have Zh:=mG.out
                   have Y7:=iV.out
                   have Sr:wc.cell? ⟨gZ,0,none⟩=some (.int .u8 ((aj aJ bP).f0)):=(ah dB.out 0).trans rfl
                   have Sm:wc.cell? ⟨gZ,1,none⟩=some (.int .u8 ((aj aJ bP).f1)):=(ah dB.out 1).trans rfl
                   have Sl:wc.cell? ⟨gZ,2,none⟩=some (.int .u8 ((aj aJ bP).f2)):=(ah dB.out 2).trans rfl
                   have Sj:wc.cell? ⟨gZ,3,none⟩=some (.int .u8 ((aj aJ bP).f3)):=(ah dB.out 3).trans rfl
                   have Si:wc.cell? ⟨gZ,4,none⟩=some (.int .i64 ((aj aJ bP).f4)):=(ah dB.out 4).trans rfl
                   have Qw:=ag dB.out 0
                   have Qv:=ag dB.out 1
                   have Qu:=ag dB.out 2
                   have Qs:=ag dB.out 3
                   have Qr:=ag dB.out 4
                   go_wp2_with (first|((with_reducible refine bT (f:=29) rfl ?_);refine gp (some 86) rfl rfl Tryd.func29 (by kernel_rfl) rfl #[.agg #[.int .u8 ((aj aJ bP).f0),.int .u8 ((aj aJ bP).f1),.int .u8 ((aj aJ bP).f2),.int .u8 ((aj aJ bP).f3),.int .i64 ((aj aJ bP).f4)]] rfl (by (try simp only [List.map_toArray,List.map_cons,List.map_nil]);first|done|rfl|(simp only [List.length_drop,List.length_take];rfl)) ?_;(with_reducible refine (bF.calls vH ((aj aJ bP).f0) ((aj aJ bP).f1) ((aj aJ bP).f2) ((aj aJ bP).f3) ((aj aJ bP).f4) true _ A45.out).mono ?_);rintro e PV ⟨rfl,hb⟩;refine ⟨_,rfl,?_⟩;have eU:=ae.mk (bK (g:=iF) (o:=.cells #[.slice eP bC.length eH,.string aY,.string aZ,.slice (some rC) aJ.length fB] 25 (0,0)) (by (with_reducible repeat (first|refine au ?_ _|refine aC ?_|refine ak ?_ _));exact dP.out) hb);have eQ:=ae.mk (bK (g:=gZ) (o:=.cells #[.int .u8 ((aj aJ bP).f0),.int .u8 ((aj aJ bP).f1),.int .u8 ((aj aJ bP).f2),.int .u8 ((aj aJ bP).f3),.int .i64 ((aj aJ bP).f4)] 39 (0,0)) (by (with_reducible repeat (first|refine au ?_ _|refine aC ?_|refine ak ?_ _));exact dB.out) hb);have eu:=ae.mk (bz (by repeat (first|(with_reducible first|exact HB.out|apply ay|apply ai|apply ax|refine aA ?_ kR.out|refine aA ?_ qp.out)|exact HB.out)) hb);clear dP;clear dB;clear HB;have dP:=eU;have dB:=eQ;have HB:=eu;clear eU eQ eu;(try clear hb);(try clear hb2);(try clear hk);(try clear hi);have RZ:PV.cell? ⟨iF,0,none⟩=some (.slice eP bC.length eH):=(ah dP.out 0).trans rfl;have RY:PV.cell? ⟨iF,1,none⟩=some (.string aY):=(ah dP.out 1).trans rfl;have RX:PV.cell? ⟨iF,2,none⟩=some (.string aZ):=(ah dP.out 2).trans rfl;have RV:PV.cell? ⟨iF,3,none⟩=some (.slice (some rC) aJ.length fB):=(ah dP.out 3).trans rfl;have Qq:=ag dP.out 0;have Qp:=ag dP.out 1;have Qo:=ag dP.out 2;have Qn:=ag dP.out 3;have JK:PV.cell? ⟨gZ,0,none⟩=some (.int .u8 ((aj aJ bP).f0)):=(ah dB.out 0).trans rfl;have JJ:PV.cell? ⟨gZ,1,none⟩=some (.int .u8 ((aj aJ bP).f1)):=(ah dB.out 1).trans rfl;have JI:PV.cell? ⟨gZ,2,none⟩=some (.int .u8 ((aj aJ bP).f2)):=(ah dB.out 2).trans rfl;have JH:PV.cell? ⟨gZ,3,none⟩=some (.int .u8 ((aj aJ bP).f3)):=(ah dB.out 3).trans rfl;have JG:PV.cell? ⟨gZ,4,none⟩=some (.int .i64 ((aj aJ bP).f4)):=(ah dB.out 4).trans rfl;have I4:=ag dB.out 0;have IZ:=ag dB.out 1;have IY:=ag dB.out 2;have IX:=ag dB.out 3;have IW:=ag dB.out 4)|(go_at_call 30;(with_reducible refine (aX.calls vH _ _ bC aY aZ _ _ aJ ((aj aJ bP).f0) ((aj aJ bP).f1) ((aj aJ bP).f2) ((aj aJ bP).f3) ((aj aJ bP).f4) false _ ?dR ?dU ?jq ?jo A47.out).mono ?_);(case dR=>repeat (first|exact (Kd.bW ji.out HB.out)|(with_reducible refine Kd.dA ?_ _)|(with_reducible refine Kd.dL ?_ _)|(with_reducible refine Kd.dW ?_)));(case dU=>exact jr.out);(case jq=>repeat (first|exact (Kd.bW jR.out HB.out)|(with_reducible refine Kd.dA ?_ _)|(with_reducible refine Kd.dL ?_ _)|(with_reducible refine Kd.dW ?_)));(case jo=>exact lD.out);rintro e w60 ⟨rfl,hb⟩;have eU:=ae.mk (bK (g:=iF) (o:=.cells #[.slice eP bC.length eH,.string aY,.string aZ,.slice (some rC) aJ.length fB] 25 (0,0)) (by (with_reducible repeat (first|refine au ?_ _|refine aC ?_|refine ak ?_ _));exact dP.out) hb);have eQ:=ae.mk (bK (g:=gZ) (o:=.cells #[.int .u8 ((aj aJ bP).f0),.int .u8 ((aj aJ bP).f1),.int .u8 ((aj aJ bP).f2),.int .u8 ((aj aJ bP).f3),.int .i64 ((aj aJ bP).f4)] 39 (0,0)) (by (with_reducible repeat (first|refine au ?_ _|refine aC ?_|refine ak ?_ _));exact dB.out) hb);have eu:=ae.mk (bz (by repeat (first|(with_reducible first|exact HB.out|apply ay|apply ai|apply ax|refine aA ?_ kR.out|refine aA ?_ qp.out)|exact HB.out)) hb);clear dP;clear dB;clear HB;have dP:=eU;have dB:=eQ;have HB:=eu;clear eU eQ eu;(try clear hb);(try clear hb2);(try clear hk);(try clear hi)))
                   go_ret2
                   exact ⟨by first|rfl|(simp [aT,aQ] <;> rfl)|(simp [*,aT,aQ] <;> rfl),by repeat (first|(with_reducible first|exact HB.out|apply ay|apply ai|apply ax|refine aA ?_ kR.out|refine aA ?_ qp.out)|exact HB.out)⟩
                 ·
                  replace c46:=Bool.eq_false_iff.mpr c46
                  subst c46
                  have H1:(some (bP,5))=some (r1,r2):=by rw [if_neg (show ¬ (false=true) by decide)] at H;exact H
                  clear H
                  have H:=H1
                  clear H1
                  simp only [Option.some.injEq,Prod.mk.injEq] at H
                  obtain ⟨rfl,rfl⟩:=H
                  have Zf:=mG.out
                  have Y5:=iV.out
                  have JF:wc.cell? ⟨gZ,0,none⟩=some (.int .u8 ((aj aJ bP).f0)):=(ah dB.out 0).trans rfl
                  have JE:wc.cell? ⟨gZ,1,none⟩=some (.int .u8 ((aj aJ bP).f1)):=(ah dB.out 1).trans rfl
                  have JD:wc.cell? ⟨gZ,2,none⟩=some (.int .u8 ((aj aJ bP).f2)):=(ah dB.out 2).trans rfl
                  have JC:wc.cell? ⟨gZ,3,none⟩=some (.int .u8 ((aj aJ bP).f3)):=(ah dB.out 3).trans rfl
                  have JB:wc.cell? ⟨gZ,4,none⟩=some (.int .i64 ((aj aJ bP).f4)):=(ah dB.out 4).trans rfl
                  have IV:=ag dB.out 0
                  have IU:=ag dB.out 1
                  have IQ:=ag dB.out 2
                  have IP:=ag dB.out 3
                  have IM:=ag dB.out 4
                  go_wp2_with (first|((with_reducible refine bT (f:=29) rfl ?_);refine gp (some 86) rfl rfl Tryd.func29 (by kernel_rfl) rfl #[.agg #[.int .u8 ((aj aJ bP).f0),.int .u8 ((aj aJ bP).f1),.int .u8 ((aj aJ bP).f2),.int .u8 ((aj aJ bP).f3),.int .i64 ((aj aJ bP).f4)]] rfl (by (try simp only [List.map_toArray,List.map_cons,List.map_nil]);first|done|rfl|(simp only [List.length_drop,List.length_take];rfl)) ?_;(with_reducible refine (bF.calls vH ((aj aJ bP).f0) ((aj aJ bP).f1) ((aj aJ bP).f2) ((aj aJ bP).f3) ((aj aJ bP).f4) false _ A45.out).mono ?_);rintro e w63 ⟨rfl,hb⟩;refine ⟨_,rfl,?_⟩;have eU:=ae.mk (bK (g:=iF) (o:=.cells #[.slice eP bC.length eH,.string aY,.string aZ,.slice (some rC) aJ.length fB] 25 (0,0)) (by (with_reducible repeat (first|refine au ?_ _|refine aC ?_|refine ak ?_ _));exact dP.out) hb);have eQ:=ae.mk (bK (g:=gZ) (o:=.cells #[.int .u8 ((aj aJ bP).f0),.int .u8 ((aj aJ bP).f1),.int .u8 ((aj aJ bP).f2),.int .u8 ((aj aJ bP).f3),.int .i64 ((aj aJ bP).f4)] 39 (0,0)) (by (with_reducible repeat (first|refine au ?_ _|refine aC ?_|refine ak ?_ _));exact dB.out) hb);have eu:=ae.mk (bz (by repeat (first|(with_reducible first|exact HB.out|apply ay|apply ai|apply ax|refine aA ?_ kR.out|refine aA ?_ qp.out)|exact HB.out)) hb);clear dP;clear dB;clear HB;have dP:=eU;have dB:=eQ;have HB:=eu;clear eU eQ eu;(try clear hb);(try clear hb2);(try clear hk);(try clear hi)))
                  go_ret2
                  exact ⟨by first|rfl|(simp [aT,aQ] <;> rfl)|(simp [*,aT,aQ] <;> rfl),by repeat (first|(with_reducible first|exact HB.out|apply ay|apply ai|apply ax|refine aA ?_ kR.out|refine aA ?_ qp.out)|exact HB.out)⟩
             ·
              replace c32:=Bool.eq_false_iff.mpr c32
              subst c32
              have H1:(some (bP,4))=some (r1,r2):=by rw [if_neg (show ¬ (false=true) by decide)] at H;exact H
              clear H
              have H:=H1
              clear H1
              simp only [Option.some.injEq,Prod.mk.injEq] at H
              obtain ⟨rfl,rfl⟩:=H
              have Ze:=mG.out
              have Y4:=iV.out
              have RU:wc.cell? ⟨gZ,0,none⟩=some (.int .u8 ((aj aJ bP).f0)):=(ah dB.out 0).trans rfl
              have RS:wc.cell? ⟨gZ,1,none⟩=some (.int .u8 ((aj aJ bP).f1)):=(ah dB.out 1).trans rfl
              have RQ:wc.cell? ⟨gZ,2,none⟩=some (.int .u8 ((aj aJ bP).f2)):=(ah dB.out 2).trans rfl
              have RP:wc.cell? ⟨gZ,3,none⟩=some (.int .u8 ((aj aJ bP).f3)):=(ah dB.out 3).trans rfl
              have aeh:wc.cell? ⟨gZ,4,none⟩=some (.int .i64 ((aj aJ bP).f4)):=(ah dB.out 4).trans rfl
              have Qm:=ag dB.out 0
              have Ql:=ag dB.out 1
              have Qk:=ag dB.out 2
              have Qj:=ag dB.out 3
              have acK:=ag dB.out 4
              go_wp2_with (first|((with_reducible refine bT (f:=28) rfl ?_);refine gp (some 65) rfl rfl Tryd.func28 (by kernel_rfl) rfl #[.agg #[.int .u8 ((aj aJ bP).f0),.int .u8 ((aj aJ bP).f1),.int .u8 ((aj aJ bP).f2),.int .u8 ((aj aJ bP).f3),.int .i64 ((aj aJ bP).f4)]] rfl (by (try simp only [List.map_toArray,List.map_cons,List.map_nil]);first|done|rfl|(simp only [List.length_drop,List.length_take];rfl)) ?_;(with_reducible refine (dS.calls yg ((aj aJ bP).f0) ((aj aJ bP).f1) ((aj aJ bP).f2) ((aj aJ bP).f3) ((aj aJ bP).f4) false _ ?dR A31.out).mono ?_);(case dR=>repeat (first|exact (Kd.bW Gf.out HB.out)|(with_reducible refine Kd.dA ?_ _)|(with_reducible refine Kd.dL ?_ _)|(with_reducible refine Kd.dW ?_)));rintro e w66 ⟨rfl,hb⟩;refine ⟨_,rfl,?_⟩;have eU:=ae.mk (bK (g:=iF) (o:=.cells #[.slice eP bC.length eH,.string aY,.string aZ,.slice (some rC) aJ.length fB] 25 (0,0)) (by (with_reducible repeat (first|refine au ?_ _|refine aC ?_|refine ak ?_ _));exact dP.out) hb);have eQ:=ae.mk (bK (g:=gZ) (o:=.cells #[.int .u8 ((aj aJ bP).f0),.int .u8 ((aj aJ bP).f1),.int .u8 ((aj aJ bP).f2),.int .u8 ((aj aJ bP).f3),.int .i64 ((aj aJ bP).f4)] 39 (0,0)) (by (with_reducible repeat (first|refine au ?_ _|refine aC ?_|refine ak ?_ _));exact dB.out) hb);have eu:=ae.mk (bz (by repeat (first|(with_reducible first|exact HB.out|apply ay|apply ai|apply ax|refine aA ?_ kR.out|refine aA ?_ qp.out)|exact HB.out)) hb);clear dP;clear dB;clear HB;have dP:=eU;have dB:=eQ;have HB:=eu;clear eU eQ eu;(try clear hb);(try clear hb2);(try clear hk);(try clear hi)))
              go_ret2
              exact ⟨by first|rfl|(simp [aT,aQ] <;> rfl)|(simp [*,aT,aQ] <;> rfl),by repeat (first|(with_reducible first|exact HB.out|apply ay|apply ai|apply ax|refine aA ?_ kR.out|refine aA ?_ qp.out)|exact HB.out)⟩
          ·
           rw [if_neg c20] at H
           exact absurd H (by simp)
         ·
          rw [if_neg c19] at H
          have Bv:decide (bP < (aJ.length:Int))=false:=decide_eq_false c19
          clear c19
          simp only [Option.some.injEq,Prod.mk.injEq] at H
          obtain ⟨rfl,rfl⟩:=H
          have aeb:wr.cell? ⟨iF,0,none⟩=some (.slice eP bC.length eH):=(ah dP.out 0).trans rfl
          have aea:wr.cell? ⟨iF,1,none⟩=some (.string aY):=(ah dP.out 1).trans rfl
          have ad9:wr.cell? ⟨iF,2,none⟩=some (.string aZ):=(ah dP.out 2).trans rfl
          have ad8:wr.cell? ⟨iF,3,none⟩=some (.slice gy aJ.length fB):=(ah dP.out 3).trans rfl
          have acE:=ag dP.out 0
          have acD:=ag dP.out 1
          have acC:=ag dP.out 2
          have acB:=ag dP.out 3
          go_wp2
          go_ret2
          exact ⟨by first|rfl|(simp [aT,aQ] <;> rfl)|(simp [*,aT,aQ] <;> rfl),by repeat (first|(with_reducible first|exact HB.out|apply ay|apply ai|apply ax|refine aA ?_ kR.out)|exact HB.out)⟩
end Go.Proofs.YtbmhmlgfpijmhaaDoor.P
end
