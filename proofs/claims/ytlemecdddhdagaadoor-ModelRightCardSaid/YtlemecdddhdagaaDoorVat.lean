/- Parts of the proof of ModelRight: what the functions that it reaches compute, and plain facts about that. -/
import Derived.Test.YtlemecdddhdagaaDoorVab
import Derived.Test.YtlemecdddhdagaaDoorVac
import Derived.Test.YtlemecdddhdagaaDoorVam
import Derived.Test.YtlemecdddhdagaaDoorVap
import Derived.Test.YtlemecdddhdagaaDoorVar
import Derived.Test.YtlemecdddhdagaaDoorVas
set_option linter.unusedVariables false
set_option linter.unusedSimpArgs false
section
namespace Go.Proofs.YtlemecdddhdagaaDoor.P
open Go.RowKit Go.Proofs.ag.bI Go.Proofs.ag.dM Go.Proofs.ag.dZ
attribute [local go_sem] kU kS lW lV jS jR kT kR
mutual
def az.j0:Nat→Bool→List ByteArray→ByteArray→ByteArray→List (gZ)→Option (Int × Int)
 | 0,_,_,_,_,_=>none
 | k+1,x32,mO,mM,mJ,iR=>if x32=true then (some ((-1),5)) else (if (iR.length:Int) < 1 then (az.j1 k true mO mM mJ iR) else (az.j1 k (decide ((iR.length:Int) > 200)) mO mM mJ iR))
def az.j1:Nat→Bool→List ByteArray→ByteArray→ByteArray→List (gZ)→Option (Int × Int)
 | 0,_,_,_,_,_=>none
 | k+1,o7,mO,mM,mJ,iR=>if o7=true then (some ((-1),3)) else (az.l0 k 0 mO mM mJ iR)
def az.l0:Nat→Int→List ByteArray→ByteArray→ByteArray→List (gZ)→Option (Int × Int)
 | 0,_,_,_,_,_=>none
 | k+1,x4,mO,mM,mJ,iR=>if x4 < (iR.length:Int) then (if 0≤x4 then (if ((aA iR x4).f0)=3 then (az.j3 k x4 true mO mM mJ iR ((aA iR x4).f0) ((aA iR x4).f1) ((aA iR x4).f2) ((aA iR x4).f3) ((aA iR x4).f4)) else (az.j3 k x4 (((aA iR x4).f0) == 4) mO mM mJ iR ((aA iR x4).f0) ((aA iR x4).f1) ((aA iR x4).f2) ((aA iR x4).f3) ((aA iR x4).f4))) else (none)) else (some ((-1),0))
def az.j3:Nat→Int→Bool→List ByteArray→ByteArray→ByteArray→List (gZ)→Int→Int→Int→Int→Int→Option (Int × Int)
 | 0,_,_,_,_,_,_,_,_,_,_,_=>none
 | k+1,x4,x6,mO,mM,mJ,iR,sD,su,rZ,rY,qw=>(dY.f k sD su rZ rY qw).bind fun t190=>(if t190=true then (if x6=true then (if qw < 0 then (az.j4 k x4 true mO mM mJ iR sD su rZ rY qw) else (az.j4 k x4 (decide (qw > (iR.length:Int))) mO mM mJ iR sD su rZ rY qw)) else (az.j4 k x4 false mO mM mJ iR sD su rZ rY qw)) else (some (x4,4)))
def az.j4:Nat→Int→Bool→List ByteArray→ByteArray→ByteArray→List (gZ)→Int→Int→Int→Int→Int→Option (Int × Int)
 | 0,_,_,_,_,_,_,_,_,_,_,_=>none
 | k+1,x4,x68,mO,mM,mJ,iR,sD,su,rZ,rY,qw=>if x68=true then (some (x4,12)) else ((bF.f k sD su rZ rY qw).bind fun t191=>(if t191=true then ((aX.f k mO mM mJ iR sD su rZ rY qw).bind fun t192=>(if t192=true then (az.l0 k (wrap64 (x4+1)) mO mM mJ iR) else (some (x4,5)))) else (some (x4,5))))
end
def az.f (k:Nat) (aY:List ByteArray) (aU:ByteArray) (aV:ByteArray) (aI:List (gZ)):Option (Int × Int):=(aW.f k aY aU).bind fun t186=>(if t186=true then ((aW.f k aY aV).bind fun t187=>(if t187=true then (if (aU.size:Int) > 8 then (az.j0 k true aY aU aV aI) else (az.j0 k (decide ((aV.size:Int) > 4)) aY aU aV aI)) else (az.j0 k true aY aU aV aI))) else (az.j0 k true aY aU aV aI))
theorem az.gY:∀ k,(∀ y0 y1 y2 y3 y4,dN (az.j0 k y0 y1 y2 y3 y4) (az.j0 (k+1) y0 y1 y2 y3 y4))∧(∀ y0 y1 y2 y3 y4,dN (az.j1 k y0 y1 y2 y3 y4) (az.j1 (k+1) y0 y1 y2 y3 y4))∧(∀ y0 y1 y2 y3 y4,dN (az.l0 k y0 y1 y2 y3 y4) (az.l0 (k+1) y0 y1 y2 y3 y4))∧(∀ y0 y1 y2 y3 y4 y5 y6 y7 y8 y9 zA,dN (az.j3 k y0 y1 y2 y3 y4 y5 y6 y7 y8 y9 zA) (az.j3 (k+1) y0 y1 y2 y3 y4 y5 y6 y7 y8 y9 zA))∧(∀ y0 y1 y2 y3 y4 y5 y6 y7 y8 y9 zA,dN (az.j4 k y0 y1 y2 y3 y4 y5 y6 y7 y8 y9 zA) (az.j4 (k+1) y0 y1 y2 y3 y4 y5 y6 y7 y8 y9 zA))
 | 0=>⟨fun _ _ _ _ _ r h=>by simp [az.j0] at h,fun _ _ _ _ _ r h=>by simp [az.j1] at h,fun _ _ _ _ _ r h=>by simp [az.l0] at h,fun _ _ _ _ _ _ _ _ _ _ _ r h=>by simp [az.j3] at h,fun _ _ _ _ _ _ _ _ _ _ _ r h=>by simp [az.j4] at h⟩
 | k+1=>by
  obtain ⟨lF,ih1,ih2,ih3,YQ⟩:=az.gY k
  refine ⟨?_,?_,?_,?_,?_⟩
  ·
   intro y0 y1 y2 y3 y4
   unfold az.j0
   repeat' with_reducible first|apply lF|apply ih1|apply ih2|apply ih3|apply YQ|apply aW.mono|apply dY.mono|apply bF.mono|apply aX.mono|exact dN.refl _|exact dN.none _|refine dN.ite ?_ ?_|refine dN.bind ?_ (fun _=>?_)
  ·
   intro y0 y1 y2 y3 y4
   unfold az.j1
   repeat' with_reducible first|apply lF|apply ih1|apply ih2|apply ih3|apply YQ|apply aW.mono|apply dY.mono|apply bF.mono|apply aX.mono|exact dN.refl _|exact dN.none _|refine dN.ite ?_ ?_|refine dN.bind ?_ (fun _=>?_)
  ·
   intro y0 y1 y2 y3 y4
   unfold az.l0
   repeat' with_reducible first|apply lF|apply ih1|apply ih2|apply ih3|apply YQ|apply aW.mono|apply dY.mono|apply bF.mono|apply aX.mono|exact dN.refl _|exact dN.none _|refine dN.ite ?_ ?_|refine dN.bind ?_ (fun _=>?_)
  ·
   intro y0 y1 y2 y3 y4 y5 y6 y7 y8 y9 zA
   unfold az.j3
   repeat' with_reducible first|apply lF|apply ih1|apply ih2|apply ih3|apply YQ|apply aW.mono|apply dY.mono|apply bF.mono|apply aX.mono|exact dN.refl _|exact dN.none _|refine dN.ite ?_ ?_|refine dN.bind ?_ (fun _=>?_)
  ·
   intro y0 y1 y2 y3 y4 y5 y6 y7 y8 y9 zA
   unfold az.j4
   repeat' with_reducible first|apply lF|apply ih1|apply ih2|apply ih3|apply YQ|apply aW.mono|apply dY.mono|apply bF.mono|apply aX.mono|exact dN.refl _|exact dN.none _|refine dN.ite ?_ ?_|refine dN.bind ?_ (fun _=>?_)
theorem az.mono:∀ a0 a1 a2 a3 k,dN (az.f k a0 a1 a2 a3) (az.f (k+1) a0 a1 a2 a3):=by
 intro a0 a1 a2 a3 k
 obtain ⟨lF,ih1,ih2,ih3,YQ⟩:=az.gY k
 unfold az.f
 repeat' with_reducible first|apply lF|apply ih1|apply ih2|apply ih3|apply YQ|apply aW.mono|apply dY.mono|apply bF.mono|apply aX.mono|exact dN.refl _|exact dN.none _|refine dN.ite ?_ ?_|refine dN.bind ?_ (fun _=>?_)
set_option maxHeartbeats 8000000 in
set_option maxRecDepth 100000 in
theorem az.calls (k:Nat) (eu:Option Addr) (ed:Nat) (aY:List ByteArray) (aU:ByteArray) (aV:ByteArray) (fV:Option Addr) (eX:Nat) (aI:List (gZ)) (r1:Int) (r2:Int) (w:World) (jK:Kd.C Kd.string w eu aY.length aY) (jM:aY.length≤ed) (jJ:Kd.C tZ w fV aI.length aI) (jL:aI.length≤eX) (kZ:Kd.C xY w xZ pK.length pK) (h:az.f k aY aU aV aI=some (r1,r2)) :
  Calls Tryd.prog 18 #[.agg #[.slice eu aY.length ed,.string aU,.string aV,.slice fV aI.length eX]] w fun e w'=>e=.returned (.tuple #[.int .i64 r1,.int .i64 r2])∧Below w.heap.size w w':=by
 have xM:=Tryd.underlying25
 have Bi:=Tryd.underlying55
 have iq:=ae.mk jK
 have iC:=ae.mk jM
 clear jK jM
 have jG:=ae.mk jJ
 have jW:=ae.mk jL
 clear jJ jL
 have wJ:=ae.mk kZ
 clear kZ
 have HB:=ae.mk (Below.refl w.heap.size w)
 have H:((aW.f k aY aU).bind fun t186=>(if t186=true then ((aW.f k aY aV).bind fun t187=>(if t187=true then (if (aU.size:Int) > 8 then (az.j0 k true aY aU aV aI) else (az.j0 k (decide ((aV.size:Int) > 4)) aY aU aV aI)) else (az.j0 k true aY aU aV aI))) else (az.j0 k true aY aU aV aI)))=some (r1,r2):=h
 clear h
 have HC2:=ae.mk H
 clear H
 go_enter Tryd.func18,Tryd.ntmps18
 go_upto_region 1 with (first|((with_reducible refine dL (N:=1) rfl ?_);(try (refine kG (by rfl) ?_;dsimp only));refine fF ?hg (N:=1) ?hd (cs:=#[.slice eu aY.length ed,.string aU,.string aV,.slice fV aI.length eX]) (t:=25) ?hr ?_;(case hd=>rfl);(case hg=>rfl);(case hr=>first|(go_simp;done)|(go_simp;rfl));intro qj hg w3 hbox hb;have dV:=ae.mk (bg (by repeat (first|(with_reducible first|exact HB.out|apply ah|apply af|apply ai)|exact HB.out)) hb);have dU:=ae.mk (hbox);have dR:=ae.mk ((by rw [hg];exact (bW (by repeat (first|(with_reducible first|exact HB.out|apply ah|apply af|apply ai)|exact HB.out))):w.heap.size≤qj));have gQ:=dR;clear HB;have HB:=dV;have iJ:=dU;have anU:=dR;have kN:=gQ;clear dV dU dR gQ;clear hb hbox hg))
 (try simp only [Act.put,List.setIfInBounds_toArray,List.set_cons_zero,List.set_cons_succ])
 go_cut [32] (fun v32 wc=>∃ (kq:Nat) (Ie:Bool),v32=.bool Ie∧ae (az.j0 kq Ie aY aU aV aI=some (r1,r2))∧ae (kq≤k)∧ae (wc.heap[qj]? = some (.cells #[(.slice eu aY.length ed),.string aU,.string aV,(.slice fV aI.length eX)] 25 (0,0)))∧ae (Below w.heap.size w wc))
 case first =>
  have H:=HC2.out
  clear HC2
  replace H:=Option.bind_eq_some_iff.mp H
  obtain ⟨t186,Be,H⟩:=H
  replace H:(if t186=true then ((aW.f k aY aV).bind fun t187=>(if t187=true then (if (aU.size:Int) > 8 then (az.j0 k true aY aU aV aI) else (az.j0 k (decide ((aV.size:Int) > 4)) aY aU aV aI)) else (az.j0 k true aY aU aV aI))) else (az.j0 k true aY aU aV aI))=some (r1,r2):=H
  have A4:=ae.mk Be
  clear Be
  by_cases c5:t186=true
  ·
   subst c5
   have H1:((aW.f k aY aV).bind fun t187=>(if t187=true then (if (aU.size:Int) > 8 then (az.j0 k true aY aU aV aI) else (az.j0 k (decide ((aV.size:Int) > 4)) aY aU aV aI)) else (az.j0 k true aY aU aV aI)))=some (r1,r2):=by rw [if_pos rfl] at H;exact H
   clear H
   have H:=H1
   clear H1
   replace H:=Option.bind_eq_some_iff.mp H
   obtain ⟨t187,Lp,H⟩:=H
   replace H:(if t187=true then (if (aU.size:Int) > 8 then (az.j0 k true aY aU aV aI) else (az.j0 k (decide ((aV.size:Int) > 4)) aY aU aV aI)) else (az.j0 k true aY aU aV aI))=some (r1,r2):=H
   have A6:=ae.mk Lp
   clear Lp
   by_cases c7:t187=true
   ·
    subst c7
    have H1:(if (aU.size:Int) > 8 then (az.j0 k true aY aU aV aI) else (az.j0 k (decide ((aV.size:Int) > 4)) aY aU aV aI))=some (r1,r2):=by rw [if_pos rfl] at H;exact H
    clear H
    have H:=H1
    clear H1
    by_cases c8:(aU.size:Int) > 8
    ·
     rw [if_pos c8] at H
     have oU:decide (8 < (aU.size:Int))=true:=decide_eq_true c8
     have yH:decide (8 < aU.size)=true:=decide_eq_true (by omega)
     clear c8
     (first|rw [oU]|(simp only [bG,bJ];rw [oU])|skip)
     have H':=ae.mk H
     clear H
     obtain ⟨Ha,G9,G8,G7,G5,GZ,GY,GX⟩:=qP iJ.out
     go_wp2_with (first|((with_reducible refine bu (f:=27) rfl ?_);refine dS (some 11) rfl rfl Tryd.func27 (by kernel_rfl) rfl #[.slice eu aY.length ed,.string aU] rfl (by (try simp only [List.map_toArray,List.map_cons,List.map_nil]);first|done|rfl|(simp only [List.length_drop,List.length_take];rfl)) ?_;(with_reducible refine (aW.calls k _ _ aY aU true _ ?cu ?dw A4.out).mono ?_);(case cu=>repeat (first|exact (Kd.bK iq.out HB.out)|(with_reducible refine Kd.bT ?_ _)|(with_reducible refine Kd.bQ ?_ _)|(with_reducible refine Kd.dD ?_)));(case dw=>exact iC.out);rintro e w' ⟨rfl,⟨nd,rfl⟩⟩;refine ⟨_,rfl,?_⟩)|(go_at_call 27;(with_reducible refine (aW.calls k _ _ aY aV true _ ?cu ?dw A6.out).mono ?_);(case cu=>repeat (first|exact (Kd.bK iq.out (by repeat (first|(with_reducible first|exact HB.out|apply ah|apply af|apply ai|refine aj ?_ kN.out)|exact HB.out)))|(with_reducible refine Kd.bT ?_ _)|(with_reducible refine Kd.bQ ?_ _)|(with_reducible refine Kd.dD ?_)));(case dw=>exact iC.out);rintro e w' ⟨rfl,⟨nd,rfl⟩⟩))
     go_meet
     case rel=>exact ⟨_,(true),(by first|rfl|(simp;done)|(simp [*];done)),H',⟨by first|omega|exact Nat.le_refl _⟩,⟨by (with_reducible repeat (first|refine au ?_ _|refine ay ?_|refine ak ?_ _));exact iJ.out⟩,⟨by repeat (first|(with_reducible first|exact HB.out|apply ah|apply af|apply ai|refine aj ?_ kN.out)|exact HB.out)⟩⟩
    ·
     rw [if_neg c8] at H
     have oU:decide (8 < (aU.size:Int))=false:=decide_eq_false c8
     have yH:decide (8 < aU.size)=false:=decide_eq_false (by omega)
     clear c8
     (first|rw [oU]|(simp only [bG,bJ];rw [oU])|skip)
     have H':=ae.mk H
     clear H
     obtain ⟨xe,wZ,wY,wX,wW,wV,wU,wS⟩:=qP iJ.out
     go_wp2_with (first|((with_reducible refine bu (f:=27) rfl ?_);refine dS (some 11) rfl rfl Tryd.func27 (by kernel_rfl) rfl #[.slice eu aY.length ed,.string aU] rfl (by (try simp only [List.map_toArray,List.map_cons,List.map_nil]);first|done|rfl|(simp only [List.length_drop,List.length_take];rfl)) ?_;(with_reducible refine (aW.calls k _ _ aY aU true _ ?cu ?dw A4.out).mono ?_);(case cu=>repeat (first|exact (Kd.bK iq.out HB.out)|(with_reducible refine Kd.bT ?_ _)|(with_reducible refine Kd.bQ ?_ _)|(with_reducible refine Kd.dD ?_)));(case dw=>exact iC.out);rintro e w' ⟨rfl,⟨nd,rfl⟩⟩;refine ⟨_,rfl,?_⟩)|(go_at_call 27;(with_reducible refine (aW.calls k _ _ aY aV true _ ?cu ?dw A6.out).mono ?_);(case cu=>repeat (first|exact (Kd.bK iq.out (by repeat (first|(with_reducible first|exact HB.out|apply ah|apply af|apply ai|refine aj ?_ kN.out)|exact HB.out)))|(with_reducible refine Kd.bT ?_ _)|(with_reducible refine Kd.bQ ?_ _)|(with_reducible refine Kd.dD ?_)));(case dw=>exact iC.out);rintro e w' ⟨rfl,⟨nd,rfl⟩⟩))
     go_meet
     case rel=>exact ⟨_,(decide ((aV.size:Int) > 4)),(by first|rfl|(simp;done)|(simp [*];done)),H',⟨by first|omega|exact Nat.le_refl _⟩,⟨by (with_reducible repeat (first|refine au ?_ _|refine ay ?_|refine ak ?_ _));exact iJ.out⟩,⟨by repeat (first|(with_reducible first|exact HB.out|apply ah|apply af|apply ai|refine aj ?_ kN.out)|exact HB.out)⟩⟩
   ·
    replace c7:=Bool.eq_false_iff.mpr c7
    subst c7
    have H1:(az.j0 k true aY aU aV aI)=some (r1,r2):=by rw [if_neg (show ¬ (false=true) by decide)] at H;exact H
    clear H
    have H:=H1
    clear H1
    have H':=ae.mk H
    clear H
    obtain ⟨zn,zl,zk,zi,yY,yX,yV,yU⟩:=qP iJ.out
    go_wp2_with (first|((with_reducible refine bu (f:=27) rfl ?_);refine dS (some 11) rfl rfl Tryd.func27 (by kernel_rfl) rfl #[.slice eu aY.length ed,.string aU] rfl (by (try simp only [List.map_toArray,List.map_cons,List.map_nil]);first|done|rfl|(simp only [List.length_drop,List.length_take];rfl)) ?_;(with_reducible refine (aW.calls k _ _ aY aU true _ ?cu ?dw A4.out).mono ?_);(case cu=>repeat (first|exact (Kd.bK iq.out HB.out)|(with_reducible refine Kd.bT ?_ _)|(with_reducible refine Kd.bQ ?_ _)|(with_reducible refine Kd.dD ?_)));(case dw=>exact iC.out);rintro e w' ⟨rfl,⟨nd,rfl⟩⟩;refine ⟨_,rfl,?_⟩)|(go_at_call 27;(with_reducible refine (aW.calls k _ _ aY aV false _ ?cu ?dw A6.out).mono ?_);(case cu=>repeat (first|exact (Kd.bK iq.out (by repeat (first|(with_reducible first|exact HB.out|apply ah|apply af|apply ai|refine aj ?_ kN.out)|exact HB.out)))|(with_reducible refine Kd.bT ?_ _)|(with_reducible refine Kd.bQ ?_ _)|(with_reducible refine Kd.dD ?_)));(case dw=>exact iC.out);rintro e w' ⟨rfl,⟨nd,rfl⟩⟩))
    go_meet
    case rel=>exact ⟨_,(true),(by first|rfl|(simp;done)|(simp [*];done)),H',⟨by first|omega|exact Nat.le_refl _⟩,⟨by (with_reducible repeat (first|refine au ?_ _|refine ay ?_|refine ak ?_ _));exact iJ.out⟩,⟨by repeat (first|(with_reducible first|exact HB.out|apply ah|apply af|apply ai|refine aj ?_ kN.out)|exact HB.out)⟩⟩
  ·
   replace c5:=Bool.eq_false_iff.mpr c5
   subst c5
   have H1:(az.j0 k true aY aU aV aI)=some (r1,r2):=by rw [if_neg (show ¬ (false=true) by decide)] at H;exact H
   clear H
   have H:=H1
   clear H1
   have H':=ae.mk H
   clear H
   obtain ⟨DY,DX,DW,DV,DK,DJ,DI,DF⟩:=qP iJ.out
   go_wp2_with (first|((with_reducible refine bu (f:=27) rfl ?_);refine dS (some 11) rfl rfl Tryd.func27 (by kernel_rfl) rfl #[.slice eu aY.length ed,.string aU] rfl (by (try simp only [List.map_toArray,List.map_cons,List.map_nil]);first|done|rfl|(simp only [List.length_drop,List.length_take];rfl)) ?_;(with_reducible refine (aW.calls k _ _ aY aU false _ ?cu ?dw A4.out).mono ?_);(case cu=>repeat (first|exact (Kd.bK iq.out HB.out)|(with_reducible refine Kd.bT ?_ _)|(with_reducible refine Kd.bQ ?_ _)|(with_reducible refine Kd.dD ?_)));(case dw=>exact iC.out);rintro e w' ⟨rfl,⟨nd,rfl⟩⟩;refine ⟨_,rfl,?_⟩))
   go_meet
   case rel=>exact ⟨_,(true),(by first|rfl|(simp;done)|(simp [*];done)),H',⟨by first|omega|exact Nat.le_refl _⟩,⟨by (with_reducible repeat (first|refine au ?_ _|refine ay ?_|refine ak ?_ _));exact iJ.out⟩,⟨by repeat (first|(with_reducible first|exact HB.out|apply ah|apply af|apply ai|refine aj ?_ kN.out)|exact HB.out)⟩⟩
 case rest =>
  clear HC2
  obtain ⟨kq,Ie,rfl,HA,xX,iJ,HB⟩:=hcut
  cases kq with
  | zero=>exact absurd HA.out (by simp [az.j0])
  | succ Nq =>
   have H:=HA.out
   clear HA
   simp only [az.j0] at H
   by_cases c13:Ie=true
   ·
    subst c13
    have H1:(some ((-1),5))=some (r1,r2):=by rw [if_pos rfl] at H;exact H
    clear H
    have H:=H1
    clear H1
    simp only [Option.some.injEq,Prod.mk.injEq] at H
    obtain ⟨rfl,rfl⟩:=H
    go_wp2
    go_ret2
    exact ⟨by first|rfl|(simp [aQ,aN] <;> rfl)|(simp [*,aQ,aN] <;> rfl),by repeat (first|(with_reducible first|exact HB.out|apply ah|apply af|apply ai|refine aj ?_ kN.out)|exact HB.out)⟩
   ·
    replace c13:=Bool.eq_false_iff.mpr c13
    subst c13
    have H1:(if (aI.length:Int) < 1 then (az.j1 Nq true aY aU aV aI) else (az.j1 Nq (decide ((aI.length:Int) > 200)) aY aU aV aI))=some (r1,r2):=by rw [if_neg (show ¬ (false=true) by decide)] at H;exact H
    clear H
    have H:=H1
    clear H1
    have Ia:=ae.mk H
    clear H
    go_upto_region 3 with (fail)
    go_cut [42] (fun v42 wc=>∃ (kq:Nat) (CW:Bool),v42=.bool CW∧ae (az.j1 kq CW aY aU aV aI=some (r1,r2))∧ae (kq≤Nq)∧ae (wc.heap[qj]? = some (.cells #[(.slice eu aY.length ed),.string aU,.string aV,(.slice fV aI.length eX)] 25 (0,0)))∧ae (Below w.heap.size w wc))
    case first =>
     have H:=Ia.out
     clear Ia
     by_cases c15:(aI.length:Int) < 1
     ·
      rw [if_pos c15] at H
      have ql:decide ((aI.length:Int) < 1)=true:=decide_eq_true c15
      have FM:decide (aI.length < 1)=true:=decide_eq_true (by omega)
      clear c15
      (first|rw [ql]|(simp only [bG,bJ];rw [ql])|skip)
      have H':=ae.mk H
      clear H
      obtain ⟨DU,DT,DR,DN,DD,DC,Dz,Dy⟩:=qP iJ.out
      go_wp2
      go_meet
      case rel=>exact ⟨_,(true),(by first|rfl|(simp;done)|(simp [*];done)),H',⟨by have:=xX.out;first|omega|exact Nat.le_refl _⟩,⟨by (with_reducible repeat (first|refine au ?_ _|refine ay ?_|refine ak ?_ _));exact iJ.out⟩,⟨by repeat (first|(with_reducible first|exact HB.out|apply ah|apply af|apply ai|refine aj ?_ kN.out)|exact HB.out)⟩⟩
     ·
      rw [if_neg c15] at H
      have ql:decide ((aI.length:Int) < 1)=false:=decide_eq_false c15
      have FM:decide (aI.length < 1)=false:=decide_eq_false (by omega)
      clear c15
      (first|rw [ql]|(simp only [bG,bJ];rw [ql])|skip)
      have H':=ae.mk H
      clear H
      obtain ⟨KE,KD,KC,KA,JI,JH,JG,JF⟩:=qP iJ.out
      go_wp2
      go_meet
      case rel=>exact ⟨_,(decide ((aI.length:Int) > 200)),(by first|rfl|(simp;done)|(simp [*];done)),H',⟨by have:=xX.out;first|omega|exact Nat.le_refl _⟩,⟨by (with_reducible repeat (first|refine au ?_ _|refine ay ?_|refine ak ?_ _));exact iJ.out⟩,⟨by repeat (first|(with_reducible first|exact HB.out|apply ah|apply af|apply ai|refine aj ?_ kN.out)|exact HB.out)⟩⟩
    case rest =>
     clear Ia
     obtain ⟨kq,CW,rfl,HA,F6,iJ,HB⟩:=hcut
     cases kq with
     | zero=>exact absurd HA.out (by simp [az.j1])
     | succ Rz =>
      have H:=HA.out
      clear HA
      simp only [az.j1] at H
      by_cases c18:CW=true
      ·
       subst c18
       have H1:(some ((-1),3))=some (r1,r2):=by rw [if_pos rfl] at H;exact H
       clear H
       have H:=H1
       clear H1
       simp only [Option.some.injEq,Prod.mk.injEq] at H
       obtain ⟨rfl,rfl⟩:=H
       go_wp2
       go_ret2
       exact ⟨by first|rfl|(simp [aQ,aN] <;> rfl)|(simp [*,aQ,aN] <;> rfl),by repeat (first|(with_reducible first|exact HB.out|apply ah|apply af|apply ai|refine aj ?_ kN.out)|exact HB.out)⟩
      ·
       replace c18:=Bool.eq_false_iff.mpr c18
       subst c18
       have H1:(az.l0 Rz 0 aY aU aV aI)=some (r1,r2):=by rw [if_neg (show ¬ (false=true) by decide)] at H;exact H
       clear H
       have H:=H1
       clear H1
       have H':=ae.mk H
       clear H
       go_wp2
       go_loopg [4] Rz (fun kq v4 w'=>∃ (cZ:Int),v4=.int .i64 cZ∧ae (az.l0 kq cZ aY aU aV aI=some (r1,r2))∧ae (kq≤Rz)∧ae (w'.heap[qj]? = some (.cells #[(.slice eu aY.length ed),.string aU,.string aV,(.slice fV aI.length eX)] 25 (0,0)))∧ae (Below w.heap.size w w'))
       case atStart=>exact ⟨(0),(by first|rfl|(simp;done)|(simp [*];done)),H',⟨Nat.le_refl _⟩,⟨by (with_reducible repeat (first|refine au ?_ _|refine ay ?_|refine ak ?_ _));exact iJ.out⟩,⟨by repeat (first|(with_reducible first|exact HB.out|apply ah|apply af|apply ai|refine aj ?_ kN.out)|exact HB.out)⟩⟩
       case round =>
        clear H'
        obtain ⟨cZ,rfl,HA,AY,iJ,HB⟩:=hrel
        cases gk with
        | zero=>exact absurd HA.out (by simp [az.l0])
        | succ k3 =>
         have H:=HA.out
         clear HA
         simp only [az.l0] at H
         by_cases c19:cZ < (aI.length:Int)
         ·
          rw [if_pos c19] at H
          have FH:decide (cZ < (aI.length:Int))=true:=decide_eq_true c19
          clear c19
          by_cases c20:0≤cZ
          ·
           rw [if_pos c20] at H
           have XH:decide (0≤cZ)=true:=decide_eq_true c20
           clear c20
           have H9:=ae.mk H
           clear H
           obtain ⟨Ku,Kt,Kr,Kq,JA,Jz,Jy,Jw⟩:=qP iJ.out
           have YA:0≤(cZ:Int):=of_decide_eq_true (by first|(with_reducible assumption)|assumption)
           have Yp:cZ < (aI.length:Int):=of_decide_eq_true (by first|(with_reducible assumption)|assumption)
           obtain ⟨uB,ak9,Dw,Dv,Du,Dt,Dq⟩:=Az jG.out cZ YA Yp
           cases ak9
           replace Dw:=(HB.out.cell (World.block_lt_of_cell? w _ Dw)).trans Dw
           replace Dv:=(HB.out.cell (World.block_lt_of_cell? w _ Dv)).trans Dv
           replace Du:=(HB.out.cell (World.block_lt_of_cell? w _ Du)).trans Du
           replace Dt:=(HB.out.cell (World.block_lt_of_cell? w _ Dt)).trans Dt
           replace Dq:=(HB.out.cell (World.block_lt_of_cell? w _ Dq)).trans Dq
           replace YA:=eq_true YA
           replace Yp:=eq_true Yp
           go_upto_region 9 with (first|((with_reducible refine dL (N:=5) rfl ?_);(try (refine kG (by rfl) ?_;dsimp only));refine fF ?hg (N:=5) ?hd (cs:=#[.int .u8 0,.int .u8 0,.int .u8 0,.int .u8 0,.int .i64 0]) (t:=55) ?hr ?_;(case hd=>rfl);(case hg=>rfl);(case hr=>first|(go_simp;done)|(go_simp;rfl));intro um hg w23 hbox hb;have dV:=ae.mk (bf (g:=qj) (o:=.cells #[.slice eu aY.length ed,.string aU,.string aV,.slice (some uB) aI.length eX] 25 (0,0)) (by (with_reducible repeat (first|refine au ?_ _|refine ay ?_|refine ak ?_ _));exact iJ.out) hb);have dU:=ae.mk (bg (by repeat (first|(with_reducible first|exact HB.out|apply ah|apply af|apply ai|refine aj ?_ kN.out)|exact HB.out)) hb);have dR:=ae.mk (hbox);have gQ:=ae.mk ((by rw [hg];exact (bW (by repeat (first|(with_reducible first|exact HB.out|apply ah|apply af|apply ai|refine aj ?_ kN.out)|exact HB.out))):w.heap.size≤um));have lQ:=gQ;have mr:=ae.mk ((by rw [hg];exact Nat.ne_of_lt (kC (g:=qj) (o:=.cells #[.slice eu aY.length ed,.string aU,.string aV,.slice (some uB) aI.length eX] 25 (0,0)) (by (with_reducible repeat (first|refine au ?_ _|refine ay ?_|refine ak ?_ _));exact iJ.out)):qj ≠ um));have nJ:=ae.mk mr.out.symm;clear iJ;clear HB;have iJ:=dV;have HB:=dU;have jF:=dR;have anS:=gQ;have pW:=lQ;have iY:=mr;have mD:=nJ;clear dV dU dR gQ lQ mr nJ;clear hb hbox hg;have Xi:=mD.out;have Xg:=iY.out;obtain ⟨zh,zg,zf,yZ,DL,yT,yS,yR,yQ,Dx⟩:=jT jF.out))
           (try simp only [Act.put,List.setIfInBounds_toArray,List.set_cons_zero,List.set_cons_succ])
           go_cut [6] (fun v6 wc=>∃ (kq:Nat) (BH:Bool),v6=.bool BH∧ae (az.j3 kq cZ BH aY aU aV aI ((aA aI cZ).f0) ((aA aI cZ).f1) ((aA aI cZ).f2) ((aA aI cZ).f3) ((aA aI cZ).f4)=some (r1,r2))∧ae (kq≤k3)∧ae (wc.heap[qj]? = some (.cells #[(.slice eu aY.length ed),.string aU,.string aV,(.slice (some uB) aI.length eX)] 25 (0,0)))∧ae (wc.heap[um]? = some (.cells #[.int .u8 ((aA aI cZ).f0),.int .u8 ((aA aI cZ).f1),.int .u8 ((aA aI cZ).f2),.int .u8 ((aA aI cZ).f3),.int .i64 ((aA aI cZ).f4)] 55 (0,0)))∧ae (Below w.heap.size w wc))
           case first =>
            have H:=H9.out
            clear H9
            by_cases Ho:((aA aI cZ).f0)=3
            ·
             rw [if_pos Ho] at H
             have uy:(((aA aI cZ).f0) == 3)=true:=beq_iff_eq.mpr Ho
             have P7:(((aA aI cZ).f0) != 3)=false:=bne_eq_false_iff_eq.mpr Ho
             clear Ho
             (first|rw [uy]|(simp only [bG,bJ];rw [uy])|skip)
             have H':=ae.mk H
             clear H
             have aa9:=mD.out
             have aaZ:=iY.out
             obtain ⟨Ko,J9,J8,J7,Vy,Jv,Ju,Jt,Js,TS⟩:=jT jF.out
             go_wp2
             go_meet
             case rel=>exact ⟨_,(true),(by first|rfl|(simp;done)|(simp [*];done)),H',⟨by have:=xX.out;have:=F6.out;have:=AY.out;first|omega|exact Nat.le_refl _⟩,⟨by (with_reducible repeat (first|refine au ?_ _|refine ay ?_|refine ak ?_ _));refine fQ ?_ iY.out _;(with_reducible repeat (first|refine au ?_ _|refine ay ?_|refine ak ?_ _));refine fQ ?_ iY.out _;(with_reducible repeat (first|refine au ?_ _|refine ay ?_|refine ak ?_ _));refine fQ ?_ iY.out _;(with_reducible repeat (first|refine au ?_ _|refine ay ?_|refine ak ?_ _));refine fQ ?_ iY.out _;(with_reducible repeat (first|refine au ?_ _|refine ay ?_|refine ak ?_ _));refine fQ ?_ iY.out _;(with_reducible repeat (first|refine au ?_ _|refine ay ?_|refine ak ?_ _));exact iJ.out⟩,⟨by (with_reducible repeat (first|refine au ?_ _|refine ay ?_|refine ak ?_ _));refine dP (cs:=#[.int .u8 ((aA aI cZ).f0),.int .u8 ((aA aI cZ).f1),.int .u8 ((aA aI cZ).f2),.int .u8 ((aA aI cZ).f3),.int .i64 0]) ?_ 4 _ rfl;(with_reducible repeat (first|refine au ?_ _|refine ay ?_|refine ak ?_ _));refine dP (cs:=#[.int .u8 ((aA aI cZ).f0),.int .u8 ((aA aI cZ).f1),.int .u8 ((aA aI cZ).f2),.int .u8 0,.int .i64 0]) ?_ 3 _ rfl;(with_reducible repeat (first|refine au ?_ _|refine ay ?_|refine ak ?_ _));refine dP (cs:=#[.int .u8 ((aA aI cZ).f0),.int .u8 ((aA aI cZ).f1),.int .u8 0,.int .u8 0,.int .i64 0]) ?_ 2 _ rfl;(with_reducible repeat (first|refine au ?_ _|refine ay ?_|refine ak ?_ _));refine dP (cs:=#[.int .u8 ((aA aI cZ).f0),.int .u8 0,.int .u8 0,.int .u8 0,.int .i64 0]) ?_ 1 _ rfl;(with_reducible repeat (first|refine au ?_ _|refine ay ?_|refine ak ?_ _));refine dP (cs:=#[.int .u8 0,.int .u8 0,.int .u8 0,.int .u8 0,.int .i64 0]) ?_ 0 _ rfl;(with_reducible repeat (first|refine au ?_ _|refine ay ?_|refine ak ?_ _));exact jF.out⟩,⟨by repeat (first|(with_reducible first|exact HB.out|apply ah|apply af|apply ai|refine aj ?_ kN.out|refine aj ?_ pW.out)|exact HB.out)⟩⟩
            ·
             rw [if_neg Ho] at H
             have uy:(((aA aI cZ).f0) == 3)=false:=beq_eq_false_iff_ne.mpr Ho
             have P7:(((aA aI cZ).f0) != 3)=true:=bne_iff_ne.mpr Ho
             (first|rw [uy]|(simp only [bG,bJ];rw [uy])|skip)
             have H':=ae.mk H
             clear H
             have amF:=mD.out
             have amc:=iY.out
             obtain ⟨ajH,ajG,ajF,ajE,ajD,aht,ahs,ahr,ahq,ahp⟩:=jT jF.out
             go_wp2
             go_meet
             case rel=>exact ⟨_,((((aA aI cZ).f0) == 4)),(by first|rfl|(simp;done)|(simp [*];done)),H',⟨by have:=xX.out;have:=F6.out;have:=AY.out;first|omega|exact Nat.le_refl _⟩,⟨by (with_reducible repeat (first|refine au ?_ _|refine ay ?_|refine ak ?_ _));refine fQ ?_ iY.out _;(with_reducible repeat (first|refine au ?_ _|refine ay ?_|refine ak ?_ _));refine fQ ?_ iY.out _;(with_reducible repeat (first|refine au ?_ _|refine ay ?_|refine ak ?_ _));refine fQ ?_ iY.out _;(with_reducible repeat (first|refine au ?_ _|refine ay ?_|refine ak ?_ _));refine fQ ?_ iY.out _;(with_reducible repeat (first|refine au ?_ _|refine ay ?_|refine ak ?_ _));refine fQ ?_ iY.out _;(with_reducible repeat (first|refine au ?_ _|refine ay ?_|refine ak ?_ _));exact iJ.out⟩,⟨by (with_reducible repeat (first|refine au ?_ _|refine ay ?_|refine ak ?_ _));refine dP (cs:=#[.int .u8 ((aA aI cZ).f0),.int .u8 ((aA aI cZ).f1),.int .u8 ((aA aI cZ).f2),.int .u8 ((aA aI cZ).f3),.int .i64 0]) ?_ 4 _ rfl;(with_reducible repeat (first|refine au ?_ _|refine ay ?_|refine ak ?_ _));refine dP (cs:=#[.int .u8 ((aA aI cZ).f0),.int .u8 ((aA aI cZ).f1),.int .u8 ((aA aI cZ).f2),.int .u8 0,.int .i64 0]) ?_ 3 _ rfl;(with_reducible repeat (first|refine au ?_ _|refine ay ?_|refine ak ?_ _));refine dP (cs:=#[.int .u8 ((aA aI cZ).f0),.int .u8 ((aA aI cZ).f1),.int .u8 0,.int .u8 0,.int .i64 0]) ?_ 2 _ rfl;(with_reducible repeat (first|refine au ?_ _|refine ay ?_|refine ak ?_ _));refine dP (cs:=#[.int .u8 ((aA aI cZ).f0),.int .u8 0,.int .u8 0,.int .u8 0,.int .i64 0]) ?_ 1 _ rfl;(with_reducible repeat (first|refine au ?_ _|refine ay ?_|refine ak ?_ _));refine dP (cs:=#[.int .u8 0,.int .u8 0,.int .u8 0,.int .u8 0,.int .i64 0]) ?_ 0 _ rfl;(with_reducible repeat (first|refine au ?_ _|refine ay ?_|refine ak ?_ _));exact jF.out⟩,⟨by repeat (first|(with_reducible first|exact HB.out|apply ah|apply af|apply ai|refine aj ?_ kN.out|refine aj ?_ pW.out)|exact HB.out)⟩⟩
           case rest =>
            clear H9
            obtain ⟨kq,BH,rfl,HA,F5,iJ,jF,HB⟩:=hcut
            cases kq with
            | zero=>exact absurd HA.out (by simp [az.j3])
            | succ rD =>
             have H:=HA.out
             clear HA
             simp only [az.j3] at H
             replace H:=Option.bind_eq_some_iff.mp H
             obtain ⟨t190,aek,H⟩:=H
             replace H:(if t190=true then (if BH=true then (if ((aA aI cZ).f4) < 0 then (az.j4 rD cZ true aY aU aV aI ((aA aI cZ).f0) ((aA aI cZ).f1) ((aA aI cZ).f2) ((aA aI cZ).f3) ((aA aI cZ).f4)) else (az.j4 rD cZ (decide (((aA aI cZ).f4) > (aI.length:Int))) aY aU aV aI ((aA aI cZ).f0) ((aA aI cZ).f1) ((aA aI cZ).f2) ((aA aI cZ).f3) ((aA aI cZ).f4))) else (az.j4 rD cZ false aY aU aV aI ((aA aI cZ).f0) ((aA aI cZ).f1) ((aA aI cZ).f2) ((aA aI cZ).f3) ((aA aI cZ).f4))) else (some (cZ,4)))=some (r1,r2):=H
             have A31:=ae.mk aek
             clear aek
             by_cases c32:t190=true
             ·
              subst c32
              have H1:(if BH=true then (if ((aA aI cZ).f4) < 0 then (az.j4 rD cZ true aY aU aV aI ((aA aI cZ).f0) ((aA aI cZ).f1) ((aA aI cZ).f2) ((aA aI cZ).f3) ((aA aI cZ).f4)) else (az.j4 rD cZ (decide (((aA aI cZ).f4) > (aI.length:Int))) aY aU aV aI ((aA aI cZ).f0) ((aA aI cZ).f1) ((aA aI cZ).f2) ((aA aI cZ).f3) ((aA aI cZ).f4))) else (az.j4 rD cZ false aY aU aV aI ((aA aI cZ).f0) ((aA aI cZ).f1) ((aA aI cZ).f2) ((aA aI cZ).f3) ((aA aI cZ).f4)))=some (r1,r2):=by rw [if_pos rfl] at H;exact H
              clear H
              have H:=H1
              clear H1
              have ZY:=ae.mk H
              clear H
              have Xh:=mD.out
              have Xf:=iY.out
              obtain ⟨J6,J5,J4,J3,Vr,Jr,Jq,Jp,Jo,TL⟩:=jT jF.out
              go_upto_region 12 with (first|((with_reducible refine bu (f:=28) rfl ?_);refine dS (some 65) rfl rfl Tryd.func28 (by kernel_rfl) rfl #[.agg #[.int .u8 ((aA aI cZ).f0),.int .u8 ((aA aI cZ).f1),.int .u8 ((aA aI cZ).f2),.int .u8 ((aA aI cZ).f3),.int .i64 ((aA aI cZ).f4)]] rfl (by (try simp only [List.map_toArray,List.map_cons,List.map_nil]);first|done|rfl|(simp only [List.length_drop,List.length_take];rfl)) ?_;(with_reducible refine (dY.calls rD ((aA aI cZ).f0) ((aA aI cZ).f1) ((aA aI cZ).f2) ((aA aI cZ).f3) ((aA aI cZ).f4) true _ ?cu A31.out).mono ?_);(case cu=>repeat (first|exact (Kd.bK wJ.out HB.out)|(with_reducible refine Kd.bT ?_ _)|(with_reducible refine Kd.bQ ?_ _)|(with_reducible refine Kd.dD ?_)));rintro e w36 ⟨rfl,hb⟩;refine ⟨_,rfl,?_⟩;have dV:=ae.mk (bf (g:=qj) (o:=.cells #[.slice eu aY.length ed,.string aU,.string aV,.slice (some uB) aI.length eX] 25 (0,0)) (by (with_reducible repeat (first|refine au ?_ _|refine ay ?_|refine ak ?_ _));exact iJ.out) hb);have dU:=ae.mk (bf (g:=um) (o:=.cells #[.int .u8 ((aA aI cZ).f0),.int .u8 ((aA aI cZ).f1),.int .u8 ((aA aI cZ).f2),.int .u8 ((aA aI cZ).f3),.int .i64 ((aA aI cZ).f4)] 55 (0,0)) (by (with_reducible repeat (first|refine au ?_ _|refine ay ?_|refine ak ?_ _));exact jF.out) hb);have dR:=ae.mk (bg (by repeat (first|(with_reducible first|exact HB.out|apply ah|apply af|apply ai|refine aj ?_ kN.out|refine aj ?_ pW.out)|exact HB.out)) hb);clear iJ;clear jF;clear HB;have iJ:=dV;have jF:=dU;have HB:=dR;clear dV dU dR;(try clear hb);(try clear hb2);(try clear hk);(try clear hi)))
              (try simp only [Act.put,List.setIfInBounds_toArray,List.set_cons_zero,List.set_cons_succ])
              go_cut [68] (fun v68 wc=>∃ (kq:Nat) (CU:Bool),v68=.bool CU∧ae (az.j4 kq cZ CU aY aU aV aI ((aA aI cZ).f0) ((aA aI cZ).f1) ((aA aI cZ).f2) ((aA aI cZ).f3) ((aA aI cZ).f4)=some (r1,r2))∧ae (kq≤rD)∧ae (wc.heap[qj]? = some (.cells #[(.slice eu aY.length ed),.string aU,.string aV,(.slice (some uB) aI.length eX)] 25 (0,0)))∧ae (wc.heap[um]? = some (.cells #[.int .u8 ((aA aI cZ).f0),.int .u8 ((aA aI cZ).f1),.int .u8 ((aA aI cZ).f2),.int .u8 ((aA aI cZ).f3),.int .i64 ((aA aI cZ).f4)] 55 (0,0)))∧ae (Below w.heap.size w wc))
              case first =>
               have H:=ZY.out
               clear ZY
               by_cases c37:BH=true
               ·
                subst c37
                have H1:(if ((aA aI cZ).f4) < 0 then (az.j4 rD cZ true aY aU aV aI ((aA aI cZ).f0) ((aA aI cZ).f1) ((aA aI cZ).f2) ((aA aI cZ).f3) ((aA aI cZ).f4)) else (az.j4 rD cZ (decide (((aA aI cZ).f4) > (aI.length:Int))) aY aU aV aI ((aA aI cZ).f0) ((aA aI cZ).f1) ((aA aI cZ).f2) ((aA aI cZ).f3) ((aA aI cZ).f4)))=some (r1,r2):=by rw [if_pos rfl] at H;exact H
                clear H
                have H:=H1
                clear H1
                by_cases KN:((aA aI cZ).f4) < 0
                ·
                 rw [if_pos KN] at H
                 have Au:decide (((aA aI cZ).f4) < 0)=true:=decide_eq_true KN
                 clear KN
                 (first|rw [Au]|(simp only [bG,bJ];rw [Au])|skip)
                 have H':=ae.mk H
                 clear H
                 have amy:=mD.out
                 have al5:=iY.out
                 obtain ⟨aji,ajh,ajg,ajf,aje,ag4,ag3,ag2,ag1,ag0⟩:=jT jF.out
                 go_wp2
                 go_meet
                 case rel=>exact ⟨_,(true),(by first|rfl|(simp;done)|(simp [*];done)),H',⟨by have:=xX.out;have:=F6.out;have:=AY.out;have:=F5.out;first|omega|exact Nat.le_refl _⟩,⟨by (with_reducible repeat (first|refine au ?_ _|refine ay ?_|refine ak ?_ _));exact iJ.out⟩,⟨by (with_reducible repeat (first|refine au ?_ _|refine ay ?_|refine ak ?_ _));exact jF.out⟩,⟨by repeat (first|(with_reducible first|exact HB.out|apply ah|apply af|apply ai|refine aj ?_ kN.out|refine aj ?_ pW.out)|exact HB.out)⟩⟩
                ·
                 rw [if_neg KN] at H
                 have Au:decide (((aA aI cZ).f4) < 0)=false:=decide_eq_false KN
                 clear KN
                 (first|rw [Au]|(simp only [bG,bJ];rw [Au])|skip)
                 have H':=ae.mk H
                 clear H
                 have amw:=mD.out
                 have al3:=iY.out
                 obtain ⟨ai8,ai7,ai6,ai5,ai4,agU,agT,agS,agR,agQ⟩:=jT jF.out
                 obtain ⟨JZ,JY,JX,JW,Jn,Jm,Jl,Jk⟩:=qP iJ.out
                 go_wp2
                 go_meet
                 case rel=>exact ⟨_,(decide (((aA aI cZ).f4) > (aI.length:Int))),(by first|rfl|(simp;done)|(simp [*];done)),H',⟨by have:=xX.out;have:=F6.out;have:=AY.out;have:=F5.out;first|omega|exact Nat.le_refl _⟩,⟨by (with_reducible repeat (first|refine au ?_ _|refine ay ?_|refine ak ?_ _));exact iJ.out⟩,⟨by (with_reducible repeat (first|refine au ?_ _|refine ay ?_|refine ak ?_ _));exact jF.out⟩,⟨by repeat (first|(with_reducible first|exact HB.out|apply ah|apply af|apply ai|refine aj ?_ kN.out|refine aj ?_ pW.out)|exact HB.out)⟩⟩
               ·
                replace c37:=Bool.eq_false_iff.mpr c37
                subst c37
                have H1:(az.j4 rD cZ false aY aU aV aI ((aA aI cZ).f0) ((aA aI cZ).f1) ((aA aI cZ).f2) ((aA aI cZ).f3) ((aA aI cZ).f4))=some (r1,r2):=by rw [if_neg (show ¬ (false=true) by decide)] at H;exact H
                clear H
                have H:=H1
                clear H1
                have H':=ae.mk H
                clear H
                go_wp2
                go_meet
                case rel=>exact ⟨_,(false),(by first|rfl|(simp;done)|(simp [*];done)),H',⟨by have:=xX.out;have:=F6.out;have:=AY.out;have:=F5.out;first|omega|exact Nat.le_refl _⟩,⟨by (with_reducible repeat (first|refine au ?_ _|refine ay ?_|refine ak ?_ _));exact iJ.out⟩,⟨by (with_reducible repeat (first|refine au ?_ _|refine ay ?_|refine ak ?_ _));exact jF.out⟩,⟨by repeat (first|(with_reducible first|exact HB.out|apply ah|apply af|apply ai|refine aj ?_ kN.out|refine aj ?_ pW.out)|exact HB.out)⟩⟩
              case rest =>
               clear ZY
               obtain ⟨kq,CU,rfl,HA,adB,iJ,jF,HB⟩:=hcut
               cases kq with
               | zero=>exact absurd HA.out (by simp [az.j4])
               | succ wE =>
                have H:=HA.out
                clear HA
                simp only [az.j4] at H
                by_cases WC:CU=true
                ·
                 subst WC
                 have H1:(some (cZ,12))=some (r1,r2):=by rw [if_pos rfl] at H;exact H
                 clear H
                 have H:=H1
                 clear H1
                 simp only [Option.some.injEq,Prod.mk.injEq] at H
                 obtain ⟨rfl,rfl⟩:=H
                 go_wp2
                 go_ret2
                 exact ⟨by first|rfl|(simp [aQ,aN] <;> rfl)|(simp [*,aQ,aN] <;> rfl),by repeat (first|(with_reducible first|exact HB.out|apply ah|apply af|apply ai|refine aj ?_ kN.out|refine aj ?_ pW.out)|exact HB.out)⟩
                ·
                 replace WC:=Bool.eq_false_iff.mpr WC
                 subst WC
                 have H1:((bF.f wE ((aA aI cZ).f0) ((aA aI cZ).f1) ((aA aI cZ).f2) ((aA aI cZ).f3) ((aA aI cZ).f4)).bind fun t191=>(if t191=true then ((aX.f wE aY aU aV aI ((aA aI cZ).f0) ((aA aI cZ).f1) ((aA aI cZ).f2) ((aA aI cZ).f3) ((aA aI cZ).f4)).bind fun t192=>(if t192=true then (az.l0 wE (wrap64 (cZ+1)) aY aU aV aI) else (some (cZ,5)))) else (some (cZ,5))))=some (r1,r2):=by rw [if_neg (show ¬ (false=true) by decide)] at H;exact H
                 clear H
                 have H:=H1
                 clear H1
                 replace H:=Option.bind_eq_some_iff.mp H
                 obtain ⟨t191,aee,H⟩:=H
                 replace H:(if t191=true then ((aX.f wE aY aU aV aI ((aA aI cZ).f0) ((aA aI cZ).f1) ((aA aI cZ).f2) ((aA aI cZ).f3) ((aA aI cZ).f4)).bind fun t192=>(if t192=true then (az.l0 wE (wrap64 (cZ+1)) aY aU aV aI) else (some (cZ,5)))) else (some (cZ,5)))=some (r1,r2):=H
                 have A45:=ae.mk aee
                 clear aee
                 by_cases c46:t191=true
                 ·
                  subst c46
                  have H1:((aX.f wE aY aU aV aI ((aA aI cZ).f0) ((aA aI cZ).f1) ((aA aI cZ).f2) ((aA aI cZ).f3) ((aA aI cZ).f4)).bind fun t192=>(if t192=true then (az.l0 wE (wrap64 (cZ+1)) aY aU aV aI) else (some (cZ,5))))=some (r1,r2):=by rw [if_pos rfl] at H;exact H
                  clear H
                  have H:=H1
                  clear H1
                  replace H:=Option.bind_eq_some_iff.mp H
                  obtain ⟨t192,aed,H⟩:=H
                  replace H:(if t192=true then (az.l0 wE (wrap64 (cZ+1)) aY aU aV aI) else (some (cZ,5)))=some (r1,r2):=H
                  have A47:=ae.mk aed
                  clear aed
                  by_cases c48:t192=true
                  ·
                   subst c48
                   have H1:(az.l0 wE (wrap64 (cZ+1)) aY aU aV aI)=some (r1,r2):=by rw [if_pos rfl] at H;exact H
                   clear H
                   have H:=H1
                   clear H1
                   have H':=ae.mk H
                   clear H
                   have aa6:=mD.out
                   have aaW:=iY.out
                   obtain ⟨U9,U8,U7,U6,aiZ,Tq,Tn,Tm,Tj,agL⟩:=jT jF.out
                   go_wp2_with (first|((with_reducible refine bu (f:=29) rfl ?_);refine dS (some 86) rfl rfl Tryd.func29 (by kernel_rfl) rfl #[.agg #[.int .u8 ((aA aI cZ).f0),.int .u8 ((aA aI cZ).f1),.int .u8 ((aA aI cZ).f2),.int .u8 ((aA aI cZ).f3),.int .i64 ((aA aI cZ).f4)]] rfl (by (try simp only [List.map_toArray,List.map_cons,List.map_nil]);first|done|rfl|(simp only [List.length_drop,List.length_take];rfl)) ?_;(with_reducible refine (bF.calls wE ((aA aI cZ).f0) ((aA aI cZ).f1) ((aA aI cZ).f2) ((aA aI cZ).f3) ((aA aI cZ).f4) true _ A45.out).mono ?_);rintro e Gl ⟨rfl,hb⟩;refine ⟨_,rfl,?_⟩;have dV:=ae.mk (bf (g:=qj) (o:=.cells #[.slice eu aY.length ed,.string aU,.string aV,.slice (some uB) aI.length eX] 25 (0,0)) (by (with_reducible repeat (first|refine au ?_ _|refine ay ?_|refine ak ?_ _));exact iJ.out) hb);have dU:=ae.mk (bf (g:=um) (o:=.cells #[.int .u8 ((aA aI cZ).f0),.int .u8 ((aA aI cZ).f1),.int .u8 ((aA aI cZ).f2),.int .u8 ((aA aI cZ).f3),.int .i64 ((aA aI cZ).f4)] 55 (0,0)) (by (with_reducible repeat (first|refine au ?_ _|refine ay ?_|refine ak ?_ _));exact jF.out) hb);have dR:=ae.mk (bg (by repeat (first|(with_reducible first|exact HB.out|apply ah|apply af|apply ai|refine aj ?_ kN.out|refine aj ?_ pW.out)|exact HB.out)) hb);clear iJ;clear jF;clear HB;have iJ:=dV;have jF:=dU;have HB:=dR;clear dV dU dR;(try clear hb);(try clear hb2);(try clear hk);(try clear hi);obtain ⟨U1,U0,UZ,UY,S9,SY,SX,SV⟩:=qP iJ.out;obtain ⟨aiW,aiV,aiU,aiT,aiS,agI,agH,agG,agF,agE⟩:=jT jF.out)|(go_at_call 30;(with_reducible refine (aX.calls wE _ _ aY aU aV _ _ aI ((aA aI cZ).f0) ((aA aI cZ).f1) ((aA aI cZ).f2) ((aA aI cZ).f3) ((aA aI cZ).f4) true _ ?cu ?dw ?iM ?iL A47.out).mono ?_);(case cu=>repeat (first|exact (Kd.bK iq.out HB.out)|(with_reducible refine Kd.bT ?_ _)|(with_reducible refine Kd.bQ ?_ _)|(with_reducible refine Kd.dD ?_)));(case dw=>exact iC.out);(case iM=>repeat (first|exact (Kd.bK jG.out HB.out)|(with_reducible refine Kd.bT ?_ _)|(with_reducible refine Kd.bQ ?_ _)|(with_reducible refine Kd.dD ?_)));(case iL=>exact jW.out);rintro e w54 ⟨rfl,hb⟩;have dV:=ae.mk (bf (g:=qj) (o:=.cells #[.slice eu aY.length ed,.string aU,.string aV,.slice (some uB) aI.length eX] 25 (0,0)) (by (with_reducible repeat (first|refine au ?_ _|refine ay ?_|refine ak ?_ _));exact iJ.out) hb);have dU:=ae.mk (bf (g:=um) (o:=.cells #[.int .u8 ((aA aI cZ).f0),.int .u8 ((aA aI cZ).f1),.int .u8 ((aA aI cZ).f2),.int .u8 ((aA aI cZ).f3),.int .i64 ((aA aI cZ).f4)] 55 (0,0)) (by (with_reducible repeat (first|refine au ?_ _|refine ay ?_|refine ak ?_ _));exact jF.out) hb);have dR:=ae.mk (bg (by repeat (first|(with_reducible first|exact HB.out|apply ah|apply af|apply ai|refine aj ?_ kN.out|refine aj ?_ pW.out)|exact HB.out)) hb);clear iJ;clear jF;clear HB;have iJ:=dV;have jF:=dU;have HB:=dR;clear dV dU dR;(try clear hb);(try clear hb2);(try clear hk);(try clear hi)))
                   go_roundg wE
                   case measure=>have:=xX.out;have:=F6.out;have:=AY.out;have:=F5.out;have:=adB.out;omega
                   case rel=>exact ⟨(wrap64 (cZ+1)),(by first|rfl|(simp;done)|(simp [*];done)),H',⟨by have:=xX.out;have:=F6.out;have:=AY.out;have:=F5.out;have:=adB.out;omega⟩,⟨by (with_reducible repeat (first|refine au ?_ _|refine ay ?_|refine ak ?_ _));exact iJ.out⟩,⟨by repeat (first|(with_reducible first|exact HB.out|apply ah|apply af|apply ai|refine aj ?_ kN.out|refine aj ?_ pW.out)|exact HB.out)⟩⟩
                  ·
                   replace c48:=Bool.eq_false_iff.mpr c48
                   subst c48
                   have H1:(some (cZ,5))=some (r1,r2):=by rw [if_neg (show ¬ (false=true) by decide)] at H;exact H
                   clear H
                   have H:=H1
                   clear H1
                   simp only [Option.some.injEq,Prod.mk.injEq] at H
                   obtain ⟨rfl,rfl⟩:=H
                   have aa5:=mD.out
                   have aaV:=iY.out
                   obtain ⟨UX,UW,UU,UT,UR,SS,SQ,SN,SL,SK⟩:=jT jF.out
                   go_wp2_with (first|((with_reducible refine bu (f:=29) rfl ?_);refine dS (some 86) rfl rfl Tryd.func29 (by kernel_rfl) rfl #[.agg #[.int .u8 ((aA aI cZ).f0),.int .u8 ((aA aI cZ).f1),.int .u8 ((aA aI cZ).f2),.int .u8 ((aA aI cZ).f3),.int .i64 ((aA aI cZ).f4)]] rfl (by (try simp only [List.map_toArray,List.map_cons,List.map_nil]);first|done|rfl|(simp only [List.length_drop,List.length_take];rfl)) ?_;(with_reducible refine (bF.calls wE ((aA aI cZ).f0) ((aA aI cZ).f1) ((aA aI cZ).f2) ((aA aI cZ).f3) ((aA aI cZ).f4) true _ A45.out).mono ?_);rintro e QB ⟨rfl,hb⟩;refine ⟨_,rfl,?_⟩;have dV:=ae.mk (bf (g:=qj) (o:=.cells #[.slice eu aY.length ed,.string aU,.string aV,.slice (some uB) aI.length eX] 25 (0,0)) (by (with_reducible repeat (first|refine au ?_ _|refine ay ?_|refine ak ?_ _));exact iJ.out) hb);have dU:=ae.mk (bf (g:=um) (o:=.cells #[.int .u8 ((aA aI cZ).f0),.int .u8 ((aA aI cZ).f1),.int .u8 ((aA aI cZ).f2),.int .u8 ((aA aI cZ).f3),.int .i64 ((aA aI cZ).f4)] 55 (0,0)) (by (with_reducible repeat (first|refine au ?_ _|refine ay ?_|refine ak ?_ _));exact jF.out) hb);have dR:=ae.mk (bg (by repeat (first|(with_reducible first|exact HB.out|apply ah|apply af|apply ai|refine aj ?_ kN.out|refine aj ?_ pW.out)|exact HB.out)) hb);clear iJ;clear jF;clear HB;have iJ:=dV;have jF:=dU;have HB:=dR;clear dV dU dR;(try clear hb);(try clear hb2);(try clear hk);(try clear hi);obtain ⟨UQ,UO,UN,UM,SI,SH,SG,SE⟩:=qP iJ.out;obtain ⟨JP,JO,JM,JL,JK,Je,Jd,Jc,Jb,Ja⟩:=jT jF.out)|(go_at_call 30;(with_reducible refine (aX.calls wE _ _ aY aU aV _ _ aI ((aA aI cZ).f0) ((aA aI cZ).f1) ((aA aI cZ).f2) ((aA aI cZ).f3) ((aA aI cZ).f4) false _ ?cu ?dw ?iM ?iL A47.out).mono ?_);(case cu=>repeat (first|exact (Kd.bK iq.out HB.out)|(with_reducible refine Kd.bT ?_ _)|(with_reducible refine Kd.bQ ?_ _)|(with_reducible refine Kd.dD ?_)));(case dw=>exact iC.out);(case iM=>repeat (first|exact (Kd.bK jG.out HB.out)|(with_reducible refine Kd.bT ?_ _)|(with_reducible refine Kd.bQ ?_ _)|(with_reducible refine Kd.dD ?_)));(case iL=>exact jW.out);rintro e w60 ⟨rfl,hb⟩;have dV:=ae.mk (bf (g:=qj) (o:=.cells #[.slice eu aY.length ed,.string aU,.string aV,.slice (some uB) aI.length eX] 25 (0,0)) (by (with_reducible repeat (first|refine au ?_ _|refine ay ?_|refine ak ?_ _));exact iJ.out) hb);have dU:=ae.mk (bf (g:=um) (o:=.cells #[.int .u8 ((aA aI cZ).f0),.int .u8 ((aA aI cZ).f1),.int .u8 ((aA aI cZ).f2),.int .u8 ((aA aI cZ).f3),.int .i64 ((aA aI cZ).f4)] 55 (0,0)) (by (with_reducible repeat (first|refine au ?_ _|refine ay ?_|refine ak ?_ _));exact jF.out) hb);have dR:=ae.mk (bg (by repeat (first|(with_reducible first|exact HB.out|apply ah|apply af|apply ai|refine aj ?_ kN.out|refine aj ?_ pW.out)|exact HB.out)) hb);clear iJ;clear jF;clear HB;have iJ:=dV;have jF:=dU;have HB:=dR;clear dV dU dR;(try clear hb);(try clear hb2);(try clear hk);(try clear hi)))
                   go_ret2
                   exact ⟨by first|rfl|(simp [aQ,aN] <;> rfl)|(simp [*,aQ,aN] <;> rfl),by repeat (first|(with_reducible first|exact HB.out|apply ah|apply af|apply ai|refine aj ?_ kN.out|refine aj ?_ pW.out)|exact HB.out)⟩
                 ·
                  replace c46:=Bool.eq_false_iff.mpr c46
                  subst c46
                  have H1:(some (cZ,5))=some (r1,r2):=by rw [if_neg (show ¬ (false=true) by decide)] at H;exact H
                  clear H
                  have H:=H1
                  clear H1
                  simp only [Option.some.injEq,Prod.mk.injEq] at H
                  obtain ⟨rfl,rfl⟩:=H
                  have amo:=mD.out
                  have alX:=iY.out
                  obtain ⟨UG,UF,UE,UD,UC,Su,Sr,Sm,Sl,Sj⟩:=jT jF.out
                  go_wp2_with (first|((with_reducible refine bu (f:=29) rfl ?_);refine dS (some 86) rfl rfl Tryd.func29 (by kernel_rfl) rfl #[.agg #[.int .u8 ((aA aI cZ).f0),.int .u8 ((aA aI cZ).f1),.int .u8 ((aA aI cZ).f2),.int .u8 ((aA aI cZ).f3),.int .i64 ((aA aI cZ).f4)]] rfl (by (try simp only [List.map_toArray,List.map_cons,List.map_nil]);first|done|rfl|(simp only [List.length_drop,List.length_take];rfl)) ?_;(with_reducible refine (bF.calls wE ((aA aI cZ).f0) ((aA aI cZ).f1) ((aA aI cZ).f2) ((aA aI cZ).f3) ((aA aI cZ).f4) false _ A45.out).mono ?_);rintro e w63 ⟨rfl,hb⟩;refine ⟨_,rfl,?_⟩;have dV:=ae.mk (bf (g:=qj) (o:=.cells #[.slice eu aY.length ed,.string aU,.string aV,.slice (some uB) aI.length eX] 25 (0,0)) (by (with_reducible repeat (first|refine au ?_ _|refine ay ?_|refine ak ?_ _));exact iJ.out) hb);have dU:=ae.mk (bf (g:=um) (o:=.cells #[.int .u8 ((aA aI cZ).f0),.int .u8 ((aA aI cZ).f1),.int .u8 ((aA aI cZ).f2),.int .u8 ((aA aI cZ).f3),.int .i64 ((aA aI cZ).f4)] 55 (0,0)) (by (with_reducible repeat (first|refine au ?_ _|refine ay ?_|refine ak ?_ _));exact jF.out) hb);have dR:=ae.mk (bg (by repeat (first|(with_reducible first|exact HB.out|apply ah|apply af|apply ai|refine aj ?_ kN.out|refine aj ?_ pW.out)|exact HB.out)) hb);clear iJ;clear jF;clear HB;have iJ:=dV;have jF:=dU;have HB:=dR;clear dV dU dR;(try clear hb);(try clear hb2);(try clear hk);(try clear hi)))
                  go_ret2
                  exact ⟨by first|rfl|(simp [aQ,aN] <;> rfl)|(simp [*,aQ,aN] <;> rfl),by repeat (first|(with_reducible first|exact HB.out|apply ah|apply af|apply ai|refine aj ?_ kN.out|refine aj ?_ pW.out)|exact HB.out)⟩
             ·
              replace c32:=Bool.eq_false_iff.mpr c32
              subst c32
              have H1:(some (cZ,4))=some (r1,r2):=by rw [if_neg (show ¬ (false=true) by decide)] at H;exact H
              clear H
              have H:=H1
              clear H1
              simp only [Option.some.injEq,Prod.mk.injEq] at H
              obtain ⟨rfl,rfl⟩:=H
              have aa3:=mD.out
              have aaT:=iY.out
              obtain ⟨UB,UA,Uz,Uy,aiy,Si,RZ,RY,RX,agj⟩:=jT jF.out
              go_wp2_with (first|((with_reducible refine bu (f:=28) rfl ?_);refine dS (some 65) rfl rfl Tryd.func28 (by kernel_rfl) rfl #[.agg #[.int .u8 ((aA aI cZ).f0),.int .u8 ((aA aI cZ).f1),.int .u8 ((aA aI cZ).f2),.int .u8 ((aA aI cZ).f3),.int .i64 ((aA aI cZ).f4)]] rfl (by (try simp only [List.map_toArray,List.map_cons,List.map_nil]);first|done|rfl|(simp only [List.length_drop,List.length_take];rfl)) ?_;(with_reducible refine (dY.calls rD ((aA aI cZ).f0) ((aA aI cZ).f1) ((aA aI cZ).f2) ((aA aI cZ).f3) ((aA aI cZ).f4) false _ ?cu A31.out).mono ?_);(case cu=>repeat (first|exact (Kd.bK wJ.out HB.out)|(with_reducible refine Kd.bT ?_ _)|(with_reducible refine Kd.bQ ?_ _)|(with_reducible refine Kd.dD ?_)));rintro e w66 ⟨rfl,hb⟩;refine ⟨_,rfl,?_⟩;have dV:=ae.mk (bf (g:=qj) (o:=.cells #[.slice eu aY.length ed,.string aU,.string aV,.slice (some uB) aI.length eX] 25 (0,0)) (by (with_reducible repeat (first|refine au ?_ _|refine ay ?_|refine ak ?_ _));exact iJ.out) hb);have dU:=ae.mk (bf (g:=um) (o:=.cells #[.int .u8 ((aA aI cZ).f0),.int .u8 ((aA aI cZ).f1),.int .u8 ((aA aI cZ).f2),.int .u8 ((aA aI cZ).f3),.int .i64 ((aA aI cZ).f4)] 55 (0,0)) (by (with_reducible repeat (first|refine au ?_ _|refine ay ?_|refine ak ?_ _));exact jF.out) hb);have dR:=ae.mk (bg (by repeat (first|(with_reducible first|exact HB.out|apply ah|apply af|apply ai|refine aj ?_ kN.out|refine aj ?_ pW.out)|exact HB.out)) hb);clear iJ;clear jF;clear HB;have iJ:=dV;have jF:=dU;have HB:=dR;clear dV dU dR;(try clear hb);(try clear hb2);(try clear hk);(try clear hi)))
              go_ret2
              exact ⟨by first|rfl|(simp [aQ,aN] <;> rfl)|(simp [*,aQ,aN] <;> rfl),by repeat (first|(with_reducible first|exact HB.out|apply ah|apply af|apply ai|refine aj ?_ kN.out|refine aj ?_ pW.out)|exact HB.out)⟩
          ·
           rw [if_neg c20] at H
           exact absurd H (by simp)
         ·
          rw [if_neg c19] at H
          have FH:decide (cZ < (aI.length:Int))=false:=decide_eq_false c19
          clear c19
          simp only [Option.some.injEq,Prod.mk.injEq] at H
          obtain ⟨rfl,rfl⟩:=H
          obtain ⟨ais,air,aiq,aip,agc,agb,aga,af9⟩:=qP iJ.out
          go_wp2
          go_ret2
          exact ⟨by first|rfl|(simp [aQ,aN] <;> rfl)|(simp [*,aQ,aN] <;> rfl),by repeat (first|(with_reducible first|exact HB.out|apply ah|apply af|apply ai|refine aj ?_ kN.out)|exact HB.out)⟩
end Go.Proofs.YtlemecdddhdagaaDoor.P
end
section
namespace Go.Proofs.YtlemecdddhdagaaDoor.P
open Go.RowKit Go.Proofs.ag.bI Go.Proofs.ag.dM Go.Proofs.ag.dZ
theorem yw (a b:ByteArray) (j:Nat) (h:j < a.size):bt (a++b) j=bt a j:=by
  unfold bt
  rw [dif_pos (show ((j:Int)).toNat < (a++b).size by rw [ByteArray.size_append];omega),dif_pos (show ((j:Int)).toNat < a.size by omega)]
  rw [ByteArray.getElem_append_left]
theorem xu (a b:ByteArray) (j:Nat) (h:j < b.size):bt (a++b) ((a.size+j:Nat):Int)=bt b j:=by
  unfold bt
  rw [dif_pos (show (((a.size+j:Nat):Int)).toNat < (a++b).size by rw [ByteArray.size_append];omega),dif_pos (show ((j:Int)).toNat < b.size by omega)]
  rw [ByteArray.getElem_append_right (by rw [Int.toNat_natCast];omega)]
  congr 3
  rw [Int.toNat_natCast,Int.toNat_natCast]
  omega
theorem LP (t:List ByteArray) (lo gl:ByteArray):qL t (lo++gl)=(qL t lo && qL t gl):=by
  have:allB (lo++gl).size (fun i=>decide (0≤kK (bt (lo++gl) i) t.length))=(allB lo.size (fun i=>decide (0≤kK (bt lo i) t.length)) && allB gl.size (fun i=>decide (0≤kK (bt gl i) t.length))):=by
    rw [Bool.eq_iff_iff,Bool.and_eq_true,nS,nS,nS,ByteArray.size_append]
    constructor
    · intro h
      refine ⟨fun j hj=>?_,fun j hj=>?_⟩
      · have:=h j (by omega)
        rwa [yw lo gl j hj] at this
      · have:=h (lo.size+j) (by omega)
        rwa [xu lo gl j hj] at this
    · rintro ⟨h1,h2⟩ j hj
      by_cases h:j < lo.size
      · rw [yw lo gl j h]
        exact h1 j h
      · obtain ⟨q,rfl⟩:∃ q,j=lo.size+q:=⟨j - lo.size,by omega⟩
        rw [xu lo gl q (by omega)]
        exact h2 q (by omega)
  unfold qL
  rw [this]
  cases jw t <;> simp
def WfN (code:List gZ):Prop:=∀ i:Nat,-9223372036854775808≤(code.getD i z55).f4∧(code.getD i z55).f4≤9223372036854775807
theorem LJ {x:gZ} (h:qK x=true):1≤x.f0∧x.f0≤15:=by
  unfold qK at h
  by_cases h1:x.f0 < 1
  · rw [if_pos h1] at h;cases h
  · by_cases h2:x.f0 > 15
    · rw [if_neg h1,if_pos h2] at h;cases h
    · omega
section
variable (t:List ByteArray) (lo gl:ByteArray) (code:List gZ) (ht:t.length≤9223372036854775807) (hs:∀ i:Int,(dW ByteArray.empty t i).size≤9223372036854775807)
  (hn:code.length≤9223372036854775807) (hw:Wf code) (hwn:WfN code)
include ht hs hn hw hwn
theorem FC:Ev (fun k=>az.l0 k 0 t lo gl code) (vM t lo gl code):=by
  have Yn:∀ i:Nat,aA code (i:Int)=code.getD i z55:=fun i=>rfl
  have j4:∀ (i:Nat) (x:Bool) (r r':Int × Int),i < code.length→1≤(code.getD i z55).f0∧(code.getD i z55).f0≤15→(x=false→qi t lo gl (code.getD i z55)=true→Ev (fun k=>az.l0 k ((i+1:Nat):Int) t lo gl code) r) →
      r'=(if x=true then ((i:Int),12) else if qi t lo gl (code.getD i z55)=true then r else ((i:Int),5)) →
      Ev (fun k=>az.j4 k (i:Int) x t lo gl code (code.getD i z55).f0 (code.getD i z55).f1 (code.getD i z55).f2 (code.getD i z55).f3 (code.getD i z55).f4) r':=by
    intro i x r r' hi ho hr e
    rw [e]
    refine Ev.step (fun k=>by simp only [az.j4];rfl) ?_
    refine Ev.ite (fun _=>Ev.now _) fun hx=>?_
    have ke:=L6 t lo gl (code.getD i z55).f0 (code.getD i z55).f1 (code.getD i z55).f2 (code.getD i z55).f3 (code.getD i z55).f4 ho
    have hk:qi t lo gl (code.getD i z55)=nK t lo gl (code.getD i z55).f0 (code.getD i z55).f1 (code.getD i z55).f2 (code.getD i z55).f3 (code.getD i z55).f4:=rfl
    rw [← hk] at ke
    refine Ev.bind (RH _ _ _ _ _) ?_
    cases hin:Dn (code.getD i z55).f0 (code.getD i z55).f1 (code.getD i z55).f2 (code.getD i z55).f3 with
    | false =>
      rw [hin,Bool.false_and] at ke
      rw [← ke,if_neg (by decide)]
      exact Ev.congr (fun k=>if_neg (by decide)) (Ev.now _)
    | true =>
      rw [hin,Bool.true_and] at ke
      refine Ev.congr (fun k=>if_pos rfl) ?_
      refine Ev.bind (Ou t lo gl code _ _ _ _ _ ht hs (hw i).1 (hw i).2.1 (hw i).2.2) ?_
      rw [ke]
      refine Ev.ite (fun h=>?_) (fun _=>Ev.now _)
      rw [wrapN hi hn]
      exact hr (by simpa using hx) h
  have place:∀ (i:Nat) (r r':Int × Int),i < code.length→(nX t lo gl code.length (code.getD i z55)=none→Ev (fun k=>az.l0 k ((i+1:Nat):Int) t lo gl code) r) →
      r'=(match nX t lo gl code.length (code.getD i z55) with|some e=>((i:Int),e)|none=>r) →
      Ev (fun k=>az.l0 k (i:Int) t lo gl code) r':=by
    intro i r r' hi hr e
    rw [e]
    have hx4:=N7 (code.getD i z55) (hw i).1 (hw i).2.1 (hw i).2.2 (hwn i)
    generalize hx:code.getD i z55=x at *
    have j3:Ev (fun k=>az.j3 k i (qM x) t lo gl code x.f0 x.f1 x.f2 x.f3 x.f4) (match nX t lo gl code.length x with|some e=>((i:Int),e)|none=>r):=by
      refine Ev.step (fun k=>by simp only [az.j3];rfl) (Ev.bind hx4 ?_)
      by_cases h1:qK x=true
      · refine Ev.congr (fun k=>if_pos h1) ?_
        have J:∀ b r0,nX t lo gl code.length x=(if b=true then some 12 else if qi t lo gl x=true then none else some 5)→r0=(match nX t lo gl code.length x with|some e=>((i:Int),e)|none=>r)→Ev (fun k=>az.j4 k i b t lo gl code x.f0 x.f1 x.f2 x.f3 x.f4) r0:=by
          intro b r0 hb e0
          have:=j4 i b r r0 hi (by rw [hx];exact LJ h1) (fun hbf hk=>by
            refine hr ?_
            rw [hx] at hk
            rw [hb,hbf,if_neg (by decide),if_pos hk]) (by
              rw [e0,hb,hx]
              cases b
              · cases qi t lo gl x <;> rfl
              · rfl)
          rw [hx] at this
          exact this
        have hbad:∀ b,(qM x && (decide (x.f4 < 0) || decide (x.f4 > code.length)))=b→nX t lo gl code.length x=(if b=true then some 12 else if qi t lo gl x=true then none else some 5):=by
          intro b hb
          unfold nX
          rw [if_pos h1,hb]
        cases hj:qM x with
        | false =>
          refine Ev.congr (fun k=>if_neg (by decide)) ?_
          exact J false _ (hbad false (by rw [hj];rfl)) rfl
        | true =>
          refine Ev.congr (fun k=>if_pos rfl) ?_
          by_cases h4:x.f4 < 0
          · refine Ev.congr (fun k=>if_pos h4) ?_
            exact J true _ (hbad true (by rw [hj,decide_eq_true h4];rfl)) rfl
          · refine Ev.congr (fun k=>if_neg h4) ?_
            exact J _ _ (hbad _ (by rw [hj,decide_eq_false h4,Bool.false_or,Bool.true_and])) rfl
      · refine Ev.congr (fun k=>if_neg h1) ?_
        have:nX t lo gl code.length x=some 4:=by unfold nX;rw [if_neg h1]
        rw [this]
        exact Ev.now _
    refine Ev.step (fun k=>?_) j3
    simp only [az.l0]
    rw [if_pos (by omega),if_pos (by omega),Yn,hx]
    by_cases h3:x.f0=3
    · rw [if_pos h3,show qM x=true from by unfold qM;rw [h3];rfl]
    · rw [if_neg h3,show qM x=(x.f0 == 4) from by unfold qM;rw [show (x.f0 == 3)=false from beq_eq_false_iff_ne.2 h3,Bool.false_or]]
  have:=lu (g:=fun k i=>az.l0 k (i:Nat) t lo gl code) (fun i=>(nX t lo gl code.length (code.getD i z55)).map fun e=>((i:Int),e)) code.length (-1,0)
    (fun i hi hb q hq=>?_) (fun i hi b hb=>?_) (fun _=>?_) code.length 0 (by omega) (fun j hj=>by omega)
  · exact this
  · refine place i q q hi (fun _=>hq) ?_
    rw [Option.map_eq_none_iff] at hb
    rw [hb]
  · refine place i (0,0) b hi (fun h=>by rw [h] at hb;cases hb) ?_
    cases h:nX t lo gl code.length (code.getD i z55) with
    | none=>rw [h] at hb;cases hb
    | some e=>rw [h] at hb;cases hb;rfl
  · refine Ev.step (f:=fun _=>some (-1,0)) (fun k=>?_) (Ev.now _)
    simp only [az.l0]
    rw [if_neg (by omega)]
theorem PX (hl:lo.size≤9223372036854775807) (hg:gl.size≤9223372036854775807):Ev (fun k=>az.f k t lo gl code) (oL t lo gl code):=by
  have j1:∀ x,Ev (fun k=>az.j1 k x t lo gl code) (if x=true then (-1,3) else vM t lo gl code):=fun x=>by
    refine Ev.step (fun k=>by simp only [az.j1];rfl) ?_
    exact Ev.ite (fun _=>Ev.now _) fun _=>FC t lo gl code ht hs hn hw hwn
  have j0:∀ x,Ev (fun k=>az.j0 k x t lo gl code) (if x=true then (-1,5) else if (code.length:Int) < 1 then (if true=true then (-1,3) else vM t lo gl code) else (if decide ((code.length:Int) > 200)=true then (-1,3) else vM t lo gl code)):=fun x=>by
    refine Ev.step (fun k=>by simp only [az.j0];rfl) ?_
    exact Ev.ite (fun _=>Ev.now _) fun _=>Ev.ite (fun _=>j1 _) fun _=>j1 _
  refine Ev.bind (Di t lo ht hs hl) ?_
  unfold oL headB
  rw [LP]
  cases h1:qL t lo with
  | false =>
    rw [Bool.false_and,Bool.false_and,if_neg (by decide)]
    exact Ev.congr (fun k=>if_neg (by decide)) (Ev.out (j0 true) (if_pos rfl))
  | true =>
    rw [Bool.true_and]
    refine Ev.congr (fun k=>if_pos rfl) ?_
    refine Ev.bind (Di t gl ht hs hg) ?_
    cases h2:qL t gl with
    | false =>
      rw [Bool.false_and,if_neg (by decide)]
      exact Ev.congr (fun k=>if_neg (by decide)) (Ev.out (j0 true) (if_pos rfl))
    | true =>
      rw [Bool.true_and]
      refine Ev.congr (fun k=>if_pos rfl) ?_
      refine Ev.out (Ev.ite (fun _=>j0 _) fun _=>j0 _) ?_
      by_cases h3:lo.size≤8
      · by_cases h4:gl.size≤4
        · rw [if_neg (by omega),decide_eq_true h3,decide_eq_true h4,if_neg (by simp;omega),show (true && true)=true from rfl,if_pos rfl,if_pos rfl]
          by_cases h5:(code.length:Int) < 1
          · rw [if_pos h5,if_neg (by omega)]
          · rw [if_neg h5]
            by_cases h6:(code.length:Int) > 200
            · rw [if_pos (decide_eq_true h6),if_neg (by omega)]
            · rw [if_neg (by simp;omega),if_pos (by omega)]
        · rw [if_neg (by omega),decide_eq_true h3,decide_eq_false h4,if_pos (by simp;omega),if_neg (by decide)]
      · rw [if_pos (by omega),decide_eq_false h3,if_pos rfl,if_neg (by simp)]
end
end Go.Proofs.YtlemecdddhdagaaDoor.P
end
