/- Parts of the proof of ModelSteps: what the functions that it reaches compute, and plain facts about that. -/
import Derived.Test.YtlemecdddhdagaaDoorZab
import Derived.Test.YtlemecdddhdagaaDoorZac
import Derived.Test.YtlemecdddhdagaaDoorZam
import Derived.Test.YtlemecdddhdagaaDoorZap
import Derived.Test.YtlemecdddhdagaaDoorZar
import Derived.Test.YtlemecdddhdagaaDoorZas
set_option linter.unusedVariables false
set_option linter.unusedSimpArgs false
section
namespace Go.Proofs.YtlemecdddhdagaaDoor.P
open Go.RowKit Go.Proofs.af.bF Go.Proofs.af.dD Go.Proofs.af.dN
attribute [local go_sem] lF lC mP mO kE kD lD lu
mutual
def az.j0:Nat→Bool→List ByteArray→ByteArray→ByteArray→List (iD)→Option (Int × Int)
 | 0,_,_,_,_,_=>none
 | k+1,x32,nJ,nI,nH,jc=>if x32=true then (some ((-1),5)) else (if (jc.length:Int) < 1 then (az.j1 k true nJ nI nH jc) else (az.j1 k (decide ((jc.length:Int) > 200)) nJ nI nH jc))
def az.j1:Nat→Bool→List ByteArray→ByteArray→ByteArray→List (iD)→Option (Int × Int)
 | 0,_,_,_,_,_=>none
 | k+1,qi,nJ,nI,nH,jc=>if qi=true then (some ((-1),3)) else (az.l0 k 0 nJ nI nH jc)
def az.l0:Nat→Int→List ByteArray→ByteArray→ByteArray→List (iD)→Option (Int × Int)
 | 0,_,_,_,_,_=>none
 | k+1,x4,nJ,nI,nH,jc=>if x4 < (jc.length:Int) then (if 0≤x4 then (if ((aA jc x4).f0)=3 then (az.j3 k x4 true nJ nI nH jc ((aA jc x4).f0) ((aA jc x4).f1) ((aA jc x4).f2) ((aA jc x4).f3) ((aA jc x4).f4)) else (az.j3 k x4 (((aA jc x4).f0) == 4) nJ nI nH jc ((aA jc x4).f0) ((aA jc x4).f1) ((aA jc x4).f2) ((aA jc x4).f3) ((aA jc x4).f4))) else (none)) else (some ((-1),0))
def az.j3:Nat→Int→Bool→List ByteArray→ByteArray→ByteArray→List (iD)→Int→Int→Int→Int→Int→Option (Int × Int)
 | 0,_,_,_,_,_,_,_,_,_,_,_=>none
 | k+1,x4,x6,nJ,nI,nH,jc,uh,ug,uf,tZ,qZ=>(dY.f k uh ug uf tZ qZ).bind fun t190=>(if t190=true then (if x6=true then (if qZ < 0 then (az.j4 k x4 true nJ nI nH jc uh ug uf tZ qZ) else (az.j4 k x4 (decide (qZ > (jc.length:Int))) nJ nI nH jc uh ug uf tZ qZ)) else (az.j4 k x4 false nJ nI nH jc uh ug uf tZ qZ)) else (some (x4,4)))
def az.j4:Nat→Int→Bool→List ByteArray→ByteArray→ByteArray→List (iD)→Int→Int→Int→Int→Int→Option (Int × Int)
 | 0,_,_,_,_,_,_,_,_,_,_,_=>none
 | k+1,x4,x68,nJ,nI,nH,jc,uh,ug,uf,tZ,qZ=>if x68=true then (some (x4,12)) else ((bI.f k uh ug uf tZ qZ).bind fun t191=>(if t191=true then ((aY.f k nJ nI nH jc uh ug uf tZ qZ).bind fun t192=>(if t192=true then (az.l0 k (wrap64 (x4+1)) nJ nI nH jc) else (some (x4,5)))) else (some (x4,5))))
end
def az.f (k:Nat) (aZ:List ByteArray) (aV:ByteArray) (aW:ByteArray) (aI:List (iD)):Option (Int × Int):=(aX.f k aZ aV).bind fun t186=>(if t186=true then ((aX.f k aZ aW).bind fun t187=>(if t187=true then (if (aV.size:Int) > 8 then (az.j0 k true aZ aV aW aI) else (az.j0 k (decide ((aW.size:Int) > 4)) aZ aV aW aI)) else (az.j0 k true aZ aV aW aI))) else (az.j0 k true aZ aV aW aI))
theorem az.iF:∀ k,(∀ y0 y1 y2 y3 y4,dP (az.j0 k y0 y1 y2 y3 y4) (az.j0 (k+1) y0 y1 y2 y3 y4))∧(∀ y0 y1 y2 y3 y4,dP (az.j1 k y0 y1 y2 y3 y4) (az.j1 (k+1) y0 y1 y2 y3 y4))∧(∀ y0 y1 y2 y3 y4,dP (az.l0 k y0 y1 y2 y3 y4) (az.l0 (k+1) y0 y1 y2 y3 y4))∧(∀ y0 y1 y2 y3 y4 y5 y6 y7 y8 y9 AX,dP (az.j3 k y0 y1 y2 y3 y4 y5 y6 y7 y8 y9 AX) (az.j3 (k+1) y0 y1 y2 y3 y4 y5 y6 y7 y8 y9 AX))∧(∀ y0 y1 y2 y3 y4 y5 y6 y7 y8 y9 AX,dP (az.j4 k y0 y1 y2 y3 y4 y5 y6 y7 y8 y9 AX) (az.j4 (k+1) y0 y1 y2 y3 y4 y5 y6 y7 y8 y9 AX))
 | 0=>⟨fun _ _ _ _ _ r h=>by simp [az.j0] at h,fun _ _ _ _ _ r h=>by simp [az.j1] at h,fun _ _ _ _ _ r h=>by simp [az.l0] at h,fun _ _ _ _ _ _ _ _ _ _ _ r h=>by simp [az.j3] at h,fun _ _ _ _ _ _ _ _ _ _ _ r h=>by simp [az.j4] at h⟩
 | k+1=>by
  obtain ⟨lW,ih1,ih2,ih3,ih4⟩:=az.iF k
  refine ⟨?_,?_,?_,?_,?_⟩
  ·
   intro y0 y1 y2 y3 y4
   unfold az.j0
   repeat' with_reducible first|apply lW|apply ih1|apply ih2|apply ih3|apply ih4|apply aX.mono|apply dY.mono|apply bI.mono|apply aY.mono|exact dP.refl _|exact dP.none _|refine dP.ite ?_ ?_|refine dP.bind ?_ (fun _=>?_)
  ·
   intro y0 y1 y2 y3 y4
   unfold az.j1
   repeat' with_reducible first|apply lW|apply ih1|apply ih2|apply ih3|apply ih4|apply aX.mono|apply dY.mono|apply bI.mono|apply aY.mono|exact dP.refl _|exact dP.none _|refine dP.ite ?_ ?_|refine dP.bind ?_ (fun _=>?_)
  ·
   intro y0 y1 y2 y3 y4
   unfold az.l0
   repeat' with_reducible first|apply lW|apply ih1|apply ih2|apply ih3|apply ih4|apply aX.mono|apply dY.mono|apply bI.mono|apply aY.mono|exact dP.refl _|exact dP.none _|refine dP.ite ?_ ?_|refine dP.bind ?_ (fun _=>?_)
  ·
   intro y0 y1 y2 y3 y4 y5 y6 y7 y8 y9 AX
   unfold az.j3
   repeat' with_reducible first|apply lW|apply ih1|apply ih2|apply ih3|apply ih4|apply aX.mono|apply dY.mono|apply bI.mono|apply aY.mono|exact dP.refl _|exact dP.none _|refine dP.ite ?_ ?_|refine dP.bind ?_ (fun _=>?_)
  ·
   intro y0 y1 y2 y3 y4 y5 y6 y7 y8 y9 AX
   unfold az.j4
   repeat' with_reducible first|apply lW|apply ih1|apply ih2|apply ih3|apply ih4|apply aX.mono|apply dY.mono|apply bI.mono|apply aY.mono|exact dP.refl _|exact dP.none _|refine dP.ite ?_ ?_|refine dP.bind ?_ (fun _=>?_)
theorem az.mono:∀ a0 a1 a2 a3 k,dP (az.f k a0 a1 a2 a3) (az.f (k+1) a0 a1 a2 a3):=by
 intro a0 a1 a2 a3 k
 obtain ⟨lW,ih1,ih2,ih3,ih4⟩:=az.iF k
 unfold az.f
 repeat' with_reducible first|apply lW|apply ih1|apply ih2|apply ih3|apply ih4|apply aX.mono|apply dY.mono|apply bI.mono|apply aY.mono|exact dP.refl _|exact dP.none _|refine dP.ite ?_ ?_|refine dP.bind ?_ (fun _=>?_)
set_option maxHeartbeats 8000000 in
set_option maxRecDepth 100000 in
theorem az.calls (k:Nat) (eu:Option Addr) (ed:Nat) (aZ:List ByteArray) (aV:ByteArray) (aW:ByteArray) (gm:Option Addr) (eX:Nat) (aI:List (iD)) (r1:Int) (r2:Int) (w:World) (jV:Kd.C Kd.string w eu aZ.length aZ) (jX:aZ.length≤ed) (jU:Kd.C uD w gm aI.length aI) (jW:aI.length≤eX) (lM:Kd.C xM w xN o9.length o9) (h:az.f k aZ aV aW aI=some (r1,r2)) :
  Calls Tryd.prog 18 #[.agg #[.slice eu aZ.length ed,.string aV,.string aW,.slice gm aI.length eX]] w fun e w'=>e=.returned (.tuple #[.int .i64 r1,.int .i64 r2])∧Below w.heap.size w w':=by
 have yP:=Tryd.underlying25
 have CW:=Tryd.underlying55
 have iI:=ae.mk jV
 have iL:=ae.mk jX
 clear jV jX
 have jR:=ae.mk jU
 have kK:=ae.mk jW
 clear jU jW
 have yH:=ae.mk lM
 clear lM
 have HB:=ae.mk (Below.refl w.heap.size w)
 have H:((aX.f k aZ aV).bind fun t186=>(if t186=true then ((aX.f k aZ aW).bind fun t187=>(if t187=true then (if (aV.size:Int) > 8 then (az.j0 k true aZ aV aW aI) else (az.j0 k (decide ((aW.size:Int) > 4)) aZ aV aW aI)) else (az.j0 k true aZ aV aW aI))) else (az.j0 k true aZ aV aW aI)))=some (r1,r2):=h
 clear h
 have HC2:=ae.mk H
 clear H
 go_enter Tryd.func18,Tryd.ntmps18
 go_upto_region 1 with (first|((with_reducible refine bD (N:=1) rfl ?_);(try (refine nT (by rfl) ?_;dsimp only));refine fG ?hg (N:=1) ?hd (cs:=#[.slice eu aZ.length ed,.string aV,.string aW,.slice gm aI.length eX]) (t:=25) ?hr ?_;(case hd=>rfl);(case hg=>rfl);(case hr=>first|(go_simp;done)|(go_simp;rfl));intro qQ hg w3 hbox hb;have dX:=ae.mk (bn (by repeat (first|(with_reducible first|exact HB.out|apply ah|apply ag|apply ai)|exact HB.out)) hb);have dW:=ae.mk (hbox);have dU:=ae.mk ((by rw [hg];exact (bY (by repeat (first|(with_reducible first|exact HB.out|apply ah|apply ag|apply ai)|exact HB.out))):w.heap.size≤qQ));have iq:=dU;clear HB;have HB:=dX;have iU:=dW;have aqE:=dU;have lg:=iq;clear dX dW dU iq;clear hb hbox hg))
 (try simp only [Act.put,List.setIfInBounds_toArray,List.set_cons_zero,List.set_cons_succ])
 go_cut [32] (fun v32 wc=>∃ (kq:Nat) (JG:Bool),v32=.bool JG∧ae (az.j0 kq JG aZ aV aW aI=some (r1,r2))∧ae (kq≤k)∧ae (wc.heap[qQ]? = some (.cells #[(.slice eu aZ.length ed),.string aV,.string aW,(.slice gm aI.length eX)] 25 (0,0)))∧ae (Below w.heap.size w wc))
 case first =>
  have H:=HC2.out
  clear HC2
  replace H:=Option.bind_eq_some_iff.mp H
  obtain ⟨t186,CO,H⟩:=H
  replace H:(if t186=true then ((aX.f k aZ aW).bind fun t187=>(if t187=true then (if (aV.size:Int) > 8 then (az.j0 k true aZ aV aW aI) else (az.j0 k (decide ((aW.size:Int) > 4)) aZ aV aW aI)) else (az.j0 k true aZ aV aW aI))) else (az.j0 k true aZ aV aW aI))=some (r1,r2):=H
  have A4:=ae.mk CO
  clear CO
  by_cases c5:t186=true
  ·
   subst c5
   have H1:((aX.f k aZ aW).bind fun t187=>(if t187=true then (if (aV.size:Int) > 8 then (az.j0 k true aZ aV aW aI) else (az.j0 k (decide ((aW.size:Int) > 4)) aZ aV aW aI)) else (az.j0 k true aZ aV aW aI)))=some (r1,r2):=by rw [if_pos rfl] at H;exact H
   clear H
   have H:=H1
   clear H1
   replace H:=Option.bind_eq_some_iff.mp H
   obtain ⟨t187,NS,H⟩:=H
   replace H:(if t187=true then (if (aV.size:Int) > 8 then (az.j0 k true aZ aV aW aI) else (az.j0 k (decide ((aW.size:Int) > 4)) aZ aV aW aI)) else (az.j0 k true aZ aV aW aI))=some (r1,r2):=H
   have A6:=ae.mk NS
   clear NS
   by_cases c7:t187=true
   ·
    subst c7
    have H1:(if (aV.size:Int) > 8 then (az.j0 k true aZ aV aW aI) else (az.j0 k (decide ((aW.size:Int) > 4)) aZ aV aW aI))=some (r1,r2):=by rw [if_pos rfl] at H;exact H
    clear H
    have H:=H1
    clear H1
    by_cases c8:(aV.size:Int) > 8
    ·
     rw [if_pos c8] at H
     have pU:decide (8 < (aV.size:Int))=true:=decide_eq_true c8
     have zN:decide (8 < aV.size)=true:=decide_eq_true (by omega)
     clear c8
     (first|rw [pU]|(simp only [bT,bW];rw [pU])|skip)
     have H':=ae.mk H
     clear H
     obtain ⟨Jh,Jg,Jf,Je,Jc,Jb,Ja,I9⟩:=rW iU.out
     go_wp2_with (first|((with_reducible refine bz (f:=27) rfl ?_);refine dV (some 11) rfl rfl Tryd.func27 (by kernel_rfl) rfl #[.slice eu aZ.length ed,.string aV] rfl (by (try simp only [List.map_toArray,List.map_cons,List.map_nil]);first|done|rfl|(simp only [List.length_drop,List.length_take];rfl)) ?_;(with_reducible refine (aX.calls k _ _ aZ aV true _ ?df ?dA A4.out).mono ?_);(case df=>repeat (first|exact (Kd.bJ iI.out HB.out)|(with_reducible refine Kd.bQ ?_ _)|(with_reducible refine Kd.bP ?_ _)|(with_reducible refine Kd.dF ?_)));(case dA=>exact iL.out);rintro e w' ⟨rfl,⟨nd,rfl⟩⟩;refine ⟨_,rfl,?_⟩)|(go_at_call 27;(with_reducible refine (aX.calls k _ _ aZ aW true _ ?df ?dA A6.out).mono ?_);(case df=>repeat (first|exact (Kd.bJ iI.out (by repeat (first|(with_reducible first|exact HB.out|apply ah|apply ag|apply ai|refine aj ?_ lg.out)|exact HB.out)))|(with_reducible refine Kd.bQ ?_ _)|(with_reducible refine Kd.bP ?_ _)|(with_reducible refine Kd.dF ?_)));(case dA=>exact iL.out);rintro e w' ⟨rfl,⟨nd,rfl⟩⟩))
     go_meet
     case rel=>exact ⟨_,(true),(by first|rfl|(simp;done)|(simp [*];done)),H',⟨by first|omega|exact Nat.le_refl _⟩,⟨by (with_reducible repeat (first|refine au ?_ _|refine ay ?_|refine ak ?_ _));exact iU.out⟩,⟨by repeat (first|(with_reducible first|exact HB.out|apply ah|apply ag|apply ai|refine aj ?_ lg.out)|exact HB.out)⟩⟩
    ·
     rw [if_neg c8] at H
     have pU:decide (8 < (aV.size:Int))=false:=decide_eq_false c8
     have zN:decide (8 < aV.size)=false:=decide_eq_false (by omega)
     clear c8
     (first|rw [pU]|(simp only [bT,bW];rw [pU])|skip)
     have H':=ae.mk H
     clear H
     obtain ⟨yj,yh,yg,yf,yc,x9,xZ,xY⟩:=rW iU.out
     go_wp2_with (first|((with_reducible refine bz (f:=27) rfl ?_);refine dV (some 11) rfl rfl Tryd.func27 (by kernel_rfl) rfl #[.slice eu aZ.length ed,.string aV] rfl (by (try simp only [List.map_toArray,List.map_cons,List.map_nil]);first|done|rfl|(simp only [List.length_drop,List.length_take];rfl)) ?_;(with_reducible refine (aX.calls k _ _ aZ aV true _ ?df ?dA A4.out).mono ?_);(case df=>repeat (first|exact (Kd.bJ iI.out HB.out)|(with_reducible refine Kd.bQ ?_ _)|(with_reducible refine Kd.bP ?_ _)|(with_reducible refine Kd.dF ?_)));(case dA=>exact iL.out);rintro e w' ⟨rfl,⟨nd,rfl⟩⟩;refine ⟨_,rfl,?_⟩)|(go_at_call 27;(with_reducible refine (aX.calls k _ _ aZ aW true _ ?df ?dA A6.out).mono ?_);(case df=>repeat (first|exact (Kd.bJ iI.out (by repeat (first|(with_reducible first|exact HB.out|apply ah|apply ag|apply ai|refine aj ?_ lg.out)|exact HB.out)))|(with_reducible refine Kd.bQ ?_ _)|(with_reducible refine Kd.bP ?_ _)|(with_reducible refine Kd.dF ?_)));(case dA=>exact iL.out);rintro e w' ⟨rfl,⟨nd,rfl⟩⟩))
     go_meet
     case rel=>exact ⟨_,(decide ((aW.size:Int) > 4)),(by first|rfl|(simp;done)|(simp [*];done)),H',⟨by first|omega|exact Nat.le_refl _⟩,⟨by (with_reducible repeat (first|refine au ?_ _|refine ay ?_|refine ak ?_ _));exact iU.out⟩,⟨by repeat (first|(with_reducible first|exact HB.out|apply ah|apply ag|apply ai|refine aj ?_ lg.out)|exact HB.out)⟩⟩
   ·
    replace c7:=Bool.eq_false_iff.mpr c7
    subst c7
    have H1:(az.j0 k true aZ aV aW aI)=some (r1,r2):=by rw [if_neg (show ¬ (false=true) by decide)] at H;exact H
    clear H
    have H:=H1
    clear H1
    have H':=ae.mk H
    clear H
    obtain ⟨Aw,Au,Ar,Aq,Ai,Ah,Ag,Af⟩:=rW iU.out
    go_wp2_with (first|((with_reducible refine bz (f:=27) rfl ?_);refine dV (some 11) rfl rfl Tryd.func27 (by kernel_rfl) rfl #[.slice eu aZ.length ed,.string aV] rfl (by (try simp only [List.map_toArray,List.map_cons,List.map_nil]);first|done|rfl|(simp only [List.length_drop,List.length_take];rfl)) ?_;(with_reducible refine (aX.calls k _ _ aZ aV true _ ?df ?dA A4.out).mono ?_);(case df=>repeat (first|exact (Kd.bJ iI.out HB.out)|(with_reducible refine Kd.bQ ?_ _)|(with_reducible refine Kd.bP ?_ _)|(with_reducible refine Kd.dF ?_)));(case dA=>exact iL.out);rintro e w' ⟨rfl,⟨nd,rfl⟩⟩;refine ⟨_,rfl,?_⟩)|(go_at_call 27;(with_reducible refine (aX.calls k _ _ aZ aW false _ ?df ?dA A6.out).mono ?_);(case df=>repeat (first|exact (Kd.bJ iI.out (by repeat (first|(with_reducible first|exact HB.out|apply ah|apply ag|apply ai|refine aj ?_ lg.out)|exact HB.out)))|(with_reducible refine Kd.bQ ?_ _)|(with_reducible refine Kd.bP ?_ _)|(with_reducible refine Kd.dF ?_)));(case dA=>exact iL.out);rintro e w' ⟨rfl,⟨nd,rfl⟩⟩))
    go_meet
    case rel=>exact ⟨_,(true),(by first|rfl|(simp;done)|(simp [*];done)),H',⟨by first|omega|exact Nat.le_refl _⟩,⟨by (with_reducible repeat (first|refine au ?_ _|refine ay ?_|refine ak ?_ _));exact iU.out⟩,⟨by repeat (first|(with_reducible first|exact HB.out|apply ah|apply ag|apply ai|refine aj ?_ lg.out)|exact HB.out)⟩⟩
  ·
   replace c5:=Bool.eq_false_iff.mpr c5
   subst c5
   have H1:(az.j0 k true aZ aV aW aI)=some (r1,r2):=by rw [if_neg (show ¬ (false=true) by decide)] at H;exact H
   clear H
   have H:=H1
   clear H1
   have H':=ae.mk H
   clear H
   obtain ⟨Fg,Ff,Fe,Fb,EX,EW,EU,ET⟩:=rW iU.out
   go_wp2_with (first|((with_reducible refine bz (f:=27) rfl ?_);refine dV (some 11) rfl rfl Tryd.func27 (by kernel_rfl) rfl #[.slice eu aZ.length ed,.string aV] rfl (by (try simp only [List.map_toArray,List.map_cons,List.map_nil]);first|done|rfl|(simp only [List.length_drop,List.length_take];rfl)) ?_;(with_reducible refine (aX.calls k _ _ aZ aV false _ ?df ?dA A4.out).mono ?_);(case df=>repeat (first|exact (Kd.bJ iI.out HB.out)|(with_reducible refine Kd.bQ ?_ _)|(with_reducible refine Kd.bP ?_ _)|(with_reducible refine Kd.dF ?_)));(case dA=>exact iL.out);rintro e w' ⟨rfl,⟨nd,rfl⟩⟩;refine ⟨_,rfl,?_⟩))
   go_meet
   case rel=>exact ⟨_,(true),(by first|rfl|(simp;done)|(simp [*];done)),H',⟨by first|omega|exact Nat.le_refl _⟩,⟨by (with_reducible repeat (first|refine au ?_ _|refine ay ?_|refine ak ?_ _));exact iU.out⟩,⟨by repeat (first|(with_reducible first|exact HB.out|apply ah|apply ag|apply ai|refine aj ?_ lg.out)|exact HB.out)⟩⟩
 case rest =>
  clear HC2
  obtain ⟨kq,JG,rfl,HA,zh,iU,HB⟩:=hcut
  cases kq with
  | zero=>exact absurd HA.out (by simp [az.j0])
  | succ Ph =>
   have H:=HA.out
   clear HA
   simp only [az.j0] at H
   by_cases c13:JG=true
   ·
    subst c13
    have H1:(some ((-1),5))=some (r1,r2):=by rw [if_pos rfl] at H;exact H
    clear H
    have H:=H1
    clear H1
    simp only [Option.some.injEq,Prod.mk.injEq] at H
    obtain ⟨rfl,rfl⟩:=H
    go_wp2
    go_ret2
    exact ⟨by first|rfl|(simp [aQ,aN] <;> rfl)|(simp [*,aQ,aN] <;> rfl),by repeat (first|(with_reducible first|exact HB.out|apply ah|apply ag|apply ai|refine aj ?_ lg.out)|exact HB.out)⟩
   ·
    replace c13:=Bool.eq_false_iff.mpr c13
    subst c13
    have H1:(if (aI.length:Int) < 1 then (az.j1 Ph true aZ aV aW aI) else (az.j1 Ph (decide ((aI.length:Int) > 200)) aZ aV aW aI))=some (r1,r2):=by rw [if_neg (show ¬ (false=true) by decide)] at H;exact H
    clear H
    have H:=H1
    clear H1
    have JD:=ae.mk H
    clear H
    go_upto_region 3 with (fail)
    go_cut [42] (fun v42 wc=>∃ (kq:Nat) (Eh:Bool),v42=.bool Eh∧ae (az.j1 kq Eh aZ aV aW aI=some (r1,r2))∧ae (kq≤Ph)∧ae (wc.heap[qQ]? = some (.cells #[(.slice eu aZ.length ed),.string aV,.string aW,(.slice gm aI.length eX)] 25 (0,0)))∧ae (Below w.heap.size w wc))
    case first =>
     have H:=JD.out
     clear JD
     by_cases c15:(aI.length:Int) < 1
     ·
      rw [if_pos c15] at H
      have qR:decide ((aI.length:Int) < 1)=true:=decide_eq_true c15
      have Hr:decide (aI.length < 1)=true:=decide_eq_true (by omega)
      clear c15
      (first|rw [qR]|(simp only [bT,bW];rw [qR])|skip)
      have H':=ae.mk H
      clear H
      obtain ⟨Fa,E8,E5,EZ,ES,ER,EP,EO⟩:=rW iU.out
      go_wp2
      go_meet
      case rel=>exact ⟨_,(true),(by first|rfl|(simp;done)|(simp [*];done)),H',⟨by have:=zh.out;first|omega|exact Nat.le_refl _⟩,⟨by (with_reducible repeat (first|refine au ?_ _|refine ay ?_|refine ak ?_ _));exact iU.out⟩,⟨by repeat (first|(with_reducible first|exact HB.out|apply ah|apply ag|apply ai|refine aj ?_ lg.out)|exact HB.out)⟩⟩
     ·
      rw [if_neg c15] at H
      have qR:decide ((aI.length:Int) < 1)=false:=decide_eq_false c15
      have Hr:decide (aI.length < 1)=false:=decide_eq_false (by omega)
      clear c15
      (first|rw [qR]|(simp only [bT,bW];rw [qR])|skip)
      have H':=ae.mk H
      clear H
      obtain ⟨Na,MZ,MX,MW,LK,LJ,LH,LG⟩:=rW iU.out
      go_wp2
      go_meet
      case rel=>exact ⟨_,(decide ((aI.length:Int) > 200)),(by first|rfl|(simp;done)|(simp [*];done)),H',⟨by have:=zh.out;first|omega|exact Nat.le_refl _⟩,⟨by (with_reducible repeat (first|refine au ?_ _|refine ay ?_|refine ak ?_ _));exact iU.out⟩,⟨by repeat (first|(with_reducible first|exact HB.out|apply ah|apply ag|apply ai|refine aj ?_ lg.out)|exact HB.out)⟩⟩
    case rest =>
     clear JD
     obtain ⟨kq,Eh,rfl,HA,Ib,iU,HB⟩:=hcut
     cases kq with
     | zero=>exact absurd HA.out (by simp [az.j1])
     | succ UC =>
      have H:=HA.out
      clear HA
      simp only [az.j1] at H
      by_cases c18:Eh=true
      ·
       subst c18
       have H1:(some ((-1),3))=some (r1,r2):=by rw [if_pos rfl] at H;exact H
       clear H
       have H:=H1
       clear H1
       simp only [Option.some.injEq,Prod.mk.injEq] at H
       obtain ⟨rfl,rfl⟩:=H
       go_wp2
       go_ret2
       exact ⟨by first|rfl|(simp [aQ,aN] <;> rfl)|(simp [*,aQ,aN] <;> rfl),by repeat (first|(with_reducible first|exact HB.out|apply ah|apply ag|apply ai|refine aj ?_ lg.out)|exact HB.out)⟩
      ·
       replace c18:=Bool.eq_false_iff.mpr c18
       subst c18
       have H1:(az.l0 UC 0 aZ aV aW aI)=some (r1,r2):=by rw [if_neg (show ¬ (false=true) by decide)] at H;exact H
       clear H
       have H:=H1
       clear H1
       have H':=ae.mk H
       clear H
       go_wp2
       go_loopg [4] UC (fun kq v4 w'=>∃ (dh:Int),v4=.int .i64 dh∧ae (az.l0 kq dh aZ aV aW aI=some (r1,r2))∧ae (kq≤UC)∧ae (w'.heap[qQ]? = some (.cells #[(.slice eu aZ.length ed),.string aV,.string aW,(.slice gm aI.length eX)] 25 (0,0)))∧ae (Below w.heap.size w w'))
       case atStart=>exact ⟨(0),(by first|rfl|(simp;done)|(simp [*];done)),H',⟨Nat.le_refl _⟩,⟨by (with_reducible repeat (first|refine au ?_ _|refine ay ?_|refine ak ?_ _));exact iU.out⟩,⟨by repeat (first|(with_reducible first|exact HB.out|apply ah|apply ag|apply ai|refine aj ?_ lg.out)|exact HB.out)⟩⟩
       case round =>
        clear H'
        obtain ⟨dh,rfl,HA,xH,iU,HB⟩:=hrel
        cases gk with
        | zero=>exact absurd HA.out (by simp [az.l0])
        | succ k3 =>
         have H:=HA.out
         clear HA
         simp only [az.l0] at H
         by_cases c19:dh < (aI.length:Int)
         ·
          rw [if_pos c19] at H
          have Ho:decide (dh < (aI.length:Int))=true:=decide_eq_true c19
          clear c19
          by_cases c20:0≤dh
          ·
           rw [if_pos c20] at H
           have Zx:decide (0≤dh)=true:=decide_eq_true c20
           clear c20
           have JC:=ae.mk H
           clear H
           obtain ⟨MP,MO,MN,MM,Ls,Lr,Lp,Lm⟩:=rW iU.out
           have aax:0≤(dh:Int):=of_decide_eq_true (by first|(with_reducible assumption)|assumption)
           have aan:dh < (aI.length:Int):=of_decide_eq_true (by first|(with_reducible assumption)|assumption)
           obtain ⟨vF,anT,EL,EK,EJ,EI,EH⟩:=yU jR.out dh aax aan
           cases anT
           replace EL:=(HB.out.cell (World.block_lt_of_cell? w _ EL)).trans EL
           replace EK:=(HB.out.cell (World.block_lt_of_cell? w _ EK)).trans EK
           replace EJ:=(HB.out.cell (World.block_lt_of_cell? w _ EJ)).trans EJ
           replace EI:=(HB.out.cell (World.block_lt_of_cell? w _ EI)).trans EI
           replace EH:=(HB.out.cell (World.block_lt_of_cell? w _ EH)).trans EH
           replace aax:=eq_true aax
           replace aan:=eq_true aan
           go_upto_region 9 with (first|((with_reducible refine bD (N:=5) rfl ?_);(try (refine nT (by rfl) ?_;dsimp only));refine fG ?hg (N:=5) ?hd (cs:=#[.int .u8 0,.int .u8 0,.int .u8 0,.int .u8 0,.int .i64 0]) (t:=55) ?hr ?_;(case hd=>rfl);(case hg=>rfl);(case hr=>first|(go_simp;done)|(go_simp;rfl));intro uY hg w23 hbox hb;have dX:=ae.mk (bg (g:=qQ) (o:=.cells #[.slice eu aZ.length ed,.string aV,.string aW,.slice (some vF) aI.length eX] 25 (0,0)) (by (with_reducible repeat (first|refine au ?_ _|refine ay ?_|refine ak ?_ _));exact iU.out) hb);have dW:=ae.mk (bn (by repeat (first|(with_reducible first|exact HB.out|apply ah|apply ag|apply ai|refine aj ?_ lg.out)|exact HB.out)) hb);have dU:=ae.mk (hbox);have iq:=ae.mk ((by rw [hg];exact (bY (by repeat (first|(with_reducible first|exact HB.out|apply ah|apply ag|apply ai|refine aj ?_ lg.out)|exact HB.out))):w.heap.size≤uY));have mr:=iq;have ny:=ae.mk ((by rw [hg];exact Nat.ne_of_lt (kR (g:=qQ) (o:=.cells #[.slice eu aZ.length ed,.string aV,.string aW,.slice (some vF) aI.length eX] 25 (0,0)) (by (with_reducible repeat (first|refine au ?_ _|refine ay ?_|refine ak ?_ _));exact iU.out)):qQ ≠ uY));have oz:=ae.mk ny.out.symm;clear iU;clear HB;have iU:=dX;have HB:=dW;have jQ:=dU;have aqC:=iq;have qI:=mr;have jk:=ny;have nC:=oz;clear dX dW dU iq mr ny oz;clear hb hbox hg;have Y5:=nC.out;have Y3:=jk.out;obtain ⟨Ap,Am,Ak,Aj,EY,Ae,Ad,Ac,Aa,EN⟩:=kF jQ.out))
           (try simp only [Act.put,List.setIfInBounds_toArray,List.set_cons_zero,List.set_cons_succ])
           go_cut [6] (fun v6 wc=>∃ (kq:Nat) (Dl:Bool),v6=.bool Dl∧ae (az.j3 kq dh Dl aZ aV aW aI ((aA aI dh).f0) ((aA aI dh).f1) ((aA aI dh).f2) ((aA aI dh).f3) ((aA aI dh).f4)=some (r1,r2))∧ae (kq≤k3)∧ae (wc.heap[qQ]? = some (.cells #[(.slice eu aZ.length ed),.string aV,.string aW,(.slice (some vF) aI.length eX)] 25 (0,0)))∧ae (wc.heap[uY]? = some (.cells #[.int .u8 ((aA aI dh).f0),.int .u8 ((aA aI dh).f1),.int .u8 ((aA aI dh).f2),.int .u8 ((aA aI dh).f3),.int .i64 ((aA aI dh).f4)] 55 (0,0)))∧ae (Below w.heap.size w wc))
           case first =>
            have H:=JC.out
            clear JC
            by_cases Jn:((aA aI dh).f0)=3
            ·
             rw [if_pos Jn] at H
             have vw:(((aA aI dh).f0) == 3)=true:=beq_iff_eq.mpr Jn
             have RI:(((aA aI dh).f0) != 3)=false:=bne_eq_false_iff_eq.mpr Jn
             clear Jn
             (first|rw [vw]|(simp only [bT,bW];rw [vw])|skip)
             have H':=ae.mk H
             clear H
             have ady:=nC.out
             have ado:=jk.out
             obtain ⟨ML,MK,MJ,MI,XD,Ll,Lj,Lh,Le,VM⟩:=kF jQ.out
             go_wp2
             go_meet
             case rel=>exact ⟨_,(true),(by first|rfl|(simp;done)|(simp [*];done)),H',⟨by have:=zh.out;have:=Ib.out;have:=xH.out;first|omega|exact Nat.le_refl _⟩,⟨by (with_reducible repeat (first|refine au ?_ _|refine ay ?_|refine ak ?_ _));refine fV ?_ jk.out _;(with_reducible repeat (first|refine au ?_ _|refine ay ?_|refine ak ?_ _));refine fV ?_ jk.out _;(with_reducible repeat (first|refine au ?_ _|refine ay ?_|refine ak ?_ _));refine fV ?_ jk.out _;(with_reducible repeat (first|refine au ?_ _|refine ay ?_|refine ak ?_ _));refine fV ?_ jk.out _;(with_reducible repeat (first|refine au ?_ _|refine ay ?_|refine ak ?_ _));refine fV ?_ jk.out _;(with_reducible repeat (first|refine au ?_ _|refine ay ?_|refine ak ?_ _));exact iU.out⟩,⟨by (with_reducible repeat (first|refine au ?_ _|refine ay ?_|refine ak ?_ _));refine dR (cs:=#[.int .u8 ((aA aI dh).f0),.int .u8 ((aA aI dh).f1),.int .u8 ((aA aI dh).f2),.int .u8 ((aA aI dh).f3),.int .i64 0]) ?_ 4 _ rfl;(with_reducible repeat (first|refine au ?_ _|refine ay ?_|refine ak ?_ _));refine dR (cs:=#[.int .u8 ((aA aI dh).f0),.int .u8 ((aA aI dh).f1),.int .u8 ((aA aI dh).f2),.int .u8 0,.int .i64 0]) ?_ 3 _ rfl;(with_reducible repeat (first|refine au ?_ _|refine ay ?_|refine ak ?_ _));refine dR (cs:=#[.int .u8 ((aA aI dh).f0),.int .u8 ((aA aI dh).f1),.int .u8 0,.int .u8 0,.int .i64 0]) ?_ 2 _ rfl;(with_reducible repeat (first|refine au ?_ _|refine ay ?_|refine ak ?_ _));refine dR (cs:=#[.int .u8 ((aA aI dh).f0),.int .u8 0,.int .u8 0,.int .u8 0,.int .i64 0]) ?_ 1 _ rfl;(with_reducible repeat (first|refine au ?_ _|refine ay ?_|refine ak ?_ _));refine dR (cs:=#[.int .u8 0,.int .u8 0,.int .u8 0,.int .u8 0,.int .i64 0]) ?_ 0 _ rfl;(with_reducible repeat (first|refine au ?_ _|refine ay ?_|refine ak ?_ _));exact jQ.out⟩,⟨by repeat (first|(with_reducible first|exact HB.out|apply ah|apply ag|apply ai|refine aj ?_ lg.out|refine aj ?_ qI.out)|exact HB.out)⟩⟩
            ·
             rw [if_neg Jn] at H
             have vw:(((aA aI dh).f0) == 3)=false:=beq_eq_false_iff_ne.mpr Jn
             have RI:(((aA aI dh).f0) != 3)=true:=bne_iff_ne.mpr Jn
             (first|rw [vw]|(simp only [bT,bW];rw [vw])|skip)
             have H':=ae.mk H
             clear H
             have apt:=nC.out
             have ao1:=jk.out
             obtain ⟨amb,ama,al9,al8,al7,ajT,ajS,ajR,ajQ,ajP⟩:=kF jQ.out
             go_wp2
             go_meet
             case rel=>exact ⟨_,((((aA aI dh).f0) == 4)),(by first|rfl|(simp;done)|(simp [*];done)),H',⟨by have:=zh.out;have:=Ib.out;have:=xH.out;first|omega|exact Nat.le_refl _⟩,⟨by (with_reducible repeat (first|refine au ?_ _|refine ay ?_|refine ak ?_ _));refine fV ?_ jk.out _;(with_reducible repeat (first|refine au ?_ _|refine ay ?_|refine ak ?_ _));refine fV ?_ jk.out _;(with_reducible repeat (first|refine au ?_ _|refine ay ?_|refine ak ?_ _));refine fV ?_ jk.out _;(with_reducible repeat (first|refine au ?_ _|refine ay ?_|refine ak ?_ _));refine fV ?_ jk.out _;(with_reducible repeat (first|refine au ?_ _|refine ay ?_|refine ak ?_ _));refine fV ?_ jk.out _;(with_reducible repeat (first|refine au ?_ _|refine ay ?_|refine ak ?_ _));exact iU.out⟩,⟨by (with_reducible repeat (first|refine au ?_ _|refine ay ?_|refine ak ?_ _));refine dR (cs:=#[.int .u8 ((aA aI dh).f0),.int .u8 ((aA aI dh).f1),.int .u8 ((aA aI dh).f2),.int .u8 ((aA aI dh).f3),.int .i64 0]) ?_ 4 _ rfl;(with_reducible repeat (first|refine au ?_ _|refine ay ?_|refine ak ?_ _));refine dR (cs:=#[.int .u8 ((aA aI dh).f0),.int .u8 ((aA aI dh).f1),.int .u8 ((aA aI dh).f2),.int .u8 0,.int .i64 0]) ?_ 3 _ rfl;(with_reducible repeat (first|refine au ?_ _|refine ay ?_|refine ak ?_ _));refine dR (cs:=#[.int .u8 ((aA aI dh).f0),.int .u8 ((aA aI dh).f1),.int .u8 0,.int .u8 0,.int .i64 0]) ?_ 2 _ rfl;(with_reducible repeat (first|refine au ?_ _|refine ay ?_|refine ak ?_ _));refine dR (cs:=#[.int .u8 ((aA aI dh).f0),.int .u8 0,.int .u8 0,.int .u8 0,.int .i64 0]) ?_ 1 _ rfl;(with_reducible repeat (first|refine au ?_ _|refine ay ?_|refine ak ?_ _));refine dR (cs:=#[.int .u8 0,.int .u8 0,.int .u8 0,.int .u8 0,.int .i64 0]) ?_ 0 _ rfl;(with_reducible repeat (first|refine au ?_ _|refine ay ?_|refine ak ?_ _));exact jQ.out⟩,⟨by repeat (first|(with_reducible first|exact HB.out|apply ah|apply ag|apply ai|refine aj ?_ lg.out|refine aj ?_ qI.out)|exact HB.out)⟩⟩
           case rest =>
            clear JC
            obtain ⟨kq,Dl,rfl,HA,Ia,iU,jQ,HB⟩:=hcut
            cases kq with
            | zero=>exact absurd HA.out (by simp [az.j3])
            | succ sU =>
             have H:=HA.out
             clear HA
             simp only [az.j3] at H
             replace H:=Option.bind_eq_some_iff.mp H
             obtain ⟨t190,agK,H⟩:=H
             replace H:(if t190=true then (if Dl=true then (if ((aA aI dh).f4) < 0 then (az.j4 sU dh true aZ aV aW aI ((aA aI dh).f0) ((aA aI dh).f1) ((aA aI dh).f2) ((aA aI dh).f3) ((aA aI dh).f4)) else (az.j4 sU dh (decide (((aA aI dh).f4) > (aI.length:Int))) aZ aV aW aI ((aA aI dh).f0) ((aA aI dh).f1) ((aA aI dh).f2) ((aA aI dh).f3) ((aA aI dh).f4))) else (az.j4 sU dh false aZ aV aW aI ((aA aI dh).f0) ((aA aI dh).f1) ((aA aI dh).f2) ((aA aI dh).f3) ((aA aI dh).f4))) else (some (dh,4)))=some (r1,r2):=H
             have A31:=ae.mk agK
             clear agK
             by_cases c32:t190=true
             ·
              subst c32
              have H1:(if Dl=true then (if ((aA aI dh).f4) < 0 then (az.j4 sU dh true aZ aV aW aI ((aA aI dh).f0) ((aA aI dh).f1) ((aA aI dh).f2) ((aA aI dh).f3) ((aA aI dh).f4)) else (az.j4 sU dh (decide (((aA aI dh).f4) > (aI.length:Int))) aZ aV aW aI ((aA aI dh).f0) ((aA aI dh).f1) ((aA aI dh).f2) ((aA aI dh).f3) ((aA aI dh).f4))) else (az.j4 sU dh false aZ aV aW aI ((aA aI dh).f0) ((aA aI dh).f1) ((aA aI dh).f2) ((aA aI dh).f3) ((aA aI dh).f4)))=some (r1,r2):=by rw [if_pos rfl] at H;exact H
              clear H
              have H:=H1
              clear H1
              have ab7:=ae.mk H
              clear H
              have Y4:=nC.out
              have Y2:=jk.out
              obtain ⟨MH,MG,MF,MC,Xx,Ld,Lc,La,KZ,VG⟩:=kF jQ.out
              go_upto_region 12 with (first|((with_reducible refine bz (f:=28) rfl ?_);refine dV (some 65) rfl rfl Tryd.func28 (by kernel_rfl) rfl #[.agg #[.int .u8 ((aA aI dh).f0),.int .u8 ((aA aI dh).f1),.int .u8 ((aA aI dh).f2),.int .u8 ((aA aI dh).f3),.int .i64 ((aA aI dh).f4)]] rfl (by (try simp only [List.map_toArray,List.map_cons,List.map_nil]);first|done|rfl|(simp only [List.length_drop,List.length_take];rfl)) ?_;(with_reducible refine (dY.calls sU ((aA aI dh).f0) ((aA aI dh).f1) ((aA aI dh).f2) ((aA aI dh).f3) ((aA aI dh).f4) true _ ?df A31.out).mono ?_);(case df=>repeat (first|exact (Kd.bJ yH.out HB.out)|(with_reducible refine Kd.bQ ?_ _)|(with_reducible refine Kd.bP ?_ _)|(with_reducible refine Kd.dF ?_)));rintro e w36 ⟨rfl,hb⟩;refine ⟨_,rfl,?_⟩;have dX:=ae.mk (bg (g:=qQ) (o:=.cells #[.slice eu aZ.length ed,.string aV,.string aW,.slice (some vF) aI.length eX] 25 (0,0)) (by (with_reducible repeat (first|refine au ?_ _|refine ay ?_|refine ak ?_ _));exact iU.out) hb);have dW:=ae.mk (bg (g:=uY) (o:=.cells #[.int .u8 ((aA aI dh).f0),.int .u8 ((aA aI dh).f1),.int .u8 ((aA aI dh).f2),.int .u8 ((aA aI dh).f3),.int .i64 ((aA aI dh).f4)] 55 (0,0)) (by (with_reducible repeat (first|refine au ?_ _|refine ay ?_|refine ak ?_ _));exact jQ.out) hb);have dU:=ae.mk (bn (by repeat (first|(with_reducible first|exact HB.out|apply ah|apply ag|apply ai|refine aj ?_ lg.out|refine aj ?_ qI.out)|exact HB.out)) hb);clear iU;clear jQ;clear HB;have iU:=dX;have jQ:=dW;have HB:=dU;clear dX dW dU;(try clear hb);(try clear hb2);(try clear hk);(try clear hi)))
              (try simp only [Act.put,List.setIfInBounds_toArray,List.set_cons_zero,List.set_cons_succ])
              go_cut [68] (fun v68 wc=>∃ (kq:Nat) (Ef:Bool),v68=.bool Ef∧ae (az.j4 kq dh Ef aZ aV aW aI ((aA aI dh).f0) ((aA aI dh).f1) ((aA aI dh).f2) ((aA aI dh).f3) ((aA aI dh).f4)=some (r1,r2))∧ae (kq≤sU)∧ae (wc.heap[qQ]? = some (.cells #[(.slice eu aZ.length ed),.string aV,.string aW,(.slice (some vF) aI.length eX)] 25 (0,0)))∧ae (wc.heap[uY]? = some (.cells #[.int .u8 ((aA aI dh).f0),.int .u8 ((aA aI dh).f1),.int .u8 ((aA aI dh).f2),.int .u8 ((aA aI dh).f3),.int .i64 ((aA aI dh).f4)] 55 (0,0)))∧ae (Below w.heap.size w wc))
              case first =>
               have H:=ab7.out
               clear ab7
               by_cases c37:Dl=true
               ·
                subst c37
                have H1:(if ((aA aI dh).f4) < 0 then (az.j4 sU dh true aZ aV aW aI ((aA aI dh).f0) ((aA aI dh).f1) ((aA aI dh).f2) ((aA aI dh).f3) ((aA aI dh).f4)) else (az.j4 sU dh (decide (((aA aI dh).f4) > (aI.length:Int))) aZ aV aW aI ((aA aI dh).f0) ((aA aI dh).f1) ((aA aI dh).f2) ((aA aI dh).f3) ((aA aI dh).f4)))=some (r1,r2):=by rw [if_pos rfl] at H;exact H
                clear H
                have H:=H1
                clear H1
                by_cases Ns:((aA aI dh).f4) < 0
                ·
                 rw [if_pos Ns] at H
                 have BX:decide (((aA aI dh).f4) < 0)=true:=decide_eq_true Ns
                 clear Ns
                 (first|rw [BX]|(simp only [bT,bW];rw [BX])|skip)
                 have H':=ae.mk H
                 clear H
                 have apl:=nC.out
                 have aoU:=jk.out
                 obtain ⟨alM,alL,alK,alJ,alI,aju,ajt,ajs,ajr,ajq⟩:=kF jQ.out
                 go_wp2
                 go_meet
                 case rel=>exact ⟨_,(true),(by first|rfl|(simp;done)|(simp [*];done)),H',⟨by have:=zh.out;have:=Ib.out;have:=xH.out;have:=Ia.out;first|omega|exact Nat.le_refl _⟩,⟨by (with_reducible repeat (first|refine au ?_ _|refine ay ?_|refine ak ?_ _));exact iU.out⟩,⟨by (with_reducible repeat (first|refine au ?_ _|refine ay ?_|refine ak ?_ _));exact jQ.out⟩,⟨by repeat (first|(with_reducible first|exact HB.out|apply ah|apply ag|apply ai|refine aj ?_ lg.out|refine aj ?_ qI.out)|exact HB.out)⟩⟩
                ·
                 rw [if_neg Ns] at H
                 have BX:decide (((aA aI dh).f4) < 0)=false:=decide_eq_false Ns
                 clear Ns
                 (first|rw [BX]|(simp only [bT,bW];rw [BX])|skip)
                 have H':=ae.mk H
                 clear H
                 have apj:=nC.out
                 have aoS:=jk.out
                 obtain ⟨alC,alB,alA,alz,aly,ajk,ajj,aji,ajh,ajg⟩:=kF jQ.out
                 obtain ⟨Me,Md,Mc,L9,KY,KX,KW,KU⟩:=rW iU.out
                 go_wp2
                 go_meet
                 case rel=>exact ⟨_,(decide (((aA aI dh).f4) > (aI.length:Int))),(by first|rfl|(simp;done)|(simp [*];done)),H',⟨by have:=zh.out;have:=Ib.out;have:=xH.out;have:=Ia.out;first|omega|exact Nat.le_refl _⟩,⟨by (with_reducible repeat (first|refine au ?_ _|refine ay ?_|refine ak ?_ _));exact iU.out⟩,⟨by (with_reducible repeat (first|refine au ?_ _|refine ay ?_|refine ak ?_ _));exact jQ.out⟩,⟨by repeat (first|(with_reducible first|exact HB.out|apply ah|apply ag|apply ai|refine aj ?_ lg.out|refine aj ?_ qI.out)|exact HB.out)⟩⟩
               ·
                replace c37:=Bool.eq_false_iff.mpr c37
                subst c37
                have H1:(az.j4 sU dh false aZ aV aW aI ((aA aI dh).f0) ((aA aI dh).f1) ((aA aI dh).f2) ((aA aI dh).f3) ((aA aI dh).f4))=some (r1,r2):=by rw [if_neg (show ¬ (false=true) by decide)] at H;exact H
                clear H
                have H:=H1
                clear H1
                have H':=ae.mk H
                clear H
                go_wp2
                go_meet
                case rel=>exact ⟨_,(false),(by first|rfl|(simp;done)|(simp [*];done)),H',⟨by have:=zh.out;have:=Ib.out;have:=xH.out;have:=Ia.out;first|omega|exact Nat.le_refl _⟩,⟨by (with_reducible repeat (first|refine au ?_ _|refine ay ?_|refine ak ?_ _));exact iU.out⟩,⟨by (with_reducible repeat (first|refine au ?_ _|refine ay ?_|refine ak ?_ _));exact jQ.out⟩,⟨by repeat (first|(with_reducible first|exact HB.out|apply ah|apply ag|apply ai|refine aj ?_ lg.out|refine aj ?_ qI.out)|exact HB.out)⟩⟩
              case rest =>
               clear ab7
               obtain ⟨kq,Ef,rfl,HA,af0,iU,jQ,HB⟩:=hcut
               cases kq with
               | zero=>exact absurd HA.out (by simp [az.j4])
               | succ xB =>
                have H:=HA.out
                clear HA
                simp only [az.j4] at H
                by_cases Yy:Ef=true
                ·
                 subst Yy
                 have H1:(some (dh,12))=some (r1,r2):=by rw [if_pos rfl] at H;exact H
                 clear H
                 have H:=H1
                 clear H1
                 simp only [Option.some.injEq,Prod.mk.injEq] at H
                 obtain ⟨rfl,rfl⟩:=H
                 go_wp2
                 go_ret2
                 exact ⟨by first|rfl|(simp [aQ,aN] <;> rfl)|(simp [*,aQ,aN] <;> rfl),by repeat (first|(with_reducible first|exact HB.out|apply ah|apply ag|apply ai|refine aj ?_ lg.out|refine aj ?_ qI.out)|exact HB.out)⟩
                ·
                 replace Yy:=Bool.eq_false_iff.mpr Yy
                 subst Yy
                 have H1:((bI.f xB ((aA aI dh).f0) ((aA aI dh).f1) ((aA aI dh).f2) ((aA aI dh).f3) ((aA aI dh).f4)).bind fun t191=>(if t191=true then ((aY.f xB aZ aV aW aI ((aA aI dh).f0) ((aA aI dh).f1) ((aA aI dh).f2) ((aA aI dh).f3) ((aA aI dh).f4)).bind fun t192=>(if t192=true then (az.l0 xB (wrap64 (dh+1)) aZ aV aW aI) else (some (dh,5)))) else (some (dh,5))))=some (r1,r2):=by rw [if_neg (show ¬ (false=true) by decide)] at H;exact H
                 clear H
                 have H:=H1
                 clear H1
                 replace H:=Option.bind_eq_some_iff.mp H
                 obtain ⟨t191,agE,H⟩:=H
                 replace H:(if t191=true then ((aY.f xB aZ aV aW aI ((aA aI dh).f0) ((aA aI dh).f1) ((aA aI dh).f2) ((aA aI dh).f3) ((aA aI dh).f4)).bind fun t192=>(if t192=true then (az.l0 xB (wrap64 (dh+1)) aZ aV aW aI) else (some (dh,5)))) else (some (dh,5)))=some (r1,r2):=H
                 have A45:=ae.mk agE
                 clear agE
                 by_cases c46:t191=true
                 ·
                  subst c46
                  have H1:((aY.f xB aZ aV aW aI ((aA aI dh).f0) ((aA aI dh).f1) ((aA aI dh).f2) ((aA aI dh).f3) ((aA aI dh).f4)).bind fun t192=>(if t192=true then (az.l0 xB (wrap64 (dh+1)) aZ aV aW aI) else (some (dh,5))))=some (r1,r2):=by rw [if_pos rfl] at H;exact H
                  clear H
                  have H:=H1
                  clear H1
                  replace H:=Option.bind_eq_some_iff.mp H
                  obtain ⟨t192,agD,H⟩:=H
                  replace H:(if t192=true then (az.l0 xB (wrap64 (dh+1)) aZ aV aW aI) else (some (dh,5)))=some (r1,r2):=H
                  have A47:=ae.mk agD
                  clear agD
                  by_cases c48:t192=true
                  ·
                   subst c48
                   have H1:(az.l0 xB (wrap64 (dh+1)) aZ aV aW aI)=some (r1,r2):=by rw [if_pos rfl] at H;exact H
                   clear H
                   have H:=H1
                   clear H1
                   have H':=ae.mk H
                   clear H
                   have adv:=nC.out
                   have adl:=jk.out
                   obtain ⟨Xh,Xg,Xf,Xe,alr,Vq,Vp,Vo,Vm,ajb⟩:=kF jQ.out
                   go_wp2_with (first|((with_reducible refine bz (f:=29) rfl ?_);refine dV (some 86) rfl rfl Tryd.func29 (by kernel_rfl) rfl #[.agg #[.int .u8 ((aA aI dh).f0),.int .u8 ((aA aI dh).f1),.int .u8 ((aA aI dh).f2),.int .u8 ((aA aI dh).f3),.int .i64 ((aA aI dh).f4)]] rfl (by (try simp only [List.map_toArray,List.map_cons,List.map_nil]);first|done|rfl|(simp only [List.length_drop,List.length_take];rfl)) ?_;(with_reducible refine (bI.calls xB ((aA aI dh).f0) ((aA aI dh).f1) ((aA aI dh).f2) ((aA aI dh).f3) ((aA aI dh).f4) true _ A45.out).mono ?_);rintro e Iq ⟨rfl,hb⟩;refine ⟨_,rfl,?_⟩;have dX:=ae.mk (bg (g:=qQ) (o:=.cells #[.slice eu aZ.length ed,.string aV,.string aW,.slice (some vF) aI.length eX] 25 (0,0)) (by (with_reducible repeat (first|refine au ?_ _|refine ay ?_|refine ak ?_ _));exact iU.out) hb);have dW:=ae.mk (bg (g:=uY) (o:=.cells #[.int .u8 ((aA aI dh).f0),.int .u8 ((aA aI dh).f1),.int .u8 ((aA aI dh).f2),.int .u8 ((aA aI dh).f3),.int .i64 ((aA aI dh).f4)] 55 (0,0)) (by (with_reducible repeat (first|refine au ?_ _|refine ay ?_|refine ak ?_ _));exact jQ.out) hb);have dU:=ae.mk (bn (by repeat (first|(with_reducible first|exact HB.out|apply ah|apply ag|apply ai|refine aj ?_ lg.out|refine aj ?_ qI.out)|exact HB.out)) hb);clear iU;clear jQ;clear HB;have iU:=dX;have jQ:=dW;have HB:=dU;clear dX dW dU;(try clear hb);(try clear hb2);(try clear hk);(try clear hi);obtain ⟨W9,WZ,WY,WX,Vg,Vf,Ve,Vd⟩:=rW iU.out;obtain ⟨alo,aln,alm,alk,alj,ai8,ai7,ai6,ai5,ai4⟩:=kF jQ.out)|(go_at_call 30;(with_reducible refine (aY.calls xB _ _ aZ aV aW _ _ aI ((aA aI dh).f0) ((aA aI dh).f1) ((aA aI dh).f2) ((aA aI dh).f3) ((aA aI dh).f4) true _ ?df ?dA ?iY ?iW A47.out).mono ?_);(case df=>repeat (first|exact (Kd.bJ iI.out HB.out)|(with_reducible refine Kd.bQ ?_ _)|(with_reducible refine Kd.bP ?_ _)|(with_reducible refine Kd.dF ?_)));(case dA=>exact iL.out);(case iY=>repeat (first|exact (Kd.bJ jR.out HB.out)|(with_reducible refine Kd.bQ ?_ _)|(with_reducible refine Kd.bP ?_ _)|(with_reducible refine Kd.dF ?_)));(case iW=>exact kK.out);rintro e w54 ⟨rfl,hb⟩;have dX:=ae.mk (bg (g:=qQ) (o:=.cells #[.slice eu aZ.length ed,.string aV,.string aW,.slice (some vF) aI.length eX] 25 (0,0)) (by (with_reducible repeat (first|refine au ?_ _|refine ay ?_|refine ak ?_ _));exact iU.out) hb);have dW:=ae.mk (bg (g:=uY) (o:=.cells #[.int .u8 ((aA aI dh).f0),.int .u8 ((aA aI dh).f1),.int .u8 ((aA aI dh).f2),.int .u8 ((aA aI dh).f3),.int .i64 ((aA aI dh).f4)] 55 (0,0)) (by (with_reducible repeat (first|refine au ?_ _|refine ay ?_|refine ak ?_ _));exact jQ.out) hb);have dU:=ae.mk (bn (by repeat (first|(with_reducible first|exact HB.out|apply ah|apply ag|apply ai|refine aj ?_ lg.out|refine aj ?_ qI.out)|exact HB.out)) hb);clear iU;clear jQ;clear HB;have iU:=dX;have jQ:=dW;have HB:=dU;clear dX dW dU;(try clear hb);(try clear hb2);(try clear hk);(try clear hi)))
                   go_roundg xB
                   case measure=>have:=zh.out;have:=Ib.out;have:=xH.out;have:=Ia.out;have:=af0.out;omega
                   case rel=>exact ⟨(wrap64 (dh+1)),(by first|rfl|(simp;done)|(simp [*];done)),H',⟨by have:=zh.out;have:=Ib.out;have:=xH.out;have:=Ia.out;have:=af0.out;omega⟩,⟨by (with_reducible repeat (first|refine au ?_ _|refine ay ?_|refine ak ?_ _));exact iU.out⟩,⟨by repeat (first|(with_reducible first|exact HB.out|apply ah|apply ag|apply ai|refine aj ?_ lg.out|refine aj ?_ qI.out)|exact HB.out)⟩⟩
                  ·
                   replace c48:=Bool.eq_false_iff.mpr c48
                   subst c48
                   have H1:(some (dh,5))=some (r1,r2):=by rw [if_neg (show ¬ (false=true) by decide)] at H;exact H
                   clear H
                   have H:=H1
                   clear H1
                   simp only [Option.some.injEq,Prod.mk.injEq] at H
                   obtain ⟨rfl,rfl⟩:=H
                   have adu:=nC.out
                   have adk:=jk.out
                   obtain ⟨WW,WV,WU,WT,WS,Vb,Va,U9,U8,U7⟩:=kF jQ.out
                   go_wp2_with (first|((with_reducible refine bz (f:=29) rfl ?_);refine dV (some 86) rfl rfl Tryd.func29 (by kernel_rfl) rfl #[.agg #[.int .u8 ((aA aI dh).f0),.int .u8 ((aA aI dh).f1),.int .u8 ((aA aI dh).f2),.int .u8 ((aA aI dh).f3),.int .i64 ((aA aI dh).f4)]] rfl (by (try simp only [List.map_toArray,List.map_cons,List.map_nil]);first|done|rfl|(simp only [List.length_drop,List.length_take];rfl)) ?_;(with_reducible refine (bI.calls xB ((aA aI dh).f0) ((aA aI dh).f1) ((aA aI dh).f2) ((aA aI dh).f3) ((aA aI dh).f4) true _ A45.out).mono ?_);rintro e Ti ⟨rfl,hb⟩;refine ⟨_,rfl,?_⟩;have dX:=ae.mk (bg (g:=qQ) (o:=.cells #[.slice eu aZ.length ed,.string aV,.string aW,.slice (some vF) aI.length eX] 25 (0,0)) (by (with_reducible repeat (first|refine au ?_ _|refine ay ?_|refine ak ?_ _));exact iU.out) hb);have dW:=ae.mk (bg (g:=uY) (o:=.cells #[.int .u8 ((aA aI dh).f0),.int .u8 ((aA aI dh).f1),.int .u8 ((aA aI dh).f2),.int .u8 ((aA aI dh).f3),.int .i64 ((aA aI dh).f4)] 55 (0,0)) (by (with_reducible repeat (first|refine au ?_ _|refine ay ?_|refine ak ?_ _));exact jQ.out) hb);have dU:=ae.mk (bn (by repeat (first|(with_reducible first|exact HB.out|apply ah|apply ag|apply ai|refine aj ?_ lg.out|refine aj ?_ qI.out)|exact HB.out)) hb);clear iU;clear jQ;clear HB;have iU:=dX;have jQ:=dW;have HB:=dU;clear dX dW dU;(try clear hb);(try clear hb2);(try clear hk);(try clear hi);obtain ⟨WR,WQ,WO,WN,U6,U5,U4,U3⟩:=rW iU.out;obtain ⟨LW,LV,LU,LQ,LP,KN,KL,KJ,KI,KH⟩:=kF jQ.out)|(go_at_call 30;(with_reducible refine (aY.calls xB _ _ aZ aV aW _ _ aI ((aA aI dh).f0) ((aA aI dh).f1) ((aA aI dh).f2) ((aA aI dh).f3) ((aA aI dh).f4) false _ ?df ?dA ?iY ?iW A47.out).mono ?_);(case df=>repeat (first|exact (Kd.bJ iI.out HB.out)|(with_reducible refine Kd.bQ ?_ _)|(with_reducible refine Kd.bP ?_ _)|(with_reducible refine Kd.dF ?_)));(case dA=>exact iL.out);(case iY=>repeat (first|exact (Kd.bJ jR.out HB.out)|(with_reducible refine Kd.bQ ?_ _)|(with_reducible refine Kd.bP ?_ _)|(with_reducible refine Kd.dF ?_)));(case iW=>exact kK.out);rintro e w60 ⟨rfl,hb⟩;have dX:=ae.mk (bg (g:=qQ) (o:=.cells #[.slice eu aZ.length ed,.string aV,.string aW,.slice (some vF) aI.length eX] 25 (0,0)) (by (with_reducible repeat (first|refine au ?_ _|refine ay ?_|refine ak ?_ _));exact iU.out) hb);have dW:=ae.mk (bg (g:=uY) (o:=.cells #[.int .u8 ((aA aI dh).f0),.int .u8 ((aA aI dh).f1),.int .u8 ((aA aI dh).f2),.int .u8 ((aA aI dh).f3),.int .i64 ((aA aI dh).f4)] 55 (0,0)) (by (with_reducible repeat (first|refine au ?_ _|refine ay ?_|refine ak ?_ _));exact jQ.out) hb);have dU:=ae.mk (bn (by repeat (first|(with_reducible first|exact HB.out|apply ah|apply ag|apply ai|refine aj ?_ lg.out|refine aj ?_ qI.out)|exact HB.out)) hb);clear iU;clear jQ;clear HB;have iU:=dX;have jQ:=dW;have HB:=dU;clear dX dW dU;(try clear hb);(try clear hb2);(try clear hk);(try clear hi)))
                   go_ret2
                   exact ⟨by first|rfl|(simp [aQ,aN] <;> rfl)|(simp [*,aQ,aN] <;> rfl),by repeat (first|(with_reducible first|exact HB.out|apply ah|apply ag|apply ai|refine aj ?_ lg.out|refine aj ?_ qI.out)|exact HB.out)⟩
                 ·
                  replace c46:=Bool.eq_false_iff.mpr c46
                  subst c46
                  have H1:(some (dh,5))=some (r1,r2):=by rw [if_neg (show ¬ (false=true) by decide)] at H;exact H
                  clear H
                  have H:=H1
                  clear H1
                  simp only [Option.some.injEq,Prod.mk.injEq] at H
                  obtain ⟨rfl,rfl⟩:=H
                  have apd:=nC.out
                  have aoM:=jk.out
                  obtain ⟨WE,WC,WB,WA,Wx,UX,UW,UU,UT,UR⟩:=kF jQ.out
                  go_wp2_with (first|((with_reducible refine bz (f:=29) rfl ?_);refine dV (some 86) rfl rfl Tryd.func29 (by kernel_rfl) rfl #[.agg #[.int .u8 ((aA aI dh).f0),.int .u8 ((aA aI dh).f1),.int .u8 ((aA aI dh).f2),.int .u8 ((aA aI dh).f3),.int .i64 ((aA aI dh).f4)]] rfl (by (try simp only [List.map_toArray,List.map_cons,List.map_nil]);first|done|rfl|(simp only [List.length_drop,List.length_take];rfl)) ?_;(with_reducible refine (bI.calls xB ((aA aI dh).f0) ((aA aI dh).f1) ((aA aI dh).f2) ((aA aI dh).f3) ((aA aI dh).f4) false _ A45.out).mono ?_);rintro e w63 ⟨rfl,hb⟩;refine ⟨_,rfl,?_⟩;have dX:=ae.mk (bg (g:=qQ) (o:=.cells #[.slice eu aZ.length ed,.string aV,.string aW,.slice (some vF) aI.length eX] 25 (0,0)) (by (with_reducible repeat (first|refine au ?_ _|refine ay ?_|refine ak ?_ _));exact iU.out) hb);have dW:=ae.mk (bg (g:=uY) (o:=.cells #[.int .u8 ((aA aI dh).f0),.int .u8 ((aA aI dh).f1),.int .u8 ((aA aI dh).f2),.int .u8 ((aA aI dh).f3),.int .i64 ((aA aI dh).f4)] 55 (0,0)) (by (with_reducible repeat (first|refine au ?_ _|refine ay ?_|refine ak ?_ _));exact jQ.out) hb);have dU:=ae.mk (bn (by repeat (first|(with_reducible first|exact HB.out|apply ah|apply ag|apply ai|refine aj ?_ lg.out|refine aj ?_ qI.out)|exact HB.out)) hb);clear iU;clear jQ;clear HB;have iU:=dX;have jQ:=dW;have HB:=dU;clear dX dW dU;(try clear hb);(try clear hb2);(try clear hk);(try clear hi)))
                  go_ret2
                  exact ⟨by first|rfl|(simp [aQ,aN] <;> rfl)|(simp [*,aQ,aN] <;> rfl),by repeat (first|(with_reducible first|exact HB.out|apply ah|apply ag|apply ai|refine aj ?_ lg.out|refine aj ?_ qI.out)|exact HB.out)⟩
             ·
              replace c32:=Bool.eq_false_iff.mpr c32
              subst c32
              have H1:(some (dh,4))=some (r1,r2):=by rw [if_neg (show ¬ (false=true) by decide)] at H;exact H
              clear H
              have H:=H1
              clear H1
              simp only [Option.some.injEq,Prod.mk.injEq] at H
              obtain ⟨rfl,rfl⟩:=H
              have ads:=nC.out
              have adh:=jk.out
              obtain ⟨Wv,Wu,Ws,Wq,akZ,UQ,UO,UN,UM,aiK⟩:=kF jQ.out
              go_wp2_with (first|((with_reducible refine bz (f:=28) rfl ?_);refine dV (some 65) rfl rfl Tryd.func28 (by kernel_rfl) rfl #[.agg #[.int .u8 ((aA aI dh).f0),.int .u8 ((aA aI dh).f1),.int .u8 ((aA aI dh).f2),.int .u8 ((aA aI dh).f3),.int .i64 ((aA aI dh).f4)]] rfl (by (try simp only [List.map_toArray,List.map_cons,List.map_nil]);first|done|rfl|(simp only [List.length_drop,List.length_take];rfl)) ?_;(with_reducible refine (dY.calls sU ((aA aI dh).f0) ((aA aI dh).f1) ((aA aI dh).f2) ((aA aI dh).f3) ((aA aI dh).f4) false _ ?df A31.out).mono ?_);(case df=>repeat (first|exact (Kd.bJ yH.out HB.out)|(with_reducible refine Kd.bQ ?_ _)|(with_reducible refine Kd.bP ?_ _)|(with_reducible refine Kd.dF ?_)));rintro e w66 ⟨rfl,hb⟩;refine ⟨_,rfl,?_⟩;have dX:=ae.mk (bg (g:=qQ) (o:=.cells #[.slice eu aZ.length ed,.string aV,.string aW,.slice (some vF) aI.length eX] 25 (0,0)) (by (with_reducible repeat (first|refine au ?_ _|refine ay ?_|refine ak ?_ _));exact iU.out) hb);have dW:=ae.mk (bg (g:=uY) (o:=.cells #[.int .u8 ((aA aI dh).f0),.int .u8 ((aA aI dh).f1),.int .u8 ((aA aI dh).f2),.int .u8 ((aA aI dh).f3),.int .i64 ((aA aI dh).f4)] 55 (0,0)) (by (with_reducible repeat (first|refine au ?_ _|refine ay ?_|refine ak ?_ _));exact jQ.out) hb);have dU:=ae.mk (bn (by repeat (first|(with_reducible first|exact HB.out|apply ah|apply ag|apply ai|refine aj ?_ lg.out|refine aj ?_ qI.out)|exact HB.out)) hb);clear iU;clear jQ;clear HB;have iU:=dX;have jQ:=dW;have HB:=dU;clear dX dW dU;(try clear hb);(try clear hb2);(try clear hk);(try clear hi)))
              go_ret2
              exact ⟨by first|rfl|(simp [aQ,aN] <;> rfl)|(simp [*,aQ,aN] <;> rfl),by repeat (first|(with_reducible first|exact HB.out|apply ah|apply ag|apply ai|refine aj ?_ lg.out|refine aj ?_ qI.out)|exact HB.out)⟩
          ·
           rw [if_neg c20] at H
           exact absurd H (by simp)
         ·
          rw [if_neg c19] at H
          have Ho:decide (dh < (aI.length:Int))=false:=decide_eq_false c19
          clear c19
          simp only [Option.some.injEq,Prod.mk.injEq] at H
          obtain ⟨rfl,rfl⟩:=H
          obtain ⟨akT,akS,akR,akQ,aiE,aiD,aiC,aiB⟩:=rW iU.out
          go_wp2
          go_ret2
          exact ⟨by first|rfl|(simp [aQ,aN] <;> rfl)|(simp [*,aQ,aN] <;> rfl),by repeat (first|(with_reducible first|exact HB.out|apply ah|apply ag|apply ai|refine aj ?_ lg.out)|exact HB.out)⟩
end Go.Proofs.YtlemecdddhdagaaDoor.P
end
section
namespace Go.Proofs.YtlemecdddhdagaaDoor.P
open Go.RowKit Go.Proofs.af.bF Go.Proofs.af.dD Go.Proofs.af.dN
theorem zF (a b:ByteArray) (j:Nat) (h:j < a.size):bt (a++b) j=bt a j:=by
  unfold bt
  rw [dif_pos (show ((j:Int)).toNat < (a++b).size by rw [ByteArray.size_append];omega),dif_pos (show ((j:Int)).toNat < a.size by omega)]
  rw [ByteArray.getElem_append_left]
theorem yz (a b:ByteArray) (j:Nat) (h:j < b.size):bt (a++b) ((a.size+j:Nat):Int)=bt b j:=by
  unfold bt
  rw [dif_pos (show (((a.size+j:Nat):Int)).toNat < (a++b).size by rw [ByteArray.size_append];omega),dif_pos (show ((j:Int)).toNat < b.size by omega)]
  rw [ByteArray.getElem_append_right (by rw [Int.toNat_natCast];omega)]
  congr 3
  rw [Int.toNat_natCast,Int.toNat_natCast]
  omega
theorem Ob (t:List ByteArray) (lo gl:ByteArray):rJ t (lo++gl)=(rJ t lo && rJ t gl):=by
  have:allB (lo++gl).size (fun i=>decide (0≤lG (bt (lo++gl) i) t.length))=(allB lo.size (fun i=>decide (0≤lG (bt lo i) t.length)) && allB gl.size (fun i=>decide (0≤lG (bt gl i) t.length))):=by
    rw [Bool.eq_iff_iff,Bool.and_eq_true,oL,oL,oL,ByteArray.size_append]
    constructor
    · intro h
      refine ⟨fun j hj=>?_,fun j hj=>?_⟩
      · have:=h j (by omega)
        rwa [zF lo gl j hj] at this
      · have:=h (lo.size+j) (by omega)
        rwa [yz lo gl j hj] at this
    · rintro ⟨h1,h2⟩ j hj
      by_cases h:j < lo.size
      · rw [zF lo gl j h]
        exact h1 j h
      · obtain ⟨q,rfl⟩:∃ q,j=lo.size+q:=⟨j - lo.size,by omega⟩
        rw [yz lo gl q (by omega)]
        exact h2 q (by omega)
  unfold rJ
  rw [this]
  cases kC t <;> simp
def WfN (code:List iD):Prop:=∀ i:Nat,-9223372036854775808≤(code.getD i z55).f4∧(code.getD i z55).f4≤9223372036854775807
theorem N9 {x:iD} (h:rH x=true):1≤x.f0∧x.f0≤15:=by
  unfold rH at h
  by_cases h1:x.f0 < 1
  · rw [if_pos h1] at h;cases h
  · by_cases h2:x.f0 > 15
    · rw [if_neg h1,if_pos h2] at h;cases h
    · omega
section
variable (t:List ByteArray) (lo gl:ByteArray) (code:List iD) (ht:t.length≤9223372036854775807) (hs:∀ i:Int,(dZ ByteArray.empty t i).size≤9223372036854775807)
  (hn:code.length≤9223372036854775807) (hw:Wf code) (hwn:WfN code)
include ht hs hn hw hwn
theorem Hl:Ev (fun k=>az.l0 k 0 t lo gl code) (xe t lo gl code):=by
  have aal:∀ i:Nat,aA code (i:Int)=code.getD i z55:=fun i=>rfl
  have j4:∀ (i:Nat) (x:Bool) (r r':Int × Int),i < code.length→1≤(code.getD i z55).f0∧(code.getD i z55).f0≤15→(x=false→qO t lo gl (code.getD i z55)=true→Ev (fun k=>az.l0 k ((i+1:Nat):Int) t lo gl code) r) →
      r'=(if x=true then ((i:Int),12) else if qO t lo gl (code.getD i z55)=true then r else ((i:Int),5)) →
      Ev (fun k=>az.j4 k (i:Int) x t lo gl code (code.getD i z55).f0 (code.getD i z55).f1 (code.getD i z55).f2 (code.getD i z55).f3 (code.getD i z55).f4) r':=by
    intro i x r r' hi ho hr e
    rw [e]
    refine Ev.step (fun k=>by simp only [az.j4];rfl) ?_
    refine Ev.ite (fun _=>Ev.now _) fun hx=>?_
    have ke:=Ot t lo gl (code.getD i z55).f0 (code.getD i z55).f1 (code.getD i z55).f2 (code.getD i z55).f3 (code.getD i z55).f4 ho
    have hk:qO t lo gl (code.getD i z55)=oC t lo gl (code.getD i z55).f0 (code.getD i z55).f1 (code.getD i z55).f2 (code.getD i z55).f3 (code.getD i z55).f4:=rfl
    rw [← hk] at ke
    refine Ev.bind (UE _ _ _ _ _) ?_
    cases hin:EF (code.getD i z55).f0 (code.getD i z55).f1 (code.getD i z55).f2 (code.getD i z55).f3 with
    | false =>
      rw [hin,Bool.false_and] at ke
      rw [← ke,if_neg (by decide)]
      exact Ev.congr (fun k=>if_neg (by decide)) (Ev.now _)
    | true =>
      rw [hin,Bool.true_and] at ke
      refine Ev.congr (fun k=>if_pos rfl) ?_
      refine Ev.bind (Qi t lo gl code _ _ _ _ _ ht hs (hw i).1 (hw i).2.1 (hw i).2.2) ?_
      rw [ke]
      refine Ev.ite (fun h=>?_) (fun _=>Ev.now _)
      rw [wrapN hi hn]
      exact hr (by simpa using hx) h
  have place:∀ (i:Nat) (r r':Int × Int),i < code.length→(oU t lo gl code.length (code.getD i z55)=none→Ev (fun k=>az.l0 k ((i+1:Nat):Int) t lo gl code) r) →
      r'=(match oU t lo gl code.length (code.getD i z55) with|some e=>((i:Int),e)|none=>r) →
      Ev (fun k=>az.l0 k (i:Int) t lo gl code) r':=by
    intro i r r' hi hr e
    rw [e]
    have hx4:=PX (code.getD i z55) (hw i).1 (hw i).2.1 (hw i).2.2 (hwn i)
    generalize hx:code.getD i z55=x at *
    have j3:Ev (fun k=>az.j3 k i (rO x) t lo gl code x.f0 x.f1 x.f2 x.f3 x.f4) (match oU t lo gl code.length x with|some e=>((i:Int),e)|none=>r):=by
      refine Ev.step (fun k=>by simp only [az.j3];rfl) (Ev.bind hx4 ?_)
      by_cases h1:rH x=true
      · refine Ev.congr (fun k=>if_pos h1) ?_
        have J:∀ b r0,oU t lo gl code.length x=(if b=true then some 12 else if qO t lo gl x=true then none else some 5)→r0=(match oU t lo gl code.length x with|some e=>((i:Int),e)|none=>r)→Ev (fun k=>az.j4 k i b t lo gl code x.f0 x.f1 x.f2 x.f3 x.f4) r0:=by
          intro b r0 hb e0
          have:=j4 i b r r0 hi (by rw [hx];exact N9 h1) (fun hbf hk=>by
            refine hr ?_
            rw [hx] at hk
            rw [hb,hbf,if_neg (by decide),if_pos hk]) (by
              rw [e0,hb,hx]
              cases b
              · cases qO t lo gl x <;> rfl
              · rfl)
          rw [hx] at this
          exact this
        have hbad:∀ b,(rO x && (decide (x.f4 < 0) || decide (x.f4 > code.length)))=b→oU t lo gl code.length x=(if b=true then some 12 else if qO t lo gl x=true then none else some 5):=by
          intro b hb
          unfold oU
          rw [if_pos h1,hb]
        cases hj:rO x with
        | false =>
          refine Ev.congr (fun k=>if_neg (by decide)) ?_
          exact J false _ (hbad false (by rw [hj];rfl)) rfl
        | true =>
          refine Ev.congr (fun k=>if_pos rfl) ?_
          by_cases h4:x.f4 < 0
          · refine Ev.congr (fun k=>if_pos h4) ?_
            exact J true _ (hbad true (by rw [hj,decide_eq_true h4];rfl)) rfl
          · refine Ev.congr (fun k=>if_neg h4) ?_
            exact J _ _ (hbad _ (by rw [hj,decide_eq_false h4,Bool.false_or,Bool.true_and])) rfl
      · refine Ev.congr (fun k=>if_neg h1) ?_
        have:oU t lo gl code.length x=some 4:=by unfold oU;rw [if_neg h1]
        rw [this]
        exact Ev.now _
    refine Ev.step (fun k=>?_) j3
    simp only [az.l0]
    rw [if_pos (by omega),if_pos (by omega),aal,hx]
    by_cases h3:x.f0=3
    · rw [if_pos h3,show rO x=true from by unfold rO;rw [h3];rfl]
    · rw [if_neg h3,show rO x=(x.f0 == 4) from by unfold rO;rw [show (x.f0 == 3)=false from beq_eq_false_iff_ne.2 h3,Bool.false_or]]
  have:=lV (g:=fun k i=>az.l0 k (i:Nat) t lo gl code) (fun i=>(oU t lo gl code.length (code.getD i z55)).map fun e=>((i:Int),e)) code.length (-1,0)
    (fun i hi hb q hq=>?_) (fun i hi b hb=>?_) (fun _=>?_) code.length 0 (by omega) (fun j hj=>by omega)
  · exact this
  · refine place i q q hi (fun _=>hq) ?_
    rw [Option.map_eq_none_iff] at hb
    rw [hb]
  · refine place i (0,0) b hi (fun h=>by rw [h] at hb;cases hb) ?_
    cases h:oU t lo gl code.length (code.getD i z55) with
    | none=>rw [h] at hb;cases hb
    | some e=>rw [h] at hb;cases hb;rfl
  · refine Ev.step (f:=fun _=>some (-1,0)) (fun k=>?_) (Ev.now _)
    simp only [az.l0]
    rw [if_neg (by omega)]
theorem Rz (hl:lo.size≤9223372036854775807) (hg:gl.size≤9223372036854775807):Ev (fun k=>az.f k t lo gl code) (pI t lo gl code):=by
  have j1:∀ x,Ev (fun k=>az.j1 k x t lo gl code) (if x=true then (-1,3) else xe t lo gl code):=fun x=>by
    refine Ev.step (fun k=>by simp only [az.j1];rfl) ?_
    exact Ev.ite (fun _=>Ev.now _) fun _=>Hl t lo gl code ht hs hn hw hwn
  have j0:∀ x,Ev (fun k=>az.j0 k x t lo gl code) (if x=true then (-1,5) else if (code.length:Int) < 1 then (if true=true then (-1,3) else xe t lo gl code) else (if decide ((code.length:Int) > 200)=true then (-1,3) else xe t lo gl code)):=fun x=>by
    refine Ev.step (fun k=>by simp only [az.j0];rfl) ?_
    exact Ev.ite (fun _=>Ev.now _) fun _=>Ev.ite (fun _=>j1 _) fun _=>j1 _
  refine Ev.bind (Eu t lo ht hs hl) ?_
  unfold pI headB
  rw [Ob]
  cases h1:rJ t lo with
  | false =>
    rw [Bool.false_and,Bool.false_and,if_neg (by decide)]
    exact Ev.congr (fun k=>if_neg (by decide)) (Ev.out (j0 true) (if_pos rfl))
  | true =>
    rw [Bool.true_and]
    refine Ev.congr (fun k=>if_pos rfl) ?_
    refine Ev.bind (Eu t gl ht hs hg) ?_
    cases h2:rJ t gl with
    | false =>
      rw [Bool.false_and,if_neg (by decide)]
      exact Ev.congr (fun k=>if_neg (by decide)) (Ev.out (j0 true) (if_pos rfl))
    | true =>
      rw [Bool.true_and]
      refine Ev.congr (fun k=>if_pos rfl) ?_
      refine Ev.out (Ev.ite (fun _=>j0 _) fun _=>j0 _) ?_
      by_cases h3:lo.size≤8
      · by_cases h4:gl.size≤4
        · rw [if_neg (by omega),decide_eq_true h3,decide_eq_true h4,if_neg (by simp;omega),show (true && true)=true from rfl,if_pos rfl,if_pos rfl]
          by_cases h5:(code.length:Int) < 1
          · rw [if_pos h5,if_neg (by omega)]
          · rw [if_neg h5]
            by_cases h6:(code.length:Int) > 200
            · rw [if_pos (decide_eq_true h6),if_neg (by omega)]
            · rw [if_neg (by simp;omega),if_pos (by omega)]
        · rw [if_neg (by omega),decide_eq_true h3,decide_eq_false h4,if_pos (by simp;omega),if_neg (by decide)]
      · rw [if_pos (by omega),decide_eq_false h3,if_pos rfl,if_neg (by simp)]
end
end Go.Proofs.YtlemecdddhdagaaDoor.P
end
