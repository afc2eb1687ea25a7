/- Parts of the proof of ModelRuns: what the functions that it reaches compute, and plain facts about that. -/
import Derived.Test.YtlemecdddhdagaaDoorYab
import Derived.Test.YtlemecdddhdagaaDoorYac
import Derived.Test.YtlemecdddhdagaaDoorYal
import Derived.Test.YtlemecdddhdagaaDoorYao
import Derived.Test.YtlemecdddhdagaaDoorYaq
import Derived.Test.YtlemecdddhdagaaDoorYar
set_option linter.unusedVariables false
set_option linter.unusedSimpArgs false
section
namespace Go.Proofs.YtlemecdddhdagaaDoor.P
open Go.RowKit Go.Proofs.af.bD Go.Proofs.af.dB Go.Proofs.af.dM
attribute [local go_sem] lq lg mG mF jY jX lh kZ
mutual
def az.j0:Nat→Bool→List ByteArray→ByteArray→ByteArray→List (iw)→Option (Int × Int)
 | 0,_,_,_,_,_=>none
 | k+1,x32,nC,nz,ny,jb=>if x32=true then (some ((-1),5)) else (if (jb.length:Int) < 1 then (az.j1 k true nC nz ny jb) else (az.j1 k (decide ((jb.length:Int) > 200)) nC nz ny jb))
def az.j1:Nat→Bool→List ByteArray→ByteArray→ByteArray→List (iw)→Option (Int × Int)
 | 0,_,_,_,_,_=>none
 | k+1,pX,nC,nz,ny,jb=>if pX=true then (some ((-1),3)) else (az.l0 k 0 nC nz ny jb)
def az.l0:Nat→Int→List ByteArray→ByteArray→ByteArray→List (iw)→Option (Int × Int)
 | 0,_,_,_,_,_=>none
 | k+1,x4,nC,nz,ny,jb=>if x4 < (jb.length:Int) then (if 0≤x4 then (if ((aA jb x4).f0)=3 then (az.j3 k x4 true nC nz ny jb ((aA jb x4).f0) ((aA jb x4).f1) ((aA jb x4).f2) ((aA jb x4).f3) ((aA jb x4).f4)) else (az.j3 k x4 (((aA jb x4).f0) == 4) nC nz ny jb ((aA jb x4).f0) ((aA jb x4).f1) ((aA jb x4).f2) ((aA jb x4).f3) ((aA jb x4).f4))) else (none)) else (some ((-1),0))
def az.j3:Nat→Int→Bool→List ByteArray→ByteArray→ByteArray→List (iw)→Int→Int→Int→Int→Int→Option (Int × Int)
 | 0,_,_,_,_,_,_,_,_,_,_,_=>none
 | k+1,x4,x6,nC,nz,ny,jb,tJ,tH,tC,tu,qQ=>(dX.f k tJ tH tC tu qQ).bind fun t190=>(if t190=true then (if x6=true then (if qQ < 0 then (az.j4 k x4 true nC nz ny jb tJ tH tC tu qQ) else (az.j4 k x4 (decide (qQ > (jb.length:Int))) nC nz ny jb tJ tH tC tu qQ)) else (az.j4 k x4 false nC nz ny jb tJ tH tC tu qQ)) else (some (x4,4)))
def az.j4:Nat→Int→Bool→List ByteArray→ByteArray→ByteArray→List (iw)→Int→Int→Int→Int→Int→Option (Int × Int)
 | 0,_,_,_,_,_,_,_,_,_,_,_=>none
 | k+1,x4,x68,nC,nz,ny,jb,tJ,tH,tC,tu,qQ=>if x68=true then (some (x4,12)) else ((bH.f k tJ tH tC tu qQ).bind fun t191=>(if t191=true then ((aY.f k nC nz ny jb tJ tH tC tu qQ).bind fun t192=>(if t192=true then (az.l0 k (wrap64 (x4+1)) nC nz ny jb) else (some (x4,5)))) else (some (x4,5))))
end
def az.f (k:Nat) (aZ:List ByteArray) (aU:ByteArray) (aV:ByteArray) (aI:List (iw)):Option (Int × Int):=(aX.f k aZ aU).bind fun t186=>(if t186=true then ((aX.f k aZ aV).bind fun t187=>(if t187=true then (if (aU.size:Int) > 8 then (az.j0 k true aZ aU aV aI) else (az.j0 k (decide ((aV.size:Int) > 4)) aZ aU aV aI)) else (az.j0 k true aZ aU aV aI))) else (az.j0 k true aZ aU aV aI))
theorem az.iD:∀ k,(∀ y0 y1 y2 y3 y4,dO (az.j0 k y0 y1 y2 y3 y4) (az.j0 (k+1) y0 y1 y2 y3 y4))∧(∀ y0 y1 y2 y3 y4,dO (az.j1 k y0 y1 y2 y3 y4) (az.j1 (k+1) y0 y1 y2 y3 y4))∧(∀ y0 y1 y2 y3 y4,dO (az.l0 k y0 y1 y2 y3 y4) (az.l0 (k+1) y0 y1 y2 y3 y4))∧(∀ y0 y1 y2 y3 y4 y5 y6 y7 y8 y9 Aa,dO (az.j3 k y0 y1 y2 y3 y4 y5 y6 y7 y8 y9 Aa) (az.j3 (k+1) y0 y1 y2 y3 y4 y5 y6 y7 y8 y9 Aa))∧(∀ y0 y1 y2 y3 y4 y5 y6 y7 y8 y9 Aa,dO (az.j4 k y0 y1 y2 y3 y4 y5 y6 y7 y8 y9 Aa) (az.j4 (k+1) y0 y1 y2 y3 y4 y5 y6 y7 y8 y9 Aa))
 | 0=>⟨fun _ _ _ _ _ r h=>by simp [az.j0] at h,fun _ _ _ _ _ r h=>by simp [az.j1] at h,fun _ _ _ _ _ r h=>by simp [az.l0] at h,fun _ _ _ _ _ _ _ _ _ _ _ r h=>by simp [az.j3] at h,fun _ _ _ _ _ _ _ _ _ _ _ r h=>by simp [az.j4] at h⟩
 | k+1=>by
  obtain ⟨lS,ih1,ih2,ih3,Z4⟩:=az.iD k
  refine ⟨?_,?_,?_,?_,?_⟩
  ·
   intro y0 y1 y2 y3 y4
   unfold az.j0
   repeat' with_reducible first|apply lS|apply ih1|apply ih2|apply ih3|apply Z4|apply aX.mono|apply dX.mono|apply bH.mono|apply aY.mono|exact dO.refl _|exact dO.none _|refine dO.ite ?_ ?_|refine dO.bind ?_ (fun _=>?_)
  ·
   intro y0 y1 y2 y3 y4
   unfold az.j1
   repeat' with_reducible first|apply lS|apply ih1|apply ih2|apply ih3|apply Z4|apply aX.mono|apply dX.mono|apply bH.mono|apply aY.mono|exact dO.refl _|exact dO.none _|refine dO.ite ?_ ?_|refine dO.bind ?_ (fun _=>?_)
  ·
   intro y0 y1 y2 y3 y4
   unfold az.l0
   repeat' with_reducible first|apply lS|apply ih1|apply ih2|apply ih3|apply Z4|apply aX.mono|apply dX.mono|apply bH.mono|apply aY.mono|exact dO.refl _|exact dO.none _|refine dO.ite ?_ ?_|refine dO.bind ?_ (fun _=>?_)
  ·
   intro y0 y1 y2 y3 y4 y5 y6 y7 y8 y9 Aa
   unfold az.j3
   repeat' with_reducible first|apply lS|apply ih1|apply ih2|apply ih3|apply Z4|apply aX.mono|apply dX.mono|apply bH.mono|apply aY.mono|exact dO.refl _|exact dO.none _|refine dO.ite ?_ ?_|refine dO.bind ?_ (fun _=>?_)
  ·
   intro y0 y1 y2 y3 y4 y5 y6 y7 y8 y9 Aa
   unfold az.j4
   repeat' with_reducible first|apply lS|apply ih1|apply ih2|apply ih3|apply Z4|apply aX.mono|apply dX.mono|apply bH.mono|apply aY.mono|exact dO.refl _|exact dO.none _|refine dO.ite ?_ ?_|refine dO.bind ?_ (fun _=>?_)
theorem az.mono:∀ a0 a1 a2 a3 k,dO (az.f k a0 a1 a2 a3) (az.f (k+1) a0 a1 a2 a3):=by
 intro a0 a1 a2 a3 k
 obtain ⟨lS,ih1,ih2,ih3,Z4⟩:=az.iD k
 unfold az.f
 repeat' with_reducible first|apply lS|apply ih1|apply ih2|apply ih3|apply Z4|apply aX.mono|apply dX.mono|apply bH.mono|apply aY.mono|exact dO.refl _|exact dO.none _|refine dO.ite ?_ ?_|refine dO.bind ?_ (fun _=>?_)
set_option maxHeartbeats 8000000 in
set_option maxRecDepth 100000 in
theorem az.calls (k:Nat) (ed:Option Addr) (dZ:Nat) (aZ:List ByteArray) (aU:ByteArray) (aV:ByteArray) (gm:Option Addr) (eU:Nat) (aI:List (iw)) (r1:Int) (r2:Int) (w:World) (jO:Kd.C Kd.string w ed aZ.length aZ) (jQ:aZ.length≤dZ) (jM:Kd.C uq w gm aI.length aI) (jP:aI.length≤eU) (lQ:Kd.C wM w wO oz.length oz) (h:az.f k aZ aU aV aI=some (r1,r2)) :
  Calls Tryd.prog 18 #[.agg #[.slice ed aZ.length dZ,.string aU,.string aV,.slice gm aI.length eU]] w fun e w'=>e=.returned (.tuple #[.int .i64 r1,.int .i64 r2])∧Below w.heap.size w w':=by
 have yx:=Tryd.underlying25
 have BV:=Tryd.underlying55
 have iH:=ae.mk jO
 have iK:=ae.mk jQ
 clear jO jQ
 have jJ:=ae.mk jM
 have kC:=ae.mk jP
 clear jM jP
 have yT:=ae.mk lQ
 clear lQ
 have HB:=ae.mk (Below.refl w.heap.size w)
 have H:((aX.f k aZ aU).bind fun t186=>(if t186=true then ((aX.f k aZ aV).bind fun t187=>(if t187=true then (if (aU.size:Int) > 8 then (az.j0 k true aZ aU aV aI) else (az.j0 k (decide ((aV.size:Int) > 4)) aZ aU aV aI)) else (az.j0 k true aZ aU aV aI))) else (az.j0 k true aZ aU aV aI)))=some (r1,r2):=h
 clear h
 have HC2:=ae.mk H
 clear H
 go_enter Tryd.func18,Tryd.ntmps18
 go_upto_region 1 with (first|((with_reducible refine bI (N:=1) rfl ?_);(try (refine nN (by rfl) ?_;dsimp only));refine fF ?hg (N:=1) ?hd (cs:=#[.slice ed aZ.length dZ,.string aU,.string aV,.slice gm aI.length eU]) (t:=25) ?hr ?_;(case hd=>rfl);(case hg=>rfl);(case hr=>first|(go_simp;done)|(go_simp;rfl));intro qJ hg w3 hbox hb;have dV:=ae.mk (bn (by repeat (first|(with_reducible first|exact HB.out|apply ah|apply ag|apply ai)|exact HB.out)) hb);have dU:=ae.mk (hbox);have dR:=ae.mk ((by rw [hg];exact (bU (by repeat (first|(with_reducible first|exact HB.out|apply ah|apply ag|apply ai)|exact HB.out))):w.heap.size≤qJ));have gZ:=dR;clear HB;have HB:=dV;have iT:=dU;have apM:=dR;have kW:=gZ;clear dV dU dR gZ;clear hb hbox hg))
 (try simp only [Act.put,List.setIfInBounds_toArray,List.set_cons_zero,List.set_cons_succ])
 go_cut [32] (fun v32 wc=>∃ (kq:Nat) (Jp:Bool),v32=.bool Jp∧ae (az.j0 kq Jp aZ aU aV aI=some (r1,r2))∧ae (kq≤k)∧ae (wc.heap[qJ]? = some (.cells #[(.slice ed aZ.length dZ),.string aU,.string aV,(.slice gm aI.length eU)] 25 (0,0)))∧ae (Below w.heap.size w wc))
 case first =>
  have H:=HC2.out
  clear HC2
  replace H:=Option.bind_eq_some_iff.mp H
  obtain ⟨t186,BL,H⟩:=H
  replace H:(if t186=true then ((aX.f k aZ aV).bind fun t187=>(if t187=true then (if (aU.size:Int) > 8 then (az.j0 k true aZ aU aV aI) else (az.j0 k (decide ((aV.size:Int) > 4)) aZ aU aV aI)) else (az.j0 k true aZ aU aV aI))) else (az.j0 k true aZ aU aV aI))=some (r1,r2):=H
  have A4:=ae.mk BL
  clear BL
  by_cases c5:t186=true
  ·
   subst c5
   have H1:((aX.f k aZ aV).bind fun t187=>(if t187=true then (if (aU.size:Int) > 8 then (az.j0 k true aZ aU aV aI) else (az.j0 k (decide ((aV.size:Int) > 4)) aZ aU aV aI)) else (az.j0 k true aZ aU aV aI)))=some (r1,r2):=by rw [if_pos rfl] at H;exact H
   clear H
   have H:=H1
   clear H1
   replace H:=Option.bind_eq_some_iff.mp H
   obtain ⟨t187,Nw,H⟩:=H
   replace H:(if t187=true then (if (aU.size:Int) > 8 then (az.j0 k true aZ aU aV aI) else (az.j0 k (decide ((aV.size:Int) > 4)) aZ aU aV aI)) else (az.j0 k true aZ aU aV aI))=some (r1,r2):=H
   have A6:=ae.mk Nw
   clear Nw
   by_cases c7:t187=true
   ·
    subst c7
    have H1:(if (aU.size:Int) > 8 then (az.j0 k true aZ aU aV aI) else (az.j0 k (decide ((aV.size:Int) > 4)) aZ aU aV aI))=some (r1,r2):=by rw [if_pos rfl] at H;exact H
    clear H
    have H:=H1
    clear H1
    by_cases c8:(aU.size:Int) > 8
    ·
     rw [if_pos c8] at H
     have pM:decide (8 < (aU.size:Int))=true:=decide_eq_true c8
     have zh:decide (8 < aU.size)=true:=decide_eq_true (by omega)
     clear c8
     (first|rw [pM]|(simp only [bW,cu];rw [pM])|skip)
     have H':=ae.mk H
     clear H
     obtain ⟨IY,IX,IW,IV,IQ,IP,IM,IL⟩:=rJ iT.out
     go_wp2_with (first|((with_reducible refine bz (f:=27) rfl ?_);refine dS (some 11) rfl rfl Tryd.func27 (by kernel_rfl) rfl #[.slice ed aZ.length dZ,.string aU] rfl (by (try simp only [List.map_toArray,List.map_cons,List.map_nil]);first|done|rfl|(simp only [List.length_drop,List.length_take];rfl)) ?_;(with_reducible refine (aX.calls k _ _ aZ aU true _ ?bZ ?dh A4.out).mono ?_);(case bZ=>repeat (first|exact (Kd.bJ iH.out HB.out)|(with_reducible refine Kd.bP ?_ _)|(with_reducible refine Kd.bQ ?_ _)|(with_reducible refine Kd.dD ?_)));(case dh=>exact iK.out);rintro e w' ⟨rfl,⟨nd,rfl⟩⟩;refine ⟨_,rfl,?_⟩)|(go_at_call 27;(with_reducible refine (aX.calls k _ _ aZ aV true _ ?bZ ?dh A6.out).mono ?_);(case bZ=>repeat (first|exact (Kd.bJ iH.out (by repeat (first|(with_reducible first|exact HB.out|apply ah|apply ag|apply ai|refine aj ?_ kW.out)|exact HB.out)))|(with_reducible refine Kd.bP ?_ _)|(with_reducible refine Kd.bQ ?_ _)|(with_reducible refine Kd.dD ?_)));(case dh=>exact iK.out);rintro e w' ⟨rfl,⟨nd,rfl⟩⟩))
     go_meet
     case rel=>exact ⟨_,(true),(by first|rfl|(simp;done)|(simp [*];done)),H',⟨by first|omega|exact Nat.le_refl _⟩,⟨by (with_reducible repeat (first|refine au ?_ _|refine ay ?_|refine ak ?_ _));exact iT.out⟩,⟨by repeat (first|(with_reducible first|exact HB.out|apply ah|apply ag|apply ai|refine aj ?_ kW.out)|exact HB.out)⟩⟩
    ·
     rw [if_neg c8] at H
     have pM:decide (8 < (aU.size:Int))=false:=decide_eq_false c8
     have zh:decide (8 < aU.size)=false:=decide_eq_false (by omega)
     clear c8
     (first|rw [pM]|(simp only [bW,cu];rw [pM])|skip)
     have H':=ae.mk H
     clear H
     obtain ⟨xM,xK,xJ,xI,xH,xG,xE,xC⟩:=rJ iT.out
     go_wp2_with (first|((with_reducible refine bz (f:=27) rfl ?_);refine dS (some 11) rfl rfl Tryd.func27 (by kernel_rfl) rfl #[.slice ed aZ.length dZ,.string aU] rfl (by (try simp only [List.map_toArray,List.map_cons,List.map_nil]);first|done|rfl|(simp only [List.length_drop,List.length_take];rfl)) ?_;(with_reducible refine (aX.calls k _ _ aZ aU true _ ?bZ ?dh A4.out).mono ?_);(case bZ=>repeat (first|exact (Kd.bJ iH.out HB.out)|(with_reducible refine Kd.bP ?_ _)|(with_reducible refine Kd.bQ ?_ _)|(with_reducible refine Kd.dD ?_)));(case dh=>exact iK.out);rintro e w' ⟨rfl,⟨nd,rfl⟩⟩;refine ⟨_,rfl,?_⟩)|(go_at_call 27;(with_reducible refine (aX.calls k _ _ aZ aV true _ ?bZ ?dh A6.out).mono ?_);(case bZ=>repeat (first|exact (Kd.bJ iH.out (by repeat (first|(with_reducible first|exact HB.out|apply ah|apply ag|apply ai|refine aj ?_ kW.out)|exact HB.out)))|(with_reducible refine Kd.bP ?_ _)|(with_reducible refine Kd.bQ ?_ _)|(with_reducible refine Kd.dD ?_)));(case dh=>exact iK.out);rintro e w' ⟨rfl,⟨nd,rfl⟩⟩))
     go_meet
     case rel=>exact ⟨_,(decide ((aV.size:Int) > 4)),(by first|rfl|(simp;done)|(simp [*];done)),H',⟨by first|omega|exact Nat.le_refl _⟩,⟨by (with_reducible repeat (first|refine au ?_ _|refine ay ?_|refine ak ?_ _));exact iT.out⟩,⟨by repeat (first|(with_reducible first|exact HB.out|apply ah|apply ag|apply ai|refine aj ?_ kW.out)|exact HB.out)⟩⟩
   ·
    replace c7:=Bool.eq_false_iff.mpr c7
    subst c7
    have H1:(az.j0 k true aZ aU aV aI)=some (r1,r2):=by rw [if_neg (show ¬ (false=true) by decide)] at H;exact H
    clear H
    have H:=H1
    clear H1
    have H':=ae.mk H
    clear H
    obtain ⟨zS,zQ,zO,zN,zI,zH,zG,zF⟩:=rJ iT.out
    go_wp2_with (first|((with_reducible refine bz (f:=27) rfl ?_);refine dS (some 11) rfl rfl Tryd.func27 (by kernel_rfl) rfl #[.slice ed aZ.length dZ,.string aU] rfl (by (try simp only [List.map_toArray,List.map_cons,List.map_nil]);first|done|rfl|(simp only [List.length_drop,List.length_take];rfl)) ?_;(with_reducible refine (aX.calls k _ _ aZ aU true _ ?bZ ?dh A4.out).mono ?_);(case bZ=>repeat (first|exact (Kd.bJ iH.out HB.out)|(with_reducible refine Kd.bP ?_ _)|(with_reducible refine Kd.bQ ?_ _)|(with_reducible refine Kd.dD ?_)));(case dh=>exact iK.out);rintro e w' ⟨rfl,⟨nd,rfl⟩⟩;refine ⟨_,rfl,?_⟩)|(go_at_call 27;(with_reducible refine (aX.calls k _ _ aZ aV false _ ?bZ ?dh A6.out).mono ?_);(case bZ=>repeat (first|exact (Kd.bJ iH.out (by repeat (first|(with_reducible first|exact HB.out|apply ah|apply ag|apply ai|refine aj ?_ kW.out)|exact HB.out)))|(with_reducible refine Kd.bP ?_ _)|(with_reducible refine Kd.bQ ?_ _)|(with_reducible refine Kd.dD ?_)));(case dh=>exact iK.out);rintro e w' ⟨rfl,⟨nd,rfl⟩⟩))
    go_meet
    case rel=>exact ⟨_,(true),(by first|rfl|(simp;done)|(simp [*];done)),H',⟨by first|omega|exact Nat.le_refl _⟩,⟨by (with_reducible repeat (first|refine au ?_ _|refine ay ?_|refine ak ?_ _));exact iT.out⟩,⟨by repeat (first|(with_reducible first|exact HB.out|apply ah|apply ag|apply ai|refine aj ?_ kW.out)|exact HB.out)⟩⟩
  ·
   replace c5:=Bool.eq_false_iff.mpr c5
   subst c5
   have H1:(az.j0 k true aZ aU aV aI)=some (r1,r2):=by rw [if_neg (show ¬ (false=true) by decide)] at H;exact H
   clear H
   have H:=H1
   clear H1
   have H':=ae.mk H
   clear H
   obtain ⟨EL,EK,EJ,EI,EC,Ez,Ey,Ew⟩:=rJ iT.out
   go_wp2_with (first|((with_reducible refine bz (f:=27) rfl ?_);refine dS (some 11) rfl rfl Tryd.func27 (by kernel_rfl) rfl #[.slice ed aZ.length dZ,.string aU] rfl (by (try simp only [List.map_toArray,List.map_cons,List.map_nil]);first|done|rfl|(simp only [List.length_drop,List.length_take];rfl)) ?_;(with_reducible refine (aX.calls k _ _ aZ aU false _ ?bZ ?dh A4.out).mono ?_);(case bZ=>repeat (first|exact (Kd.bJ iH.out HB.out)|(with_reducible refine Kd.bP ?_ _)|(with_reducible refine Kd.bQ ?_ _)|(with_reducible refine Kd.dD ?_)));(case dh=>exact iK.out);rintro e w' ⟨rfl,⟨nd,rfl⟩⟩;refine ⟨_,rfl,?_⟩))
   go_meet
   case rel=>exact ⟨_,(true),(by first|rfl|(simp;done)|(simp [*];done)),H',⟨by first|omega|exact Nat.le_refl _⟩,⟨by (with_reducible repeat (first|refine au ?_ _|refine ay ?_|refine ak ?_ _));exact iT.out⟩,⟨by repeat (first|(with_reducible first|exact HB.out|apply ah|apply ag|apply ai|refine aj ?_ kW.out)|exact HB.out)⟩⟩
 case rest =>
  clear HC2
  obtain ⟨kq,Jp,rfl,HA,yH,iT,HB⟩:=hcut
  cases kq with
  | zero=>exact absurd HA.out (by simp [az.j0])
  | succ OV =>
   have H:=HA.out
   clear HA
   simp only [az.j0] at H
   by_cases c13:Jp=true
   ·
    subst c13
    have H1:(some ((-1),5))=some (r1,r2):=by rw [if_pos rfl] at H;exact H
    clear H
    have H:=H1
    clear H1
    simp only [Option.some.injEq,Prod.mk.injEq] at H
    obtain ⟨rfl,rfl⟩:=H
    go_wp2
    go_ret2
    exact ⟨by first|rfl|(simp [aQ,aN] <;> rfl)|(simp [*,aQ,aN] <;> rfl),by repeat (first|(with_reducible first|exact HB.out|apply ah|apply ag|apply ai|refine aj ?_ kW.out)|exact HB.out)⟩
   ·
    replace c13:=Bool.eq_false_iff.mpr c13
    subst c13
    have H1:(if (aI.length:Int) < 1 then (az.j1 OV true aZ aU aV aI) else (az.j1 OV (decide ((aI.length:Int) > 200)) aZ aU aV aI))=some (r1,r2):=by rw [if_neg (show ¬ (false=true) by decide)] at H;exact H
    clear H
    have H:=H1
    clear H1
    have Jm:=ae.mk H
    clear H
    go_upto_region 3 with (fail)
    go_cut [42] (fun v42 wc=>∃ (kq:Nat) (DT:Bool),v42=.bool DT∧ae (az.j1 kq DT aZ aU aV aI=some (r1,r2))∧ae (kq≤OV)∧ae (wc.heap[qJ]? = some (.cells #[(.slice ed aZ.length dZ),.string aU,.string aV,(.slice gm aI.length eU)] 25 (0,0)))∧ae (Below w.heap.size w wc))
    case first =>
     have H:=Jm.out
     clear Jm
     by_cases c15:(aI.length:Int) < 1
     ·
      rw [if_pos c15] at H
      have qK:decide ((aI.length:Int) < 1)=true:=decide_eq_true c15
      have GV:decide (aI.length < 1)=true:=decide_eq_true (by omega)
      clear c15
      (first|rw [qK]|(simp only [bW,cu];rw [qK])|skip)
      have H':=ae.mk H
      clear H
      obtain ⟨EH,EG,EF,EE,Eu,Et,Es,Ep⟩:=rJ iT.out
      go_wp2
      go_meet
      case rel=>exact ⟨_,(true),(by first|rfl|(simp;done)|(simp [*];done)),H',⟨by have:=yH.out;first|omega|exact Nat.le_refl _⟩,⟨by (with_reducible repeat (first|refine au ?_ _|refine ay ?_|refine ak ?_ _));exact iT.out⟩,⟨by repeat (first|(with_reducible first|exact HB.out|apply ah|apply ag|apply ai|refine aj ?_ kW.out)|exact HB.out)⟩⟩
     ·
      rw [if_neg c15] at H
      have qK:decide ((aI.length:Int) < 1)=false:=decide_eq_false c15
      have GV:decide (aI.length < 1)=false:=decide_eq_false (by omega)
      clear c15
      (first|rw [qK]|(simp only [bW,cu];rw [qK])|skip)
      have H':=ae.mk H
      clear H
      obtain ⟨MC,Me,Md,Mc,KZ,KY,KX,KW⟩:=rJ iT.out
      go_wp2
      go_meet
      case rel=>exact ⟨_,(decide ((aI.length:Int) > 200)),(by first|rfl|(simp;done)|(simp [*];done)),H',⟨by have:=yH.out;first|omega|exact Nat.le_refl _⟩,⟨by (with_reducible repeat (first|refine au ?_ _|refine ay ?_|refine ak ?_ _));exact iT.out⟩,⟨by repeat (first|(with_reducible first|exact HB.out|apply ah|apply ag|apply ai|refine aj ?_ kW.out)|exact HB.out)⟩⟩
    case rest =>
     clear Jm
     obtain ⟨kq,DT,rfl,HA,Hf,iT,HB⟩:=hcut
     cases kq with
     | zero=>exact absurd HA.out (by simp [az.j1])
     | succ TZ =>
      have H:=HA.out
      clear HA
      simp only [az.j1] at H
      by_cases c18:DT=true
      ·
       subst c18
       have H1:(some ((-1),3))=some (r1,r2):=by rw [if_pos rfl] at H;exact H
       clear H
       have H:=H1
       clear H1
       simp only [Option.some.injEq,Prod.mk.injEq] at H
       obtain ⟨rfl,rfl⟩:=H
       go_wp2
       go_ret2
       exact ⟨by first|rfl|(simp [aQ,aN] <;> rfl)|(simp [*,aQ,aN] <;> rfl),by repeat (first|(with_reducible first|exact HB.out|apply ah|apply ag|apply ai|refine aj ?_ kW.out)|exact HB.out)⟩
      ·
       replace c18:=Bool.eq_false_iff.mpr c18
       subst c18
       have H1:(az.l0 TZ 0 aZ aU aV aI)=some (r1,r2):=by rw [if_neg (show ¬ (false=true) by decide)] at H;exact H
       clear H
       have H:=H1
       clear H1
       have H':=ae.mk H
       clear H
       go_wp2
       go_loopg [4] TZ (fun kq v4 w'=>∃ (cZ:Int),v4=.int .i64 cZ∧ae (az.l0 kq cZ aZ aU aV aI=some (r1,r2))∧ae (kq≤TZ)∧ae (w'.heap[qJ]? = some (.cells #[(.slice ed aZ.length dZ),.string aU,.string aV,(.slice gm aI.length eU)] 25 (0,0)))∧ae (Below w.heap.size w w'))
       case atStart=>exact ⟨(0),(by first|rfl|(simp;done)|(simp [*];done)),H',⟨Nat.le_refl _⟩,⟨by (with_reducible repeat (first|refine au ?_ _|refine ay ?_|refine ak ?_ _));exact iT.out⟩,⟨by repeat (first|(with_reducible first|exact HB.out|apply ah|apply ag|apply ai|refine aj ?_ kW.out)|exact HB.out)⟩⟩
       case round =>
        clear H'
        obtain ⟨cZ,rfl,HA,xZ,iT,HB⟩:=hrel
        cases gk with
        | zero=>exact absurd HA.out (by simp [az.l0])
        | succ k3 =>
         have H:=HA.out
         clear HA
         simp only [az.l0] at H
         by_cases c19:cZ < (aI.length:Int)
         ·
          rw [if_pos c19] at H
          have GR:decide (cZ < (aI.length:Int))=true:=decide_eq_true c19
          clear c19
          by_cases c20:0≤cZ
          ·
           rw [if_pos c20] at H
           have YY:decide (0≤cZ)=true:=decide_eq_true c20
           clear c20
           have Jl:=ae.mk H
           clear H
           obtain ⟨LY,LX,LW,LV,KP,KO,KN,KL⟩:=rJ iT.out
           have ZJ:0≤(cZ:Int):=of_decide_eq_true (by first|(with_reducible assumption)|assumption)
           have ZB:cZ < (aI.length:Int):=of_decide_eq_true (by first|(with_reducible assumption)|assumption)
           obtain ⟨uX,amY,Em,Ej,Ei,Eh,Eg⟩:=Bv jJ.out cZ ZJ ZB
           cases amY
           replace Em:=(HB.out.cell (World.block_lt_of_cell? w _ Em)).trans Em
           replace Ej:=(HB.out.cell (World.block_lt_of_cell? w _ Ej)).trans Ej
           replace Ei:=(HB.out.cell (World.block_lt_of_cell? w _ Ei)).trans Ei
           replace Eh:=(HB.out.cell (World.block_lt_of_cell? w _ Eh)).trans Eh
           replace Eg:=(HB.out.cell (World.block_lt_of_cell? w _ Eg)).trans Eg
           replace ZJ:=eq_true ZJ
           replace ZB:=eq_true ZB
           go_upto_region 9 with (first|((with_reducible refine bI (N:=5) rfl ?_);(try (refine nN (by rfl) ?_;dsimp only));refine fF ?hg (N:=5) ?hd (cs:=#[.int .u8 0,.int .u8 0,.int .u8 0,.int .u8 0,.int .i64 0]) (t:=55) ?hr ?_;(case hd=>rfl);(case hg=>rfl);(case hr=>first|(go_simp;done)|(go_simp;rfl));intro uN hg w23 hbox hb;have dV:=ae.mk (bg (g:=qJ) (o:=.cells #[.slice ed aZ.length dZ,.string aU,.string aV,.slice (some uX) aI.length eU] 25 (0,0)) (by (with_reducible repeat (first|refine au ?_ _|refine ay ?_|refine ak ?_ _));exact iT.out) hb);have dU:=ae.mk (bn (by repeat (first|(with_reducible first|exact HB.out|apply ah|apply ag|apply ai|refine aj ?_ kW.out)|exact HB.out)) hb);have dR:=ae.mk (hbox);have gZ:=ae.mk ((by rw [hg];exact (bU (by repeat (first|(with_reducible first|exact HB.out|apply ah|apply ag|apply ai|refine aj ?_ kW.out)|exact HB.out))):w.heap.size≤uN));have l9:=gZ;have mY:=ae.mk ((by rw [hg];exact Nat.ne_of_lt (kK (g:=qJ) (o:=.cells #[.slice ed aZ.length dZ,.string aU,.string aV,.slice (some uX) aI.length eU] 25 (0,0)) (by (with_reducible repeat (first|refine au ?_ _|refine ay ?_|refine ak ?_ _));exact iT.out)):qJ ≠ uN));have nY:=ae.mk mY.out.symm;clear iT;clear HB;have iT:=dV;have HB:=dU;have jI:=dR;have apK:=gZ;have qB:=l9;have jf:=mY;have mZ:=nY;clear dV dU dR gZ l9 mY nY;clear hb hbox hg;have Yw:=mZ.out;have Yu:=jf.out;obtain ⟨zM,zL,zK,zJ,ED,zD,zC,zB,zA,Eo⟩:=jZ jI.out))
           (try simp only [Act.put,List.setIfInBounds_toArray,List.set_cons_zero,List.set_cons_succ])
           go_cut [6] (fun v6 wc=>∃ (kq:Nat) (CE:Bool),v6=.bool CE∧ae (az.j3 kq cZ CE aZ aU aV aI ((aA aI cZ).f0) ((aA aI cZ).f1) ((aA aI cZ).f2) ((aA aI cZ).f3) ((aA aI cZ).f4)=some (r1,r2))∧ae (kq≤k3)∧ae (wc.heap[qJ]? = some (.cells #[(.slice ed aZ.length dZ),.string aU,.string aV,(.slice (some uX) aI.length eU)] 25 (0,0)))∧ae (wc.heap[uN]? = some (.cells #[.int .u8 ((aA aI cZ).f0),.int .u8 ((aA aI cZ).f1),.int .u8 ((aA aI cZ).f2),.int .u8 ((aA aI cZ).f3),.int .i64 ((aA aI cZ).f4)] 55 (0,0)))∧ae (Below w.heap.size w wc))
           case first =>
            have H:=Jl.out
            clear Jl
            by_cases I8:((aA aI cZ).f0)=3
            ·
             rw [if_pos I8] at H
             have uT:(((aA aI cZ).f0) == 3)=true:=beq_iff_eq.mpr I8
             have Q9:(((aA aI cZ).f0) != 3)=false:=bne_eq_false_iff_eq.mpr I8
             clear I8
             (first|rw [uT]|(simp only [bW,cu];rw [uT])|skip)
             have H':=ae.mk H
             clear H
             have acB:=mZ.out
             have acp:=jf.out
             obtain ⟨LU,LQ,LP,LM,Xb,KJ,KI,KH,KG,Vk⟩:=jZ jI.out
             go_wp2
             go_meet
             case rel=>exact ⟨_,(true),(by first|rfl|(simp;done)|(simp [*];done)),H',⟨by have:=yH.out;have:=Hf.out;have:=xZ.out;first|omega|exact Nat.le_refl _⟩,⟨by (with_reducible repeat (first|refine au ?_ _|refine ay ?_|refine ak ?_ _));refine fV ?_ jf.out _;(with_reducible repeat (first|refine au ?_ _|refine ay ?_|refine ak ?_ _));refine fV ?_ jf.out _;(with_reducible repeat (first|refine au ?_ _|refine ay ?_|refine ak ?_ _));refine fV ?_ jf.out _;(with_reducible repeat (first|refine au ?_ _|refine ay ?_|refine ak ?_ _));refine fV ?_ jf.out _;(with_reducible repeat (first|refine au ?_ _|refine ay ?_|refine ak ?_ _));refine fV ?_ jf.out _;(with_reducible repeat (first|refine au ?_ _|refine ay ?_|refine ak ?_ _));exact iT.out⟩,⟨by (with_reducible repeat (first|refine au ?_ _|refine ay ?_|refine ak ?_ _));refine dQ (cs:=#[.int .u8 ((aA aI cZ).f0),.int .u8 ((aA aI cZ).f1),.int .u8 ((aA aI cZ).f2),.int .u8 ((aA aI cZ).f3),.int .i64 0]) ?_ 4 _ rfl;(with_reducible repeat (first|refine au ?_ _|refine ay ?_|refine ak ?_ _));refine dQ (cs:=#[.int .u8 ((aA aI cZ).f0),.int .u8 ((aA aI cZ).f1),.int .u8 ((aA aI cZ).f2),.int .u8 0,.int .i64 0]) ?_ 3 _ rfl;(with_reducible repeat (first|refine au ?_ _|refine ay ?_|refine ak ?_ _));refine dQ (cs:=#[.int .u8 ((aA aI cZ).f0),.int .u8 ((aA aI cZ).f1),.int .u8 0,.int .u8 0,.int .i64 0]) ?_ 2 _ rfl;(with_reducible repeat (first|refine au ?_ _|refine ay ?_|refine ak ?_ _));refine dQ (cs:=#[.int .u8 ((aA aI cZ).f0),.int .u8 0,.int .u8 0,.int .u8 0,.int .i64 0]) ?_ 1 _ rfl;(with_reducible repeat (first|refine au ?_ _|refine ay ?_|refine ak ?_ _));refine dQ (cs:=#[.int .u8 0,.int .u8 0,.int .u8 0,.int .u8 0,.int .i64 0]) ?_ 0 _ rfl;(with_reducible repeat (first|refine au ?_ _|refine ay ?_|refine ak ?_ _));exact jI.out⟩,⟨by repeat (first|(with_reducible first|exact HB.out|apply ah|apply ag|apply ai|refine aj ?_ kW.out|refine aj ?_ qB.out)|exact HB.out)⟩⟩
            ·
             rw [if_neg I8] at H
             have uT:(((aA aI cZ).f0) == 3)=false:=beq_eq_false_iff_ne.mpr I8
             have Q9:(((aA aI cZ).f0) != 3)=true:=bne_iff_ne.mpr I8
             (first|rw [uT]|(simp only [bW,cu];rw [uT])|skip)
             have H':=ae.mk H
             clear H
             have aoC:=mZ.out
             have aob:=jf.out
             obtain ⟨alh,alg,alf,ale,ald,ai2,ai1,ai0,aiZ,aiY⟩:=jZ jI.out
             go_wp2
             go_meet
             case rel=>exact ⟨_,((((aA aI cZ).f0) == 4)),(by first|rfl|(simp;done)|(simp [*];done)),H',⟨by have:=yH.out;have:=Hf.out;have:=xZ.out;first|omega|exact Nat.le_refl _⟩,⟨by (with_reducible repeat (first|refine au ?_ _|refine ay ?_|refine ak ?_ _));refine fV ?_ jf.out _;(with_reducible repeat (first|refine au ?_ _|refine ay ?_|refine ak ?_ _));refine fV ?_ jf.out _;(with_reducible repeat (first|refine au ?_ _|refine ay ?_|refine ak ?_ _));refine fV ?_ jf.out _;(with_reducible repeat (first|refine au ?_ _|refine ay ?_|refine ak ?_ _));refine fV ?_ jf.out _;(with_reducible repeat (first|refine au ?_ _|refine ay ?_|refine ak ?_ _));refine fV ?_ jf.out _;(with_reducible repeat (first|refine au ?_ _|refine ay ?_|refine ak ?_ _));exact iT.out⟩,⟨by (with_reducible repeat (first|refine au ?_ _|refine ay ?_|refine ak ?_ _));refine dQ (cs:=#[.int .u8 ((aA aI cZ).f0),.int .u8 ((aA aI cZ).f1),.int .u8 ((aA aI cZ).f2),.int .u8 ((aA aI cZ).f3),.int .i64 0]) ?_ 4 _ rfl;(with_reducible repeat (first|refine au ?_ _|refine ay ?_|refine ak ?_ _));refine dQ (cs:=#[.int .u8 ((aA aI cZ).f0),.int .u8 ((aA aI cZ).f1),.int .u8 ((aA aI cZ).f2),.int .u8 0,.int .i64 0]) ?_ 3 _ rfl;(with_reducible repeat (first|refine au ?_ _|refine ay ?_|refine ak ?_ _));refine dQ (cs:=#[.int .u8 ((aA aI cZ).f0),.int .u8 ((aA aI cZ).f1),.int .u8 0,.int .u8 0,.int .i64 0]) ?_ 2 _ rfl;(with_reducible repeat (first|refine au ?_ _|refine ay ?_|refine ak ?_ _));refine dQ (cs:=#[.int .u8 ((aA aI cZ).f0),.int .u8 0,.int .u8 0,.int .u8 0,.int .i64 0]) ?_ 1 _ rfl;(with_reducible repeat (first|refine au ?_ _|refine ay ?_|refine ak ?_ _));refine dQ (cs:=#[.int .u8 0,.int .u8 0,.int .u8 0,.int .u8 0,.int .i64 0]) ?_ 0 _ rfl;(with_reducible repeat (first|refine au ?_ _|refine ay ?_|refine ak ?_ _));exact jI.out⟩,⟨by repeat (first|(with_reducible first|exact HB.out|apply ah|apply ag|apply ai|refine aj ?_ kW.out|refine aj ?_ qB.out)|exact HB.out)⟩⟩
           case rest =>
            clear Jl
            obtain ⟨kq,CE,rfl,HA,He,iT,jI,HB⟩:=hcut
            cases kq with
            | zero=>exact absurd HA.out (by simp [az.j3])
            | succ sG =>
             have H:=HA.out
             clear HA
             simp only [az.j3] at H
             replace H:=Option.bind_eq_some_iff.mp H
             obtain ⟨t190,afQ,H⟩:=H
             replace H:(if t190=true then (if CE=true then (if ((aA aI cZ).f4) < 0 then (az.j4 sG cZ true aZ aU aV aI ((aA aI cZ).f0) ((aA aI cZ).f1) ((aA aI cZ).f2) ((aA aI cZ).f3) ((aA aI cZ).f4)) else (az.j4 sG cZ (decide (((aA aI cZ).f4) > (aI.length:Int))) aZ aU aV aI ((aA aI cZ).f0) ((aA aI cZ).f1) ((aA aI cZ).f2) ((aA aI cZ).f3) ((aA aI cZ).f4))) else (az.j4 sG cZ false aZ aU aV aI ((aA aI cZ).f0) ((aA aI cZ).f1) ((aA aI cZ).f2) ((aA aI cZ).f3) ((aA aI cZ).f4))) else (some (cZ,4)))=some (r1,r2):=H
             have A31:=ae.mk afQ
             clear afQ
             by_cases c32:t190=true
             ·
              subst c32
              have H1:(if CE=true then (if ((aA aI cZ).f4) < 0 then (az.j4 sG cZ true aZ aU aV aI ((aA aI cZ).f0) ((aA aI cZ).f1) ((aA aI cZ).f2) ((aA aI cZ).f3) ((aA aI cZ).f4)) else (az.j4 sG cZ (decide (((aA aI cZ).f4) > (aI.length:Int))) aZ aU aV aI ((aA aI cZ).f0) ((aA aI cZ).f1) ((aA aI cZ).f2) ((aA aI cZ).f3) ((aA aI cZ).f4))) else (az.j4 sG cZ false aZ aU aV aI ((aA aI cZ).f0) ((aA aI cZ).f1) ((aA aI cZ).f2) ((aA aI cZ).f3) ((aA aI cZ).f4)))=some (r1,r2):=by rw [if_pos rfl] at H;exact H
              clear H
              have H:=H1
              clear H1
              have abf:=ae.mk H
              clear H
              have Yv:=mZ.out
              have Yt:=jf.out
              obtain ⟨LK,LJ,LH,LG,WW,KF,KE,KD,KC,Vd⟩:=jZ jI.out
              go_upto_region 12 with (first|((with_reducible refine bz (f:=28) rfl ?_);refine dS (some 65) rfl rfl Tryd.func28 (by kernel_rfl) rfl #[.agg #[.int .u8 ((aA aI cZ).f0),.int .u8 ((aA aI cZ).f1),.int .u8 ((aA aI cZ).f2),.int .u8 ((aA aI cZ).f3),.int .i64 ((aA aI cZ).f4)]] rfl (by (try simp only [List.map_toArray,List.map_cons,List.map_nil]);first|done|rfl|(simp only [List.length_drop,List.length_take];rfl)) ?_;(with_reducible refine (dX.calls sG ((aA aI cZ).f0) ((aA aI cZ).f1) ((aA aI cZ).f2) ((aA aI cZ).f3) ((aA aI cZ).f4) true _ ?bZ A31.out).mono ?_);(case bZ=>repeat (first|exact (Kd.bJ yT.out HB.out)|(with_reducible refine Kd.bP ?_ _)|(with_reducible refine Kd.bQ ?_ _)|(with_reducible refine Kd.dD ?_)));rintro e w36 ⟨rfl,hb⟩;refine ⟨_,rfl,?_⟩;have dV:=ae.mk (bg (g:=qJ) (o:=.cells #[.slice ed aZ.length dZ,.string aU,.string aV,.slice (some uX) aI.length eU] 25 (0,0)) (by (with_reducible repeat (first|refine au ?_ _|refine ay ?_|refine ak ?_ _));exact iT.out) hb);have dU:=ae.mk (bg (g:=uN) (o:=.cells #[.int .u8 ((aA aI cZ).f0),.int .u8 ((aA aI cZ).f1),.int .u8 ((aA aI cZ).f2),.int .u8 ((aA aI cZ).f3),.int .i64 ((aA aI cZ).f4)] 55 (0,0)) (by (with_reducible repeat (first|refine au ?_ _|refine ay ?_|refine ak ?_ _));exact jI.out) hb);have dR:=ae.mk (bn (by repeat (first|(with_reducible first|exact HB.out|apply ah|apply ag|apply ai|refine aj ?_ kW.out|refine aj ?_ qB.out)|exact HB.out)) hb);clear iT;clear jI;clear HB;have iT:=dV;have jI:=dU;have HB:=dR;clear dV dU dR;(try clear hb);(try clear hb2);(try clear hk);(try clear hi)))
              (try simp only [Act.put,List.setIfInBounds_toArray,List.set_cons_zero,List.set_cons_succ])
              go_cut [68] (fun v68 wc=>∃ (kq:Nat) (DN:Bool),v68=.bool DN∧ae (az.j4 kq cZ DN aZ aU aV aI ((aA aI cZ).f0) ((aA aI cZ).f1) ((aA aI cZ).f2) ((aA aI cZ).f3) ((aA aI cZ).f4)=some (r1,r2))∧ae (kq≤sG)∧ae (wc.heap[qJ]? = some (.cells #[(.slice ed aZ.length dZ),.string aU,.string aV,(.slice (some uX) aI.length eU)] 25 (0,0)))∧ae (wc.heap[uN]? = some (.cells #[.int .u8 ((aA aI cZ).f0),.int .u8 ((aA aI cZ).f1),.int .u8 ((aA aI cZ).f2),.int .u8 ((aA aI cZ).f3),.int .i64 ((aA aI cZ).f4)] 55 (0,0)))∧ae (Below w.heap.size w wc))
              case first =>
               have H:=abf.out
               clear abf
               by_cases c37:CE=true
               ·
                subst c37
                have H1:(if ((aA aI cZ).f4) < 0 then (az.j4 sG cZ true aZ aU aV aI ((aA aI cZ).f0) ((aA aI cZ).f1) ((aA aI cZ).f2) ((aA aI cZ).f3) ((aA aI cZ).f4)) else (az.j4 sG cZ (decide (((aA aI cZ).f4) > (aI.length:Int))) aZ aU aV aI ((aA aI cZ).f0) ((aA aI cZ).f1) ((aA aI cZ).f2) ((aA aI cZ).f3) ((aA aI cZ).f4)))=some (r1,r2):=by rw [if_pos rfl] at H;exact H
                clear H
                have H:=H1
                clear H1
                by_cases MN:((aA aI cZ).f4) < 0
                ·
                 rw [if_pos MN] at H
                 have Bl:decide (((aA aI cZ).f4) < 0)=true:=decide_eq_true MN
                 clear MN
                 (first|rw [Bl]|(simp only [bW,cu];rw [Bl])|skip)
                 have H':=ae.mk H
                 clear H
                 have aov:=mZ.out
                 have an4:=jf.out
                 obtain ⟨akS,akR,akQ,akP,akO,aiD,aiC,aiB,aiA,aiz⟩:=jZ jI.out
                 go_wp2
                 go_meet
                 case rel=>exact ⟨_,(true),(by first|rfl|(simp;done)|(simp [*];done)),H',⟨by have:=yH.out;have:=Hf.out;have:=xZ.out;have:=He.out;first|omega|exact Nat.le_refl _⟩,⟨by (with_reducible repeat (first|refine au ?_ _|refine ay ?_|refine ak ?_ _));exact iT.out⟩,⟨by (with_reducible repeat (first|refine au ?_ _|refine ay ?_|refine ak ?_ _));exact jI.out⟩,⟨by repeat (first|(with_reducible first|exact HB.out|apply ah|apply ag|apply ai|refine aj ?_ kW.out|refine aj ?_ qB.out)|exact HB.out)⟩⟩
                ·
                 rw [if_neg MN] at H
                 have Bl:decide (((aA aI cZ).f4) < 0)=false:=decide_eq_false MN
                 clear MN
                 (first|rw [Bl]|(simp only [bW,cu];rw [Bl])|skip)
                 have H':=ae.mk H
                 clear H
                 have aot:=mZ.out
                 have an2:=jf.out
                 obtain ⟨akI,akH,akG,akF,akE,ait,ais,air,aiq,aip⟩:=jZ jI.out
                 obtain ⟨LD,LC,Lu,Lt,KA,Kz,Ky,Kw⟩:=rJ iT.out
                 go_wp2
                 go_meet
                 case rel=>exact ⟨_,(decide (((aA aI cZ).f4) > (aI.length:Int))),(by first|rfl|(simp;done)|(simp [*];done)),H',⟨by have:=yH.out;have:=Hf.out;have:=xZ.out;have:=He.out;first|omega|exact Nat.le_refl _⟩,⟨by (with_reducible repeat (first|refine au ?_ _|refine ay ?_|refine ak ?_ _));exact iT.out⟩,⟨by (with_reducible repeat (first|refine au ?_ _|refine ay ?_|refine ak ?_ _));exact jI.out⟩,⟨by repeat (first|(with_reducible first|exact HB.out|apply ah|apply ag|apply ai|refine aj ?_ kW.out|refine aj ?_ qB.out)|exact HB.out)⟩⟩
               ·
                replace c37:=Bool.eq_false_iff.mpr c37
                subst c37
                have H1:(az.j4 sG cZ false aZ aU aV aI ((aA aI cZ).f0) ((aA aI cZ).f1) ((aA aI cZ).f2) ((aA aI cZ).f3) ((aA aI cZ).f4))=some (r1,r2):=by rw [if_neg (show ¬ (false=true) by decide)] at H;exact H
                clear H
                have H:=H1
                clear H1
                have H':=ae.mk H
                clear H
                go_wp2
                go_meet
                case rel=>exact ⟨_,(false),(by first|rfl|(simp;done)|(simp [*];done)),H',⟨by have:=yH.out;have:=Hf.out;have:=xZ.out;have:=He.out;first|omega|exact Nat.le_refl _⟩,⟨by (with_reducible repeat (first|refine au ?_ _|refine ay ?_|refine ak ?_ _));exact iT.out⟩,⟨by (with_reducible repeat (first|refine au ?_ _|refine ay ?_|refine ak ?_ _));exact jI.out⟩,⟨by repeat (first|(with_reducible first|exact HB.out|apply ah|apply ag|apply ai|refine aj ?_ kW.out|refine aj ?_ qB.out)|exact HB.out)⟩⟩
              case rest =>
               clear abf
               obtain ⟨kq,DN,rfl,HA,ae6,iT,jI,HB⟩:=hcut
               cases kq with
               | zero=>exact absurd HA.out (by simp [az.j4])
               | succ xm =>
                have H:=HA.out
                clear HA
                simp only [az.j4] at H
                by_cases XX:DN=true
                ·
                 subst XX
                 have H1:(some (cZ,12))=some (r1,r2):=by rw [if_pos rfl] at H;exact H
                 clear H
                 have H:=H1
                 clear H1
                 simp only [Option.some.injEq,Prod.mk.injEq] at H
                 obtain ⟨rfl,rfl⟩:=H
                 go_wp2
                 go_ret2
                 exact ⟨by first|rfl|(simp [aQ,aN] <;> rfl)|(simp [*,aQ,aN] <;> rfl),by repeat (first|(with_reducible first|exact HB.out|apply ah|apply ag|apply ai|refine aj ?_ kW.out|refine aj ?_ qB.out)|exact HB.out)⟩
                ·
                 replace XX:=Bool.eq_false_iff.mpr XX
                 subst XX
                 have H1:((bH.f xm ((aA aI cZ).f0) ((aA aI cZ).f1) ((aA aI cZ).f2) ((aA aI cZ).f3) ((aA aI cZ).f4)).bind fun t191=>(if t191=true then ((aY.f xm aZ aU aV aI ((aA aI cZ).f0) ((aA aI cZ).f1) ((aA aI cZ).f2) ((aA aI cZ).f3) ((aA aI cZ).f4)).bind fun t192=>(if t192=true then (az.l0 xm (wrap64 (cZ+1)) aZ aU aV aI) else (some (cZ,5)))) else (some (cZ,5))))=some (r1,r2):=by rw [if_neg (show ¬ (false=true) by decide)] at H;exact H
                 clear H
                 have H:=H1
                 clear H1
                 replace H:=Option.bind_eq_some_iff.mp H
                 obtain ⟨t191,afK,H⟩:=H
                 replace H:(if t191=true then ((aY.f xm aZ aU aV aI ((aA aI cZ).f0) ((aA aI cZ).f1) ((aA aI cZ).f2) ((aA aI cZ).f3) ((aA aI cZ).f4)).bind fun t192=>(if t192=true then (az.l0 xm (wrap64 (cZ+1)) aZ aU aV aI) else (some (cZ,5)))) else (some (cZ,5)))=some (r1,r2):=H
                 have A45:=ae.mk afK
                 clear afK
                 by_cases c46:t191=true
                 ·
                  subst c46
                  have H1:((aY.f xm aZ aU aV aI ((aA aI cZ).f0) ((aA aI cZ).f1) ((aA aI cZ).f2) ((aA aI cZ).f3) ((aA aI cZ).f4)).bind fun t192=>(if t192=true then (az.l0 xm (wrap64 (cZ+1)) aZ aU aV aI) else (some (cZ,5))))=some (r1,r2):=by rw [if_pos rfl] at H;exact H
                  clear H
                  have H:=H1
                  clear H1
                  replace H:=Option.bind_eq_some_iff.mp H
                  obtain ⟨t192,afJ,H⟩:=H
                  replace H:(if t192=true then (az.l0 xm (wrap64 (cZ+1)) aZ aU aV aI) else (some (cZ,5)))=some (r1,r2):=H
                  have A47:=ae.mk afJ
                  clear afJ
                  by_cases c48:t192=true
                  ·
                   subst c48
                   have H1:(az.l0 xm (wrap64 (cZ+1)) aZ aU aV aI)=some (r1,r2):=by rw [if_pos rfl] at H;exact H
                   clear H
                   have H:=H1
                   clear H1
                   have H':=ae.mk H
                   clear H
                   have acy:=mZ.out
                   have acm:=jf.out
                   obtain ⟨WC,WB,WA,Wy,akz,UX,UW,UU,UT,aik⟩:=jZ jI.out
                   go_wp2_with (first|((with_reducible refine bz (f:=29) rfl ?_);refine dS (some 86) rfl rfl Tryd.func29 (by kernel_rfl) rfl #[.agg #[.int .u8 ((aA aI cZ).f0),.int .u8 ((aA aI cZ).f1),.int .u8 ((aA aI cZ).f2),.int .u8 ((aA aI cZ).f3),.int .i64 ((aA aI cZ).f4)]] rfl (by (try simp only [List.map_toArray,List.map_cons,List.map_nil]);first|done|rfl|(simp only [List.length_drop,List.length_take];rfl)) ?_;(with_reducible refine (bH.calls xm ((aA aI cZ).f0) ((aA aI cZ).f1) ((aA aI cZ).f2) ((aA aI cZ).f3) ((aA aI cZ).f4) true _ A45.out).mono ?_);rintro e Hz ⟨rfl,hb⟩;refine ⟨_,rfl,?_⟩;have dV:=ae.mk (bg (g:=qJ) (o:=.cells #[.slice ed aZ.length dZ,.string aU,.string aV,.slice (some uX) aI.length eU] 25 (0,0)) (by (with_reducible repeat (first|refine au ?_ _|refine ay ?_|refine ak ?_ _));exact iT.out) hb);have dU:=ae.mk (bg (g:=uN) (o:=.cells #[.int .u8 ((aA aI cZ).f0),.int .u8 ((aA aI cZ).f1),.int .u8 ((aA aI cZ).f2),.int .u8 ((aA aI cZ).f3),.int .i64 ((aA aI cZ).f4)] 55 (0,0)) (by (with_reducible repeat (first|refine au ?_ _|refine ay ?_|refine ak ?_ _));exact jI.out) hb);have dR:=ae.mk (bn (by repeat (first|(with_reducible first|exact HB.out|apply ah|apply ag|apply ai|refine aj ?_ kW.out|refine aj ?_ qB.out)|exact HB.out)) hb);clear iT;clear jI;clear HB;have iT:=dV;have jI:=dU;have HB:=dR;clear dV dU dR;(try clear hb);(try clear hb2);(try clear hk);(try clear hi);obtain ⟨Wq,Wp,Wn,Wl,UM,UL,UK,UJ⟩:=rJ iT.out;obtain ⟨akw,akv,aku,akt,aks,aih,aif,aie,aid,aic⟩:=jZ jI.out)|(go_at_call 30;(with_reducible refine (aY.calls xm _ _ aZ aU aV _ _ aI ((aA aI cZ).f0) ((aA aI cZ).f1) ((aA aI cZ).f2) ((aA aI cZ).f3) ((aA aI cZ).f4) true _ ?bZ ?dh ?iW ?iV A47.out).mono ?_);(case bZ=>repeat (first|exact (Kd.bJ iH.out HB.out)|(with_reducible refine Kd.bP ?_ _)|(with_reducible refine Kd.bQ ?_ _)|(with_reducible refine Kd.dD ?_)));(case dh=>exact iK.out);(case iW=>repeat (first|exact (Kd.bJ jJ.out HB.out)|(with_reducible refine Kd.bP ?_ _)|(with_reducible refine Kd.bQ ?_ _)|(with_reducible refine Kd.dD ?_)));(case iV=>exact kC.out);rintro e w54 ⟨rfl,hb⟩;have dV:=ae.mk (bg (g:=qJ) (o:=.cells #[.slice ed aZ.length dZ,.string aU,.string aV,.slice (some uX) aI.length eU] 25 (0,0)) (by (with_reducible repeat (first|refine au ?_ _|refine ay ?_|refine ak ?_ _));exact iT.out) hb);have dU:=ae.mk (bg (g:=uN) (o:=.cells #[.int .u8 ((aA aI cZ).f0),.int .u8 ((aA aI cZ).f1),.int .u8 ((aA aI cZ).f2),.int .u8 ((aA aI cZ).f3),.int .i64 ((aA aI cZ).f4)] 55 (0,0)) (by (with_reducible repeat (first|refine au ?_ _|refine ay ?_|refine ak ?_ _));exact jI.out) hb);have dR:=ae.mk (bn (by repeat (first|(with_reducible first|exact HB.out|apply ah|apply ag|apply ai|refine aj ?_ kW.out|refine aj ?_ qB.out)|exact HB.out)) hb);clear iT;clear jI;clear HB;have iT:=dV;have jI:=dU;have HB:=dR;clear dV dU dR;(try clear hb);(try clear hb2);(try clear hk);(try clear hi)))
                   go_roundg xm
                   case measure=>have:=yH.out;have:=Hf.out;have:=xZ.out;have:=He.out;have:=ae6.out;omega
                   case rel=>exact ⟨(wrap64 (cZ+1)),(by first|rfl|(simp;done)|(simp [*];done)),H',⟨by have:=yH.out;have:=Hf.out;have:=xZ.out;have:=He.out;have:=ae6.out;omega⟩,⟨by (with_reducible repeat (first|refine au ?_ _|refine ay ?_|refine ak ?_ _));exact iT.out⟩,⟨by repeat (first|(with_reducible first|exact HB.out|apply ah|apply ag|apply ai|refine aj ?_ kW.out|refine aj ?_ qB.out)|exact HB.out)⟩⟩
                  ·
                   replace c48:=Bool.eq_false_iff.mpr c48
                   subst c48
                   have H1:(some (cZ,5))=some (r1,r2):=by rw [if_neg (show ¬ (false=true) by decide)] at H;exact H
                   clear H
                   have H:=H1
                   clear H1
                   simp only [Option.some.injEq,Prod.mk.injEq] at H
                   obtain ⟨rfl,rfl⟩:=H
                   have acx:=mZ.out
                   have ack:=jf.out
                   obtain ⟨Wj,Wi,Wh,We,V9,UI,UH,UG,UF,UE⟩:=jZ jI.out
                   go_wp2_with (first|((with_reducible refine bz (f:=29) rfl ?_);refine dS (some 86) rfl rfl Tryd.func29 (by kernel_rfl) rfl #[.agg #[.int .u8 ((aA aI cZ).f0),.int .u8 ((aA aI cZ).f1),.int .u8 ((aA aI cZ).f2),.int .u8 ((aA aI cZ).f3),.int .i64 ((aA aI cZ).f4)]] rfl (by (try simp only [List.map_toArray,List.map_cons,List.map_nil]);first|done|rfl|(simp only [List.length_drop,List.length_take];rfl)) ?_;(with_reducible refine (bH.calls xm ((aA aI cZ).f0) ((aA aI cZ).f1) ((aA aI cZ).f2) ((aA aI cZ).f3) ((aA aI cZ).f4) true _ A45.out).mono ?_);rintro e SA ⟨rfl,hb⟩;refine ⟨_,rfl,?_⟩;have dV:=ae.mk (bg (g:=qJ) (o:=.cells #[.slice ed aZ.length dZ,.string aU,.string aV,.slice (some uX) aI.length eU] 25 (0,0)) (by (with_reducible repeat (first|refine au ?_ _|refine ay ?_|refine ak ?_ _));exact iT.out) hb);have dU:=ae.mk (bg (g:=uN) (o:=.cells #[.int .u8 ((aA aI cZ).f0),.int .u8 ((aA aI cZ).f1),.int .u8 ((aA aI cZ).f2),.int .u8 ((aA aI cZ).f3),.int .i64 ((aA aI cZ).f4)] 55 (0,0)) (by (with_reducible repeat (first|refine au ?_ _|refine ay ?_|refine ak ?_ _));exact jI.out) hb);have dR:=ae.mk (bn (by repeat (first|(with_reducible first|exact HB.out|apply ah|apply ag|apply ai|refine aj ?_ kW.out|refine aj ?_ qB.out)|exact HB.out)) hb);clear iT;clear jI;clear HB;have iT:=dV;have jI:=dU;have HB:=dR;clear dV dU dR;(try clear hb);(try clear hb2);(try clear hk);(try clear hi);obtain ⟨V8,V7,V6,V5,UD,UC,UB,UA⟩:=rJ iT.out;obtain ⟨Lj,Lh,Le,Ld,Lc,Ko,J9,J8,J7,J6⟩:=jZ jI.out)|(go_at_call 30;(with_reducible refine (aY.calls xm _ _ aZ aU aV _ _ aI ((aA aI cZ).f0) ((aA aI cZ).f1) ((aA aI cZ).f2) ((aA aI cZ).f3) ((aA aI cZ).f4) false _ ?bZ ?dh ?iW ?iV A47.out).mono ?_);(case bZ=>repeat (first|exact (Kd.bJ iH.out HB.out)|(with_reducible refine Kd.bP ?_ _)|(with_reducible refine Kd.bQ ?_ _)|(with_reducible refine Kd.dD ?_)));(case dh=>exact iK.out);(case iW=>repeat (first|exact (Kd.bJ jJ.out HB.out)|(with_reducible refine Kd.bP ?_ _)|(with_reducible refine Kd.bQ ?_ _)|(with_reducible refine Kd.dD ?_)));(case iV=>exact kC.out);rintro e w60 ⟨rfl,hb⟩;have dV:=ae.mk (bg (g:=qJ) (o:=.cells #[.slice ed aZ.length dZ,.string aU,.string aV,.slice (some uX) aI.length eU] 25 (0,0)) (by (with_reducible repeat (first|refine au ?_ _|refine ay ?_|refine ak ?_ _));exact iT.out) hb);have dU:=ae.mk (bg (g:=uN) (o:=.cells #[.int .u8 ((aA aI cZ).f0),.int .u8 ((aA aI cZ).f1),.int .u8 ((aA aI cZ).f2),.int .u8 ((aA aI cZ).f3),.int .i64 ((aA aI cZ).f4)] 55 (0,0)) (by (with_reducible repeat (first|refine au ?_ _|refine ay ?_|refine ak ?_ _));exact jI.out) hb);have dR:=ae.mk (bn (by repeat (first|(with_reducible first|exact HB.out|apply ah|apply ag|apply ai|refine aj ?_ kW.out|refine aj ?_ qB.out)|exact HB.out)) hb);clear iT;clear jI;clear HB;have iT:=dV;have jI:=dU;have HB:=dR;clear dV dU dR;(try clear hb);(try clear hb2);(try clear hk);(try clear hi)))
                   go_ret2
                   exact ⟨by first|rfl|(simp [aQ,aN] <;> rfl)|(simp [*,aQ,aN] <;> rfl),by repeat (first|(with_reducible first|exact HB.out|apply ah|apply ag|apply ai|refine aj ?_ kW.out|refine aj ?_ qB.out)|exact HB.out)⟩
                 ·
                  replace c46:=Bool.eq_false_iff.mpr c46
                  subst c46
                  have H1:(some (cZ,5))=some (r1,r2):=by rw [if_neg (show ¬ (false=true) by decide)] at H;exact H
                  clear H
                  have H:=H1
                  clear H1
                  simp only [Option.some.injEq,Prod.mk.injEq] at H
                  obtain ⟨rfl,rfl⟩:=H
                  have aon:=mZ.out
                  have anW:=jf.out
                  obtain ⟨VW,VV,VU,VT,VS,Ut,Us,Ur,Uo,Un⟩:=jZ jI.out
                  go_wp2_with (first|((with_reducible refine bz (f:=29) rfl ?_);refine dS (some 86) rfl rfl Tryd.func29 (by kernel_rfl) rfl #[.agg #[.int .u8 ((aA aI cZ).f0),.int .u8 ((aA aI cZ).f1),.int .u8 ((aA aI cZ).f2),.int .u8 ((aA aI cZ).f3),.int .i64 ((aA aI cZ).f4)]] rfl (by (try simp only [List.map_toArray,List.map_cons,List.map_nil]);first|done|rfl|(simp only [List.length_drop,List.length_take];rfl)) ?_;(with_reducible refine (bH.calls xm ((aA aI cZ).f0) ((aA aI cZ).f1) ((aA aI cZ).f2) ((aA aI cZ).f3) ((aA aI cZ).f4) false _ A45.out).mono ?_);rintro e w63 ⟨rfl,hb⟩;refine ⟨_,rfl,?_⟩;have dV:=ae.mk (bg (g:=qJ) (o:=.cells #[.slice ed aZ.length dZ,.string aU,.string aV,.slice (some uX) aI.length eU] 25 (0,0)) (by (with_reducible repeat (first|refine au ?_ _|refine ay ?_|refine ak ?_ _));exact iT.out) hb);have dU:=ae.mk (bg (g:=uN) (o:=.cells #[.int .u8 ((aA aI cZ).f0),.int .u8 ((aA aI cZ).f1),.int .u8 ((aA aI cZ).f2),.int .u8 ((aA aI cZ).f3),.int .i64 ((aA aI cZ).f4)] 55 (0,0)) (by (with_reducible repeat (first|refine au ?_ _|refine ay ?_|refine ak ?_ _));exact jI.out) hb);have dR:=ae.mk (bn (by repeat (first|(with_reducible first|exact HB.out|apply ah|apply ag|apply ai|refine aj ?_ kW.out|refine aj ?_ qB.out)|exact HB.out)) hb);clear iT;clear jI;clear HB;have iT:=dV;have jI:=dU;have HB:=dR;clear dV dU dR;(try clear hb);(try clear hb2);(try clear hk);(try clear hi)))
                  go_ret2
                  exact ⟨by first|rfl|(simp [aQ,aN] <;> rfl)|(simp [*,aQ,aN] <;> rfl),by repeat (first|(with_reducible first|exact HB.out|apply ah|apply ag|apply ai|refine aj ?_ kW.out|refine aj ?_ qB.out)|exact HB.out)⟩
             ·
              replace c32:=Bool.eq_false_iff.mpr c32
              subst c32
              have H1:(some (cZ,4))=some (r1,r2):=by rw [if_neg (show ¬ (false=true) by decide)] at H;exact H
              clear H
              have H:=H1
              clear H1
              simp only [Option.some.injEq,Prod.mk.injEq] at H
              obtain ⟨rfl,rfl⟩:=H
              have acv:=mZ.out
              have aci:=jf.out
              obtain ⟨VR,VQ,VP,VO,aj8,Um,Ul,Uk,Uj,ahS⟩:=jZ jI.out
              go_wp2_with (first|((with_reducible refine bz (f:=28) rfl ?_);refine dS (some 65) rfl rfl Tryd.func28 (by kernel_rfl) rfl #[.agg #[.int .u8 ((aA aI cZ).f0),.int .u8 ((aA aI cZ).f1),.int .u8 ((aA aI cZ).f2),.int .u8 ((aA aI cZ).f3),.int .i64 ((aA aI cZ).f4)]] rfl (by (try simp only [List.map_toArray,List.map_cons,List.map_nil]);first|done|rfl|(simp only [List.length_drop,List.length_take];rfl)) ?_;(with_reducible refine (dX.calls sG ((aA aI cZ).f0) ((aA aI cZ).f1) ((aA aI cZ).f2) ((aA aI cZ).f3) ((aA aI cZ).f4) false _ ?bZ A31.out).mono ?_);(case bZ=>repeat (first|exact (Kd.bJ yT.out HB.out)|(with_reducible refine Kd.bP ?_ _)|(with_reducible refine Kd.bQ ?_ _)|(with_reducible refine Kd.dD ?_)));rintro e w66 ⟨rfl,hb⟩;refine ⟨_,rfl,?_⟩;have dV:=ae.mk (bg (g:=qJ) (o:=.cells #[.slice ed aZ.length dZ,.string aU,.string aV,.slice (some uX) aI.length eU] 25 (0,0)) (by (with_reducible repeat (first|refine au ?_ _|refine ay ?_|refine ak ?_ _));exact iT.out) hb);have dU:=ae.mk (bg (g:=uN) (o:=.cells #[.int .u8 ((aA aI cZ).f0),.int .u8 ((aA aI cZ).f1),.int .u8 ((aA aI cZ).f2),.int .u8 ((aA aI cZ).f3),.int .i64 ((aA aI cZ).f4)] 55 (0,0)) (by (with_reducible repeat (first|refine au ?_ _|refine ay ?_|refine ak ?_ _));exact jI.out) hb);have dR:=ae.mk (bn (by repeat (first|(with_reducible first|exact HB.out|apply ah|apply ag|apply ai|refine aj ?_ kW.out|refine aj ?_ qB.out)|exact HB.out)) hb);clear iT;clear jI;clear HB;have iT:=dV;have jI:=dU;have HB:=dR;clear dV dU dR;(try clear hb);(try clear hb2);(try clear hk);(try clear hi)))
              go_ret2
              exact ⟨by first|rfl|(simp [aQ,aN] <;> rfl)|(simp [*,aQ,aN] <;> rfl),by repeat (first|(with_reducible first|exact HB.out|apply ah|apply ag|apply ai|refine aj ?_ kW.out|refine aj ?_ qB.out)|exact HB.out)⟩
          ·
           rw [if_neg c20] at H
           exact absurd H (by simp)
         ·
          rw [if_neg c19] at H
          have GR:decide (cZ < (aI.length:Int))=false:=decide_eq_false c19
          clear c19
          simp only [Option.some.injEq,Prod.mk.injEq] at H
          obtain ⟨rfl,rfl⟩:=H
          obtain ⟨aj0,ajZ,ajY,ajX,ahM,ahL,ahK,ahJ⟩:=rJ iT.out
          go_wp2
          go_ret2
          exact ⟨by first|rfl|(simp [aQ,aN] <;> rfl)|(simp [*,aQ,aN] <;> rfl),by repeat (first|(with_reducible first|exact HB.out|apply ah|apply ag|apply ai|refine aj ?_ kW.out)|exact HB.out)⟩
end Go.Proofs.YtlemecdddhdagaaDoor.P
end
section
namespace Go.Proofs.YtlemecdddhdagaaDoor.P
open Go.RowKit Go.Proofs.af.bD Go.Proofs.af.dB Go.Proofs.af.dM
theorem yS (a b:ByteArray) (j:Nat) (h:j < a.size):bt (a++b) j=bt a j:=by
  unfold bt
  rw [dif_pos (show ((j:Int)).toNat < (a++b).size by rw [ByteArray.size_append];omega),dif_pos (show ((j:Int)).toNat < a.size by omega)]
  rw [ByteArray.getElem_append_left]
theorem xW (a b:ByteArray) (j:Nat) (h:j < b.size):bt (a++b) ((a.size+j:Nat):Int)=bt b j:=by
  unfold bt
  rw [dif_pos (show (((a.size+j:Nat):Int)).toNat < (a++b).size by rw [ByteArray.size_append];omega),dif_pos (show ((j:Int)).toNat < b.size by omega)]
  rw [ByteArray.getElem_append_right (by rw [Int.toNat_natCast];omega)]
  congr 3
  rw [Int.toNat_natCast,Int.toNat_natCast]
  omega
theorem NL (t:List ByteArray) (lo gl:ByteArray):ry t (lo++gl)=(ry t lo && ry t gl):=by
  have:allB (lo++gl).size (fun i=>decide (0≤lu (bt (lo++gl) i) t.length))=(allB lo.size (fun i=>decide (0≤lu (bt lo i) t.length)) && allB gl.size (fun i=>decide (0≤lu (bt gl i) t.length))):=by
    rw [Bool.eq_iff_iff,Bool.and_eq_true,oI,oI,oI,ByteArray.size_append]
    constructor
    · intro h
      refine ⟨fun j hj=>?_,fun j hj=>?_⟩
      · have:=h j (by omega)
        rwa [yS lo gl j hj] at this
      · have:=h (lo.size+j) (by omega)
        rwa [xW lo gl j hj] at this
    · rintro ⟨h1,h2⟩ j hj
      by_cases h:j < lo.size
      · rw [yS lo gl j h]
        exact h1 j h
      · obtain ⟨q,rfl⟩:∃ q,j=lo.size+q:=⟨j - lo.size,by omega⟩
        rw [xW lo gl q (by omega)]
        exact h2 q (by omega)
  unfold ry
  rw [this]
  cases jW t <;> simp
def WfN (code:List iw):Prop:=∀ i:Nat,-9223372036854775808≤(code.getD i z55).f4∧(code.getD i z55).f4≤9223372036854775807
theorem NJ {x:iw} (h:ru x=true):1≤x.f0∧x.f0≤15:=by
  unfold ru at h
  by_cases h1:x.f0 < 1
  · rw [if_pos h1] at h;cases h
  · by_cases h2:x.f0 > 15
    · rw [if_neg h1,if_pos h2] at h;cases h
    · omega
section
variable (t:List ByteArray) (lo gl:ByteArray) (code:List iw) (ht:t.length≤9223372036854775807) (hs:∀ i:Int,(dY ByteArray.empty t i).size≤9223372036854775807)
  (hn:code.length≤9223372036854775807) (hw:Wf code) (hwn:WfN code)
include ht hs hn hw hwn
theorem GL:Ev (fun k=>az.l0 k 0 t lo gl code) (wR t lo gl code):=by
  have Zz:∀ i:Nat,aA code (i:Int)=code.getD i z55:=fun i=>rfl
  have j4:∀ (i:Nat) (x:Bool) (r r':Int × Int),i < code.length→1≤(code.getD i z55).f0∧(code.getD i z55).f0≤15→(x=false→qI t lo gl (code.getD i z55)=true→Ev (fun k=>az.l0 k ((i+1:Nat):Int) t lo gl code) r) →
      r'=(if x=true then ((i:Int),12) else if qI t lo gl (code.getD i z55)=true then r else ((i:Int),5)) →
      Ev (fun k=>az.j4 k (i:Int) x t lo gl code (code.getD i z55).f0 (code.getD i z55).f1 (code.getD i z55).f2 (code.getD i z55).f3 (code.getD i z55).f4) r':=by
    intro i x r r' hi ho hr e
    rw [e]
    refine Ev.step (fun k=>by simp only [az.j4];rfl) ?_
    refine Ev.ite (fun _=>Ev.now _) fun hx=>?_
    have ke:=NZ t lo gl (code.getD i z55).f0 (code.getD i z55).f1 (code.getD i z55).f2 (code.getD i z55).f3 (code.getD i z55).f4 ho
    have hk:qI t lo gl (code.getD i z55)=nZ t lo gl (code.getD i z55).f0 (code.getD i z55).f1 (code.getD i z55).f2 (code.getD i z55).f3 (code.getD i z55).f4:=rfl
    rw [← hk] at ke
    refine Ev.bind (Ub _ _ _ _ _) ?_
    cases hin:Ed (code.getD i z55).f0 (code.getD i z55).f1 (code.getD i z55).f2 (code.getD i z55).f3 with
    | false =>
      rw [hin,Bool.false_and] at ke
      rw [← ke,if_neg (by decide)]
      exact Ev.congr (fun k=>if_neg (by decide)) (Ev.now _)
    | true =>
      rw [hin,Bool.true_and] at ke
      refine Ev.congr (fun k=>if_pos rfl) ?_
      refine Ev.bind (PX t lo gl code _ _ _ _ _ ht hs (hw i).1 (hw i).2.1 (hw i).2.2) ?_
      rw [ke]
      refine Ev.ite (fun h=>?_) (fun _=>Ev.now _)
      rw [wrapN hi hn]
      exact hr (by simpa using hx) h
  have place:∀ (i:Nat) (r r':Int × Int),i < code.length→(oN t lo gl code.length (code.getD i z55)=none→Ev (fun k=>az.l0 k ((i+1:Nat):Int) t lo gl code) r) →
      r'=(match oN t lo gl code.length (code.getD i z55) with|some e=>((i:Int),e)|none=>r) →
      Ev (fun k=>az.l0 k (i:Int) t lo gl code) r':=by
    intro i r r' hi hr e
    rw [e]
    have hx4:=PG (code.getD i z55) (hw i).1 (hw i).2.1 (hw i).2.2 (hwn i)
    generalize hx:code.getD i z55=x at *
    have j3:Ev (fun k=>az.j3 k i (rD x) t lo gl code x.f0 x.f1 x.f2 x.f3 x.f4) (match oN t lo gl code.length x with|some e=>((i:Int),e)|none=>r):=by
      refine Ev.step (fun k=>by simp only [az.j3];rfl) (Ev.bind hx4 ?_)
      by_cases h1:ru x=true
      · refine Ev.congr (fun k=>if_pos h1) ?_
        have J:∀ b r0,oN t lo gl code.length x=(if b=true then some 12 else if qI t lo gl x=true then none else some 5)→r0=(match oN t lo gl code.length x with|some e=>((i:Int),e)|none=>r)→Ev (fun k=>az.j4 k i b t lo gl code x.f0 x.f1 x.f2 x.f3 x.f4) r0:=by
          intro b r0 hb e0
          have:=j4 i b r r0 hi (by rw [hx];exact NJ h1) (fun hbf hk=>by
            refine hr ?_
            rw [hx] at hk
            rw [hb,hbf,if_neg (by decide),if_pos hk]) (by
              rw [e0,hb,hx]
              cases b
              · cases qI t lo gl x <;> rfl
              · rfl)
          rw [hx] at this
          exact this
        have hbad:∀ b,(rD x && (decide (x.f4 < 0) || decide (x.f4 > code.length)))=b→oN t lo gl code.length x=(if b=true then some 12 else if qI t lo gl x=true then none else some 5):=by
          intro b hb
          unfold oN
          rw [if_pos h1,hb]
        cases hj:rD x with
        | false =>
          refine Ev.congr (fun k=>if_neg (by decide)) ?_
          exact J false _ (hbad false (by rw [hj];rfl)) rfl
        | true =>
          refine Ev.congr (fun k=>if_pos rfl) ?_
          by_cases h4:x.f4 < 0
          · refine Ev.congr (fun k=>if_pos h4) ?_
            exact J true _ (hbad true (by rw [hj,decide_eq_true h4];rfl)) rfl
          · refine Ev.congr (fun k=>if_neg h4) ?_
            exact J _ _ (hbad _ (by rw [hj,decide_eq_false h4,Bool.false_or,Bool.true_and])) rfl
      · refine Ev.congr (fun k=>if_neg h1) ?_
        have:oN t lo gl code.length x=some 4:=by unfold oN;rw [if_neg h1]
        rw [this]
        exact Ev.now _
    refine Ev.step (fun k=>?_) j3
    simp only [az.l0]
    rw [if_pos (by omega),if_pos (by omega),Zz,hx]
    by_cases h3:x.f0=3
    · rw [if_pos h3,show rD x=true from by unfold rD;rw [h3];rfl]
    · rw [if_neg h3,show rD x=(x.f0 == 4) from by unfold rD;rw [show (x.f0 == 3)=false from beq_eq_false_iff_ne.2 h3,Bool.false_or]]
  have:=lN (g:=fun k i=>az.l0 k (i:Nat) t lo gl code) (fun i=>(oN t lo gl code.length (code.getD i z55)).map fun e=>((i:Int),e)) code.length (-1,0)
    (fun i hi hb q hq=>?_) (fun i hi b hb=>?_) (fun _=>?_) code.length 0 (by omega) (fun j hj=>by omega)
  · exact this
  · refine place i q q hi (fun _=>hq) ?_
    rw [Option.map_eq_none_iff] at hb
    rw [hb]
  · refine place i (0,0) b hi (fun h=>by rw [h] at hb;cases hb) ?_
    cases h:oN t lo gl code.length (code.getD i z55) with
    | none=>rw [h] at hb;cases hb
    | some e=>rw [h] at hb;cases hb;rfl
  · refine Ev.step (f:=fun _=>some (-1,0)) (fun k=>?_) (Ev.now _)
    simp only [az.l0]
    rw [if_neg (by omega)]
theorem GM (hl:lo.size≤9223372036854775807) (hg:gl.size≤9223372036854775807):Ev (fun k=>az.f k t lo gl code) (oh t lo gl code):=by
  have j1:∀ x,Ev (fun k=>az.j1 k x t lo gl code) (if x=true then (-1,3) else wR t lo gl code):=fun x=>by
    refine Ev.step (fun k=>by simp only [az.j1];rfl) ?_
    exact Ev.ite (fun _=>Ev.now _) fun _=>GL t lo gl code ht hs hn hw hwn
  have j0:∀ x,Ev (fun k=>az.j0 k x t lo gl code) (if x=true then (-1,5) else if (code.length:Int) < 1 then (if true=true then (-1,3) else wR t lo gl code) else (if decide ((code.length:Int) > 200)=true then (-1,3) else wR t lo gl code)):=fun x=>by
    refine Ev.step (fun k=>by simp only [az.j0];rfl) ?_
    exact Ev.ite (fun _=>Ev.now _) fun _=>Ev.ite (fun _=>j1 _) fun _=>j1 _
  refine Ev.bind (D7 t lo ht hs hl) ?_
  unfold oh headB
  rw [NL]
  cases h1:ry t lo with
  | false =>
    rw [Bool.false_and,Bool.false_and,if_neg (by decide)]
    exact Ev.congr (fun k=>if_neg (by decide)) (Ev.out (j0 true) (if_pos rfl))
  | true =>
    rw [Bool.true_and]
    refine Ev.congr (fun k=>if_pos rfl) ?_
    refine Ev.bind (D7 t gl ht hs hg) ?_
    cases h2:ry t gl with
    | false =>
      rw [Bool.false_and,if_neg (by decide)]
      exact Ev.congr (fun k=>if_neg (by decide)) (Ev.out (j0 true) (if_pos rfl))
    | true =>
      rw [Bool.true_and]
      refine Ev.congr (fun k=>if_pos rfl) ?_
      refine Ev.out (Ev.ite (fun _=>j0 _) fun _=>j0 _) ?_
      by_cases h3:lo.size≤8
      · by_cases h4:gl.size≤4
        · rw [if_neg (by omega),decide_eq_true h3,decide_eq_true h4,if_neg (by simp;omega),show (true && true)=true from rfl,if_pos rfl,if_pos rfl]
          by_cases h5:(code.length:Int) < 1
          · rw [if_pos h5,if_neg (by omega)]
          · rw [if_neg h5]
            by_cases h6:(code.length:Int) > 200
            · rw [if_pos (decide_eq_true h6),if_neg (by omega)]
            · rw [if_neg (by simp;omega),if_pos (by omega)]
        · rw [if_neg (by omega),decide_eq_true h3,decide_eq_false h4,if_pos (by simp;omega),if_neg (by decide)]
      · rw [if_pos (by omega),decide_eq_false h3,if_pos rfl,if_neg (by simp)]
end
end Go.Proofs.YtlemecdddhdagaaDoor.P
end
