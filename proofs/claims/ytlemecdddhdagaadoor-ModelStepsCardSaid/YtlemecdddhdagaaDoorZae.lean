/- Parts of the proof of ModelSteps: what the functions that it reaches compute, and plain facts about that. -/
import Derived.Test.YtlemecdddhdagaaDoorZab
import Derived.Test.YtlemecdddhdagaaDoorZad
set_option linter.unusedVariables false
set_option linter.unusedSimpArgs false
section
namespace Go.Proofs.YtlemecdddhdagaaDoor.P
open Go.RowKit Go.Proofs.af.bF Go.Proofs.af.dD Go.Proofs.af.dN
attribute [local go_sem] lF lC mP mO kE kD lD lu
def oh.f (k:Nat) (l0:List ByteArray) (a1:Int) (a2:Int):Option (Int):=(lL.f k l0 a1).bind fun t112=>(if a2 < 0 then (some (-1)) else (if a2 ≥ (t112.size:Int) then (some (-1)) else (if 0≤a2 then (if a2 < (t112.size:Int) then ((jK.f (bt t112 a2) (l0.length:Int)).bind fun t113=>(some t113)) else (none)) else (none))))
theorem oh.mono:∀ a0 a1 a2 k,dP (oh.f k a0 a1 a2) (oh.f (k+1) a0 a1 a2):=by
 intro a0 a1 a2 k
 unfold oh.f
 repeat' with_reducible first|apply lL.mono|exact dP.refl _|exact dP.none _|refine dP.ite ?_ ?_|refine dP.bind ?_ (fun _=>?_)
set_option maxHeartbeats 8000000 in
set_option maxRecDepth 100000 in
theorem oh.calls (k:Nat) (A0:Option Addr) (c0:Nat) (l0:List ByteArray) (a1:Int) (a2:Int) (r:Int) (w:World) (hr0:Kd.C Kd.string w A0 l0.length l0) (hc0:l0.length≤c0) (h:oh.f k l0 a1 a2=some r) :
  Calls Tryd.prog 70 #[.slice A0 l0.length c0,.int .i64 a1,.int .i64 a2] w fun e w'=>e=.returned (.int .i64 r)∧aU w w':=by
 have HR0:=ae.mk hr0
 have tX:=ae.mk hc0
 clear hr0 hc0
 have H:((lL.f k l0 a1).bind fun t112=>(if a2 < 0 then (some (-1)) else (if a2 ≥ (t112.size:Int) then (some (-1)) else (if 0≤a2 then (if a2 < (t112.size:Int) then ((jK.f (bt t112 a2) (l0.length:Int)).bind fun t113=>(some t113)) else (none)) else (none)))))=some r:=h
 clear h
 replace H:=Option.bind_eq_some_iff.mp H
 obtain ⟨t112,CO,H⟩:=H
 replace H:(if a2 < 0 then (some (-1)) else (if a2 ≥ (t112.size:Int) then (some (-1)) else (if 0≤a2 then (if a2 < (t112.size:Int) then ((jK.f (bt t112 a2) (l0.length:Int)).bind fun t113=>(some t113)) else (none)) else (none))))=some r:=H
 have A4:=ae.mk CO
 clear CO
 by_cases c5:a2 < 0
 ·
  rw [if_pos c5] at H
  have rU:decide (a2 < 0)=true:=decide_eq_true c5
  clear c5
  obtain rfl:=Option.some.inj H
  go_enter Tryd.func70,Tryd.ntmps70
  go_wp2_with (first|((with_reducible refine bz (f:=60) rfl ?_);refine dV (some 10) rfl rfl Tryd.func60 (by kernel_rfl) rfl #[.slice A0 l0.length c0,.int .i64 a1] rfl (by (try simp only [List.map_toArray,List.map_cons,List.map_nil]);first|done|rfl|(simp only [List.length_drop,List.length_take];rfl)) ?_;(with_reducible refine (lL.calls k _ _ l0 a1 t112 _ ?df ?dA A4.out).mono ?_);(case df=>repeat (first|exact HR0.out|(with_reducible refine Kd.bQ ?_ _)|(with_reducible refine Kd.bP ?_ _)|(with_reducible refine Kd.dF ?_)));(case dA=>exact tX.out);rintro e w' ⟨rfl,⟨nd,rfl⟩⟩;refine ⟨_,rfl,?_⟩))
  go_ret
  exact ⟨by first|rfl|(simp;done)|(simp [*];done),by repeat (first|exact aU.refl _|apply aU.step)⟩
 ·
  rw [if_neg c5] at H
  have rU:decide (a2 < 0)=false:=decide_eq_false c5
  clear c5
  by_cases c6:a2 ≥ (t112.size:Int)
  ·
   rw [if_pos c6] at H
   have oK:decide ((t112.size:Int)≤a2)=true:=decide_eq_true c6
   clear c6
   obtain rfl:=Option.some.inj H
   go_enter Tryd.func70,Tryd.ntmps70
   go_wp2_with (first|((with_reducible refine bz (f:=60) rfl ?_);refine dV (some 10) rfl rfl Tryd.func60 (by kernel_rfl) rfl #[.slice A0 l0.length c0,.int .i64 a1] rfl (by (try simp only [List.map_toArray,List.map_cons,List.map_nil]);first|done|rfl|(simp only [List.length_drop,List.length_take];rfl)) ?_;(with_reducible refine (lL.calls k _ _ l0 a1 t112 _ ?df ?dA A4.out).mono ?_);(case df=>repeat (first|exact HR0.out|(with_reducible refine Kd.bQ ?_ _)|(with_reducible refine Kd.bP ?_ _)|(with_reducible refine Kd.dF ?_)));(case dA=>exact tX.out);rintro e w' ⟨rfl,⟨nd,rfl⟩⟩;refine ⟨_,rfl,?_⟩))
   go_ret
   exact ⟨by first|rfl|(simp;done)|(simp [*];done),by repeat (first|exact aU.refl _|apply aU.step)⟩
  ·
   rw [if_neg c6] at H
   have oK:decide ((t112.size:Int)≤a2)=false:=decide_eq_false c6
   clear c6
   by_cases c7:0≤a2
   ·
    rw [if_pos c7] at H
    have oQ:decide (0≤a2)=true:=decide_eq_true c7
    clear c7
    by_cases c8:a2 < (t112.size:Int)
    ·
     rw [if_pos c8] at H
     have pU:decide (a2 < (t112.size:Int))=true:=decide_eq_true c8
     clear c8
     replace H:=Option.bind_eq_some_iff.mp H
     obtain ⟨t113,Dj,H⟩:=H
     replace H:(some t113)=some r:=H
     have ZW:=ae.mk Dj
     clear Dj
     obtain rfl:=Option.some.inj H
     go_enter Tryd.func70,Tryd.ntmps70
     go_wp2_with (first|((with_reducible refine bz (f:=60) rfl ?_);refine dV (some 10) rfl rfl Tryd.func60 (by kernel_rfl) rfl #[.slice A0 l0.length c0,.int .i64 a1] rfl (by (try simp only [List.map_toArray,List.map_cons,List.map_nil]);first|done|rfl|(simp only [List.length_drop,List.length_take];rfl)) ?_;(with_reducible refine (lL.calls k _ _ l0 a1 t112 _ ?df ?dA A4.out).mono ?_);(case df=>repeat (first|exact HR0.out|(with_reducible refine Kd.bQ ?_ _)|(with_reducible refine Kd.bP ?_ _)|(with_reducible refine Kd.dF ?_)));(case dA=>exact tX.out);rintro e w' ⟨rfl,⟨nd,rfl⟩⟩;refine ⟨_,rfl,?_⟩;have p9:0≤(a2:Int):=of_decide_eq_true (by first|(with_reducible assumption)|assumption);have q9:a2 < (t112.size:Int):=of_decide_eq_true (by first|(with_reducible assumption)|assumption);have hx9:=kY t112 a2;replace p9:=eq_true p9;replace q9:=eq_true q9)|((with_reducible refine bz (f:=51) rfl ?_);refine dV (some 24) rfl rfl Tryd.func51 (by kernel_rfl) rfl #[.int .u8 (bt t112 a2),.int .i64 (l0.length:Int)] rfl (by (try simp only [List.map_toArray,List.map_cons,List.map_nil]);first|done|rfl|(simp only [List.length_drop,List.length_take];rfl)) ?_;(with_reducible refine (jK.calls (bt t112 a2) (l0.length:Int) t113 _ ZW.out).mono ?_);rintro e w' ⟨rfl,⟨nd,rfl⟩⟩;refine ⟨_,rfl,?_⟩))
     go_ret
     exact ⟨by first|rfl|(simp;done)|(simp [*];done),by repeat (first|exact aU.refl _|apply aU.step)⟩
    ·
     rw [if_neg c8] at H
     exact absurd H (by simp)
   ·
    rw [if_neg c7] at H
    exact absurd H (by simp)
def ik.f (k:Nat) (aZ:List ByteArray) (aV:ByteArray) (aW:ByteArray) (aI:List (iD)) (a1:Int) (a2:Int):Option (Int × Bool):=if a1 < 0 then (some ((-1),false)) else (if a2 < 0 then (some ((-1),false)) else ((jO.f k aZ a1).bind fun t115=>(if a2 ≥ t115 then (some ((-1),false)) else ((oh.f k aZ a1 a2).bind fun t116=>(some (t116,true))))))
theorem ik.mono:∀ a0 a1 a2 a3 a4 a5 k,dP (ik.f k a0 a1 a2 a3 a4 a5) (ik.f (k+1) a0 a1 a2 a3 a4 a5):=by
 intro a0 a1 a2 a3 a4 a5 k
 unfold ik.f
 repeat' with_reducible first|apply jO.mono|apply oh.mono|exact dP.refl _|exact dP.none _|refine dP.ite ?_ ?_|refine dP.bind ?_ (fun _=>?_)
set_option maxHeartbeats 8000000 in
set_option maxRecDepth 100000 in
theorem ik.calls (k:Nat) (eu:Option Addr) (ed:Nat) (aZ:List ByteArray) (aV:ByteArray) (aW:ByteArray) (gm:Option Addr) (eX:Nat) (aI:List (iD)) (a1:Int) (a2:Int) (r1:Int) (r2:Bool) (w:World) (jV:Kd.C Kd.string w eu aZ.length aZ) (jX:aZ.length≤ed) (jU:Kd.C uD w gm aI.length aI) (jW:aI.length≤eX) (h:ik.f k aZ aV aW aI a1 a2=some (r1,r2)) :
  Calls Tryd.prog 58 #[.agg #[.slice eu aZ.length ed,.string aV,.string aW,.slice gm aI.length eX],.int .i64 a1,.int .i64 a2] w fun e w'=>e=.returned (.tuple #[.int .i64 r1,.bool r2])∧Below w.heap.size w w':=by
 have yP:=Tryd.underlying25
 have iI:=ae.mk jV
 have iL:=ae.mk jX
 clear jV jX
 have jR:=ae.mk jU
 have kK:=ae.mk jW
 clear jU jW
 have HB:=ae.mk (Below.refl w.heap.size w)
 have H:(if a1 < 0 then (some ((-1),false)) else (if a2 < 0 then (some ((-1),false)) else ((jO.f k aZ a1).bind fun t115=>(if a2 ≥ t115 then (some ((-1),false)) else ((oh.f k aZ a1 a2).bind fun t116=>(some (t116,true)))))))=some (r1,r2):=h
 clear h
 by_cases c4:a1 < 0
 ·
  rw [if_pos c4] at H
  have oD:decide (a1 < 0)=true:=decide_eq_true c4
  clear c4
  simp only [Option.some.injEq,Prod.mk.injEq] at H
  obtain ⟨rfl,rfl⟩:=H
  go_enter Tryd.func58,Tryd.ntmps58
  go_wp2_with (first|((with_reducible refine bD (N:=3) rfl ?_);refine fG ?hg (N:=3) ?hd (cs:=#[.slice eu aZ.length ed,.string aV,.string aW,.slice gm aI.length eX]) (t:=25) ?hr ?_;(case hd=>rfl);(case hg=>rfl);(case hr=>first|(go_simp;done)|(go_simp;rfl));intro eQ hg w5 hbox hb;have dX:=ae.mk (bn (by repeat (first|(with_reducible first|exact HB.out|apply ah|apply ag|apply ai)|exact HB.out)) hb);have dW:=ae.mk (hbox);have dU:=ae.mk ((by rw [hg];exact (bY (by repeat (first|(with_reducible first|exact HB.out|apply ah|apply ag|apply ai)|exact HB.out))):w.heap.size≤eQ));have iq:=dU;clear HB;have HB:=dX;have cu:=dW;have NP:=dU;have jP:=iq;clear dX dW dU iq;clear hb hbox hg))
  go_ret2
  exact ⟨by first|rfl|(simp [aQ,aN] <;> rfl)|(simp [*,aQ,aN] <;> rfl),by repeat (first|(with_reducible first|exact HB.out|apply ah|apply ag|apply ai|refine aj ?_ jP.out)|exact HB.out)⟩
 ·
  rw [if_neg c4] at H
  have oD:decide (a1 < 0)=false:=decide_eq_false c4
  clear c4
  by_cases c6:a2 < 0
  ·
   rw [if_pos c6] at H
   have oK:decide (a2 < 0)=true:=decide_eq_true c6
   clear c6
   simp only [Option.some.injEq,Prod.mk.injEq] at H
   obtain ⟨rfl,rfl⟩:=H
   go_enter Tryd.func58,Tryd.ntmps58
   go_wp2_with (first|((with_reducible refine bD (N:=3) rfl ?_);refine fG ?hg (N:=3) ?hd (cs:=#[.slice eu aZ.length ed,.string aV,.string aW,.slice gm aI.length eX]) (t:=25) ?hr ?_;(case hd=>rfl);(case hg=>rfl);(case hr=>first|(go_simp;done)|(go_simp;rfl));intro eQ hg w7 hbox hb;have dX:=ae.mk (bn (by repeat (first|(with_reducible first|exact HB.out|apply ah|apply ag|apply ai)|exact HB.out)) hb);have dW:=ae.mk (hbox);have dU:=ae.mk ((by rw [hg];exact (bY (by repeat (first|(with_reducible first|exact HB.out|apply ah|apply ag|apply ai)|exact HB.out))):w.heap.size≤eQ));have iq:=dU;clear HB;have HB:=dX;have cu:=dW;have NP:=dU;have jP:=iq;clear dX dW dU iq;clear hb hbox hg))
   go_ret2
   exact ⟨by first|rfl|(simp [aQ,aN] <;> rfl)|(simp [*,aQ,aN] <;> rfl),by repeat (first|(with_reducible first|exact HB.out|apply ah|apply ag|apply ai|refine aj ?_ jP.out)|exact HB.out)⟩
  ·
   rw [if_neg c6] at H
   have oK:decide (a2 < 0)=false:=decide_eq_false c6
   clear c6
   replace H:=Option.bind_eq_some_iff.mp H
   obtain ⟨t115,ZU,H⟩:=H
   replace H:(if a2 ≥ t115 then (some ((-1),false)) else ((oh.f k aZ a1 a2).bind fun t116=>(some (t116,true))))=some (r1,r2):=H
   have A8:=ae.mk ZU
   clear ZU
   by_cases c9:a2 ≥ t115
   ·
    rw [if_pos c9] at H
    have Fz:decide (t115≤a2)=true:=decide_eq_true c9
    clear c9
    simp only [Option.some.injEq,Prod.mk.injEq] at H
    obtain ⟨rfl,rfl⟩:=H
    go_enter Tryd.func58,Tryd.ntmps58
    go_wp2_with (first|((with_reducible refine bD (N:=3) rfl ?_);refine fG ?hg (N:=3) ?hd (cs:=#[.slice eu aZ.length ed,.string aV,.string aW,.slice gm aI.length eX]) (t:=25) ?hr ?_;(case hd=>rfl);(case hg=>rfl);(case hr=>first|(go_simp;done)|(go_simp;rfl));intro eQ hg w10 hbox hb;have dX:=ae.mk (bn (by repeat (first|(with_reducible first|exact HB.out|apply ah|apply ag|apply ai)|exact HB.out)) hb);have dW:=ae.mk (hbox);have dU:=ae.mk ((by rw [hg];exact (bY (by repeat (first|(with_reducible first|exact HB.out|apply ah|apply ag|apply ai)|exact HB.out))):w.heap.size≤eQ));have iq:=dU;clear HB;have HB:=dX;have cu:=dW;have NP:=dU;have jP:=iq;clear dX dW dU iq;clear hb hbox hg;have Aw:w10.cell? ⟨eQ,0,none⟩=some (.slice eu aZ.length ed):=(ax cu.out 0).trans rfl;have Au:w10.cell? ⟨eQ,1,none⟩=some (.string aV):=(ax cu.out 1).trans rfl;have Ar:w10.cell? ⟨eQ,2,none⟩=some (.string aW):=(ax cu.out 2).trans rfl;have Aq:w10.cell? ⟨eQ,3,none⟩=some (.slice gm aI.length eX):=(ax cu.out 3).trans rfl;have Ai:=aC cu.out 0;have Ah:=aC cu.out 1;have Ag:=aC cu.out 2;have Af:=aC cu.out 3)|(go_at_call 35;(with_reducible refine (jO.calls k _ _ aZ a1 t115 _ ?df ?dA A8.out).mono ?_);(case df=>repeat (first|exact (Kd.bJ iI.out HB.out)|(with_reducible refine Kd.bQ ?_ _)|(with_reducible refine Kd.bP ?_ _)|(with_reducible refine Kd.dF ?_)));(case dA=>exact iL.out);rintro e w' ⟨rfl,⟨nd,rfl⟩⟩))
    go_ret2
    exact ⟨by first|rfl|(simp [aQ,aN] <;> rfl)|(simp [*,aQ,aN] <;> rfl),by repeat (first|(with_reducible first|exact HB.out|apply ah|apply ag|apply ai|refine aj ?_ jP.out)|exact HB.out)⟩
   ·
    rw [if_neg c9] at H
    have Fz:decide (t115≤a2)=false:=decide_eq_false c9
    clear c9
    replace H:=Option.bind_eq_some_iff.mp H
    obtain ⟨t116,Tf,H⟩:=H
    replace H:(some (t116,true))=some (r1,r2):=H
    have A12:=ae.mk Tf
    clear Tf
    simp only [Option.some.injEq,Prod.mk.injEq] at H
    obtain ⟨rfl,rfl⟩:=H
    go_enter Tryd.func58,Tryd.ntmps58
    go_wp2_with (first|((with_reducible refine bD (N:=3) rfl ?_);refine fG ?hg (N:=3) ?hd (cs:=#[.slice eu aZ.length ed,.string aV,.string aW,.slice gm aI.length eX]) (t:=25) ?hr ?_;(case hd=>rfl);(case hg=>rfl);(case hr=>first|(go_simp;done)|(go_simp;rfl));intro eQ hg Z5 hbox hb;have dX:=ae.mk (bn (by repeat (first|(with_reducible first|exact HB.out|apply ah|apply ag|apply ai)|exact HB.out)) hb);have dW:=ae.mk (hbox);have dU:=ae.mk ((by rw [hg];exact (bY (by repeat (first|(with_reducible first|exact HB.out|apply ah|apply ag|apply ai)|exact HB.out))):w.heap.size≤eQ));have iq:=dU;clear HB;have HB:=dX;have cu:=dW;have NP:=dU;have jP:=iq;clear dX dW dU iq;clear hb hbox hg;have X3:Z5.cell? ⟨eQ,0,none⟩=some (.slice eu aZ.length ed):=(ax cu.out 0).trans rfl;have X0:Z5.cell? ⟨eQ,1,none⟩=some (.string aV):=(ax cu.out 1).trans rfl;have XZ:Z5.cell? ⟨eQ,2,none⟩=some (.string aW):=(ax cu.out 2).trans rfl;have XY:Z5.cell? ⟨eQ,3,none⟩=some (.slice gm aI.length eX):=(ax cu.out 3).trans rfl;have Wi:=aC cu.out 0;have Wh:=aC cu.out 1;have We:=aC cu.out 2;have V9:=aC cu.out 3)|(go_at_call 35;(with_reducible refine (jO.calls k _ _ aZ a1 t115 _ ?df ?dA A8.out).mono ?_);(case df=>repeat (first|exact (Kd.bJ iI.out HB.out)|(with_reducible refine Kd.bQ ?_ _)|(with_reducible refine Kd.bP ?_ _)|(with_reducible refine Kd.dF ?_)));(case dA=>exact iL.out);rintro e w' ⟨rfl,⟨nd,rfl⟩⟩)|((with_reducible refine bz (f:=70) rfl ?_);refine dV (some 26) rfl rfl Tryd.func70 (by kernel_rfl) rfl #[.slice eu aZ.length ed,.int .i64 a1,.int .i64 a2] rfl (by (try simp only [List.map_toArray,List.map_cons,List.map_nil]);first|done|rfl|(simp only [List.length_drop,List.length_take];rfl)) ?_;(with_reducible refine (oh.calls k _ _ aZ a1 a2 t116 _ ?df ?dA A12.out).mono ?_);(case df=>repeat (first|exact (Kd.bJ iI.out (by repeat (first|(with_reducible first|exact HB.out|apply ah|apply ag|apply ai|refine aj ?_ jP.out)|exact HB.out)))|(with_reducible refine Kd.bQ ?_ _)|(with_reducible refine Kd.bP ?_ _)|(with_reducible refine Kd.dF ?_)));(case dA=>exact iL.out);rintro e w' ⟨rfl,⟨nd,rfl⟩⟩;refine ⟨_,rfl,?_⟩))
    go_ret2
    exact ⟨by first|rfl|(simp [aQ,aN] <;> rfl)|(simp [*,aQ,aN] <;> rfl),by repeat (first|(with_reducible first|exact HB.out|apply ah|apply ag|apply ai|refine aj ?_ jP.out)|exact HB.out)⟩
def gY.f (k:Nat) (aZ:List ByteArray) (aV:ByteArray) (aW:ByteArray) (aI:List (iD)) (a1:Int) (a2:Int):Option (Bool):=(ik.f k aZ aV aW aI a1 a2).bind fun mD=>(if mD.2=true then (some (decide (mD.1 < 0))) else (some false))
theorem gY.mono:∀ a0 a1 a2 a3 a4 a5 k,dP (gY.f k a0 a1 a2 a3 a4 a5) (gY.f (k+1) a0 a1 a2 a3 a4 a5):=by
 intro a0 a1 a2 a3 a4 a5 k
 unfold gY.f
 repeat' with_reducible first|apply ik.mono|exact dP.refl _|exact dP.none _|refine dP.ite ?_ ?_|refine dP.bind ?_ (fun _=>?_)
set_option maxHeartbeats 8000000 in
set_option maxRecDepth 100000 in
theorem gY.calls (k:Nat) (eu:Option Addr) (ed:Nat) (aZ:List ByteArray) (aV:ByteArray) (aW:ByteArray) (gm:Option Addr) (eX:Nat) (aI:List (iD)) (a1:Int) (a2:Int) (r:Bool) (w:World) (jV:Kd.C Kd.string w eu aZ.length aZ) (jX:aZ.length≤ed) (jU:Kd.C uD w gm aI.length aI) (jW:aI.length≤eX) (h:gY.f k aZ aV aW aI a1 a2=some r) :
  Calls Tryd.prog 57 #[.agg #[.slice eu aZ.length ed,.string aV,.string aW,.slice gm aI.length eX],.int .i64 a1,.int .i64 a2] w fun e w'=>e=.returned (.bool r)∧Below w.heap.size w w':=by
 have yP:=Tryd.underlying25
 have iI:=ae.mk jV
 have iL:=ae.mk jX
 clear jV jX
 have jR:=ae.mk jU
 have kK:=ae.mk jW
 clear jU jW
 have HB:=ae.mk (Below.refl w.heap.size w)
 have H:((ik.f k aZ aV aW aI a1 a2).bind fun mD=>(if mD.2=true then (some (decide (mD.1 < 0))) else (some false)))=some r:=h
 clear h
 replace H:=Option.bind_eq_some_iff.mp H
 obtain ⟨⟨t118,t119⟩,CO,H⟩:=H
 replace H:(if t119=true then (some (decide (t118 < 0))) else (some false))=some r:=H
 have A4:=ae.mk CO
 clear CO
 by_cases c5:t119=true
 ·
  subst c5
  have H1:(some (decide (t118 < 0)))=some r:=by rw [if_pos rfl] at H;exact H
  clear H
  have H:=H1
  clear H1
  obtain rfl:=Option.some.inj H
  go_enter Tryd.func57,Tryd.ntmps57
  go_wp2_with (first|((with_reducible refine bD (N:=3) rfl ?_);refine fG ?hg (N:=3) ?hd (cs:=#[.slice eu aZ.length ed,.string aV,.string aW,.slice gm aI.length eX]) (t:=25) ?hr ?_;(case hd=>rfl);(case hg=>rfl);(case hr=>first|(go_simp;done)|(go_simp;rfl));intro sV hg w6 hbox hb;have dX:=ae.mk (bn (by repeat (first|(with_reducible first|exact HB.out|apply ah|apply ag|apply ai)|exact HB.out)) hb);have dW:=ae.mk (hbox);have dU:=ae.mk ((by rw [hg];exact (bY (by repeat (first|(with_reducible first|exact HB.out|apply ah|apply ag|apply ai)|exact HB.out))):w.heap.size≤sV));have iq:=dU;clear HB;have HB:=dX;have nX:=dW;have af8:=dU;have Ig:=iq;clear dX dW dU iq;clear hb hbox hg;have ann:w6.cell? ⟨sV,0,none⟩=some (.slice eu aZ.length ed):=(ax nX.out 0).trans rfl;have anm:w6.cell? ⟨sV,1,none⟩=some (.string aV):=(ax nX.out 1).trans rfl;have anl:w6.cell? ⟨sV,2,none⟩=some (.string aW):=(ax nX.out 2).trans rfl;have ank:w6.cell? ⟨sV,3,none⟩=some (.slice gm aI.length eX):=(ax nX.out 3).trans rfl;have ane:=aC nX.out 0;have anc:=aC nX.out 1;have anb:=aC nX.out 2;have ana:=aC nX.out 3)|((with_reducible refine bz (f:=58) rfl ?_);refine dV (some 13) rfl rfl Tryd.func58 (by kernel_rfl) rfl #[.agg #[.slice eu aZ.length ed,.string aV,.string aW,.slice gm aI.length eX],.int .i64 a1,.int .i64 a2] rfl (by (try simp only [List.map_toArray,List.map_cons,List.map_nil]);first|done|rfl|(simp only [List.length_drop,List.length_take];rfl)) ?_;(with_reducible refine (ik.calls k _ _ aZ aV aW _ _ aI a1 a2 t118 true _ ?df ?dA ?iY ?iW A4.out).mono ?_);(case df=>repeat (first|exact (Kd.bJ iI.out HB.out)|(with_reducible refine Kd.bQ ?_ _)|(with_reducible refine Kd.bP ?_ _)|(with_reducible refine Kd.dF ?_)));(case dA=>exact iL.out);(case iY=>repeat (first|exact (Kd.bJ jR.out HB.out)|(with_reducible refine Kd.bQ ?_ _)|(with_reducible refine Kd.bP ?_ _)|(with_reducible refine Kd.dF ?_)));(case iW=>exact kK.out);rintro e w8 ⟨rfl,hb⟩;refine ⟨_,rfl,?_⟩;have dX:=ae.mk (bg (g:=sV) (o:=.cells #[.slice eu aZ.length ed,.string aV,.string aW,.slice gm aI.length eX] 25 (0,0)) (by (with_reducible repeat (first|refine au ?_ _|refine ay ?_|refine ak ?_ _));exact nX.out) hb);have dW:=ae.mk (bn (by repeat (first|(with_reducible first|exact HB.out|apply ah|apply ag|apply ai|refine aj ?_ Ig.out)|exact HB.out)) hb);clear nX;clear HB;have nX:=dX;have HB:=dW;clear dX dW;(try clear hb);(try clear hb2);(try clear hk);(try clear hi)))
  go_ret
  exact ⟨by first|rfl|(simp [aQ,aN] <;> rfl)|(simp [*,aQ,aN] <;> rfl),by repeat (first|(with_reducible first|exact HB.out|apply ah|apply ag|apply ai|refine aj ?_ Ig.out)|exact HB.out)⟩
 ·
  replace c5:=Bool.eq_false_iff.mpr c5
  subst c5
  have H1:(some false)=some r:=by rw [if_neg (show ¬ (false=true) by decide)] at H;exact H
  clear H
  have H:=H1
  clear H1
  obtain rfl:=Option.some.inj H
  go_enter Tryd.func57,Tryd.ntmps57
  go_wp2_with (first|((with_reducible refine bD (N:=3) rfl ?_);refine fG ?hg (N:=3) ?hd (cs:=#[.slice eu aZ.length ed,.string aV,.string aW,.slice gm aI.length eX]) (t:=25) ?hr ?_;(case hd=>rfl);(case hg=>rfl);(case hr=>first|(go_simp;done)|(go_simp;rfl));intro sV hg w9 hbox hb;have dX:=ae.mk (bn (by repeat (first|(with_reducible first|exact HB.out|apply ah|apply ag|apply ai)|exact HB.out)) hb);have dW:=ae.mk (hbox);have dU:=ae.mk ((by rw [hg];exact (bY (by repeat (first|(with_reducible first|exact HB.out|apply ah|apply ag|apply ai)|exact HB.out))):w.heap.size≤sV));have iq:=dU;clear HB;have HB:=dX;have nX:=dW;have af8:=dU;have Ig:=iq;clear dX dW dU iq;clear hb hbox hg;have yj:w9.cell? ⟨sV,0,none⟩=some (.slice eu aZ.length ed):=(ax nX.out 0).trans rfl;have yh:w9.cell? ⟨sV,1,none⟩=some (.string aV):=(ax nX.out 1).trans rfl;have yg:w9.cell? ⟨sV,2,none⟩=some (.string aW):=(ax nX.out 2).trans rfl;have yf:w9.cell? ⟨sV,3,none⟩=some (.slice gm aI.length eX):=(ax nX.out 3).trans rfl;have yc:=aC nX.out 0;have x9:=aC nX.out 1;have xZ:=aC nX.out 2;have xY:=aC nX.out 3)|((with_reducible refine bz (f:=58) rfl ?_);refine dV (some 13) rfl rfl Tryd.func58 (by kernel_rfl) rfl #[.agg #[.slice eu aZ.length ed,.string aV,.string aW,.slice gm aI.length eX],.int .i64 a1,.int .i64 a2] rfl (by (try simp only [List.map_toArray,List.map_cons,List.map_nil]);first|done|rfl|(simp only [List.length_drop,List.length_take];rfl)) ?_;(with_reducible refine (ik.calls k _ _ aZ aV aW _ _ aI a1 a2 t118 false _ ?df ?dA ?iY ?iW A4.out).mono ?_);(case df=>repeat (first|exact (Kd.bJ iI.out HB.out)|(with_reducible refine Kd.bQ ?_ _)|(with_reducible refine Kd.bP ?_ _)|(with_reducible refine Kd.dF ?_)));(case dA=>exact iL.out);(case iY=>repeat (first|exact (Kd.bJ jR.out HB.out)|(with_reducible refine Kd.bQ ?_ _)|(with_reducible refine Kd.bP ?_ _)|(with_reducible refine Kd.dF ?_)));(case iW=>exact kK.out);rintro e w11 ⟨rfl,hb⟩;refine ⟨_,rfl,?_⟩;have dX:=ae.mk (bg (g:=sV) (o:=.cells #[.slice eu aZ.length ed,.string aV,.string aW,.slice gm aI.length eX] 25 (0,0)) (by (with_reducible repeat (first|refine au ?_ _|refine ay ?_|refine ak ?_ _));exact nX.out) hb);have dW:=ae.mk (bn (by repeat (first|(with_reducible first|exact HB.out|apply ah|apply ag|apply ai|refine aj ?_ Ig.out)|exact HB.out)) hb);clear nX;clear HB;have nX:=dX;have HB:=dW;clear dX dW;(try clear hb);(try clear hb2);(try clear hk);(try clear hi)))
  go_ret
  exact ⟨by first|rfl|(simp [aQ,aN] <;> rfl)|(simp [*,aQ,aN] <;> rfl),by repeat (first|(with_reducible first|exact HB.out|apply ah|apply ag|apply ai|refine aj ?_ Ig.out)|exact HB.out)⟩
def jD.f (k:Nat) (aZ:List ByteArray) (aV:ByteArray) (aW:ByteArray) (aI:List (iD)) (a1:Int):Option (Int):=(iZ.f k aZ aW a1).bind fun t121=>(some t121)
theorem jD.mono:∀ a0 a1 a2 a3 a4 k,dP (jD.f k a0 a1 a2 a3 a4) (jD.f (k+1) a0 a1 a2 a3 a4):=by
 intro a0 a1 a2 a3 a4 k
 unfold jD.f
 repeat' with_reducible first|apply iZ.mono|exact dP.refl _|exact dP.none _|refine dP.ite ?_ ?_|refine dP.bind ?_ (fun _=>?_)
set_option maxHeartbeats 8000000 in
set_option maxRecDepth 100000 in
theorem jD.calls (k:Nat) (eu:Option Addr) (ed:Nat) (aZ:List ByteArray) (aV:ByteArray) (aW:ByteArray) (gm:Option Addr) (eX:Nat) (aI:List (iD)) (a1:Int) (r:Int) (w:World) (jV:Kd.C Kd.string w eu aZ.length aZ) (jX:aZ.length≤ed) (jU:Kd.C uD w gm aI.length aI) (jW:aI.length≤eX) (h:jD.f k aZ aV aW aI a1=some r) :
  Calls Tryd.prog 59 #[.agg #[.slice eu aZ.length ed,.string aV,.string aW,.slice gm aI.length eX],.int .u8 a1] w fun e w'=>e=.returned (.int .i64 r)∧Below w.heap.size w w':=by
 have yP:=Tryd.underlying25
 have iI:=ae.mk jV
 have iL:=ae.mk jX
 clear jV jX
 have jR:=ae.mk jU
 have kK:=ae.mk jW
 clear jU jW
 have HB:=ae.mk (Below.refl w.heap.size w)
 have H:((iZ.f k aZ aW a1).bind fun t121=>(some t121))=some r:=h
 clear h
 replace H:=Option.bind_eq_some_iff.mp H
 obtain ⟨t121,yF,H⟩:=H
 replace H:(some t121)=some r:=H
 have A3:=ae.mk yF
 clear yF
 obtain rfl:=Option.some.inj H
 go_enter Tryd.func59,Tryd.ntmps59
 go_wp2_with (first|((with_reducible refine bD (N:=2) rfl ?_);refine fG ?hg (N:=2) ?hd (cs:=#[.slice eu aZ.length ed,.string aV,.string aW,.slice gm aI.length eX]) (t:=25) ?hr ?_;(case hd=>rfl);(case hg=>rfl);(case hr=>first|(go_simp;done)|(go_simp;rfl));intro GZ hg w4 hbox hb;have dX:=ae.mk (bn (by repeat (first|(with_reducible first|exact HB.out|apply ah|apply ag|apply ai)|exact HB.out)) hb);have dW:=ae.mk (hbox);have dU:=ae.mk ((by rw [hg];exact (bY (by repeat (first|(with_reducible first|exact HB.out|apply ah|apply ag|apply ai)|exact HB.out))):w.heap.size≤GZ));have iq:=dU;clear HB;have HB:=dX;have zI:=dW;have aqP:=dU;have agd:=iq;clear dX dW dU iq;clear hb hbox hg;have BO:w4.cell? ⟨GZ,0,none⟩=some (.slice eu aZ.length ed):=(ax zI.out 0).trans rfl;have BN:w4.cell? ⟨GZ,1,none⟩=some (.string aV):=(ax zI.out 1).trans rfl;have BM:w4.cell? ⟨GZ,2,none⟩=some (.string aW):=(ax zI.out 2).trans rfl;have BL:w4.cell? ⟨GZ,3,none⟩=some (.slice gm aI.length eX):=(ax zI.out 3).trans rfl;have BK:=aC zI.out 0;have BJ:=aC zI.out 1;have BI:=aC zI.out 2;have BH:=aC zI.out 3)|((with_reducible refine bz (f:=61) rfl ?_);refine dV (some 10) rfl rfl Tryd.func61 (by kernel_rfl) rfl #[.slice eu aZ.length ed,.string aW,.int .u8 a1] rfl (by (try simp only [List.map_toArray,List.map_cons,List.map_nil]);first|done|rfl|(simp only [List.length_drop,List.length_take];rfl)) ?_;(with_reducible refine (iZ.calls k _ _ aZ aW a1 t121 _ ?df ?dA A3.out).mono ?_);(case df=>repeat (first|exact (Kd.bJ iI.out HB.out)|(with_reducible refine Kd.bQ ?_ _)|(with_reducible refine Kd.bP ?_ _)|(with_reducible refine Kd.dF ?_)));(case dA=>exact iL.out);rintro e w' ⟨rfl,⟨nd,rfl⟩⟩;refine ⟨_,rfl,?_⟩))
 go_ret
 exact ⟨by first|rfl|(simp [aQ,aN] <;> rfl)|(simp [*,aQ,aN] <;> rfl),by repeat (first|(with_reducible first|exact HB.out|apply ah|apply ag|apply ai|refine aj ?_ agd.out)|exact HB.out)⟩
end Go.Proofs.YtlemecdddhdagaaDoor.P
end
