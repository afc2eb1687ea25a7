/- Parts of the proof of ModelMakes: what the functions that it reaches compute, and plain facts about that. -/
import Derived.Test.YtlemecdddhdagaaDoorXab
import Derived.Test.YtlemecdddhdagaaDoorXad
set_option linter.unusedVariables false
set_option linter.unusedSimpArgs false
section
namespace Go.Proofs.YtlemecdddhdagaaDoor.P
open Go.RowKit Go.Proofs.ag.bH Go.Proofs.ag.dM Go.Proofs.ag.dY
attribute [local go_sem] kR kP lU lT jM jL kQ kN
def nD.f (k:Nat) (l0:List ByteArray) (a1:Int) (a2:Int):Option (Int):=(kW.f k l0 a1).bind fun t112=>(if a2 < 0 then (some (-1)) else (if a2 ≥ (t112.size:Int) then (some (-1)) else (if 0≤a2 then (if a2 < (t112.size:Int) then ((jl.f (bt t112 a2) (l0.length:Int)).bind fun t113=>(some t113)) else (none)) else (none))))
theorem nD.mono:∀ a0 a1 a2 k,dK (nD.f k a0 a1 a2) (nD.f (k+1) a0 a1 a2):=by
 intro a0 a1 a2 k
 unfold nD.f
 repeat' with_reducible first|apply kW.mono|exact dK.refl _|exact dK.none _|refine dK.ite ?_ ?_|refine dK.bind ?_ (fun _=>?_)
set_option maxHeartbeats 8000000 in
set_option maxRecDepth 100000 in
theorem nD.calls (k:Nat) (A0:Option Addr) (c0:Nat) (l0:List ByteArray) (a1:Int) (a2:Int) (r:Int) (w:World) (hr0:Kd.C Kd.string w A0 l0.length l0) (hc0:l0.length≤c0) (h:nD.f k l0 a1 a2=some r) :
  Calls Tryd.prog 70 #[.slice A0 l0.length c0,.int .i64 a1,.int .i64 a2] w fun e w'=>e=.returned (.int .i64 r)∧aV w w':=by
 have HR0:=ae.mk hr0
 have tC:=ae.mk hc0
 clear hr0 hc0
 have H:((kW.f k l0 a1).bind fun t112=>(if a2 < 0 then (some (-1)) else (if a2 ≥ (t112.size:Int) then (some (-1)) else (if 0≤a2 then (if a2 < (t112.size:Int) then ((jl.f (bt t112 a2) (l0.length:Int)).bind fun t113=>(some t113)) else (none)) else (none)))))=some r:=h
 clear h
 replace H:=Option.bind_eq_some_iff.mp H
 obtain ⟨t112,Aw,H⟩:=H
 replace H:(if a2 < 0 then (some (-1)) else (if a2 ≥ (t112.size:Int) then (some (-1)) else (if 0≤a2 then (if a2 < (t112.size:Int) then ((jl.f (bt t112 a2) (l0.length:Int)).bind fun t113=>(some t113)) else (none)) else (none))))=some r:=H
 have A4:=ae.mk Aw
 clear Aw
 by_cases c5:a2 < 0
 ·
  rw [if_pos c5] at H
  have qO:decide (a2 < 0)=true:=decide_eq_true c5
  clear c5
  obtain rfl:=Option.some.inj H
  go_enter Tryd.func70,Tryd.ntmps70
  go_wp2_with (first|((with_reducible refine bu (f:=60) rfl ?_);refine dQ (some 10) rfl rfl Tryd.func60 (by kernel_rfl) rfl #[.slice A0 l0.length c0,.int .i64 a1] rfl (by (try simp only [List.map_toArray,List.map_cons,List.map_nil]);first|done|rfl|(simp only [List.length_drop,List.length_take];rfl)) ?_;(with_reducible refine (kW.calls k _ _ l0 a1 t112 _ ?bW ?df A4.out).mono ?_);(case bW=>repeat (first|exact HR0.out|(with_reducible refine Kd.bM ?_ _)|(with_reducible refine Kd.bK ?_ _)|(with_reducible refine Kd.dB ?_)));(case df=>exact tC.out);rintro e w' ⟨rfl,⟨nd,rfl⟩⟩;refine ⟨_,rfl,?_⟩))
  go_ret
  exact ⟨by first|rfl|(simp;done)|(simp [*];done),by repeat (first|exact aV.refl _|apply aV.step)⟩
 ·
  rw [if_neg c5] at H
  have qO:decide (a2 < 0)=false:=decide_eq_false c5
  clear c5
  by_cases c6:a2 ≥ (t112.size:Int)
  ·
   rw [if_pos c6] at H
   have nP:decide ((t112.size:Int)≤a2)=true:=decide_eq_true c6
   clear c6
   obtain rfl:=Option.some.inj H
   go_enter Tryd.func70,Tryd.ntmps70
   go_wp2_with (first|((with_reducible refine bu (f:=60) rfl ?_);refine dQ (some 10) rfl rfl Tryd.func60 (by kernel_rfl) rfl #[.slice A0 l0.length c0,.int .i64 a1] rfl (by (try simp only [List.map_toArray,List.map_cons,List.map_nil]);first|done|rfl|(simp only [List.length_drop,List.length_take];rfl)) ?_;(with_reducible refine (kW.calls k _ _ l0 a1 t112 _ ?bW ?df A4.out).mono ?_);(case bW=>repeat (first|exact HR0.out|(with_reducible refine Kd.bM ?_ _)|(with_reducible refine Kd.bK ?_ _)|(with_reducible refine Kd.dB ?_)));(case df=>exact tC.out);rintro e w' ⟨rfl,⟨nd,rfl⟩⟩;refine ⟨_,rfl,?_⟩))
   go_ret
   exact ⟨by first|rfl|(simp;done)|(simp [*];done),by repeat (first|exact aV.refl _|apply aV.step)⟩
  ·
   rw [if_neg c6] at H
   have nP:decide ((t112.size:Int)≤a2)=false:=decide_eq_false c6
   clear c6
   by_cases c7:0≤a2
   ·
    rw [if_pos c7] at H
    have oG:decide (0≤a2)=true:=decide_eq_true c7
    clear c7
    by_cases c8:a2 < (t112.size:Int)
    ·
     rw [if_pos c8] at H
     have oL:decide (a2 < (t112.size:Int))=true:=decide_eq_true c8
     clear c8
     replace H:=Option.bind_eq_some_iff.mp H
     obtain ⟨t113,Ba,H⟩:=H
     replace H:(some t113)=some r:=H
     have Xl:=ae.mk Ba
     clear Ba
     obtain rfl:=Option.some.inj H
     go_enter Tryd.func70,Tryd.ntmps70
     go_wp2_with (first|((with_reducible refine bu (f:=60) rfl ?_);refine dQ (some 10) rfl rfl Tryd.func60 (by kernel_rfl) rfl #[.slice A0 l0.length c0,.int .i64 a1] rfl (by (try simp only [List.map_toArray,List.map_cons,List.map_nil]);first|done|rfl|(simp only [List.length_drop,List.length_take];rfl)) ?_;(with_reducible refine (kW.calls k _ _ l0 a1 t112 _ ?bW ?df A4.out).mono ?_);(case bW=>repeat (first|exact HR0.out|(with_reducible refine Kd.bM ?_ _)|(with_reducible refine Kd.bK ?_ _)|(with_reducible refine Kd.dB ?_)));(case df=>exact tC.out);rintro e w' ⟨rfl,⟨nd,rfl⟩⟩;refine ⟨_,rfl,?_⟩;have p9:0≤(a2:Int):=of_decide_eq_true (by first|(with_reducible assumption)|assumption);have q9:a2 < (t112.size:Int):=of_decide_eq_true (by first|(with_reducible assumption)|assumption);have hx9:=kF t112 a2;replace p9:=eq_true p9;replace q9:=eq_true q9)|((with_reducible refine bu (f:=51) rfl ?_);refine dQ (some 24) rfl rfl Tryd.func51 (by kernel_rfl) rfl #[.int .u8 (bt t112 a2),.int .i64 (l0.length:Int)] rfl (by (try simp only [List.map_toArray,List.map_cons,List.map_nil]);first|done|rfl|(simp only [List.length_drop,List.length_take];rfl)) ?_;(with_reducible refine (jl.calls (bt t112 a2) (l0.length:Int) t113 _ Xl.out).mono ?_);rintro e w' ⟨rfl,⟨nd,rfl⟩⟩;refine ⟨_,rfl,?_⟩))
     go_ret
     exact ⟨by first|rfl|(simp;done)|(simp [*];done),by repeat (first|exact aV.refl _|apply aV.step)⟩
    ·
     rw [if_neg c8] at H
     exact absurd H (by simp)
   ·
    rw [if_neg c7] at H
    exact absurd H (by simp)
def gK.f (k:Nat) (aY:List ByteArray) (aT:ByteArray) (aU:ByteArray) (aI:List (gY)) (a1:Int) (a2:Int):Option (Int × Bool):=if a1 < 0 then (some ((-1),false)) else (if a2 < 0 then (some ((-1),false)) else ((jv.f k aY a1).bind fun t115=>(if a2 ≥ t115 then (some ((-1),false)) else ((nD.f k aY a1 a2).bind fun t116=>(some (t116,true))))))
theorem gK.mono:∀ a0 a1 a2 a3 a4 a5 k,dK (gK.f k a0 a1 a2 a3 a4 a5) (gK.f (k+1) a0 a1 a2 a3 a4 a5):=by
 intro a0 a1 a2 a3 a4 a5 k
 unfold gK.f
 repeat' with_reducible first|apply jv.mono|apply nD.mono|exact dK.refl _|exact dK.none _|refine dK.ite ?_ ?_|refine dK.bind ?_ (fun _=>?_)
set_option maxHeartbeats 8000000 in
set_option maxRecDepth 100000 in
theorem gK.calls (k:Nat) (dX:Option Addr) (dW:Nat) (aY:List ByteArray) (aT:ByteArray) (aU:ByteArray) (fQ:Option Addr) (eH:Nat) (aI:List (gY)) (a1:Int) (a2:Int) (r1:Int) (r2:Bool) (w:World) (jF:Kd.C Kd.string w dX aY.length aY) (jH:aY.length≤dW) (jE:Kd.C tu w fQ aI.length aI) (jG:aI.length≤eH) (h:gK.f k aY aT aU aI a1 a2=some (r1,r2)) :
  Calls Tryd.prog 58 #[.agg #[.slice dX aY.length dW,.string aT,.string aU,.slice fQ aI.length eH],.int .i64 a1,.int .i64 a2] w fun e w'=>e=.returned (.tuple #[.int .i64 r1,.bool r2])∧Below w.heap.size w w':=by
 have xA:=Tryd.underlying25
 have iq:=ae.mk jF
 have iC:=ae.mk jH
 clear jF jH
 have jB:=ae.mk jE
 have jS:=ae.mk jG
 clear jE jG
 have HB:=ae.mk (Below.refl w.heap.size w)
 have H:(if a1 < 0 then (some ((-1),false)) else (if a2 < 0 then (some ((-1),false)) else ((jv.f k aY a1).bind fun t115=>(if a2 ≥ t115 then (some ((-1),false)) else ((nD.f k aY a1 a2).bind fun t116=>(some (t116,true)))))))=some (r1,r2):=h
 clear h
 by_cases c4:a1 < 0
 ·
  rw [if_pos c4] at H
  have nR:decide (a1 < 0)=true:=decide_eq_true c4
  clear c4
  simp only [Option.some.injEq,Prod.mk.injEq] at H
  obtain ⟨rfl,rfl⟩:=H
  go_enter Tryd.func58,Tryd.ntmps58
  go_wp2_with (first|((with_reducible refine dN (N:=3) rfl ?_);refine fB ?hg (N:=3) ?hd (cs:=#[.slice dX aY.length dW,.string aT,.string aU,.slice fQ aI.length eH]) (t:=25) ?hr ?_;(case hd=>rfl);(case hg=>rfl);(case hr=>first|(go_simp;done)|(go_simp;rfl));intro eF hg w5 hbox hb;have dS:=ae.mk (bg (by repeat (first|(with_reducible first|exact HB.out|apply ah|apply af|apply ai)|exact HB.out)) hb);have dR:=ae.mk (hbox);have dO:=ae.mk ((by rw [hg];exact (bQ (by repeat (first|(with_reducible first|exact HB.out|apply ah|apply af|apply ai)|exact HB.out))):w.heap.size≤eF));have gQ:=dO;clear HB;have HB:=dS;have bV:=dR;have KC:=dO;have jw:=gQ;clear dS dR dO gQ;clear hb hbox hg))
  go_ret2
  exact ⟨by first|rfl|(simp [aQ,aN] <;> rfl)|(simp [*,aQ,aN] <;> rfl),by repeat (first|(with_reducible first|exact HB.out|apply ah|apply af|apply ai|refine aj ?_ jw.out)|exact HB.out)⟩
 ·
  rw [if_neg c4] at H
  have nR:decide (a1 < 0)=false:=decide_eq_false c4
  clear c4
  by_cases c6:a2 < 0
  ·
   rw [if_pos c6] at H
   have nP:decide (a2 < 0)=true:=decide_eq_true c6
   clear c6
   simp only [Option.some.injEq,Prod.mk.injEq] at H
   obtain ⟨rfl,rfl⟩:=H
   go_enter Tryd.func58,Tryd.ntmps58
   go_wp2_with (first|((with_reducible refine dN (N:=3) rfl ?_);refine fB ?hg (N:=3) ?hd (cs:=#[.slice dX aY.length dW,.string aT,.string aU,.slice fQ aI.length eH]) (t:=25) ?hr ?_;(case hd=>rfl);(case hg=>rfl);(case hr=>first|(go_simp;done)|(go_simp;rfl));intro eF hg w7 hbox hb;have dS:=ae.mk (bg (by repeat (first|(with_reducible first|exact HB.out|apply ah|apply af|apply ai)|exact HB.out)) hb);have dR:=ae.mk (hbox);have dO:=ae.mk ((by rw [hg];exact (bQ (by repeat (first|(with_reducible first|exact HB.out|apply ah|apply af|apply ai)|exact HB.out))):w.heap.size≤eF));have gQ:=dO;clear HB;have HB:=dS;have bV:=dR;have KC:=dO;have jw:=gQ;clear dS dR dO gQ;clear hb hbox hg))
   go_ret2
   exact ⟨by first|rfl|(simp [aQ,aN] <;> rfl)|(simp [*,aQ,aN] <;> rfl),by repeat (first|(with_reducible first|exact HB.out|apply ah|apply af|apply ai|refine aj ?_ jw.out)|exact HB.out)⟩
  ·
   rw [if_neg c6] at H
   have nP:decide (a2 < 0)=false:=decide_eq_false c6
   clear c6
   replace H:=Option.bind_eq_some_iff.mp H
   obtain ⟨t115,Xj,H⟩:=H
   replace H:(if a2 ≥ t115 then (some ((-1),false)) else ((nD.f k aY a1 a2).bind fun t116=>(some (t116,true))))=some (r1,r2):=H
   have A8:=ae.mk Xj
   clear Xj
   by_cases c9:a2 ≥ t115
   ·
    rw [if_pos c9] at H
    have DD:decide (t115≤a2)=true:=decide_eq_true c9
    clear c9
    simp only [Option.some.injEq,Prod.mk.injEq] at H
    obtain ⟨rfl,rfl⟩:=H
    go_enter Tryd.func58,Tryd.ntmps58
    go_wp2_with (first|((with_reducible refine dN (N:=3) rfl ?_);refine fB ?hg (N:=3) ?hd (cs:=#[.slice dX aY.length dW,.string aT,.string aU,.slice fQ aI.length eH]) (t:=25) ?hr ?_;(case hd=>rfl);(case hg=>rfl);(case hr=>first|(go_simp;done)|(go_simp;rfl));intro eF hg w10 hbox hb;have dS:=ae.mk (bg (by repeat (first|(with_reducible first|exact HB.out|apply ah|apply af|apply ai)|exact HB.out)) hb);have dR:=ae.mk (hbox);have dO:=ae.mk ((by rw [hg];exact (bQ (by repeat (first|(with_reducible first|exact HB.out|apply ah|apply af|apply ai)|exact HB.out))):w.heap.size≤eF));have gQ:=dO;clear HB;have HB:=dS;have bV:=dR;have KC:=dO;have jw:=gQ;clear dS dR dO gQ;clear hb hbox hg;have yU:w10.cell? ⟨eF,0,none⟩=some (.slice dX aY.length dW):=(ax bV.out 0).trans rfl;have yT:w10.cell? ⟨eF,1,none⟩=some (.string aT):=(ax bV.out 1).trans rfl;have yS:w10.cell? ⟨eF,2,none⟩=some (.string aU):=(ax bV.out 2).trans rfl;have yR:w10.cell? ⟨eF,3,none⟩=some (.slice fQ aI.length eH):=(ax bV.out 3).trans rfl;have yM:=aC bV.out 0;have yL:=aC bV.out 1;have yK:=aC bV.out 2;have yJ:=aC bV.out 3)|(go_at_call 35;(with_reducible refine (jv.calls k _ _ aY a1 t115 _ ?bW ?df A8.out).mono ?_);(case bW=>repeat (first|exact (Kd.bJ iq.out HB.out)|(with_reducible refine Kd.bM ?_ _)|(with_reducible refine Kd.bK ?_ _)|(with_reducible refine Kd.dB ?_)));(case df=>exact iC.out);rintro e w' ⟨rfl,⟨nd,rfl⟩⟩))
    go_ret2
    exact ⟨by first|rfl|(simp [aQ,aN] <;> rfl)|(simp [*,aQ,aN] <;> rfl),by repeat (first|(with_reducible first|exact HB.out|apply ah|apply af|apply ai|refine aj ?_ jw.out)|exact HB.out)⟩
   ·
    rw [if_neg c9] at H
    have DD:decide (t115≤a2)=false:=decide_eq_false c9
    clear c9
    replace H:=Option.bind_eq_some_iff.mp H
    obtain ⟨t116,PX,H⟩:=H
    replace H:(some (t116,true))=some (r1,r2):=H
    have A12:=ae.mk PX
    clear PX
    simp only [Option.some.injEq,Prod.mk.injEq] at H
    obtain ⟨rfl,rfl⟩:=H
    go_enter Tryd.func58,Tryd.ntmps58
    go_wp2_with (first|((with_reducible refine dN (N:=3) rfl ?_);refine fB ?hg (N:=3) ?hd (cs:=#[.slice dX aY.length dW,.string aT,.string aU,.slice fQ aI.length eH]) (t:=25) ?hr ?_;(case hd=>rfl);(case hg=>rfl);(case hr=>first|(go_simp;done)|(go_simp;rfl));intro eF hg Xq hbox hb;have dS:=ae.mk (bg (by repeat (first|(with_reducible first|exact HB.out|apply ah|apply af|apply ai)|exact HB.out)) hb);have dR:=ae.mk (hbox);have dO:=ae.mk ((by rw [hg];exact (bQ (by repeat (first|(with_reducible first|exact HB.out|apply ah|apply af|apply ai)|exact HB.out))):w.heap.size≤eF));have gQ:=dO;clear HB;have HB:=dS;have bV:=dR;have KC:=dO;have jw:=gQ;clear dS dR dO gQ;clear hb hbox hg;have Vk:Xq.cell? ⟨eF,0,none⟩=some (.slice dX aY.length dW):=(ax bV.out 0).trans rfl;have Vj:Xq.cell? ⟨eF,1,none⟩=some (.string aT):=(ax bV.out 1).trans rfl;have Vh:Xq.cell? ⟨eF,2,none⟩=some (.string aU):=(ax bV.out 2).trans rfl;have Vg:Xq.cell? ⟨eF,3,none⟩=some (.slice fQ aI.length eH):=(ax bV.out 3).trans rfl;have TE:=aC bV.out 0;have TD:=aC bV.out 1;have TC:=aC bV.out 2;have TB:=aC bV.out 3)|(go_at_call 35;(with_reducible refine (jv.calls k _ _ aY a1 t115 _ ?bW ?df A8.out).mono ?_);(case bW=>repeat (first|exact (Kd.bJ iq.out HB.out)|(with_reducible refine Kd.bM ?_ _)|(with_reducible refine Kd.bK ?_ _)|(with_reducible refine Kd.dB ?_)));(case df=>exact iC.out);rintro e w' ⟨rfl,⟨nd,rfl⟩⟩)|((with_reducible refine bu (f:=70) rfl ?_);refine dQ (some 26) rfl rfl Tryd.func70 (by kernel_rfl) rfl #[.slice dX aY.length dW,.int .i64 a1,.int .i64 a2] rfl (by (try simp only [List.map_toArray,List.map_cons,List.map_nil]);first|done|rfl|(simp only [List.length_drop,List.length_take];rfl)) ?_;(with_reducible refine (nD.calls k _ _ aY a1 a2 t116 _ ?bW ?df A12.out).mono ?_);(case bW=>repeat (first|exact (Kd.bJ iq.out (by repeat (first|(with_reducible first|exact HB.out|apply ah|apply af|apply ai|refine aj ?_ jw.out)|exact HB.out)))|(with_reducible refine Kd.bM ?_ _)|(with_reducible refine Kd.bK ?_ _)|(with_reducible refine Kd.dB ?_)));(case df=>exact iC.out);rintro e w' ⟨rfl,⟨nd,rfl⟩⟩;refine ⟨_,rfl,?_⟩))
    go_ret2
    exact ⟨by first|rfl|(simp [aQ,aN] <;> rfl)|(simp [*,aQ,aN] <;> rfl),by repeat (first|(with_reducible first|exact HB.out|apply ah|apply af|apply ai|refine aj ?_ jw.out)|exact HB.out)⟩
def gG.f (k:Nat) (aY:List ByteArray) (aT:ByteArray) (aU:ByteArray) (aI:List (gY)) (a1:Int) (a2:Int):Option (Bool):=(gK.f k aY aT aU aI a1 a2).bind fun lN=>(if lN.2=true then (some (decide (lN.1 < 0))) else (some false))
theorem gG.mono:∀ a0 a1 a2 a3 a4 a5 k,dK (gG.f k a0 a1 a2 a3 a4 a5) (gG.f (k+1) a0 a1 a2 a3 a4 a5):=by
 intro a0 a1 a2 a3 a4 a5 k
 unfold gG.f
 repeat' with_reducible first|apply gK.mono|exact dK.refl _|exact dK.none _|refine dK.ite ?_ ?_|refine dK.bind ?_ (fun _=>?_)
set_option maxHeartbeats 8000000 in
set_option maxRecDepth 100000 in
theorem gG.calls (k:Nat) (dX:Option Addr) (dW:Nat) (aY:List ByteArray) (aT:ByteArray) (aU:ByteArray) (fQ:Option Addr) (eH:Nat) (aI:List (gY)) (a1:Int) (a2:Int) (r:Bool) (w:World) (jF:Kd.C Kd.string w dX aY.length aY) (jH:aY.length≤dW) (jE:Kd.C tu w fQ aI.length aI) (jG:aI.length≤eH) (h:gG.f k aY aT aU aI a1 a2=some r) :
  Calls Tryd.prog 57 #[.agg #[.slice dX aY.length dW,.string aT,.string aU,.slice fQ aI.length eH],.int .i64 a1,.int .i64 a2] w fun e w'=>e=.returned (.bool r)∧Below w.heap.size w w':=by
 have xA:=Tryd.underlying25
 have iq:=ae.mk jF
 have iC:=ae.mk jH
 clear jF jH
 have jB:=ae.mk jE
 have jS:=ae.mk jG
 clear jE jG
 have HB:=ae.mk (Below.refl w.heap.size w)
 have H:((gK.f k aY aT aU aI a1 a2).bind fun lN=>(if lN.2=true then (some (decide (lN.1 < 0))) else (some false)))=some r:=h
 clear h
 replace H:=Option.bind_eq_some_iff.mp H
 obtain ⟨⟨t118,t119⟩,Aw,H⟩:=H
 replace H:(if t119=true then (some (decide (t118 < 0))) else (some false))=some r:=H
 have A4:=ae.mk Aw
 clear Aw
 by_cases c5:t119=true
 ·
  subst c5
  have H1:(some (decide (t118 < 0)))=some r:=by rw [if_pos rfl] at H;exact H
  clear H
  have H:=H1
  clear H1
  obtain rfl:=Option.some.inj H
  go_enter Tryd.func57,Tryd.ntmps57
  go_wp2_with (first|((with_reducible refine dN (N:=3) rfl ?_);refine fB ?hg (N:=3) ?hd (cs:=#[.slice dX aY.length dW,.string aT,.string aU,.slice fQ aI.length eH]) (t:=25) ?hr ?_;(case hd=>rfl);(case hg=>rfl);(case hr=>first|(go_simp;done)|(go_simp;rfl));intro ry hg w6 hbox hb;have dS:=ae.mk (bg (by repeat (first|(with_reducible first|exact HB.out|apply ah|apply af|apply ai)|exact HB.out)) hb);have dR:=ae.mk (hbox);have dO:=ae.mk ((by rw [hg];exact (bQ (by repeat (first|(with_reducible first|exact HB.out|apply ah|apply af|apply ai)|exact HB.out))):w.heap.size≤ry));have gQ:=dO;clear HB;have HB:=dS;have ny:=dR;have acR:=dO;have Fv:=gQ;clear dS dR dO gQ;clear hb hbox hg;have ajT:w6.cell? ⟨ry,0,none⟩=some (.slice dX aY.length dW):=(ax ny.out 0).trans rfl;have ajS:w6.cell? ⟨ry,1,none⟩=some (.string aT):=(ax ny.out 1).trans rfl;have ajR:w6.cell? ⟨ry,2,none⟩=some (.string aU):=(ax ny.out 2).trans rfl;have ajQ:w6.cell? ⟨ry,3,none⟩=some (.slice fQ aI.length eH):=(ax ny.out 3).trans rfl;have ajJ:=aC ny.out 0;have ajI:=aC ny.out 1;have ajH:=aC ny.out 2;have ajG:=aC ny.out 3)|((with_reducible refine bu (f:=58) rfl ?_);refine dQ (some 13) rfl rfl Tryd.func58 (by kernel_rfl) rfl #[.agg #[.slice dX aY.length dW,.string aT,.string aU,.slice fQ aI.length eH],.int .i64 a1,.int .i64 a2] rfl (by (try simp only [List.map_toArray,List.map_cons,List.map_nil]);first|done|rfl|(simp only [List.length_drop,List.length_take];rfl)) ?_;(with_reducible refine (gK.calls k _ _ aY aT aU _ _ aI a1 a2 t118 true _ ?bW ?df ?iM ?iL A4.out).mono ?_);(case bW=>repeat (first|exact (Kd.bJ iq.out HB.out)|(with_reducible refine Kd.bM ?_ _)|(with_reducible refine Kd.bK ?_ _)|(with_reducible refine Kd.dB ?_)));(case df=>exact iC.out);(case iM=>repeat (first|exact (Kd.bJ jB.out HB.out)|(with_reducible refine Kd.bM ?_ _)|(with_reducible refine Kd.bK ?_ _)|(with_reducible refine Kd.dB ?_)));(case iL=>exact jS.out);rintro e w8 ⟨rfl,hb⟩;refine ⟨_,rfl,?_⟩;have dS:=ae.mk (bf (g:=ry) (o:=.cells #[.slice dX aY.length dW,.string aT,.string aU,.slice fQ aI.length eH] 25 (0,0)) (by (with_reducible repeat (first|refine au ?_ _|refine ay ?_|refine ak ?_ _));exact ny.out) hb);have dR:=ae.mk (bg (by repeat (first|(with_reducible first|exact HB.out|apply ah|apply af|apply ai|refine aj ?_ Fv.out)|exact HB.out)) hb);clear ny;clear HB;have ny:=dS;have HB:=dR;clear dS dR;(try clear hb);(try clear hb2);(try clear hk);(try clear hi)))
  go_ret
  exact ⟨by first|rfl|(simp [aQ,aN] <;> rfl)|(simp [*,aQ,aN] <;> rfl),by repeat (first|(with_reducible first|exact HB.out|apply ah|apply af|apply ai|refine aj ?_ Fv.out)|exact HB.out)⟩
 ·
  replace c5:=Bool.eq_false_iff.mpr c5
  subst c5
  have H1:(some false)=some r:=by rw [if_neg (show ¬ (false=true) by decide)] at H;exact H
  clear H
  have H:=H1
  clear H1
  obtain rfl:=Option.some.inj H
  go_enter Tryd.func57,Tryd.ntmps57
  go_wp2_with (first|((with_reducible refine dN (N:=3) rfl ?_);refine fB ?hg (N:=3) ?hd (cs:=#[.slice dX aY.length dW,.string aT,.string aU,.slice fQ aI.length eH]) (t:=25) ?hr ?_;(case hd=>rfl);(case hg=>rfl);(case hr=>first|(go_simp;done)|(go_simp;rfl));intro ry hg w9 hbox hb;have dS:=ae.mk (bg (by repeat (first|(with_reducible first|exact HB.out|apply ah|apply af|apply ai)|exact HB.out)) hb);have dR:=ae.mk (hbox);have dO:=ae.mk ((by rw [hg];exact (bQ (by repeat (first|(with_reducible first|exact HB.out|apply ah|apply af|apply ai)|exact HB.out))):w.heap.size≤ry));have gQ:=dO;clear HB;have HB:=dS;have ny:=dR;have acR:=dO;have Fv:=gQ;clear dS dR dO gQ;clear hb hbox hg;have wR:w9.cell? ⟨ry,0,none⟩=some (.slice dX aY.length dW):=(ax ny.out 0).trans rfl;have wQ:w9.cell? ⟨ry,1,none⟩=some (.string aT):=(ax ny.out 1).trans rfl;have wP:w9.cell? ⟨ry,2,none⟩=some (.string aU):=(ax ny.out 2).trans rfl;have wO:w9.cell? ⟨ry,3,none⟩=some (.slice fQ aI.length eH):=(ax ny.out 3).trans rfl;have wM:=aC ny.out 0;have wL:=aC ny.out 1;have wK:=aC ny.out 2;have wJ:=aC ny.out 3)|((with_reducible refine bu (f:=58) rfl ?_);refine dQ (some 13) rfl rfl Tryd.func58 (by kernel_rfl) rfl #[.agg #[.slice dX aY.length dW,.string aT,.string aU,.slice fQ aI.length eH],.int .i64 a1,.int .i64 a2] rfl (by (try simp only [List.map_toArray,List.map_cons,List.map_nil]);first|done|rfl|(simp only [List.length_drop,List.length_take];rfl)) ?_;(with_reducible refine (gK.calls k _ _ aY aT aU _ _ aI a1 a2 t118 false _ ?bW ?df ?iM ?iL A4.out).mono ?_);(case bW=>repeat (first|exact (Kd.bJ iq.out HB.out)|(with_reducible refine Kd.bM ?_ _)|(with_reducible refine Kd.bK ?_ _)|(with_reducible refine Kd.dB ?_)));(case df=>exact iC.out);(case iM=>repeat (first|exact (Kd.bJ jB.out HB.out)|(with_reducible refine Kd.bM ?_ _)|(with_reducible refine Kd.bK ?_ _)|(with_reducible refine Kd.dB ?_)));(case iL=>exact jS.out);rintro e w11 ⟨rfl,hb⟩;refine ⟨_,rfl,?_⟩;have dS:=ae.mk (bf (g:=ry) (o:=.cells #[.slice dX aY.length dW,.string aT,.string aU,.slice fQ aI.length eH] 25 (0,0)) (by (with_reducible repeat (first|refine au ?_ _|refine ay ?_|refine ak ?_ _));exact ny.out) hb);have dR:=ae.mk (bg (by repeat (first|(with_reducible first|exact HB.out|apply ah|apply af|apply ai|refine aj ?_ Fv.out)|exact HB.out)) hb);clear ny;clear HB;have ny:=dS;have HB:=dR;clear dS dR;(try clear hb);(try clear hb2);(try clear hk);(try clear hi)))
  go_ret
  exact ⟨by first|rfl|(simp [aQ,aN] <;> rfl)|(simp [*,aQ,aN] <;> rfl),by repeat (first|(with_reducible first|exact HB.out|apply ah|apply af|apply ai|refine aj ?_ Fv.out)|exact HB.out)⟩
def jd.f (k:Nat) (aY:List ByteArray) (aT:ByteArray) (aU:ByteArray) (aI:List (gY)) (a1:Int):Option (Int):=(iO.f k aY aU a1).bind fun t121=>(some t121)
theorem jd.mono:∀ a0 a1 a2 a3 a4 k,dK (jd.f k a0 a1 a2 a3 a4) (jd.f (k+1) a0 a1 a2 a3 a4):=by
 intro a0 a1 a2 a3 a4 k
 unfold jd.f
 repeat' with_reducible first|apply iO.mono|exact dK.refl _|exact dK.none _|refine dK.ite ?_ ?_|refine dK.bind ?_ (fun _=>?_)
set_option maxHeartbeats 8000000 in
set_option maxRecDepth 100000 in
theorem jd.calls (k:Nat) (dX:Option Addr) (dW:Nat) (aY:List ByteArray) (aT:ByteArray) (aU:ByteArray) (fQ:Option Addr) (eH:Nat) (aI:List (gY)) (a1:Int) (r:Int) (w:World) (jF:Kd.C Kd.string w dX aY.length aY) (jH:aY.length≤dW) (jE:Kd.C tu w fQ aI.length aI) (jG:aI.length≤eH) (h:jd.f k aY aT aU aI a1=some r) :
  Calls Tryd.prog 59 #[.agg #[.slice dX aY.length dW,.string aT,.string aU,.slice fQ aI.length eH],.int .u8 a1] w fun e w'=>e=.returned (.int .i64 r)∧Below w.heap.size w w':=by
 have xA:=Tryd.underlying25
 have iq:=ae.mk jF
 have iC:=ae.mk jH
 clear jF jH
 have jB:=ae.mk jE
 have jS:=ae.mk jG
 clear jE jG
 have HB:=ae.mk (Below.refl w.heap.size w)
 have H:((iO.f k aY aU a1).bind fun t121=>(some t121))=some r:=h
 clear h
 replace H:=Option.bind_eq_some_iff.mp H
 obtain ⟨t121,xh,H⟩:=H
 replace H:(some t121)=some r:=H
 have A3:=ae.mk xh
 clear xh
 obtain rfl:=Option.some.inj H
 go_enter Tryd.func59,Tryd.ntmps59
 go_wp2_with (first|((with_reducible refine dN (N:=2) rfl ?_);refine fB ?hg (N:=2) ?hd (cs:=#[.slice dX aY.length dW,.string aT,.string aU,.slice fQ aI.length eH]) (t:=25) ?hr ?_;(case hd=>rfl);(case hg=>rfl);(case hr=>first|(go_simp;done)|(go_simp;rfl));intro EI hg w4 hbox hb;have dS:=ae.mk (bg (by repeat (first|(with_reducible first|exact HB.out|apply ah|apply af|apply ai)|exact HB.out)) hb);have dR:=ae.mk (hbox);have dO:=ae.mk ((by rw [hg];exact (bQ (by repeat (first|(with_reducible first|exact HB.out|apply ah|apply af|apply ai)|exact HB.out))):w.heap.size≤EI));have gQ:=dO;clear HB;have HB:=dS;have yf:=dR;have am5:=dO;have acW:=gQ;clear dS dR dO gQ;clear hb hbox hg;have zV:w4.cell? ⟨EI,0,none⟩=some (.slice dX aY.length dW):=(ax yf.out 0).trans rfl;have zU:w4.cell? ⟨EI,1,none⟩=some (.string aT):=(ax yf.out 1).trans rfl;have zT:w4.cell? ⟨EI,2,none⟩=some (.string aU):=(ax yf.out 2).trans rfl;have zS:w4.cell? ⟨EI,3,none⟩=some (.slice fQ aI.length eH):=(ax yf.out 3).trans rfl;have zQ:=aC yf.out 0;have zO:=aC yf.out 1;have zN:=aC yf.out 2;have zM:=aC yf.out 3)|((with_reducible refine bu (f:=61) rfl ?_);refine dQ (some 10) rfl rfl Tryd.func61 (by kernel_rfl) rfl #[.slice dX aY.length dW,.string aU,.int .u8 a1] rfl (by (try simp only [List.map_toArray,List.map_cons,List.map_nil]);first|done|rfl|(simp only [List.length_drop,List.length_take];rfl)) ?_;(with_reducible refine (iO.calls k _ _ aY aU a1 t121 _ ?bW ?df A3.out).mono ?_);(case bW=>repeat (first|exact (Kd.bJ iq.out HB.out)|(with_reducible refine Kd.bM ?_ _)|(with_reducible refine Kd.bK ?_ _)|(with_reducible refine Kd.dB ?_)));(case df=>exact iC.out);rintro e w' ⟨rfl,⟨nd,rfl⟩⟩;refine ⟨_,rfl,?_⟩))
 go_ret
 exact ⟨by first|rfl|(simp [aQ,aN] <;> rfl)|(simp [*,aQ,aN] <;> rfl),by repeat (first|(with_reducible first|exact HB.out|apply ah|apply af|apply ai|refine aj ?_ acW.out)|exact HB.out)⟩
end Go.Proofs.YtlemecdddhdagaaDoor.P
end
