/- Parts of the proof of ModelRight: what the functions that it reaches compute, and plain facts about that. -/
import Derived.Test.YtlemecdddhdagaaDoorVab
import Derived.Test.YtlemecdddhdagaaDoorVad
set_option linter.unusedVariables false
set_option linter.unusedSimpArgs false
section
namespace Go.Proofs.YtlemecdddhdagaaDoor.P
open Go.RowKit Go.Proofs.ag.bI Go.Proofs.ag.dM Go.Proofs.ag.dZ
attribute [local go_sem] kU kS lW lV jS jR kT kR
def nH.f (k:Nat) (l0:List ByteArray) (a1:Int) (a2:Int):Option (Int):=(kY.f k l0 a1).bind fun t112=>(if a2 < 0 then (some (-1)) else (if a2 ≥ (t112.size:Int) then (some (-1)) else (if 0≤a2 then (if a2 < (t112.size:Int) then ((jy.f (bt t112 a2) (l0.length:Int)).bind fun t113=>(some t113)) else (none)) else (none))))
theorem nH.mono:∀ a0 a1 a2 k,dN (nH.f k a0 a1 a2) (nH.f (k+1) a0 a1 a2):=by
 intro a0 a1 a2 k
 unfold nH.f
 repeat' with_reducible first|apply kY.mono|exact dN.refl _|exact dN.none _|refine dN.ite ?_ ?_|refine dN.bind ?_ (fun _=>?_)
set_option maxHeartbeats 8000000 in
set_option maxRecDepth 100000 in
theorem nH.calls (k:Nat) (A0:Option Addr) (c0:Nat) (l0:List ByteArray) (a1:Int) (a2:Int) (r:Int) (w:World) (hr0:Kd.C Kd.string w A0 l0.length l0) (hc0:l0.length≤c0) (h:nH.f k l0 a1 a2=some r) :
  Calls Tryd.prog 70 #[.slice A0 l0.length c0,.int .i64 a1,.int .i64 a2] w fun e w'=>e=.returned (.int .i64 r)∧aT w w':=by
 have HR0:=ae.mk hr0
 have tY:=ae.mk hc0
 clear hr0 hc0
 have H:((kY.f k l0 a1).bind fun t112=>(if a2 < 0 then (some (-1)) else (if a2 ≥ (t112.size:Int) then (some (-1)) else (if 0≤a2 then (if a2 < (t112.size:Int) then ((jy.f (bt t112 a2) (l0.length:Int)).bind fun t113=>(some t113)) else (none)) else (none)))))=some r:=h
 clear h
 replace H:=Option.bind_eq_some_iff.mp H
 obtain ⟨t112,Be,H⟩:=H
 replace H:(if a2 < 0 then (some (-1)) else (if a2 ≥ (t112.size:Int) then (some (-1)) else (if 0≤a2 then (if a2 < (t112.size:Int) then ((jy.f (bt t112 a2) (l0.length:Int)).bind fun t113=>(some t113)) else (none)) else (none))))=some r:=H
 have A4:=ae.mk Be
 clear Be
 by_cases c5:a2 < 0
 ·
  rw [if_pos c5] at H
  have qO:decide (a2 < 0)=true:=decide_eq_true c5
  clear c5
  obtain rfl:=Option.some.inj H
  go_enter Tryd.func70,Tryd.ntmps70
  go_wp2_with (first|((with_reducible refine bu (f:=60) rfl ?_);refine dS (some 10) rfl rfl Tryd.func60 (by kernel_rfl) rfl #[.slice A0 l0.length c0,.int .i64 a1] rfl (by (try simp only [List.map_toArray,List.map_cons,List.map_nil]);first|done|rfl|(simp only [List.length_drop,List.length_take];rfl)) ?_;(with_reducible refine (kY.calls k _ _ l0 a1 t112 _ ?cu ?dw A4.out).mono ?_);(case cu=>repeat (first|exact HR0.out|(with_reducible refine Kd.bT ?_ _)|(with_reducible refine Kd.bQ ?_ _)|(with_reducible refine Kd.dD ?_)));(case dw=>exact tY.out);rintro e w' ⟨rfl,⟨nd,rfl⟩⟩;refine ⟨_,rfl,?_⟩))
  go_ret
  exact ⟨by first|rfl|(simp;done)|(simp [*];done),by repeat (first|exact aT.refl _|apply aT.step)⟩
 ·
  rw [if_neg c5] at H
  have qO:decide (a2 < 0)=false:=decide_eq_false c5
  clear c5
  by_cases c6:a2 ≥ (t112.size:Int)
  ·
   rw [if_pos c6] at H
   have nR:decide ((t112.size:Int)≤a2)=true:=decide_eq_true c6
   clear c6
   obtain rfl:=Option.some.inj H
   go_enter Tryd.func70,Tryd.ntmps70
   go_wp2_with (first|((with_reducible refine bu (f:=60) rfl ?_);refine dS (some 10) rfl rfl Tryd.func60 (by kernel_rfl) rfl #[.slice A0 l0.length c0,.int .i64 a1] rfl (by (try simp only [List.map_toArray,List.map_cons,List.map_nil]);first|done|rfl|(simp only [List.length_drop,List.length_take];rfl)) ?_;(with_reducible refine (kY.calls k _ _ l0 a1 t112 _ ?cu ?dw A4.out).mono ?_);(case cu=>repeat (first|exact HR0.out|(with_reducible refine Kd.bT ?_ _)|(with_reducible refine Kd.bQ ?_ _)|(with_reducible refine Kd.dD ?_)));(case dw=>exact tY.out);rintro e w' ⟨rfl,⟨nd,rfl⟩⟩;refine ⟨_,rfl,?_⟩))
   go_ret
   exact ⟨by first|rfl|(simp;done)|(simp [*];done),by repeat (first|exact aT.refl _|apply aT.step)⟩
  ·
   rw [if_neg c6] at H
   have nR:decide ((t112.size:Int)≤a2)=false:=decide_eq_false c6
   clear c6
   by_cases c7:0≤a2
   ·
    rw [if_pos c7] at H
    have nV:decide (0≤a2)=true:=decide_eq_true c7
    clear c7
    by_cases c8:a2 < (t112.size:Int)
    ·
     rw [if_pos c8] at H
     have oU:decide (a2 < (t112.size:Int))=true:=decide_eq_true c8
     clear c8
     replace H:=Option.bind_eq_some_iff.mp H
     obtain ⟨t113,BF,H⟩:=H
     replace H:(some t113)=some r:=H
     have X6:=ae.mk BF
     clear BF
     obtain rfl:=Option.some.inj H
     go_enter Tryd.func70,Tryd.ntmps70
     go_wp2_with (first|((with_reducible refine bu (f:=60) rfl ?_);refine dS (some 10) rfl rfl Tryd.func60 (by kernel_rfl) rfl #[.slice A0 l0.length c0,.int .i64 a1] rfl (by (try simp only [List.map_toArray,List.map_cons,List.map_nil]);first|done|rfl|(simp only [List.length_drop,List.length_take];rfl)) ?_;(with_reducible refine (kY.calls k _ _ l0 a1 t112 _ ?cu ?dw A4.out).mono ?_);(case cu=>repeat (first|exact HR0.out|(with_reducible refine Kd.bT ?_ _)|(with_reducible refine Kd.bQ ?_ _)|(with_reducible refine Kd.dD ?_)));(case dw=>exact tY.out);rintro e w' ⟨rfl,⟨nd,rfl⟩⟩;refine ⟨_,rfl,?_⟩;have p9:0≤(a2:Int):=of_decide_eq_true (by first|(with_reducible assumption)|assumption);have q9:a2 < (t112.size:Int):=of_decide_eq_true (by first|(with_reducible assumption)|assumption);have hx9:=kL t112 a2;replace p9:=eq_true p9;replace q9:=eq_true q9)|((with_reducible refine bu (f:=51) rfl ?_);refine dS (some 24) rfl rfl Tryd.func51 (by kernel_rfl) rfl #[.int .u8 (bt t112 a2),.int .i64 (l0.length:Int)] rfl (by (try simp only [List.map_toArray,List.map_cons,List.map_nil]);first|done|rfl|(simp only [List.length_drop,List.length_take];rfl)) ?_;(with_reducible refine (jy.calls (bt t112 a2) (l0.length:Int) t113 _ X6.out).mono ?_);rintro e w' ⟨rfl,⟨nd,rfl⟩⟩;refine ⟨_,rfl,?_⟩))
     go_ret
     exact ⟨by first|rfl|(simp;done)|(simp [*];done),by repeat (first|exact aT.refl _|apply aT.step)⟩
    ·
     rw [if_neg c8] at H
     exact absurd H (by simp)
   ·
    rw [if_neg c7] at H
    exact absurd H (by simp)
def gK.f (k:Nat) (aY:List ByteArray) (aU:ByteArray) (aV:ByteArray) (aI:List (gZ)) (a1:Int) (a2:Int):Option (Int × Bool):=if a1 < 0 then (some ((-1),false)) else (if a2 < 0 then (some ((-1),false)) else ((jC.f k aY a1).bind fun t115=>(if a2 ≥ t115 then (some ((-1),false)) else ((nH.f k aY a1 a2).bind fun t116=>(some (t116,true))))))
theorem gK.mono:∀ a0 a1 a2 a3 a4 a5 k,dN (gK.f k a0 a1 a2 a3 a4 a5) (gK.f (k+1) a0 a1 a2 a3 a4 a5):=by
 intro a0 a1 a2 a3 a4 a5 k
 unfold gK.f
 repeat' with_reducible first|apply jC.mono|apply nH.mono|exact dN.refl _|exact dN.none _|refine dN.ite ?_ ?_|refine dN.bind ?_ (fun _=>?_)
set_option maxHeartbeats 8000000 in
set_option maxRecDepth 100000 in
theorem gK.calls (k:Nat) (eu:Option Addr) (ed:Nat) (aY:List ByteArray) (aU:ByteArray) (aV:ByteArray) (fV:Option Addr) (eX:Nat) (aI:List (gZ)) (a1:Int) (a2:Int) (r1:Int) (r2:Bool) (w:World) (jK:Kd.C Kd.string w eu aY.length aY) (jM:aY.length≤ed) (jJ:Kd.C tZ w fV aI.length aI) (jL:aI.length≤eX) (h:gK.f k aY aU aV aI a1 a2=some (r1,r2)) :
  Calls Tryd.prog 58 #[.agg #[.slice eu aY.length ed,.string aU,.string aV,.slice fV aI.length eX],.int .i64 a1,.int .i64 a2] w fun e w'=>e=.returned (.tuple #[.int .i64 r1,.bool r2])∧Below w.heap.size w w':=by
 have xM:=Tryd.underlying25
 have iq:=ae.mk jK
 have iC:=ae.mk jM
 clear jK jM
 have jG:=ae.mk jJ
 have jW:=ae.mk jL
 clear jJ jL
 have HB:=ae.mk (Below.refl w.heap.size w)
 have H:(if a1 < 0 then (some ((-1),false)) else (if a2 < 0 then (some ((-1),false)) else ((jC.f k aY a1).bind fun t115=>(if a2 ≥ t115 then (some ((-1),false)) else ((nH.f k aY a1 a2).bind fun t116=>(some (t116,true)))))))=some (r1,r2):=h
 clear h
 by_cases c4:a1 < 0
 ·
  rw [if_pos c4] at H
  have nM:decide (a1 < 0)=true:=decide_eq_true c4
  clear c4
  simp only [Option.some.injEq,Prod.mk.injEq] at H
  obtain ⟨rfl,rfl⟩:=H
  go_enter Tryd.func58,Tryd.ntmps58
  go_wp2_with (first|((with_reducible refine dL (N:=3) rfl ?_);refine fF ?hg (N:=3) ?hd (cs:=#[.slice eu aY.length ed,.string aU,.string aV,.slice fV aI.length eX]) (t:=25) ?hr ?_;(case hd=>rfl);(case hg=>rfl);(case hr=>first|(go_simp;done)|(go_simp;rfl));intro eQ hg w5 hbox hb;have dV:=ae.mk (bg (by repeat (first|(with_reducible first|exact HB.out|apply ah|apply af|apply ai)|exact HB.out)) hb);have dU:=ae.mk (hbox);have dR:=ae.mk ((by rw [hg];exact (bW (by repeat (first|(with_reducible first|exact HB.out|apply ah|apply af|apply ai)|exact HB.out))):w.heap.size≤eQ));have gQ:=dR;clear HB;have HB:=dV;have bZ:=dU;have Lj:=dR;have jE:=gQ;clear dV dU dR gQ;clear hb hbox hg))
  go_ret2
  exact ⟨by first|rfl|(simp [aQ,aN] <;> rfl)|(simp [*,aQ,aN] <;> rfl),by repeat (first|(with_reducible first|exact HB.out|apply ah|apply af|apply ai|refine aj ?_ jE.out)|exact HB.out)⟩
 ·
  rw [if_neg c4] at H
  have nM:decide (a1 < 0)=false:=decide_eq_false c4
  clear c4
  by_cases c6:a2 < 0
  ·
   rw [if_pos c6] at H
   have nR:decide (a2 < 0)=true:=decide_eq_true c6
   clear c6
   simp only [Option.some.injEq,Prod.mk.injEq] at H
   obtain ⟨rfl,rfl⟩:=H
   go_enter Tryd.func58,Tryd.ntmps58
   go_wp2_with (first|((with_reducible refine dL (N:=3) rfl ?_);refine fF ?hg (N:=3) ?hd (cs:=#[.slice eu aY.length ed,.string aU,.string aV,.slice fV aI.length eX]) (t:=25) ?hr ?_;(case hd=>rfl);(case hg=>rfl);(case hr=>first|(go_simp;done)|(go_simp;rfl));intro eQ hg w7 hbox hb;have dV:=ae.mk (bg (by repeat (first|(with_reducible first|exact HB.out|apply ah|apply af|apply ai)|exact HB.out)) hb);have dU:=ae.mk (hbox);have dR:=ae.mk ((by rw [hg];exact (bW (by repeat (first|(with_reducible first|exact HB.out|apply ah|apply af|apply ai)|exact HB.out))):w.heap.size≤eQ));have gQ:=dR;clear HB;have HB:=dV;have bZ:=dU;have Lj:=dR;have jE:=gQ;clear dV dU dR gQ;clear hb hbox hg))
   go_ret2
   exact ⟨by first|rfl|(simp [aQ,aN] <;> rfl)|(simp [*,aQ,aN] <;> rfl),by repeat (first|(with_reducible first|exact HB.out|apply ah|apply af|apply ai|refine aj ?_ jE.out)|exact HB.out)⟩
  ·
   rw [if_neg c6] at H
   have nR:decide (a2 < 0)=false:=decide_eq_false c6
   clear c6
   replace H:=Option.bind_eq_some_iff.mp H
   obtain ⟨t115,X4,H⟩:=H
   replace H:(if a2 ≥ t115 then (some ((-1),false)) else ((nH.f k aY a1 a2).bind fun t116=>(some (t116,true))))=some (r1,r2):=H
   have A8:=ae.mk X4
   clear X4
   by_cases c9:a2 ≥ t115
   ·
    rw [if_pos c9] at H
    have Eb:decide (t115≤a2)=true:=decide_eq_true c9
    clear c9
    simp only [Option.some.injEq,Prod.mk.injEq] at H
    obtain ⟨rfl,rfl⟩:=H
    go_enter Tryd.func58,Tryd.ntmps58
    go_wp2_with (first|((with_reducible refine dL (N:=3) rfl ?_);refine fF ?hg (N:=3) ?hd (cs:=#[.slice eu aY.length ed,.string aU,.string aV,.slice fV aI.length eX]) (t:=25) ?hr ?_;(case hd=>rfl);(case hg=>rfl);(case hr=>first|(go_simp;done)|(go_simp;rfl));intro eQ hg w10 hbox hb;have dV:=ae.mk (bg (by repeat (first|(with_reducible first|exact HB.out|apply ah|apply af|apply ai)|exact HB.out)) hb);have dU:=ae.mk (hbox);have dR:=ae.mk ((by rw [hg];exact (bW (by repeat (first|(with_reducible first|exact HB.out|apply ah|apply af|apply ai)|exact HB.out))):w.heap.size≤eQ));have gQ:=dR;clear HB;have HB:=dV;have bZ:=dU;have Lj:=dR;have jE:=gQ;clear dV dU dR gQ;clear hb hbox hg;have zn:w10.cell? ⟨eQ,0,none⟩=some (.slice eu aY.length ed):=(ax bZ.out 0).trans rfl;have zl:w10.cell? ⟨eQ,1,none⟩=some (.string aU):=(ax bZ.out 1).trans rfl;have zk:w10.cell? ⟨eQ,2,none⟩=some (.string aV):=(ax bZ.out 2).trans rfl;have zi:w10.cell? ⟨eQ,3,none⟩=some (.slice fV aI.length eX):=(ax bZ.out 3).trans rfl;have yY:=aC bZ.out 0;have yX:=aC bZ.out 1;have yV:=aC bZ.out 2;have yU:=aC bZ.out 3)|(go_at_call 35;(with_reducible refine (jC.calls k _ _ aY a1 t115 _ ?cu ?dw A8.out).mono ?_);(case cu=>repeat (first|exact (Kd.bK iq.out HB.out)|(with_reducible refine Kd.bT ?_ _)|(with_reducible refine Kd.bQ ?_ _)|(with_reducible refine Kd.dD ?_)));(case dw=>exact iC.out);rintro e w' ⟨rfl,⟨nd,rfl⟩⟩))
    go_ret2
    exact ⟨by first|rfl|(simp [aQ,aN] <;> rfl)|(simp [*,aQ,aN] <;> rfl),by repeat (first|(with_reducible first|exact HB.out|apply ah|apply af|apply ai|refine aj ?_ jE.out)|exact HB.out)⟩
   ·
    rw [if_neg c9] at H
    have Eb:decide (t115≤a2)=false:=decide_eq_false c9
    clear c9
    replace H:=Option.bind_eq_some_iff.mp H
    obtain ⟨t116,QA,H⟩:=H
    replace H:(some (t116,true))=some (r1,r2):=H
    have A12:=ae.mk QA
    clear QA
    simp only [Option.some.injEq,Prod.mk.injEq] at H
    obtain ⟨rfl,rfl⟩:=H
    go_enter Tryd.func58,Tryd.ntmps58
    go_wp2_with (first|((with_reducible refine dL (N:=3) rfl ?_);refine fF ?hg (N:=3) ?hd (cs:=#[.slice eu aY.length ed,.string aU,.string aV,.slice fV aI.length eX]) (t:=25) ?hr ?_;(case hd=>rfl);(case hg=>rfl);(case hr=>first|(go_simp;done)|(go_simp;rfl));intro eQ hg Yb hbox hb;have dV:=ae.mk (bg (by repeat (first|(with_reducible first|exact HB.out|apply ah|apply af|apply ai)|exact HB.out)) hb);have dU:=ae.mk (hbox);have dR:=ae.mk ((by rw [hg];exact (bW (by repeat (first|(with_reducible first|exact HB.out|apply ah|apply af|apply ai)|exact HB.out))):w.heap.size≤eQ));have gQ:=dR;clear HB;have HB:=dV;have bZ:=dU;have Lj:=dR;have jE:=gQ;clear dV dU dR gQ;clear hb hbox hg;have VV:Yb.cell? ⟨eQ,0,none⟩=some (.slice eu aY.length ed):=(ax bZ.out 0).trans rfl;have VU:Yb.cell? ⟨eQ,1,none⟩=some (.string aU):=(ax bZ.out 1).trans rfl;have VT:Yb.cell? ⟨eQ,2,none⟩=some (.string aV):=(ax bZ.out 2).trans rfl;have VS:Yb.cell? ⟨eQ,3,none⟩=some (.slice fV aI.length eX):=(ax bZ.out 3).trans rfl;have Us:=aC bZ.out 0;have Ur:=aC bZ.out 1;have Uo:=aC bZ.out 2;have Un:=aC bZ.out 3)|(go_at_call 35;(with_reducible refine (jC.calls k _ _ aY a1 t115 _ ?cu ?dw A8.out).mono ?_);(case cu=>repeat (first|exact (Kd.bK iq.out HB.out)|(with_reducible refine Kd.bT ?_ _)|(with_reducible refine Kd.bQ ?_ _)|(with_reducible refine Kd.dD ?_)));(case dw=>exact iC.out);rintro e w' ⟨rfl,⟨nd,rfl⟩⟩)|((with_reducible refine bu (f:=70) rfl ?_);refine dS (some 26) rfl rfl Tryd.func70 (by kernel_rfl) rfl #[.slice eu aY.length ed,.int .i64 a1,.int .i64 a2] rfl (by (try simp only [List.map_toArray,List.map_cons,List.map_nil]);first|done|rfl|(simp only [List.length_drop,List.length_take];rfl)) ?_;(with_reducible refine (nH.calls k _ _ aY a1 a2 t116 _ ?cu ?dw A12.out).mono ?_);(case cu=>repeat (first|exact (Kd.bK iq.out (by repeat (first|(with_reducible first|exact HB.out|apply ah|apply af|apply ai|refine aj ?_ jE.out)|exact HB.out)))|(with_reducible refine Kd.bT ?_ _)|(with_reducible refine Kd.bQ ?_ _)|(with_reducible refine Kd.dD ?_)));(case dw=>exact iC.out);rintro e w' ⟨rfl,⟨nd,rfl⟩⟩;refine ⟨_,rfl,?_⟩))
    go_ret2
    exact ⟨by first|rfl|(simp [aQ,aN] <;> rfl)|(simp [*,aQ,aN] <;> rfl),by repeat (first|(with_reducible first|exact HB.out|apply ah|apply af|apply ai|refine aj ?_ jE.out)|exact HB.out)⟩
def gI.f (k:Nat) (aY:List ByteArray) (aU:ByteArray) (aV:ByteArray) (aI:List (gZ)) (a1:Int) (a2:Int):Option (Bool):=(gK.f k aY aU aV aI a1 a2).bind fun lS=>(if lS.2=true then (some (decide (lS.1 < 0))) else (some false))
theorem gI.mono:∀ a0 a1 a2 a3 a4 a5 k,dN (gI.f k a0 a1 a2 a3 a4 a5) (gI.f (k+1) a0 a1 a2 a3 a4 a5):=by
 intro a0 a1 a2 a3 a4 a5 k
 unfold gI.f
 repeat' with_reducible first|apply gK.mono|exact dN.refl _|exact dN.none _|refine dN.ite ?_ ?_|refine dN.bind ?_ (fun _=>?_)
set_option maxHeartbeats 8000000 in
set_option maxRecDepth 100000 in
theorem gI.calls (k:Nat) (eu:Option Addr) (ed:Nat) (aY:List ByteArray) (aU:ByteArray) (aV:ByteArray) (fV:Option Addr) (eX:Nat) (aI:List (gZ)) (a1:Int) (a2:Int) (r:Bool) (w:World) (jK:Kd.C Kd.string w eu aY.length aY) (jM:aY.length≤ed) (jJ:Kd.C tZ w fV aI.length aI) (jL:aI.length≤eX) (h:gI.f k aY aU aV aI a1 a2=some r) :
  Calls Tryd.prog 57 #[.agg #[.slice eu aY.length ed,.string aU,.string aV,.slice fV aI.length eX],.int .i64 a1,.int .i64 a2] w fun e w'=>e=.returned (.bool r)∧Below w.heap.size w w':=by
 have xM:=Tryd.underlying25
 have iq:=ae.mk jK
 have iC:=ae.mk jM
 clear jK jM
 have jG:=ae.mk jJ
 have jW:=ae.mk jL
 clear jJ jL
 have HB:=ae.mk (Below.refl w.heap.size w)
 have H:((gK.f k aY aU aV aI a1 a2).bind fun lS=>(if lS.2=true then (some (decide (lS.1 < 0))) else (some false)))=some r:=h
 clear h
 replace H:=Option.bind_eq_some_iff.mp H
 obtain ⟨⟨t118,t119⟩,Be,H⟩:=H
 replace H:(if t119=true then (some (decide (t118 < 0))) else (some false))=some r:=H
 have A4:=ae.mk Be
 clear Be
 by_cases c5:t119=true
 ·
  subst c5
  have H1:(some (decide (t118 < 0)))=some r:=by rw [if_pos rfl] at H;exact H
  clear H
  have H:=H1
  clear H1
  obtain rfl:=Option.some.inj H
  go_enter Tryd.func57,Tryd.ntmps57
  go_wp2_with (first|((with_reducible refine dL (N:=3) rfl ?_);refine fF ?hg (N:=3) ?hd (cs:=#[.slice eu aY.length ed,.string aU,.string aV,.slice fV aI.length eX]) (t:=25) ?hr ?_;(case hd=>rfl);(case hg=>rfl);(case hr=>first|(go_simp;done)|(go_simp;rfl));intro rE hg w6 hbox hb;have dV:=ae.mk (bg (by repeat (first|(with_reducible first|exact HB.out|apply ah|apply af|apply ai)|exact HB.out)) hb);have dU:=ae.mk (hbox);have dR:=ae.mk ((by rw [hg];exact (bW (by repeat (first|(with_reducible first|exact HB.out|apply ah|apply af|apply ai)|exact HB.out))):w.heap.size≤rE));have gQ:=dR;clear HB;have HB:=dV;have nC:=dU;have adI:=dR;have F8:=gQ;clear dV dU dR gQ;clear hb hbox hg;have akK:w6.cell? ⟨rE,0,none⟩=some (.slice eu aY.length ed):=(ax nC.out 0).trans rfl;have akJ:w6.cell? ⟨rE,1,none⟩=some (.string aU):=(ax nC.out 1).trans rfl;have akI:w6.cell? ⟨rE,2,none⟩=some (.string aV):=(ax nC.out 2).trans rfl;have akH:w6.cell? ⟨rE,3,none⟩=some (.slice fV aI.length eX):=(ax nC.out 3).trans rfl;have akA:=aC nC.out 0;have akz:=aC nC.out 1;have aky:=aC nC.out 2;have akx:=aC nC.out 3)|((with_reducible refine bu (f:=58) rfl ?_);refine dS (some 13) rfl rfl Tryd.func58 (by kernel_rfl) rfl #[.agg #[.slice eu aY.length ed,.string aU,.string aV,.slice fV aI.length eX],.int .i64 a1,.int .i64 a2] rfl (by (try simp only [List.map_toArray,List.map_cons,List.map_nil]);first|done|rfl|(simp only [List.length_drop,List.length_take];rfl)) ?_;(with_reducible refine (gK.calls k _ _ aY aU aV _ _ aI a1 a2 t118 true _ ?cu ?dw ?iM ?iL A4.out).mono ?_);(case cu=>repeat (first|exact (Kd.bK iq.out HB.out)|(with_reducible refine Kd.bT ?_ _)|(with_reducible refine Kd.bQ ?_ _)|(with_reducible refine Kd.dD ?_)));(case dw=>exact iC.out);(case iM=>repeat (first|exact (Kd.bK jG.out HB.out)|(with_reducible refine Kd.bT ?_ _)|(with_reducible refine Kd.bQ ?_ _)|(with_reducible refine Kd.dD ?_)));(case iL=>exact jW.out);rintro e w8 ⟨rfl,hb⟩;refine ⟨_,rfl,?_⟩;have dV:=ae.mk (bf (g:=rE) (o:=.cells #[.slice eu aY.length ed,.string aU,.string aV,.slice fV aI.length eX] 25 (0,0)) (by (with_reducible repeat (first|refine au ?_ _|refine ay ?_|refine ak ?_ _));exact nC.out) hb);have dU:=ae.mk (bg (by repeat (first|(with_reducible first|exact HB.out|apply ah|apply af|apply ai|refine aj ?_ F8.out)|exact HB.out)) hb);clear nC;clear HB;have nC:=dV;have HB:=dU;clear dV dU;(try clear hb);(try clear hb2);(try clear hk);(try clear hi)))
  go_ret
  exact ⟨by first|rfl|(simp [aQ,aN] <;> rfl)|(simp [*,aQ,aN] <;> rfl),by repeat (first|(with_reducible first|exact HB.out|apply ah|apply af|apply ai|refine aj ?_ F8.out)|exact HB.out)⟩
 ·
  replace c5:=Bool.eq_false_iff.mpr c5
  subst c5
  have H1:(some false)=some r:=by rw [if_neg (show ¬ (false=true) by decide)] at H;exact H
  clear H
  have H:=H1
  clear H1
  obtain rfl:=Option.some.inj H
  go_enter Tryd.func57,Tryd.ntmps57
  go_wp2_with (first|((with_reducible refine dL (N:=3) rfl ?_);refine fF ?hg (N:=3) ?hd (cs:=#[.slice eu aY.length ed,.string aU,.string aV,.slice fV aI.length eX]) (t:=25) ?hr ?_;(case hd=>rfl);(case hg=>rfl);(case hr=>first|(go_simp;done)|(go_simp;rfl));intro rE hg w9 hbox hb;have dV:=ae.mk (bg (by repeat (first|(with_reducible first|exact HB.out|apply ah|apply af|apply ai)|exact HB.out)) hb);have dU:=ae.mk (hbox);have dR:=ae.mk ((by rw [hg];exact (bW (by repeat (first|(with_reducible first|exact HB.out|apply ah|apply af|apply ai)|exact HB.out))):w.heap.size≤rE));have gQ:=dR;clear HB;have HB:=dV;have nC:=dU;have adI:=dR;have F8:=gQ;clear dV dU dR gQ;clear hb hbox hg;have xe:w9.cell? ⟨rE,0,none⟩=some (.slice eu aY.length ed):=(ax nC.out 0).trans rfl;have wZ:w9.cell? ⟨rE,1,none⟩=some (.string aU):=(ax nC.out 1).trans rfl;have wY:w9.cell? ⟨rE,2,none⟩=some (.string aV):=(ax nC.out 2).trans rfl;have wX:w9.cell? ⟨rE,3,none⟩=some (.slice fV aI.length eX):=(ax nC.out 3).trans rfl;have wW:=aC nC.out 0;have wV:=aC nC.out 1;have wU:=aC nC.out 2;have wS:=aC nC.out 3)|((with_reducible refine bu (f:=58) rfl ?_);refine dS (some 13) rfl rfl Tryd.func58 (by kernel_rfl) rfl #[.agg #[.slice eu aY.length ed,.string aU,.string aV,.slice fV aI.length eX],.int .i64 a1,.int .i64 a2] rfl (by (try simp only [List.map_toArray,List.map_cons,List.map_nil]);first|done|rfl|(simp only [List.length_drop,List.length_take];rfl)) ?_;(with_reducible refine (gK.calls k _ _ aY aU aV _ _ aI a1 a2 t118 false _ ?cu ?dw ?iM ?iL A4.out).mono ?_);(case cu=>repeat (first|exact (Kd.bK iq.out HB.out)|(with_reducible refine Kd.bT ?_ _)|(with_reducible refine Kd.bQ ?_ _)|(with_reducible refine Kd.dD ?_)));(case dw=>exact iC.out);(case iM=>repeat (first|exact (Kd.bK jG.out HB.out)|(with_reducible refine Kd.bT ?_ _)|(with_reducible refine Kd.bQ ?_ _)|(with_reducible refine Kd.dD ?_)));(case iL=>exact jW.out);rintro e w11 ⟨rfl,hb⟩;refine ⟨_,rfl,?_⟩;have dV:=ae.mk (bf (g:=rE) (o:=.cells #[.slice eu aY.length ed,.string aU,.string aV,.slice fV aI.length eX] 25 (0,0)) (by (with_reducible repeat (first|refine au ?_ _|refine ay ?_|refine ak ?_ _));exact nC.out) hb);have dU:=ae.mk (bg (by repeat (first|(with_reducible first|exact HB.out|apply ah|apply af|apply ai|refine aj ?_ F8.out)|exact HB.out)) hb);clear nC;clear HB;have nC:=dV;have HB:=dU;clear dV dU;(try clear hb);(try clear hb2);(try clear hk);(try clear hi)))
  go_ret
  exact ⟨by first|rfl|(simp [aQ,aN] <;> rfl)|(simp [*,aQ,aN] <;> rfl),by repeat (first|(with_reducible first|exact HB.out|apply ah|apply af|apply ai|refine aj ?_ F8.out)|exact HB.out)⟩
def jf.f (k:Nat) (aY:List ByteArray) (aU:ByteArray) (aV:ByteArray) (aI:List (gZ)) (a1:Int):Option (Int):=(iO.f k aY aV a1).bind fun t121=>(some t121)
theorem jf.mono:∀ a0 a1 a2 a3 a4 k,dN (jf.f k a0 a1 a2 a3 a4) (jf.f (k+1) a0 a1 a2 a3 a4):=by
 intro a0 a1 a2 a3 a4 k
 unfold jf.f
 repeat' with_reducible first|apply iO.mono|exact dN.refl _|exact dN.none _|refine dN.ite ?_ ?_|refine dN.bind ?_ (fun _=>?_)
set_option maxHeartbeats 8000000 in
set_option maxRecDepth 100000 in
theorem jf.calls (k:Nat) (eu:Option Addr) (ed:Nat) (aY:List ByteArray) (aU:ByteArray) (aV:ByteArray) (fV:Option Addr) (eX:Nat) (aI:List (gZ)) (a1:Int) (r:Int) (w:World) (jK:Kd.C Kd.string w eu aY.length aY) (jM:aY.length≤ed) (jJ:Kd.C tZ w fV aI.length aI) (jL:aI.length≤eX) (h:jf.f k aY aU aV aI a1=some r) :
  Calls Tryd.prog 59 #[.agg #[.slice eu aY.length ed,.string aU,.string aV,.slice fV aI.length eX],.int .u8 a1] w fun e w'=>e=.returned (.int .i64 r)∧Below w.heap.size w w':=by
 have xM:=Tryd.underlying25
 have iq:=ae.mk jK
 have iC:=ae.mk jM
 clear jK jM
 have jG:=ae.mk jJ
 have jW:=ae.mk jL
 clear jJ jL
 have HB:=ae.mk (Below.refl w.heap.size w)
 have H:((iO.f k aY aV a1).bind fun t121=>(some t121))=some r:=h
 clear h
 replace H:=Option.bind_eq_some_iff.mp H
 obtain ⟨t121,xB,H⟩:=H
 replace H:(some t121)=some r:=H
 have A3:=ae.mk xB
 clear xB
 obtain rfl:=Option.some.inj H
 go_enter Tryd.func59,Tryd.ntmps59
 go_wp2_with (first|((with_reducible refine dL (N:=2) rfl ?_);refine fF ?hg (N:=2) ?hd (cs:=#[.slice eu aY.length ed,.string aU,.string aV,.slice fV aI.length eX]) (t:=25) ?hr ?_;(case hd=>rfl);(case hg=>rfl);(case hr=>first|(go_simp;done)|(go_simp;rfl));intro Fe hg w4 hbox hb;have dV:=ae.mk (bg (by repeat (first|(with_reducible first|exact HB.out|apply ah|apply af|apply ai)|exact HB.out)) hb);have dU:=ae.mk (hbox);have dR:=ae.mk ((by rw [hg];exact (bW (by repeat (first|(with_reducible first|exact HB.out|apply ah|apply af|apply ai)|exact HB.out))):w.heap.size≤Fe));have gQ:=dR;clear HB;have HB:=dV;have yB:=dU;have an5:=dR;have adN:=gQ;clear dV dU dR gQ;clear hb hbox hg;have Aj:w4.cell? ⟨Fe,0,none⟩=some (.slice eu aY.length ed):=(ax yB.out 0).trans rfl;have Ai:w4.cell? ⟨Fe,1,none⟩=some (.string aU):=(ax yB.out 1).trans rfl;have Ah:w4.cell? ⟨Fe,2,none⟩=some (.string aV):=(ax yB.out 2).trans rfl;have Ag:w4.cell? ⟨Fe,3,none⟩=some (.slice fV aI.length eX):=(ax yB.out 3).trans rfl;have Af:=aC yB.out 0;have Ae:=aC yB.out 1;have Ad:=aC yB.out 2;have Ac:=aC yB.out 3)|((with_reducible refine bu (f:=61) rfl ?_);refine dS (some 10) rfl rfl Tryd.func61 (by kernel_rfl) rfl #[.slice eu aY.length ed,.string aV,.int .u8 a1] rfl (by (try simp only [List.map_toArray,List.map_cons,List.map_nil]);first|done|rfl|(simp only [List.length_drop,List.length_take];rfl)) ?_;(with_reducible refine (iO.calls k _ _ aY aV a1 t121 _ ?cu ?dw A3.out).mono ?_);(case cu=>repeat (first|exact (Kd.bK iq.out HB.out)|(with_reducible refine Kd.bT ?_ _)|(with_reducible refine Kd.bQ ?_ _)|(with_reducible refine Kd.dD ?_)));(case dw=>exact iC.out);rintro e w' ⟨rfl,⟨nd,rfl⟩⟩;refine ⟨_,rfl,?_⟩))
 go_ret
 exact ⟨by first|rfl|(simp [aQ,aN] <;> rfl)|(simp [*,aQ,aN] <;> rfl),by repeat (first|(with_reducible first|exact HB.out|apply ah|apply af|apply ai|refine aj ?_ adN.out)|exact HB.out)⟩
end Go.Proofs.YtlemecdddhdagaaDoor.P
end
