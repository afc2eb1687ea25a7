/- Parts of the proof of ModelRuns: what the functions that it reaches compute, and plain facts about that. -/
import Derived.Test.YtlemecdddhdagaaDoorYab
import Derived.Test.YtlemecdddhdagaaDoorYad
set_option linter.unusedVariables false
set_option linter.unusedSimpArgs false
section
namespace Go.Proofs.YtlemecdddhdagaaDoor.P
open Go.RowKit Go.Proofs.af.bD Go.Proofs.af.dB Go.Proofs.af.dM
attribute [local go_sem] lq lg mG mF jY jX lh kZ
def nU.f (k:Nat) (l0:List ByteArray) (a1:Int) (a2:Int):Option (Int):=(lH.f k l0 a1).bind fun t112=>(if a2 < 0 then (some (-1)) else (if a2 ≥ (t112.size:Int) then (some (-1)) else (if 0≤a2 then (if a2 < (t112.size:Int) then ((jD.f (bt t112 a2) (l0.length:Int)).bind fun t113=>(some t113)) else (none)) else (none))))
theorem nU.mono:∀ a0 a1 a2 k,dO (nU.f k a0 a1 a2) (nU.f (k+1) a0 a1 a2):=by
 intro a0 a1 a2 k
 unfold nU.f
 repeat' with_reducible first|apply lH.mono|exact dO.refl _|exact dO.none _|refine dO.ite ?_ ?_|refine dO.bind ?_ (fun _=>?_)
set_option maxHeartbeats 8000000 in
set_option maxRecDepth 100000 in
theorem nU.calls (k:Nat) (A0:Option Addr) (c0:Nat) (l0:List ByteArray) (a1:Int) (a2:Int) (r:Int) (w:World) (hr0:Kd.C Kd.string w A0 l0.length l0) (hc0:l0.length≤c0) (h:nU.f k l0 a1 a2=some r) :
  Calls Tryd.prog 70 #[.slice A0 l0.length c0,.int .i64 a1,.int .i64 a2] w fun e w'=>e=.returned (.int .i64 r)∧aT w w':=by
 have HR0:=ae.mk hr0
 have sZ:=ae.mk hc0
 clear hr0 hc0
 have H:((lH.f k l0 a1).bind fun t112=>(if a2 < 0 then (some (-1)) else (if a2 ≥ (t112.size:Int) then (some (-1)) else (if 0≤a2 then (if a2 < (t112.size:Int) then ((jD.f (bt t112 a2) (l0.length:Int)).bind fun t113=>(some t113)) else (none)) else (none)))))=some r:=h
 clear h
 replace H:=Option.bind_eq_some_iff.mp H
 obtain ⟨t112,BL,H⟩:=H
 replace H:(if a2 < 0 then (some (-1)) else (if a2 ≥ (t112.size:Int) then (some (-1)) else (if 0≤a2 then (if a2 < (t112.size:Int) then ((jD.f (bt t112 a2) (l0.length:Int)).bind fun t113=>(some t113)) else (none)) else (none))))=some r:=H
 have A4:=ae.mk BL
 clear BL
 by_cases c5:a2 < 0
 ·
  rw [if_pos c5] at H
  have rG:decide (a2 < 0)=true:=decide_eq_true c5
  clear c5
  obtain rfl:=Option.some.inj H
  go_enter Tryd.func70,Tryd.ntmps70
  go_wp2_with (first|((with_reducible refine bz (f:=60) rfl ?_);refine dS (some 10) rfl rfl Tryd.func60 (by kernel_rfl) rfl #[.slice A0 l0.length c0,.int .i64 a1] rfl (by (try simp only [List.map_toArray,List.map_cons,List.map_nil]);first|done|rfl|(simp only [List.length_drop,List.length_take];rfl)) ?_;(with_reducible refine (lH.calls k _ _ l0 a1 t112 _ ?bZ ?dh A4.out).mono ?_);(case bZ=>repeat (first|exact HR0.out|(with_reducible refine Kd.bP ?_ _)|(with_reducible refine Kd.bQ ?_ _)|(with_reducible refine Kd.dD ?_)));(case dh=>exact sZ.out);rintro e w' ⟨rfl,⟨nd,rfl⟩⟩;refine ⟨_,rfl,?_⟩))
  go_ret
  exact ⟨by first|rfl|(simp;done)|(simp [*];done),by repeat (first|exact aT.refl _|apply aT.step)⟩
 ·
  rw [if_neg c5] at H
  have rG:decide (a2 < 0)=false:=decide_eq_false c5
  clear c5
  by_cases c6:a2 ≥ (t112.size:Int)
  ·
   rw [if_pos c6] at H
   have oH:decide ((t112.size:Int)≤a2)=true:=decide_eq_true c6
   clear c6
   obtain rfl:=Option.some.inj H
   go_enter Tryd.func70,Tryd.ntmps70
   go_wp2_with (first|((with_reducible refine bz (f:=60) rfl ?_);refine dS (some 10) rfl rfl Tryd.func60 (by kernel_rfl) rfl #[.slice A0 l0.length c0,.int .i64 a1] rfl (by (try simp only [List.map_toArray,List.map_cons,List.map_nil]);first|done|rfl|(simp only [List.length_drop,List.length_take];rfl)) ?_;(with_reducible refine (lH.calls k _ _ l0 a1 t112 _ ?bZ ?dh A4.out).mono ?_);(case bZ=>repeat (first|exact HR0.out|(with_reducible refine Kd.bP ?_ _)|(with_reducible refine Kd.bQ ?_ _)|(with_reducible refine Kd.dD ?_)));(case dh=>exact sZ.out);rintro e w' ⟨rfl,⟨nd,rfl⟩⟩;refine ⟨_,rfl,?_⟩))
   go_ret
   exact ⟨by first|rfl|(simp;done)|(simp [*];done),by repeat (first|exact aT.refl _|apply aT.step)⟩
  ·
   rw [if_neg c6] at H
   have oH:decide ((t112.size:Int)≤a2)=false:=decide_eq_false c6
   clear c6
   by_cases c7:0≤a2
   ·
    rw [if_pos c7] at H
    have oM:decide (0≤a2)=true:=decide_eq_true c7
    clear c7
    by_cases c8:a2 < (t112.size:Int)
    ·
     rw [if_pos c8] at H
     have pM:decide (a2 < (t112.size:Int))=true:=decide_eq_true c8
     clear c8
     replace H:=Option.bind_eq_some_iff.mp H
     obtain ⟨t113,Cm,H⟩:=H
     replace H:(some t113)=some r:=H
     have Zh:=ae.mk Cm
     clear Cm
     obtain rfl:=Option.some.inj H
     go_enter Tryd.func70,Tryd.ntmps70
     go_wp2_with (first|((with_reducible refine bz (f:=60) rfl ?_);refine dS (some 10) rfl rfl Tryd.func60 (by kernel_rfl) rfl #[.slice A0 l0.length c0,.int .i64 a1] rfl (by (try simp only [List.map_toArray,List.map_cons,List.map_nil]);first|done|rfl|(simp only [List.length_drop,List.length_take];rfl)) ?_;(with_reducible refine (lH.calls k _ _ l0 a1 t112 _ ?bZ ?dh A4.out).mono ?_);(case bZ=>repeat (first|exact HR0.out|(with_reducible refine Kd.bP ?_ _)|(with_reducible refine Kd.bQ ?_ _)|(with_reducible refine Kd.dD ?_)));(case dh=>exact sZ.out);rintro e w' ⟨rfl,⟨nd,rfl⟩⟩;refine ⟨_,rfl,?_⟩;have p9:0≤(a2:Int):=of_decide_eq_true (by first|(with_reducible assumption)|assumption);have q9:a2 < (t112.size:Int):=of_decide_eq_true (by first|(with_reducible assumption)|assumption);have hx9:=kR t112 a2;replace p9:=eq_true p9;replace q9:=eq_true q9)|((with_reducible refine bz (f:=51) rfl ?_);refine dS (some 24) rfl rfl Tryd.func51 (by kernel_rfl) rfl #[.int .u8 (bt t112 a2),.int .i64 (l0.length:Int)] rfl (by (try simp only [List.map_toArray,List.map_cons,List.map_nil]);first|done|rfl|(simp only [List.length_drop,List.length_take];rfl)) ?_;(with_reducible refine (jD.calls (bt t112 a2) (l0.length:Int) t113 _ Zh.out).mono ?_);rintro e w' ⟨rfl,⟨nd,rfl⟩⟩;refine ⟨_,rfl,?_⟩))
     go_ret
     exact ⟨by first|rfl|(simp;done)|(simp [*];done),by repeat (first|exact aT.refl _|apply aT.step)⟩
    ·
     rw [if_neg c8] at H
     exact absurd H (by simp)
   ·
    rw [if_neg c7] at H
    exact absurd H (by simp)
def gY.f (k:Nat) (aZ:List ByteArray) (aU:ByteArray) (aV:ByteArray) (aI:List (iw)) (a1:Int) (a2:Int):Option (Int × Bool):=if a1 < 0 then (some ((-1),false)) else (if a2 < 0 then (some ((-1),false)) else ((jG.f k aZ a1).bind fun t115=>(if a2 ≥ t115 then (some ((-1),false)) else ((nU.f k aZ a1 a2).bind fun t116=>(some (t116,true))))))
theorem gY.mono:∀ a0 a1 a2 a3 a4 a5 k,dO (gY.f k a0 a1 a2 a3 a4 a5) (gY.f (k+1) a0 a1 a2 a3 a4 a5):=by
 intro a0 a1 a2 a3 a4 a5 k
 unfold gY.f
 repeat' with_reducible first|apply jG.mono|apply nU.mono|exact dO.refl _|exact dO.none _|refine dO.ite ?_ ?_|refine dO.bind ?_ (fun _=>?_)
set_option maxHeartbeats 8000000 in
set_option maxRecDepth 100000 in
theorem gY.calls (k:Nat) (ed:Option Addr) (dZ:Nat) (aZ:List ByteArray) (aU:ByteArray) (aV:ByteArray) (gm:Option Addr) (eU:Nat) (aI:List (iw)) (a1:Int) (a2:Int) (r1:Int) (r2:Bool) (w:World) (jO:Kd.C Kd.string w ed aZ.length aZ) (jQ:aZ.length≤dZ) (jM:Kd.C uq w gm aI.length aI) (jP:aI.length≤eU) (h:gY.f k aZ aU aV aI a1 a2=some (r1,r2)) :
  Calls Tryd.prog 58 #[.agg #[.slice ed aZ.length dZ,.string aU,.string aV,.slice gm aI.length eU],.int .i64 a1,.int .i64 a2] w fun e w'=>e=.returned (.tuple #[.int .i64 r1,.bool r2])∧Below w.heap.size w w':=by
 have yx:=Tryd.underlying25
 have iH:=ae.mk jO
 have iK:=ae.mk jQ
 clear jO jQ
 have jJ:=ae.mk jM
 have kC:=ae.mk jP
 clear jM jP
 have HB:=ae.mk (Below.refl w.heap.size w)
 have H:(if a1 < 0 then (some ((-1),false)) else (if a2 < 0 then (some ((-1),false)) else ((jG.f k aZ a1).bind fun t115=>(if a2 ≥ t115 then (some ((-1),false)) else ((nU.f k aZ a1 a2).bind fun t116=>(some (t116,true)))))))=some (r1,r2):=h
 clear h
 by_cases c4:a1 < 0
 ·
  rw [if_pos c4] at H
  have oq:decide (a1 < 0)=true:=decide_eq_true c4
  clear c4
  simp only [Option.some.injEq,Prod.mk.injEq] at H
  obtain ⟨rfl,rfl⟩:=H
  go_enter Tryd.func58,Tryd.ntmps58
  go_wp2_with (first|((with_reducible refine bI (N:=3) rfl ?_);refine fF ?hg (N:=3) ?hd (cs:=#[.slice ed aZ.length dZ,.string aU,.string aV,.slice gm aI.length eU]) (t:=25) ?hr ?_;(case hd=>rfl);(case hg=>rfl);(case hr=>first|(go_simp;done)|(go_simp;rfl));intro eP hg w5 hbox hb;have dV:=ae.mk (bn (by repeat (first|(with_reducible first|exact HB.out|apply ah|apply ag|apply ai)|exact HB.out)) hb);have dU:=ae.mk (hbox);have dR:=ae.mk ((by rw [hg];exact (bU (by repeat (first|(with_reducible first|exact HB.out|apply ah|apply ag|apply ai)|exact HB.out))):w.heap.size≤eP));have gZ:=dR;clear HB;have HB:=dV;have bY:=dU;have Nr:=dR;have jH:=gZ;clear dV dU dR gZ;clear hb hbox hg))
  go_ret2
  exact ⟨by first|rfl|(simp [aQ,aN] <;> rfl)|(simp [*,aQ,aN] <;> rfl),by repeat (first|(with_reducible first|exact HB.out|apply ah|apply ag|apply ai|refine aj ?_ jH.out)|exact HB.out)⟩
 ·
  rw [if_neg c4] at H
  have oq:decide (a1 < 0)=false:=decide_eq_false c4
  clear c4
  by_cases c6:a2 < 0
  ·
   rw [if_pos c6] at H
   have oH:decide (a2 < 0)=true:=decide_eq_true c6
   clear c6
   simp only [Option.some.injEq,Prod.mk.injEq] at H
   obtain ⟨rfl,rfl⟩:=H
   go_enter Tryd.func58,Tryd.ntmps58
   go_wp2_with (first|((with_reducible refine bI (N:=3) rfl ?_);refine fF ?hg (N:=3) ?hd (cs:=#[.slice ed aZ.length dZ,.string aU,.string aV,.slice gm aI.length eU]) (t:=25) ?hr ?_;(case hd=>rfl);(case hg=>rfl);(case hr=>first|(go_simp;done)|(go_simp;rfl));intro eP hg w7 hbox hb;have dV:=ae.mk (bn (by repeat (first|(with_reducible first|exact HB.out|apply ah|apply ag|apply ai)|exact HB.out)) hb);have dU:=ae.mk (hbox);have dR:=ae.mk ((by rw [hg];exact (bU (by repeat (first|(with_reducible first|exact HB.out|apply ah|apply ag|apply ai)|exact HB.out))):w.heap.size≤eP));have gZ:=dR;clear HB;have HB:=dV;have bY:=dU;have Nr:=dR;have jH:=gZ;clear dV dU dR gZ;clear hb hbox hg))
   go_ret2
   exact ⟨by first|rfl|(simp [aQ,aN] <;> rfl)|(simp [*,aQ,aN] <;> rfl),by repeat (first|(with_reducible first|exact HB.out|apply ah|apply ag|apply ai|refine aj ?_ jH.out)|exact HB.out)⟩
  ·
   rw [if_neg c6] at H
   have oH:decide (a2 < 0)=false:=decide_eq_false c6
   clear c6
   replace H:=Option.bind_eq_some_iff.mp H
   obtain ⟨t115,Zf,H⟩:=H
   replace H:(if a2 ≥ t115 then (some ((-1),false)) else ((nU.f k aZ a1 a2).bind fun t116=>(some (t116,true))))=some (r1,r2):=H
   have A8:=ae.mk Zf
   clear Zf
   by_cases c9:a2 ≥ t115
   ·
    rw [if_pos c9] at H
    have EU:decide (t115≤a2)=true:=decide_eq_true c9
    clear c9
    simp only [Option.some.injEq,Prod.mk.injEq] at H
    obtain ⟨rfl,rfl⟩:=H
    go_enter Tryd.func58,Tryd.ntmps58
    go_wp2_with (first|((with_reducible refine bI (N:=3) rfl ?_);refine fF ?hg (N:=3) ?hd (cs:=#[.slice ed aZ.length dZ,.string aU,.string aV,.slice gm aI.length eU]) (t:=25) ?hr ?_;(case hd=>rfl);(case hg=>rfl);(case hr=>first|(go_simp;done)|(go_simp;rfl));intro eP hg w10 hbox hb;have dV:=ae.mk (bn (by repeat (first|(with_reducible first|exact HB.out|apply ah|apply ag|apply ai)|exact HB.out)) hb);have dU:=ae.mk (hbox);have dR:=ae.mk ((by rw [hg];exact (bU (by repeat (first|(with_reducible first|exact HB.out|apply ah|apply ag|apply ai)|exact HB.out))):w.heap.size≤eP));have gZ:=dR;clear HB;have HB:=dV;have bY:=dU;have Nr:=dR;have jH:=gZ;clear dV dU dR gZ;clear hb hbox hg;have zS:w10.cell? ⟨eP,0,none⟩=some (.slice ed aZ.length dZ):=(ax bY.out 0).trans rfl;have zQ:w10.cell? ⟨eP,1,none⟩=some (.string aU):=(ax bY.out 1).trans rfl;have zO:w10.cell? ⟨eP,2,none⟩=some (.string aV):=(ax bY.out 2).trans rfl;have zN:w10.cell? ⟨eP,3,none⟩=some (.slice gm aI.length eU):=(ax bY.out 3).trans rfl;have zI:=aC bY.out 0;have zH:=aC bY.out 1;have zG:=aC bY.out 2;have zF:=aC bY.out 3)|(go_at_call 35;(with_reducible refine (jG.calls k _ _ aZ a1 t115 _ ?bZ ?dh A8.out).mono ?_);(case bZ=>repeat (first|exact (Kd.bJ iH.out HB.out)|(with_reducible refine Kd.bP ?_ _)|(with_reducible refine Kd.bQ ?_ _)|(with_reducible refine Kd.dD ?_)));(case dh=>exact iK.out);rintro e w' ⟨rfl,⟨nd,rfl⟩⟩))
    go_ret2
    exact ⟨by first|rfl|(simp [aQ,aN] <;> rfl)|(simp [*,aQ,aN] <;> rfl),by repeat (first|(with_reducible first|exact HB.out|apply ah|apply ag|apply ai|refine aj ?_ jH.out)|exact HB.out)⟩
   ·
    rw [if_neg c9] at H
    have EU:decide (t115≤a2)=false:=decide_eq_false c9
    clear c9
    replace H:=Option.bind_eq_some_iff.mp H
    obtain ⟨t116,Sz,H⟩:=H
    replace H:(some (t116,true))=some (r1,r2):=H
    have A12:=ae.mk Sz
    clear Sz
    simp only [Option.some.injEq,Prod.mk.injEq] at H
    obtain ⟨rfl,rfl⟩:=H
    go_enter Tryd.func58,Tryd.ntmps58
    go_wp2_with (first|((with_reducible refine bI (N:=3) rfl ?_);refine fF ?hg (N:=3) ?hd (cs:=#[.slice ed aZ.length dZ,.string aU,.string aV,.slice gm aI.length eU]) (t:=25) ?hr ?_;(case hd=>rfl);(case hg=>rfl);(case hr=>first|(go_simp;done)|(go_simp;rfl));intro eP hg Zm hbox hb;have dV:=ae.mk (bn (by repeat (first|(with_reducible first|exact HB.out|apply ah|apply ag|apply ai)|exact HB.out)) hb);have dU:=ae.mk (hbox);have dR:=ae.mk ((by rw [hg];exact (bU (by repeat (first|(with_reducible first|exact HB.out|apply ah|apply ag|apply ai)|exact HB.out))):w.heap.size≤eP));have gZ:=dR;clear HB;have HB:=dV;have bY:=dU;have Nr:=dR;have jH:=gZ;clear dV dU dR gZ;clear hb hbox hg;have Xz:Zm.cell? ⟨eP,0,none⟩=some (.slice ed aZ.length dZ):=(ax bY.out 0).trans rfl;have Xy:Zm.cell? ⟨eP,1,none⟩=some (.string aU):=(ax bY.out 1).trans rfl;have Xx:Zm.cell? ⟨eP,2,none⟩=some (.string aV):=(ax bY.out 2).trans rfl;have Xw:Zm.cell? ⟨eP,3,none⟩=some (.slice gm aI.length eU):=(ax bY.out 3).trans rfl;have VJ:=aC bY.out 0;have VI:=aC bY.out 1;have VH:=aC bY.out 2;have VG:=aC bY.out 3)|(go_at_call 35;(with_reducible refine (jG.calls k _ _ aZ a1 t115 _ ?bZ ?dh A8.out).mono ?_);(case bZ=>repeat (first|exact (Kd.bJ iH.out HB.out)|(with_reducible refine Kd.bP ?_ _)|(with_reducible refine Kd.bQ ?_ _)|(with_reducible refine Kd.dD ?_)));(case dh=>exact iK.out);rintro e w' ⟨rfl,⟨nd,rfl⟩⟩)|((with_reducible refine bz (f:=70) rfl ?_);refine dS (some 26) rfl rfl Tryd.func70 (by kernel_rfl) rfl #[.slice ed aZ.length dZ,.int .i64 a1,.int .i64 a2] rfl (by (try simp only [List.map_toArray,List.map_cons,List.map_nil]);first|done|rfl|(simp only [List.length_drop,List.length_take];rfl)) ?_;(with_reducible refine (nU.calls k _ _ aZ a1 a2 t116 _ ?bZ ?dh A12.out).mono ?_);(case bZ=>repeat (first|exact (Kd.bJ iH.out (by repeat (first|(with_reducible first|exact HB.out|apply ah|apply ag|apply ai|refine aj ?_ jH.out)|exact HB.out)))|(with_reducible refine Kd.bP ?_ _)|(with_reducible refine Kd.bQ ?_ _)|(with_reducible refine Kd.dD ?_)));(case dh=>exact iK.out);rintro e w' ⟨rfl,⟨nd,rfl⟩⟩;refine ⟨_,rfl,?_⟩))
    go_ret2
    exact ⟨by first|rfl|(simp [aQ,aN] <;> rfl)|(simp [*,aQ,aN] <;> rfl),by repeat (first|(with_reducible first|exact HB.out|apply ah|apply ag|apply ai|refine aj ?_ jH.out)|exact HB.out)⟩
def gQ.f (k:Nat) (aZ:List ByteArray) (aU:ByteArray) (aV:ByteArray) (aI:List (iw)) (a1:Int) (a2:Int):Option (Bool):=(gY.f k aZ aU aV aI a1 a2).bind fun mf=>(if mf.2=true then (some (decide (mf.1 < 0))) else (some false))
theorem gQ.mono:∀ a0 a1 a2 a3 a4 a5 k,dO (gQ.f k a0 a1 a2 a3 a4 a5) (gQ.f (k+1) a0 a1 a2 a3 a4 a5):=by
 intro a0 a1 a2 a3 a4 a5 k
 unfold gQ.f
 repeat' with_reducible first|apply gY.mono|exact dO.refl _|exact dO.none _|refine dO.ite ?_ ?_|refine dO.bind ?_ (fun _=>?_)
set_option maxHeartbeats 8000000 in
set_option maxRecDepth 100000 in
theorem gQ.calls (k:Nat) (ed:Option Addr) (dZ:Nat) (aZ:List ByteArray) (aU:ByteArray) (aV:ByteArray) (gm:Option Addr) (eU:Nat) (aI:List (iw)) (a1:Int) (a2:Int) (r:Bool) (w:World) (jO:Kd.C Kd.string w ed aZ.length aZ) (jQ:aZ.length≤dZ) (jM:Kd.C uq w gm aI.length aI) (jP:aI.length≤eU) (h:gQ.f k aZ aU aV aI a1 a2=some r) :
  Calls Tryd.prog 57 #[.agg #[.slice ed aZ.length dZ,.string aU,.string aV,.slice gm aI.length eU],.int .i64 a1,.int .i64 a2] w fun e w'=>e=.returned (.bool r)∧Below w.heap.size w w':=by
 have yx:=Tryd.underlying25
 have iH:=ae.mk jO
 have iK:=ae.mk jQ
 clear jO jQ
 have jJ:=ae.mk jM
 have kC:=ae.mk jP
 clear jM jP
 have HB:=ae.mk (Below.refl w.heap.size w)
 have H:((gY.f k aZ aU aV aI a1 a2).bind fun mf=>(if mf.2=true then (some (decide (mf.1 < 0))) else (some false)))=some r:=h
 clear h
 replace H:=Option.bind_eq_some_iff.mp H
 obtain ⟨⟨t118,t119⟩,BL,H⟩:=H
 replace H:(if t119=true then (some (decide (t118 < 0))) else (some false))=some r:=H
 have A4:=ae.mk BL
 clear BL
 by_cases c5:t119=true
 ·
  subst c5
  have H1:(some (decide (t118 < 0)))=some r:=by rw [if_pos rfl] at H;exact H
  clear H
  have H:=H1
  clear H1
  obtain rfl:=Option.some.inj H
  go_enter Tryd.func57,Tryd.ntmps57
  go_wp2_with (first|((with_reducible refine bI (N:=3) rfl ?_);refine fF ?hg (N:=3) ?hd (cs:=#[.slice ed aZ.length dZ,.string aU,.string aV,.slice gm aI.length eU]) (t:=25) ?hr ?_;(case hd=>rfl);(case hg=>rfl);(case hr=>first|(go_simp;done)|(go_simp;rfl));intro sH hg w6 hbox hb;have dV:=ae.mk (bn (by repeat (first|(with_reducible first|exact HB.out|apply ah|apply ag|apply ai)|exact HB.out)) hb);have dU:=ae.mk (hbox);have dR:=ae.mk ((by rw [hg];exact (bU (by repeat (first|(with_reducible first|exact HB.out|apply ah|apply ag|apply ai)|exact HB.out))):w.heap.size≤sH));have gZ:=dR;clear HB;have HB:=dV;have nR:=dU;have afg:=dR;have Hm:=gZ;clear dV dU dR gZ;clear hb hbox hg;have amw:w6.cell? ⟨sH,0,none⟩=some (.slice ed aZ.length dZ):=(ax nR.out 0).trans rfl;have amv:w6.cell? ⟨sH,1,none⟩=some (.string aU):=(ax nR.out 1).trans rfl;have amu:w6.cell? ⟨sH,2,none⟩=some (.string aV):=(ax nR.out 2).trans rfl;have ams:w6.cell? ⟨sH,3,none⟩=some (.slice gm aI.length eU):=(ax nR.out 3).trans rfl;have amk:=aC nR.out 0;have amj:=aC nR.out 1;have ami:=aC nR.out 2;have amh:=aC nR.out 3)|((with_reducible refine bz (f:=58) rfl ?_);refine dS (some 13) rfl rfl Tryd.func58 (by kernel_rfl) rfl #[.agg #[.slice ed aZ.length dZ,.string aU,.string aV,.slice gm aI.length eU],.int .i64 a1,.int .i64 a2] rfl (by (try simp only [List.map_toArray,List.map_cons,List.map_nil]);first|done|rfl|(simp only [List.length_drop,List.length_take];rfl)) ?_;(with_reducible refine (gY.calls k _ _ aZ aU aV _ _ aI a1 a2 t118 true _ ?bZ ?dh ?iW ?iV A4.out).mono ?_);(case bZ=>repeat (first|exact (Kd.bJ iH.out HB.out)|(with_reducible refine Kd.bP ?_ _)|(with_reducible refine Kd.bQ ?_ _)|(with_reducible refine Kd.dD ?_)));(case dh=>exact iK.out);(case iW=>repeat (first|exact (Kd.bJ jJ.out HB.out)|(with_reducible refine Kd.bP ?_ _)|(with_reducible refine Kd.bQ ?_ _)|(with_reducible refine Kd.dD ?_)));(case iV=>exact kC.out);rintro e w8 ⟨rfl,hb⟩;refine ⟨_,rfl,?_⟩;have dV:=ae.mk (bg (g:=sH) (o:=.cells #[.slice ed aZ.length dZ,.string aU,.string aV,.slice gm aI.length eU] 25 (0,0)) (by (with_reducible repeat (first|refine au ?_ _|refine ay ?_|refine ak ?_ _));exact nR.out) hb);have dU:=ae.mk (bn (by repeat (first|(with_reducible first|exact HB.out|apply ah|apply ag|apply ai|refine aj ?_ Hm.out)|exact HB.out)) hb);clear nR;clear HB;have nR:=dV;have HB:=dU;clear dV dU;(try clear hb);(try clear hb2);(try clear hk);(try clear hi)))
  go_ret
  exact ⟨by first|rfl|(simp [aQ,aN] <;> rfl)|(simp [*,aQ,aN] <;> rfl),by repeat (first|(with_reducible first|exact HB.out|apply ah|apply ag|apply ai|refine aj ?_ Hm.out)|exact HB.out)⟩
 ·
  replace c5:=Bool.eq_false_iff.mpr c5
  subst c5
  have H1:(some false)=some r:=by rw [if_neg (show ¬ (false=true) by decide)] at H;exact H
  clear H
  have H:=H1
  clear H1
  obtain rfl:=Option.some.inj H
  go_enter Tryd.func57,Tryd.ntmps57
  go_wp2_with (first|((with_reducible refine bI (N:=3) rfl ?_);refine fF ?hg (N:=3) ?hd (cs:=#[.slice ed aZ.length dZ,.string aU,.string aV,.slice gm aI.length eU]) (t:=25) ?hr ?_;(case hd=>rfl);(case hg=>rfl);(case hr=>first|(go_simp;done)|(go_simp;rfl));intro sH hg w9 hbox hb;have dV:=ae.mk (bn (by repeat (first|(with_reducible first|exact HB.out|apply ah|apply ag|apply ai)|exact HB.out)) hb);have dU:=ae.mk (hbox);have dR:=ae.mk ((by rw [hg];exact (bU (by repeat (first|(with_reducible first|exact HB.out|apply ah|apply ag|apply ai)|exact HB.out))):w.heap.size≤sH));have gZ:=dR;clear HB;have HB:=dV;have nR:=dU;have afg:=dR;have Hm:=gZ;clear dV dU dR gZ;clear hb hbox hg;have xM:w9.cell? ⟨sH,0,none⟩=some (.slice ed aZ.length dZ):=(ax nR.out 0).trans rfl;have xK:w9.cell? ⟨sH,1,none⟩=some (.string aU):=(ax nR.out 1).trans rfl;have xJ:w9.cell? ⟨sH,2,none⟩=some (.string aV):=(ax nR.out 2).trans rfl;have xI:w9.cell? ⟨sH,3,none⟩=some (.slice gm aI.length eU):=(ax nR.out 3).trans rfl;have xH:=aC nR.out 0;have xG:=aC nR.out 1;have xE:=aC nR.out 2;have xC:=aC nR.out 3)|((with_reducible refine bz (f:=58) rfl ?_);refine dS (some 13) rfl rfl Tryd.func58 (by kernel_rfl) rfl #[.agg #[.slice ed aZ.length dZ,.string aU,.string aV,.slice gm aI.length eU],.int .i64 a1,.int .i64 a2] rfl (by (try simp only [List.map_toArray,List.map_cons,List.map_nil]);first|done|rfl|(simp only [List.length_drop,List.length_take];rfl)) ?_;(with_reducible refine (gY.calls k _ _ aZ aU aV _ _ aI a1 a2 t118 false _ ?bZ ?dh ?iW ?iV A4.out).mono ?_);(case bZ=>repeat (first|exact (Kd.bJ iH.out HB.out)|(with_reducible refine Kd.bP ?_ _)|(with_reducible refine Kd.bQ ?_ _)|(with_reducible refine Kd.dD ?_)));(case dh=>exact iK.out);(case iW=>repeat (first|exact (Kd.bJ jJ.out HB.out)|(with_reducible refine Kd.bP ?_ _)|(with_reducible refine Kd.bQ ?_ _)|(with_reducible refine Kd.dD ?_)));(case iV=>exact kC.out);rintro e w11 ⟨rfl,hb⟩;refine ⟨_,rfl,?_⟩;have dV:=ae.mk (bg (g:=sH) (o:=.cells #[.slice ed aZ.length dZ,.string aU,.string aV,.slice gm aI.length eU] 25 (0,0)) (by (with_reducible repeat (first|refine au ?_ _|refine ay ?_|refine ak ?_ _));exact nR.out) hb);have dU:=ae.mk (bn (by repeat (first|(with_reducible first|exact HB.out|apply ah|apply ag|apply ai|refine aj ?_ Hm.out)|exact HB.out)) hb);clear nR;clear HB;have nR:=dV;have HB:=dU;clear dV dU;(try clear hb);(try clear hb2);(try clear hk);(try clear hi)))
  go_ret
  exact ⟨by first|rfl|(simp [aQ,aN] <;> rfl)|(simp [*,aQ,aN] <;> rfl),by repeat (first|(with_reducible first|exact HB.out|apply ah|apply ag|apply ai|refine aj ?_ Hm.out)|exact HB.out)⟩
def jv.f (k:Nat) (aZ:List ByteArray) (aU:ByteArray) (aV:ByteArray) (aI:List (iw)) (a1:Int):Option (Int):=(iY.f k aZ aV a1).bind fun t121=>(some t121)
theorem jv.mono:∀ a0 a1 a2 a3 a4 k,dO (jv.f k a0 a1 a2 a3 a4) (jv.f (k+1) a0 a1 a2 a3 a4):=by
 intro a0 a1 a2 a3 a4 k
 unfold jv.f
 repeat' with_reducible first|apply iY.mono|exact dO.refl _|exact dO.none _|refine dO.ite ?_ ?_|refine dO.bind ?_ (fun _=>?_)
set_option maxHeartbeats 8000000 in
set_option maxRecDepth 100000 in
theorem jv.calls (k:Nat) (ed:Option Addr) (dZ:Nat) (aZ:List ByteArray) (aU:ByteArray) (aV:ByteArray) (gm:Option Addr) (eU:Nat) (aI:List (iw)) (a1:Int) (r:Int) (w:World) (jO:Kd.C Kd.string w ed aZ.length aZ) (jQ:aZ.length≤dZ) (jM:Kd.C uq w gm aI.length aI) (jP:aI.length≤eU) (h:jv.f k aZ aU aV aI a1=some r) :
  Calls Tryd.prog 59 #[.agg #[.slice ed aZ.length dZ,.string aU,.string aV,.slice gm aI.length eU],.int .u8 a1] w fun e w'=>e=.returned (.int .i64 r)∧Below w.heap.size w w':=by
 have yx:=Tryd.underlying25
 have iH:=ae.mk jO
 have iK:=ae.mk jQ
 clear jO jQ
 have jJ:=ae.mk jM
 have kC:=ae.mk jP
 clear jM jP
 have HB:=ae.mk (Below.refl w.heap.size w)
 have H:((iY.f k aZ aV a1).bind fun t121=>(some t121))=some r:=h
 clear h
 replace H:=Option.bind_eq_some_iff.mp H
 obtain ⟨t121,yc,H⟩:=H
 replace H:(some t121)=some r:=H
 have A3:=ae.mk yc
 clear yc
 obtain rfl:=Option.some.inj H
 go_enter Tryd.func59,Tryd.ntmps59
 go_wp2_with (first|((with_reducible refine bI (N:=2) rfl ?_);refine fF ?hg (N:=2) ?hd (cs:=#[.slice ed aZ.length dZ,.string aU,.string aV,.slice gm aI.length eU]) (t:=25) ?hr ?_;(case hd=>rfl);(case hg=>rfl);(case hr=>first|(go_simp;done)|(go_simp;rfl));intro Gv hg w4 hbox hb;have dV:=ae.mk (bn (by repeat (first|(with_reducible first|exact HB.out|apply ah|apply ag|apply ai)|exact HB.out)) hb);have dU:=ae.mk (hbox);have dR:=ae.mk ((by rw [hg];exact (bU (by repeat (first|(with_reducible first|exact HB.out|apply ah|apply ag|apply ai)|exact HB.out))):w.heap.size≤Gv));have gZ:=dR;clear HB;have HB:=dV;have yY:=dU;have apX:=dR;have afl:=gZ;clear dV dU dR gZ;clear hb hbox hg;have Be:w4.cell? ⟨Gv,0,none⟩=some (.slice ed aZ.length dZ):=(ax yY.out 0).trans rfl;have Bd:w4.cell? ⟨Gv,1,none⟩=some (.string aU):=(ax yY.out 1).trans rfl;have Bc:w4.cell? ⟨Gv,2,none⟩=some (.string aV):=(ax yY.out 2).trans rfl;have Ba:w4.cell? ⟨Gv,3,none⟩=some (.slice gm aI.length eU):=(ax yY.out 3).trans rfl;have AZ:=aC yY.out 0;have AY:=aC yY.out 1;have AX:=aC yY.out 2;have AQ:=aC yY.out 3)|((with_reducible refine bz (f:=61) rfl ?_);refine dS (some 10) rfl rfl Tryd.func61 (by kernel_rfl) rfl #[.slice ed aZ.length dZ,.string aV,.int .u8 a1] rfl (by (try simp only [List.map_toArray,List.map_cons,List.map_nil]);first|done|rfl|(simp only [List.length_drop,List.length_take];rfl)) ?_;(with_reducible refine (iY.calls k _ _ aZ aV a1 t121 _ ?bZ ?dh A3.out).mono ?_);(case bZ=>repeat (first|exact (Kd.bJ iH.out HB.out)|(with_reducible refine Kd.bP ?_ _)|(with_reducible refine Kd.bQ ?_ _)|(with_reducible refine Kd.dD ?_)));(case dh=>exact iK.out);rintro e w' ⟨rfl,⟨nd,rfl⟩⟩;refine ⟨_,rfl,?_⟩))
 go_ret
 exact ⟨by first|rfl|(simp [aQ,aN] <;> rfl)|(simp [*,aQ,aN] <;> rfl),by repeat (first|(with_reducible first|exact HB.out|apply ah|apply ag|apply ai|refine aj ?_ afl.out)|exact HB.out)⟩
end Go.Proofs.YtlemecdddhdagaaDoor.P
end
