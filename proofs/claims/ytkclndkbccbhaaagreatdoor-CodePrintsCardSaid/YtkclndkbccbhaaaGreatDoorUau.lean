/- Parts of the proof of CodePrints: what the functions that it reaches compute, and plain facts about that. -/
import Derived.Test.YtkclndkbccbhaaaGreatDoorUac
import Derived.Test.YtkclndkbccbhaaaGreatDoorUad
import Derived.Test.YtkclndkbccbhaaaGreatDoorUaf
import Derived.Test.YtkclndkbccbhaaaGreatDoorUag
import Derived.Test.YtkclndkbccbhaaaGreatDoorUaj
import Derived.Test.YtkclndkbccbhaaaGreatDoorUal
import Derived.Test.YtkclndkbccbhaaaGreatDoorUaq
import Derived.Test.YtkclndkbccbhaaaGreatDoorUas
set_option linter.unusedVariables false
set_option linter.unusedSimpArgs false
section
namespace Go.Proofs.YtkclndkbccbhaaaGreatDoor.P
open Go.RowKit Go.Proofs.ag.bJ Go.Proofs.ag.eX Go.Proofs.ag.gp
attribute [local go_sem] kM kK lT lS jE jD kL kJ
def bT.f (k:Nat) (bD:List ByteArray) (aY:ByteArray) (aX:ByteArray) (aW:List (jZ)) (jr:Int) (jq:Int) (jo:Int) (jm:Int) (jl:Int):Option (Bool):=(dU.f k).bind fun MR=>(if MR=true then ((bP.f k bD aY aX aW).bind fun BP=>(if BP=true then ((bI.f k bD aY aX aW).bind fun qM=>((aH.f k bD aY aX aW).bind fun oO=>((eu.f jr jq jo jm jl).bind fun o8=>((bK.f k jr jq jo jm jl).bind fun o5=>(if (o8 == o5)=true then (if qM.1.toList=oO.1.toList then (some (qM.2 == oO.2)) else (some false)) else (some false)))))) else (some true))) else (some false))
theorem bT.mono:∀ a0 a1 a2 a3 a4 a5 a6 a7 a8 k,dH (bT.f k a0 a1 a2 a3 a4 a5 a6 a7 a8) (bT.f (k+1) a0 a1 a2 a3 a4 a5 a6 a7 a8):=by
 intro a0 a1 a2 a3 a4 a5 a6 a7 a8 k
 unfold bT.f
 repeat' with_reducible first|apply bI.mono|apply bP.mono|apply dU.mono|apply aH.mono|apply bK.mono|exact dH.refl _|exact dH.none _|refine dH.ite ?_ ?_|refine dH.bind ?_ (fun _=>?_)
def bT.T7:Bool × List (List Nat × List Nat):=(true,[([],[]),([0],[0]),([],[]),([2,1],[2]),([1,3],[1,3]),([4,3],[4]),([5],[5]),([5],[5]),([6,7,5],[5,6,7]),([5,8],[5,8]),([9,5],[9]),([10],[10]),([10],[10]),([11,12,10],[10,11,12]),([10,13],[10,13]),([14,10,0,1,2,3,4,5,6,7,8,9,10,11,12,13,14],[14])])
def bT.B7:List Nat:=[0,1,0,7,15,31,63,63,255,511,1023,2047,2047,8191,16383,32767]
theorem bT.WN:pg .any (opsOf Tryz.f3 7)=bT.T7:=by kernel_rfl
theorem bT.QF:oD bT.T7.2 bT.B7=true:=by kernel_rfl
set_option maxHeartbeats 8000000 in
set_option maxRecDepth 100000 in
theorem bT.calls (k:Nat) (dO:Option Addr) (dK:Nat) (bD:List ByteArray) (aY:ByteArray) (aX:ByteArray) (dV:Option Addr) (dJ:Nat) (aW:List (jZ)) (jr:Int) (jq:Int) (jo:Int) (jm:Int) (jl:Int) (r:Bool) (w:World) (qG:Kd.C Kd.string w dO bD.length bD) (qJ:bD.length≤dK) (qF:Kd.C k27 w dV aW.length aW) (qI:aW.length≤dJ) (jM:Kd.C tu w tC lJ.length lJ) (h:bT.f k bD aY aX aW jr jq jo jm jl=some r) :
  Calls Tryz.prog 3 #[.agg #[.slice dO bD.length dK,.string aY,.string aX,.slice dV aW.length dJ],.agg #[.int .u8 jr,.int .u8 jq,.int .u8 jo,.int .u8 jm,.int .i64 jl]] w fun e w'=>e=.returned (.bool r)∧Below w.heap.size w w':=by
 have Nw:=Tryz.underlying25
 have BR:=Tryz.underlying27
 have kZ:=ae.mk qG
 have qj:=ae.mk qJ
 clear qG qJ
 have ny:=ae.mk qF
 have qi:=ae.mk qI
 clear qF qI
 have ry:=ae.mk jM
 clear jM
 have HB:=ae.mk (Below.refl w.heap.size w)
 have H:((dU.f k).bind fun MR=>(if MR=true then ((bP.f k bD aY aX aW).bind fun BP=>(if BP=true then ((bI.f k bD aY aX aW).bind fun qM=>((aH.f k bD aY aX aW).bind fun oO=>((eu.f jr jq jo jm jl).bind fun o8=>((bK.f k jr jq jo jm jl).bind fun o5=>(if (o8 == o5)=true then (if qM.1.toList=oO.1.toList then (some (qM.2 == oO.2)) else (some false)) else (some false)))))) else (some true))) else (some false)))=some r:=h
 clear h
 replace H:=Option.bind_eq_some_iff.mp H
 obtain ⟨MR,DI,H⟩:=H
 replace H:(if MR=true then ((bP.f k bD aY aX aW).bind fun BP=>(if BP=true then ((bI.f k bD aY aX aW).bind fun qM=>((aH.f k bD aY aX aW).bind fun oO=>((eu.f jr jq jo jm jl).bind fun o8=>((bK.f k jr jq jo jm jl).bind fun o5=>(if (o8 == o5)=true then (if qM.1.toList=oO.1.toList then (some (qM.2 == oO.2)) else (some false)) else (some false)))))) else (some true))) else (some false))=some r:=H
 have A3:=ae.mk DI
 clear DI
 by_cases c4:MR=true
 ·
  subst c4
  have H1:((bP.f k bD aY aX aW).bind fun BP=>(if BP=true then ((bI.f k bD aY aX aW).bind fun qM=>((aH.f k bD aY aX aW).bind fun oO=>((eu.f jr jq jo jm jl).bind fun o8=>((bK.f k jr jq jo jm jl).bind fun o5=>(if (o8 == o5)=true then (if qM.1.toList=oO.1.toList then (some (qM.2 == oO.2)) else (some false)) else (some false)))))) else (some true)))=some r:=by rw [if_pos rfl] at H;exact H
  clear H
  have H:=H1
  clear H1
  replace H:=Option.bind_eq_some_iff.mp H
  obtain ⟨BP,A50,H⟩:=H
  replace H:(if BP=true then ((bI.f k bD aY aX aW).bind fun qM=>((aH.f k bD aY aX aW).bind fun oO=>((eu.f jr jq jo jm jl).bind fun o8=>((bK.f k jr jq jo jm jl).bind fun o5=>(if (o8 == o5)=true then (if qM.1.toList=oO.1.toList then (some (qM.2 == oO.2)) else (some false)) else (some false)))))) else (some true))=some r:=H
  have A5:=ae.mk A50
  clear A50
  by_cases c6:BP=true
  ·
   subst c6
   have H1:((bI.f k bD aY aX aW).bind fun qM=>((aH.f k bD aY aX aW).bind fun oO=>((eu.f jr jq jo jm jl).bind fun o8=>((bK.f k jr jq jo jm jl).bind fun o5=>(if (o8 == o5)=true then (if qM.1.toList=oO.1.toList then (some (qM.2 == oO.2)) else (some false)) else (some false))))))=some r:=by rw [if_pos rfl] at H;exact H
   clear H
   have H:=H1
   clear H1
   replace H:=Option.bind_eq_some_iff.mp H
   obtain ⟨⟨zy,Ib⟩,Q7,H⟩:=H
   replace H:((aH.f k bD aY aX aW).bind fun oO=>((eu.f jr jq jo jm jl).bind fun o8=>((bK.f k jr jq jo jm jl).bind fun o5=>(if (o8 == o5)=true then (if zy.toList=oO.1.toList then (some (Ib == oO.2)) else (some false)) else (some false)))))=some r:=H
   have A7:=ae.mk Q7
   clear Q7
   replace H:=Option.bind_eq_some_iff.mp H
   obtain ⟨⟨zY,MQ⟩,A80,H⟩:=H
   replace H:((eu.f jr jq jo jm jl).bind fun o8=>((bK.f k jr jq jo jm jl).bind fun o5=>(if (o8 == o5)=true then (if zy.toList=zY.toList then (some (Ib == MQ)) else (some false)) else (some false))))=some r:=H
   have A8:=ae.mk A80
   clear A80
   replace H:=Option.bind_eq_some_iff.mp H
   obtain ⟨o8,A90,H⟩:=H
   replace H:((bK.f k jr jq jo jm jl).bind fun o5=>(if (o8 == o5)=true then (if zy.toList=zY.toList then (some (Ib == MQ)) else (some false)) else (some false)))=some r:=H
   have A9:=ae.mk A90
   clear A90
   replace H:=Option.bind_eq_some_iff.mp H
   obtain ⟨o5,H8,H⟩:=H
   replace H:(if (o8 == o5)=true then (if zy.toList=zY.toList then (some (Ib == MQ)) else (some false)) else (some false))=some r:=H
   have Rj:=ae.mk H8
   clear H8
   by_cases c11:(o8 == o5)=true
   ·
    rw [if_pos c11] at H
    have sS:(o8 == o5)=true:=c11
    (try (have zo:decide (o8=o5)=true:=by simpa using c11))
    (try (have V5:(o8 == o5)=true:=by simpa using c11))
    clear c11
    by_cases c12:zy.toList=zY.toList
    ·
     rw [if_pos c12] at H
     have ve:(zy.toList == zY.toList)=true:=beq_iff_eq.mpr c12
     have QD:(zy.toList != zY.toList)=false:=bne_eq_false_iff_eq.mpr c12
     clear c12
     obtain rfl:=Option.some.inj H
     go_enter Tryz.func3,Tryz.ntmps3
     try go_wp2_with (first|((with_reducible refine eQ (N:=2) rfl ?_);refine fF ?hg (N:=2) ?hd (cs:=#[.slice dO bD.length dK,.string aY,.string aX,.slice dV aW.length dJ]) (t:=25) ?hr ?_;(case hd=>rfl);(case hg=>rfl);(case hr=>first|(go_simp;done)|(go_simp;rfl));intro fP hg w13 hbox hb;have di:=ae.mk (aQ (by repeat (first|(with_reducible first|exact HB.out|apply aj|apply af|apply ai)|exact HB.out)) hb);have dm:=ae.mk (hbox);have dE:=ae.mk ((by rw [hg];exact (bn (by repeat (first|(with_reducible first|exact HB.out|apply aj|apply af|apply ai)|exact HB.out))):w.heap.size≤fP));have gq:=dE;clear HB;have HB:=di;have bV:=dm;have MJ:=dE;have jw:=gq;clear di dm dE gq;clear hb hbox hg)|((with_reducible refine eQ (N:=3) rfl ?_);refine fF ?hg (N:=3) ?hd (cs:=#[.int .u8 jr,.int .u8 jq,.int .u8 jo,.int .u8 jm,.int .i64 jl]) (t:=27) ?hr ?_;(case hd=>rfl);(case hg=>rfl);(case hr=>first|(go_simp;done)|(go_simp;rfl));intro iQ hg MO hbox hb;have di:=ae.mk (aV (g:=fP) (o:=.cells #[.slice dO bD.length dK,.string aY,.string aX,.slice dV aW.length dJ] 25 (0,0)) (by (with_reducible repeat (first|refine au ?_ _|refine ay ?_|refine ak ?_ _));exact bV.out) hb);have dm:=ae.mk (aQ (by repeat (first|(with_reducible first|exact HB.out|apply aj|apply af|apply ai|refine az ?_ jw.out)|exact HB.out)) hb);have dE:=ae.mk (hbox);have gq:=ae.mk ((by rw [hg];exact (bn (by repeat (first|(with_reducible first|exact HB.out|apply aj|apply af|apply ai|refine az ?_ jw.out)|exact HB.out))):w.heap.size≤iQ));have jC:=gq;have lN:=ae.mk ((by rw [hg];exact Nat.ne_of_lt (gZ (g:=fP) (o:=.cells #[.slice dO bD.length dK,.string aY,.string aX,.slice dV aW.length dJ] 25 (0,0)) (by (with_reducible repeat (first|refine au ?_ _|refine ay ?_|refine ak ?_ _));exact bV.out)):fP ≠ iQ));have nC:=ae.mk lN.out.symm;clear bV;clear HB;have bV:=di;have HB:=dm;have dL:=dE;have MI:=gq;have lg:=jC;have oV:=lN;have oU:=nC;clear di dm dE gq jC lN nC;clear hb hbox hg)|((with_reducible refine bU (f:=7) rfl ?_);refine gy (some 9) rfl rfl Tryz.func7 (by kernel_rfl) rfl #[] rfl (by (try simp only [List.map_toArray,List.map_cons,List.map_nil]);first|done|rfl|(simp only [List.length_drop,List.length_take];rfl)) ?_;(with_reducible refine (dU.calls k  true _ ?fD A3.out).mono ?_);(case fD=>repeat (first|exact (Kd.dF ry.out HB.out)|(with_reducible refine Kd.ed ?_ _)|(with_reducible refine Kd.dZ ?_ _)|(with_reducible refine Kd.fO ?_)));rintro e YB ⟨rfl,hb⟩;refine ⟨_,rfl,?_⟩;have di:=ae.mk (aV (g:=fP) (o:=.cells #[.slice dO bD.length dK,.string aY,.string aX,.slice dV aW.length dJ] 25 (0,0)) (by (with_reducible repeat (first|refine au ?_ _|refine ay ?_|refine ak ?_ _));exact bV.out) hb);have dm:=ae.mk (aV (g:=iQ) (o:=.cells #[.int .u8 jr,.int .u8 jq,.int .u8 jo,.int .u8 jm,.int .i64 jl] 27 (0,0)) (by (with_reducible repeat (first|refine au ?_ _|refine ay ?_|refine ak ?_ _));exact dL.out) hb);have dE:=ae.mk (aQ (by repeat (first|(with_reducible first|exact HB.out|apply aj|apply af|apply ai|refine az ?_ jw.out|refine az ?_ lg.out)|exact HB.out)) hb);clear bV;clear dL;clear HB;have bV:=di;have dL:=dm;have HB:=dE;clear di dm dE;(try clear hb);(try clear hb2);(try clear hk);(try clear hi);have ag3:=oV.out;have agM:=oU.out;have La:YB.cell? ⟨fP,0,none⟩=some (.slice dO bD.length dK):=(ah bV.out 0).trans rfl;have KY:YB.cell? ⟨fP,1,none⟩=some (.string aY):=(ah bV.out 1).trans rfl;have KX:YB.cell? ⟨fP,2,none⟩=some (.string aX):=(ah bV.out 2).trans rfl;have KW:YB.cell? ⟨fP,3,none⟩=some (.slice dV aW.length dJ):=(ah bV.out 3).trans rfl;have Ku:=ax bV.out 0;have Kt:=ax bV.out 1;have Kr:=ax bV.out 2;have Kq:=ax bV.out 3)|((with_reducible refine bU (f:=8) rfl ?_);refine gy (some 12) rfl rfl Tryz.func8 (by kernel_rfl) rfl #[.agg #[.slice dO bD.length dK,.string aY,.string aX,.slice dV aW.length dJ]] rfl (by (try simp only [List.map_toArray,List.map_cons,List.map_nil]);first|done|rfl|(simp only [List.length_drop,List.length_take];rfl)) ?_;(with_reducible refine (bP.calls k _ _ bD aY aX _ _ aW true _ ?fD ?jO ?lF ?lD A5.out).mono ?_);(case fD=>repeat (first|exact (Kd.dF kZ.out HB.out)|(with_reducible refine Kd.ed ?_ _)|(with_reducible refine Kd.dZ ?_ _)|(with_reducible refine Kd.fO ?_)));(case jO=>exact qj.out);(case lF=>repeat (first|exact (Kd.dF ny.out HB.out)|(with_reducible refine Kd.ed ?_ _)|(with_reducible refine Kd.dZ ?_ _)|(with_reducible refine Kd.fO ?_)));(case lD=>exact qi.out);rintro e yZ ⟨rfl,hb⟩;refine ⟨_,rfl,?_⟩;have di:=ae.mk (aV (g:=fP) (o:=.cells #[.slice dO bD.length dK,.string aY,.string aX,.slice dV aW.length dJ] 25 (0,0)) (by (with_reducible repeat (first|refine au ?_ _|refine ay ?_|refine ak ?_ _));exact bV.out) hb);have dm:=ae.mk (aV (g:=iQ) (o:=.cells #[.int .u8 jr,.int .u8 jq,.int .u8 jo,.int .u8 jm,.int .i64 jl] 27 (0,0)) (by (with_reducible repeat (first|refine au ?_ _|refine ay ?_|refine ak ?_ _));exact dL.out) hb);have dE:=ae.mk (aQ (by repeat (first|(with_reducible first|exact HB.out|apply aj|apply af|apply ai|refine az ?_ jw.out|refine az ?_ lg.out)|exact HB.out)) hb);clear bV;clear dL;clear HB;have bV:=di;have dL:=dm;have HB:=dE;clear di dm dE;(try clear hb);(try clear hb2);(try clear hk);(try clear hi);have KU:yZ.cell? ⟨fP,0,none⟩=some (.slice dO bD.length dK):=(ah bV.out 0).trans rfl;have KT:yZ.cell? ⟨fP,1,none⟩=some (.string aY):=(ah bV.out 1).trans rfl;have KR:yZ.cell? ⟨fP,2,none⟩=some (.string aX):=(ah bV.out 2).trans rfl;have KQ:yZ.cell? ⟨fP,3,none⟩=some (.slice dV aW.length dJ):=(ah bV.out 3).trans rfl;have Ko:=ax bV.out 0;have J9:=ax bV.out 1;have J8:=ax bV.out 2;have J7:=ax bV.out 3)|((with_reducible refine bU (f:=9) rfl ?_);refine gy (some 16) rfl rfl Tryz.func9 (by kernel_rfl) rfl #[.agg #[.slice dO bD.length dK,.string aY,.string aX,.slice dV aW.length dJ]] rfl (by (try simp only [List.map_toArray,List.map_cons,List.map_nil]);first|done|rfl|(simp only [List.length_drop,List.length_take];rfl)) ?_;(with_reducible refine (bI.calls k _ _ bD aY aX _ _ aW zy Ib _ ?fD ?jO ?lF ?lD ?oq A7.out).mono ?_);(case fD=>repeat (first|exact (Kd.dF kZ.out HB.out)|(with_reducible refine Kd.ed ?_ _)|(with_reducible refine Kd.dZ ?_ _)|(with_reducible refine Kd.fO ?_)));(case jO=>exact qj.out);(case lF=>repeat (first|exact (Kd.dF ny.out HB.out)|(with_reducible refine Kd.ed ?_ _)|(with_reducible refine Kd.dZ ?_ _)|(with_reducible refine Kd.fO ?_)));(case lD=>exact qi.out);(case oq=>repeat (first|exact (Kd.dF ry.out HB.out)|(with_reducible refine Kd.ed ?_ _)|(with_reducible refine Kd.dZ ?_ _)|(with_reducible refine Kd.fO ?_)));rintro e WG ⟨rfl,hb⟩;refine ⟨_,rfl,?_⟩;have di:=ae.mk (aV (g:=fP) (o:=.cells #[.slice dO bD.length dK,.string aY,.string aX,.slice dV aW.length dJ] 25 (0,0)) (by (with_reducible repeat (first|refine au ?_ _|refine ay ?_|refine ak ?_ _));exact bV.out) hb);have dm:=ae.mk (aV (g:=iQ) (o:=.cells #[.int .u8 jr,.int .u8 jq,.int .u8 jo,.int .u8 jm,.int .i64 jl] 27 (0,0)) (by (with_reducible repeat (first|refine au ?_ _|refine ay ?_|refine ak ?_ _));exact dL.out) hb);have dE:=ae.mk (aQ (by repeat (first|(with_reducible first|exact HB.out|apply aj|apply af|apply ai|refine az ?_ jw.out|refine az ?_ lg.out)|exact HB.out)) hb);clear bV;clear dL;clear HB;have bV:=di;have dL:=dm;have HB:=dE;clear di dm dE;(try clear hb);(try clear hb2);(try clear hk);(try clear hi);have UM:WG.cell? ⟨fP,0,none⟩=some (.slice dO bD.length dK):=(ah bV.out 0).trans rfl;have UL:WG.cell? ⟨fP,1,none⟩=some (.string aY):=(ah bV.out 1).trans rfl;have UK:WG.cell? ⟨fP,2,none⟩=some (.string aX):=(ah bV.out 2).trans rfl;have UJ:WG.cell? ⟨fP,3,none⟩=some (.slice dV aW.length dJ):=(ah bV.out 3).trans rfl;have TM:=ax bV.out 0;have TL:=ax bV.out 1;have TK:=ax bV.out 2;have TJ:=ax bV.out 3)|((with_reducible refine bU (f:=10) rfl ?_);refine gy (some 21) rfl rfl Tryz.func10 (by kernel_rfl) rfl #[.agg #[.slice dO bD.length dK,.string aY,.string aX,.slice dV aW.length dJ]] rfl (by (try simp only [List.map_toArray,List.map_cons,List.map_nil]);first|done|rfl|(simp only [List.length_drop,List.length_take];rfl)) ?_;(with_reducible refine (aH.calls k _ _ bD aY aX _ _ aW zY MQ _ ?fD ?jO ?lF ?lD ?oq A8.out).mono ?_);(case fD=>repeat (first|exact (Kd.dF kZ.out HB.out)|(with_reducible refine Kd.ed ?_ _)|(with_reducible refine Kd.dZ ?_ _)|(with_reducible refine Kd.fO ?_)));(case jO=>exact qj.out);(case lF=>repeat (first|exact (Kd.dF ny.out HB.out)|(with_reducible refine Kd.ed ?_ _)|(with_reducible refine Kd.dZ ?_ _)|(with_reducible refine Kd.fO ?_)));(case lD=>exact qi.out);(case oq=>repeat (first|exact (Kd.dF ry.out HB.out)|(with_reducible refine Kd.ed ?_ _)|(with_reducible refine Kd.dZ ?_ _)|(with_reducible refine Kd.fO ?_)));rintro e Oi ⟨rfl,hb⟩;refine ⟨_,rfl,?_⟩;have di:=ae.mk (aV (g:=fP) (o:=.cells #[.slice dO bD.length dK,.string aY,.string aX,.slice dV aW.length dJ] 25 (0,0)) (by (with_reducible repeat (first|refine au ?_ _|refine ay ?_|refine ak ?_ _));exact bV.out) hb);have dm:=ae.mk (aV (g:=iQ) (o:=.cells #[.int .u8 jr,.int .u8 jq,.int .u8 jo,.int .u8 jm,.int .i64 jl] 27 (0,0)) (by (with_reducible repeat (first|refine au ?_ _|refine ay ?_|refine ak ?_ _));exact dL.out) hb);have dE:=ae.mk (aQ (by repeat (first|(with_reducible first|exact HB.out|apply aj|apply af|apply ai|refine az ?_ jw.out|refine az ?_ lg.out)|exact HB.out)) hb);clear bV;clear dL;clear HB;have bV:=di;have dL:=dm;have HB:=dE;clear di dm dE;(try clear hb);(try clear hb2);(try clear hk);(try clear hi)))
     have di:=ae.mk (ay bV.out)
     have dm:=ae.mk (ay dL.out)
     have dE:=ae.mk (ai HB.out)
     clear bV
     clear dL
     clear HB
     have bV:=di
     have dL:=dm
     have HB:=dE
     clear di dm dE
     refine nM (n:=16) (S:=fun w'=>w'.cell? ⟨iQ,0,none⟩=some (.int .u8 jr)∧w'.cell? ⟨iQ,1,none⟩=some (.int .u8 jq)∧w'.cell? ⟨iQ,2,none⟩=some (.int .u8 jo)∧w'.cell? ⟨iQ,3,none⟩=some (.int .u8 jm)∧w'.cell? ⟨iQ,4,none⟩=some (.int .i64 jl)) (ds:=[]) #[false,false,false,false,false,false,false,false,false,false,false,false,false,false,false,false] (by kernel_rfl) rfl rfl ⟨(ah dL.out 0).trans rfl,(ah dL.out 1).trans rfl,(ah dL.out 2).trans rfl,(ah dL.out 3).trans rfl,(ah dL.out 4).trans rfl⟩ (fun hHeld=>?_);refine je bT.WN bT.QF (fun dD lK=>?_)
     generalize Oi.drew=zI at bV dL HB hHeld ⊢
     refine gQ (i:=0) (N:=some 24) (v:=?_) (a':=?_) #[true,false,false,false,false,false,false,false,false,false,false,false,false,false,false,false] rfl rfl (dw dD.out lK.out (by kernel_rfl)) (fun _ _ _ h=>h) (Or.inl ⟨by rfl,?_⟩) hHeld ?_ ?_
     rotate_left
     ·
      rintro w' ⟨s0,s1,s2,s3,s4⟩
      go_simp
      with_reducible rfl
     rotate_left
     ·
      simp only [Act.put,List.setIfInBounds_toArray,List.set_cons_zero,List.set_cons_succ,aI,aJ]
      rfl
     refine gQ (i:=2) (N:=some 26) (v:=?_) (a':=?_) #[true,false,true,false,false,false,false,false,false,false,false,false,false,false,false,false] rfl rfl (dw dD.out lK.out (by kernel_rfl)) (fun _ _ _ h=>h) (Or.inl ⟨by rfl,?_⟩) hHeld ?_ ?_
     rotate_left
     ·
      rintro w' ⟨s0,s1,s2,s3,s4⟩
      go_simp
      with_reducible rfl
     rotate_left
     ·
      simp only [Act.put,List.setIfInBounds_toArray,List.set_cons_zero,List.set_cons_succ,aI,aJ]
      rfl
     refine mD (i:=1) (N:=some 25) #[true,true,true,false,false,false,false,false,false,false,false,false,false,false,false,false] rfl rfl (iD dD.out (by kernel_rfl)) (by decide) (fun K hK=>?_)
     refine mG Tryz.func11 (by kernel_rfl) rfl #[.agg #[.int .u8 jr,.int .u8 jq,.int .u8 jo,.int .u8 jm,.int .i64 jl]] (by rfl) rfl rfl (by (try simp only [List.map_toArray,List.map_cons,List.map_nil]);first|done|rfl|(simp only [List.length_drop,List.length_take];rfl)) ?_
     with_reducible refine (eu.calls jr jq jo jm jl o8 _ ?fD A9.out).mono ?_
     (case fD=>repeat (first|exact (Kd.dF ry.out HB.out)|(with_reducible refine Kd.ed ?_ _)|(with_reducible refine Kd.dZ ?_ _)|(with_reducible refine Kd.fO ?_)))
     rintro e w24 ⟨rfl,hb⟩
     refine ⟨_,rfl,?_⟩
     have di:=ae.mk (aV (g:=fP) (o:=.cells #[.slice dO bD.length dK,.string aY,.string aX,.slice dV aW.length dJ] 25 (0,0)) (by (with_reducible repeat (first|refine au ?_ _|refine ay ?_|refine ak ?_ _));exact bV.out) hb)
     have dm:=ae.mk (aV (g:=iQ) (o:=.cells #[.int .u8 jr,.int .u8 jq,.int .u8 jo,.int .u8 jm,.int .i64 jl] 27 (0,0)) (by (with_reducible repeat (first|refine au ?_ _|refine ay ?_|refine ak ?_ _));exact dL.out) hb)
     have dE:=ae.mk (aQ (by repeat (first|(with_reducible first|exact HB.out|apply aj|apply af|apply ai|refine az ?_ jw.out|refine az ?_ lg.out)|exact HB.out)) hb)
     clear bV
     clear dL
     clear HB
     have bV:=di
     have dL:=dm
     have HB:=dE
     clear di dm dE
     (try clear hb)
     (try clear hb2)
     (try clear hk)
     (try clear hi)
     refine hK.out _ _ ⟨(ah dL.out 0).trans rfl,(ah dL.out 1).trans rfl,(ah dL.out 2).trans rfl,(ah dL.out 3).trans rfl,(ah dL.out 4).trans rfl⟩ (fun hHeld=>?_)
     clear hK K
     refine gX (a':=?_) ?_ ?_
     rotate_left
     ·
      show Act.put _ (some 25) _=_
      simp only [Act.put,List.setIfInBounds_toArray,List.set_cons_zero,List.set_cons_succ,aI,aJ]
      rfl
     refine mD (i:=3) (N:=some 27) #[true,true,true,true,false,false,false,false,false,false,false,false,false,false,false,false] rfl rfl (iD dD.out (by kernel_rfl)) (by decide) (fun K hK=>?_)
     refine mG Tryz.func12 (by kernel_rfl) rfl #[.agg #[.int .u8 jr,.int .u8 jq,.int .u8 jo,.int .u8 jm,.int .i64 jl]] (by rfl) rfl rfl (by (try simp only [List.map_toArray,List.map_cons,List.map_nil]);first|done|rfl|(simp only [List.length_drop,List.length_take];rfl)) ?_
     with_reducible refine (bK.calls k jr jq jo jm jl o5 _ ?fD Rj.out).mono ?_
     (case fD=>repeat (first|exact (Kd.dF ry.out HB.out)|(with_reducible refine Kd.ed ?_ _)|(with_reducible refine Kd.dZ ?_ _)|(with_reducible refine Kd.fO ?_)))
     rintro e rG ⟨rfl,hb⟩
     refine ⟨_,rfl,?_⟩
     have di:=ae.mk (aV (g:=fP) (o:=.cells #[.slice dO bD.length dK,.string aY,.string aX,.slice dV aW.length dJ] 25 (0,0)) (by (with_reducible repeat (first|refine au ?_ _|refine ay ?_|refine ak ?_ _));exact bV.out) hb)
     have dm:=ae.mk (aV (g:=iQ) (o:=.cells #[.int .u8 jr,.int .u8 jq,.int .u8 jo,.int .u8 jm,.int .i64 jl] 27 (0,0)) (by (with_reducible repeat (first|refine au ?_ _|refine ay ?_|refine ak ?_ _));exact dL.out) hb)
     have dE:=ae.mk (aQ (by repeat (first|(with_reducible first|exact HB.out|apply aj|apply af|apply ai|refine az ?_ jw.out|refine az ?_ lg.out)|exact HB.out)) hb)
     clear bV
     clear dL
     clear HB
     have bV:=di
     have dL:=dm
     have HB:=dE
     clear di dm dE
     (try clear hb)
     (try clear hb2)
     (try clear hk)
     (try clear hi)
     refine hK.out _ _ ⟨(ah dL.out 0).trans rfl,(ah dL.out 1).trans rfl,(ah dL.out 2).trans rfl,(ah dL.out 3).trans rfl,(ah dL.out 4).trans rfl⟩ (fun hHeld=>?_)
     clear hK K
     refine gX (a':=?_) ?_ ?_
     rotate_left
     ·
      show Act.put _ (some 27) _=_
      simp only [Act.put,List.setIfInBounds_toArray,List.set_cons_zero,List.set_cons_succ,aI,aJ]
      rfl
     refine bu (i:=4) (N:=some 28) (v:=?_) (a':=?_) #[true,true,true,true,true,false,false,false,false,false,false,false,false,false,false,false] rfl rfl (aN dD.out (by kernel_rfl)) (fun _ _ _ h=>h) (Or.inl ⟨by rfl,?_⟩) ?_ ?_
     rotate_left
     ·
      intro w'
      go_simp
      with_reducible rfl
     rotate_left
     ·
      simp only [Act.put,List.setIfInBounds_toArray,List.set_cons_zero,List.set_cons_succ,aI,aJ]
      rfl
     refine bu (i:=5) (N:=some 29) (v:=?_) (a':=?_) #[true,true,true,true,true,true,false,false,false,false,false,false,false,false,false,false] rfl rfl (aN dD.out (by kernel_rfl)) (fun _ _ _ h=>h) (Or.inl ⟨by rfl,?_⟩) ?_ ?_
     rotate_left
     ·
      intro w'
      go_simp
      with_reducible rfl
     rotate_left
     ·
      simp only [Act.put,List.setIfInBounds_toArray,List.set_cons_zero,List.set_cons_succ,aI,aJ]
      rfl
     refine bu (i:=6) (N:=some 30) (v:=?_) (a':=?_) #[true,true,true,true,true,true,true,false,false,false,false,false,false,false,false,false] rfl rfl (aN dD.out (by kernel_rfl)) (fun _ _ _ h=>h) (Or.inl ⟨by rfl,?_⟩) ?_ ?_
     rotate_left
     ·
      intro w'
      go_simp
      with_reducible rfl
     rotate_left
     ·
      simp only [Act.put,List.setIfInBounds_toArray,List.set_cons_zero,List.set_cons_succ,aI,aJ]
      rfl
     refine bu (i:=7) (N:=some 31) (v:=?_) (a':=?_) #[true,true,true,true,true,true,true,true,false,false,false,false,false,false,false,false] rfl rfl (aN dD.out (by kernel_rfl)) (fun _ _ _ h=>h) (Or.inl ⟨by rfl,?_⟩) ?_ ?_
     rotate_left
     ·
      intro w'
      go_simp
      with_reducible rfl
     rotate_left
     ·
      simp only [Act.put,List.setIfInBounds_toArray,List.set_cons_zero,List.set_cons_succ,aI,aJ]
      rfl
     refine bu (i:=8) (N:=some 32) (v:=?_) (a':=?_) #[true,true,true,true,true,true,true,true,true,false,false,false,false,false,false,false] rfl rfl (aN dD.out (by kernel_rfl)) (fun _ _ _ h=>h) (Or.inl ⟨by rfl,?_⟩) ?_ ?_
     rotate_left
     ·
      intro w'
      go_simp
      with_reducible rfl
     rotate_left
     ·
      simp only [Act.put,List.setIfInBounds_toArray,List.set_cons_zero,List.set_cons_succ,aI,aJ]
      rfl
     refine bu (i:=9) (N:=some 33) (v:=?_) (a':=?_) #[true,true,true,true,true,true,true,true,true,true,false,false,false,false,false,false] rfl rfl (aN dD.out (by kernel_rfl)) (fun _ _ _ h=>h) (Or.inl ⟨by rfl,?_⟩) ?_ ?_
     rotate_left
     ·
      intro w'
      go_simp
      with_reducible rfl
     rotate_left
     ·
      simp only [Act.put,List.setIfInBounds_toArray,List.set_cons_zero,List.set_cons_succ,aI,aJ]
      rfl
     refine bu (i:=10) (N:=some 34) (v:=?_) (a':=?_) #[true,true,true,true,true,true,true,true,true,true,true,false,false,false,false,false] rfl rfl (aN dD.out (by kernel_rfl)) (fun _ _ _ h=>h) (Or.inl ⟨by rfl,?_⟩) ?_ ?_
     rotate_left
     ·
      intro w'
      go_simp
      with_reducible rfl
     rotate_left
     ·
      simp only [Act.put,List.setIfInBounds_toArray,List.set_cons_zero,List.set_cons_succ,aI,aJ]
      rfl
     refine bu (i:=11) (N:=some 35) (v:=?_) (a':=?_) #[true,true,true,true,true,true,true,true,true,true,true,true,false,false,false,false] rfl rfl (aN dD.out (by kernel_rfl)) (fun _ _ _ h=>h) (Or.inl ⟨by rfl,?_⟩) ?_ ?_
     rotate_left
     ·
      intro w'
      go_simp
      with_reducible rfl
     rotate_left
     ·
      simp only [Act.put,List.setIfInBounds_toArray,List.set_cons_zero,List.set_cons_succ,aI,aJ]
      rfl
     refine bu (i:=12) (N:=some 36) (v:=?_) (a':=?_) #[true,true,true,true,true,true,true,true,true,true,true,true,true,false,false,false] rfl rfl (aN dD.out (by kernel_rfl)) (fun _ _ _ h=>h) (Or.inl ⟨by rfl,?_⟩) ?_ ?_
     rotate_left
     ·
      intro w'
      go_simp
      with_reducible rfl
     rotate_left
     ·
      simp only [Act.put,List.setIfInBounds_toArray,List.set_cons_zero,List.set_cons_succ,aI,aJ]
      rfl
     refine bu (i:=13) (N:=some 37) (v:=?_) (a':=?_) #[true,true,true,true,true,true,true,true,true,true,true,true,true,true,false,false] rfl rfl (aN dD.out (by kernel_rfl)) (fun _ _ _ h=>h) (Or.inl ⟨by rfl,?_⟩) ?_ ?_
     rotate_left
     ·
      intro w'
      go_simp
      with_reducible rfl
     rotate_left
     ·
      simp only [Act.put,List.setIfInBounds_toArray,List.set_cons_zero,List.set_cons_succ,aI,aJ]
      rfl
     refine bu (i:=14) (N:=some 38) (v:=?_) (a':=?_) #[true,true,true,true,true,true,true,true,true,true,true,true,true,true,true,false] rfl rfl (aN dD.out (by kernel_rfl)) (fun _ _ _ h=>h) (Or.inl ⟨by rfl,?_⟩) ?_ ?_
     rotate_left
     ·
      intro w'
      go_simp
      with_reducible rfl
     rotate_left
     ·
      simp only [Act.put,List.setIfInBounds_toArray,List.set_cons_zero,List.set_cons_succ,aI,aJ]
      rfl
     refine bu (i:=15) (N:=some 4) (v:=?_) (a':=?_) #[true,true,true,true,true,true,true,true,true,true,true,true,true,true,true,true] rfl rfl (aN dD.out (by kernel_rfl)) (fun _ _ _ h=>h) (Or.inl ⟨by rfl,?_⟩) ?_ ?_
     rotate_left
     ·
      intro w'
      go_simp
      with_reducible rfl
     rotate_left
     ·
      simp only [Act.put,List.setIfInBounds_toArray,List.set_cons_zero,List.set_cons_succ,aI,aJ]
      rfl
     refine qL (lG dD.out (by kernel_rfl)) ?_
     try go_wp2
     go_ret
     exact ⟨by first|rfl|(simp [bH,bG] <;> rfl)|(simp [*,bH,bG] <;> rfl),by repeat (first|(with_reducible first|exact HB.out|apply aj|apply af|apply ai|refine az ?_ jw.out|refine az ?_ lg.out)|exact HB.out)⟩
    ·
     rw [if_neg c12] at H
     have ve:(zy.toList == zY.toList)=false:=beq_eq_false_iff_ne.mpr c12
     have QD:(zy.toList != zY.toList)=true:=bne_iff_ne.mpr c12
     obtain rfl:=Option.some.inj H
     go_enter Tryz.func3,Tryz.ntmps3
     try go_wp2_with (first|((with_reducible refine eQ (N:=2) rfl ?_);refine fF ?hg (N:=2) ?hd (cs:=#[.slice dO bD.length dK,.string aY,.string aX,.slice dV aW.length dJ]) (t:=25) ?hr ?_;(case hd=>rfl);(case hg=>rfl);(case hr=>first|(go_simp;done)|(go_simp;rfl));intro fP hg w26 hbox hb;have di:=ae.mk (aQ (by repeat (first|(with_reducible first|exact HB.out|apply aj|apply af|apply ai)|exact HB.out)) hb);have dm:=ae.mk (hbox);have dE:=ae.mk ((by rw [hg];exact (bn (by repeat (first|(with_reducible first|exact HB.out|apply aj|apply af|apply ai)|exact HB.out))):w.heap.size≤fP));have gq:=dE;clear HB;have HB:=di;have bV:=dm;have MJ:=dE;have jw:=gq;clear di dm dE gq;clear hb hbox hg)|((with_reducible refine eQ (N:=3) rfl ?_);refine fF ?hg (N:=3) ?hd (cs:=#[.int .u8 jr,.int .u8 jq,.int .u8 jo,.int .u8 jm,.int .i64 jl]) (t:=27) ?hr ?_;(case hd=>rfl);(case hg=>rfl);(case hr=>first|(go_simp;done)|(go_simp;rfl));intro iQ hg w27 hbox hb;have di:=ae.mk (aV (g:=fP) (o:=.cells #[.slice dO bD.length dK,.string aY,.string aX,.slice dV aW.length dJ] 25 (0,0)) (by (with_reducible repeat (first|refine au ?_ _|refine ay ?_|refine ak ?_ _));exact bV.out) hb);have dm:=ae.mk (aQ (by repeat (first|(with_reducible first|exact HB.out|apply aj|apply af|apply ai|refine az ?_ jw.out)|exact HB.out)) hb);have dE:=ae.mk (hbox);have gq:=ae.mk ((by rw [hg];exact (bn (by repeat (first|(with_reducible first|exact HB.out|apply aj|apply af|apply ai|refine az ?_ jw.out)|exact HB.out))):w.heap.size≤iQ));have jC:=gq;have lN:=ae.mk ((by rw [hg];exact Nat.ne_of_lt (gZ (g:=fP) (o:=.cells #[.slice dO bD.length dK,.string aY,.string aX,.slice dV aW.length dJ] 25 (0,0)) (by (with_reducible repeat (first|refine au ?_ _|refine ay ?_|refine ak ?_ _));exact bV.out)):fP ≠ iQ));have nC:=ae.mk lN.out.symm;clear bV;clear HB;have bV:=di;have HB:=dm;have dL:=dE;have MI:=gq;have lg:=jC;have oV:=lN;have oU:=nC;clear di dm dE gq jC lN nC;clear hb hbox hg)|((with_reducible refine bU (f:=7) rfl ?_);refine gy (some 9) rfl rfl Tryz.func7 (by kernel_rfl) rfl #[] rfl (by (try simp only [List.map_toArray,List.map_cons,List.map_nil]);first|done|rfl|(simp only [List.length_drop,List.length_take];rfl)) ?_;(with_reducible refine (dU.calls k  true _ ?fD A3.out).mono ?_);(case fD=>repeat (first|exact (Kd.dF ry.out HB.out)|(with_reducible refine Kd.ed ?_ _)|(with_reducible refine Kd.dZ ?_ _)|(with_reducible refine Kd.fO ?_)));rintro e Yj ⟨rfl,hb⟩;refine ⟨_,rfl,?_⟩;have di:=ae.mk (aV (g:=fP) (o:=.cells #[.slice dO bD.length dK,.string aY,.string aX,.slice dV aW.length dJ] 25 (0,0)) (by (with_reducible repeat (first|refine au ?_ _|refine ay ?_|refine ak ?_ _));exact bV.out) hb);have dm:=ae.mk (aV (g:=iQ) (o:=.cells #[.int .u8 jr,.int .u8 jq,.int .u8 jo,.int .u8 jm,.int .i64 jl] 27 (0,0)) (by (with_reducible repeat (first|refine au ?_ _|refine ay ?_|refine ak ?_ _));exact dL.out) hb);have dE:=ae.mk (aQ (by repeat (first|(with_reducible first|exact HB.out|apply aj|apply af|apply ai|refine az ?_ jw.out|refine az ?_ lg.out)|exact HB.out)) hb);clear bV;clear dL;clear HB;have bV:=di;have dL:=dm;have HB:=dE;clear di dm dE;(try clear hb);(try clear hb2);(try clear hk);(try clear hi);have agZ:=oV.out;have agI:=oU.out;have Uy:Yj.cell? ⟨fP,0,none⟩=some (.slice dO bD.length dK):=(ah bV.out 0).trans rfl;have Ux:Yj.cell? ⟨fP,1,none⟩=some (.string aY):=(ah bV.out 1).trans rfl;have Uw:Yj.cell? ⟨fP,2,none⟩=some (.string aX):=(ah bV.out 2).trans rfl;have Uu:Yj.cell? ⟨fP,3,none⟩=some (.slice dV aW.length dJ):=(ah bV.out 3).trans rfl;have Tu:=ax bV.out 0;have Tt:=ax bV.out 1;have Tq:=ax bV.out 2;have Tn:=ax bV.out 3)|((with_reducible refine bU (f:=8) rfl ?_);refine gy (some 12) rfl rfl Tryz.func8 (by kernel_rfl) rfl #[.agg #[.slice dO bD.length dK,.string aY,.string aX,.slice dV aW.length dJ]] rfl (by (try simp only [List.map_toArray,List.map_cons,List.map_nil]);first|done|rfl|(simp only [List.length_drop,List.length_take];rfl)) ?_;(with_reducible refine (bP.calls k _ _ bD aY aX _ _ aW true _ ?fD ?jO ?lF ?lD A5.out).mono ?_);(case fD=>repeat (first|exact (Kd.dF kZ.out HB.out)|(with_reducible refine Kd.ed ?_ _)|(with_reducible refine Kd.dZ ?_ _)|(with_reducible refine Kd.fO ?_)));(case jO=>exact qj.out);(case lF=>repeat (first|exact (Kd.dF ny.out HB.out)|(with_reducible refine Kd.ed ?_ _)|(with_reducible refine Kd.dZ ?_ _)|(with_reducible refine Kd.fO ?_)));(case lD=>exact qi.out);rintro e Rw ⟨rfl,hb⟩;refine ⟨_,rfl,?_⟩;have di:=ae.mk (aV (g:=fP) (o:=.cells #[.slice dO bD.length dK,.string aY,.string aX,.slice dV aW.length dJ] 25 (0,0)) (by (with_reducible repeat (first|refine au ?_ _|refine ay ?_|refine ak ?_ _));exact bV.out) hb);have dm:=ae.mk (aV (g:=iQ) (o:=.cells #[.int .u8 jr,.int .u8 jq,.int .u8 jo,.int .u8 jm,.int .i64 jl] 27 (0,0)) (by (with_reducible repeat (first|refine au ?_ _|refine ay ?_|refine ak ?_ _));exact dL.out) hb);have dE:=ae.mk (aQ (by repeat (first|(with_reducible first|exact HB.out|apply aj|apply af|apply ai|refine az ?_ jw.out|refine az ?_ lg.out)|exact HB.out)) hb);clear bV;clear dL;clear HB;have bV:=di;have dL:=dm;have HB:=dE;clear di dm dE;(try clear hb);(try clear hb2);(try clear hk);(try clear hi);have EO:Rw.cell? ⟨fP,0,none⟩=some (.slice dO bD.length dK):=(ah bV.out 0).trans rfl;have EN:Rw.cell? ⟨fP,1,none⟩=some (.string aY):=(ah bV.out 1).trans rfl;have EM:Rw.cell? ⟨fP,2,none⟩=some (.string aX):=(ah bV.out 2).trans rfl;have EL:Rw.cell? ⟨fP,3,none⟩=some (.slice dV aW.length dJ):=(ah bV.out 3).trans rfl;have EC:=ax bV.out 0;have Ez:=ax bV.out 1;have Ey:=ax bV.out 2;have Ew:=ax bV.out 3)|((with_reducible refine bU (f:=9) rfl ?_);refine gy (some 16) rfl rfl Tryz.func9 (by kernel_rfl) rfl #[.agg #[.slice dO bD.length dK,.string aY,.string aX,.slice dV aW.length dJ]] rfl (by (try simp only [List.map_toArray,List.map_cons,List.map_nil]);first|done|rfl|(simp only [List.length_drop,List.length_take];rfl)) ?_;(with_reducible refine (bI.calls k _ _ bD aY aX _ _ aW zy Ib _ ?fD ?jO ?lF ?lD ?oq A7.out).mono ?_);(case fD=>repeat (first|exact (Kd.dF kZ.out HB.out)|(with_reducible refine Kd.ed ?_ _)|(with_reducible refine Kd.dZ ?_ _)|(with_reducible refine Kd.fO ?_)));(case jO=>exact qj.out);(case lF=>repeat (first|exact (Kd.dF ny.out HB.out)|(with_reducible refine Kd.ed ?_ _)|(with_reducible refine Kd.dZ ?_ _)|(with_reducible refine Kd.fO ?_)));(case lD=>exact qi.out);(case oq=>repeat (first|exact (Kd.dF ry.out HB.out)|(with_reducible refine Kd.ed ?_ _)|(with_reducible refine Kd.dZ ?_ _)|(with_reducible refine Kd.fO ?_)));rintro e Ru ⟨rfl,hb⟩;refine ⟨_,rfl,?_⟩;have di:=ae.mk (aV (g:=fP) (o:=.cells #[.slice dO bD.length dK,.string aY,.string aX,.slice dV aW.length dJ] 25 (0,0)) (by (with_reducible repeat (first|refine au ?_ _|refine ay ?_|refine ak ?_ _));exact bV.out) hb);have dm:=ae.mk (aV (g:=iQ) (o:=.cells #[.int .u8 jr,.int .u8 jq,.int .u8 jo,.int .u8 jm,.int .i64 jl] 27 (0,0)) (by (with_reducible repeat (first|refine au ?_ _|refine ay ?_|refine ak ?_ _));exact dL.out) hb);have dE:=ae.mk (aQ (by repeat (first|(with_reducible first|exact HB.out|apply aj|apply af|apply ai|refine az ?_ jw.out|refine az ?_ lg.out)|exact HB.out)) hb);clear bV;clear dL;clear HB;have bV:=di;have dL:=dm;have HB:=dE;clear di dm dE;(try clear hb);(try clear hb2);(try clear hk);(try clear hi);have Ut:Ru.cell? ⟨fP,0,none⟩=some (.slice dO bD.length dK):=(ah bV.out 0).trans rfl;have Us:Ru.cell? ⟨fP,1,none⟩=some (.string aY):=(ah bV.out 1).trans rfl;have Ur:Ru.cell? ⟨fP,2,none⟩=some (.string aX):=(ah bV.out 2).trans rfl;have Uo:Ru.cell? ⟨fP,3,none⟩=some (.slice dV aW.length dJ):=(ah bV.out 3).trans rfl;have Tm:=ax bV.out 0;have Tj:=ax bV.out 1;have Ti:=ax bV.out 2;have Tf:=ax bV.out 3)|((with_reducible refine bU (f:=10) rfl ?_);refine gy (some 21) rfl rfl Tryz.func10 (by kernel_rfl) rfl #[.agg #[.slice dO bD.length dK,.string aY,.string aX,.slice dV aW.length dJ]] rfl (by (try simp only [List.map_toArray,List.map_cons,List.map_nil]);first|done|rfl|(simp only [List.length_drop,List.length_take];rfl)) ?_;(with_reducible refine (aH.calls k _ _ bD aY aX _ _ aW zY MQ _ ?fD ?jO ?lF ?lD ?oq A8.out).mono ?_);(case fD=>repeat (first|exact (Kd.dF kZ.out HB.out)|(with_reducible refine Kd.ed ?_ _)|(with_reducible refine Kd.dZ ?_ _)|(with_reducible refine Kd.fO ?_)));(case jO=>exact qj.out);(case lF=>repeat (first|exact (Kd.dF ny.out HB.out)|(with_reducible refine Kd.ed ?_ _)|(with_reducible refine Kd.dZ ?_ _)|(with_reducible refine Kd.fO ?_)));(case lD=>exact qi.out);(case oq=>repeat (first|exact (Kd.dF ry.out HB.out)|(with_reducible refine Kd.ed ?_ _)|(with_reducible refine Kd.dZ ?_ _)|(with_reducible refine Kd.fO ?_)));rintro e w35 ⟨rfl,hb⟩;refine ⟨_,rfl,?_⟩;have di:=ae.mk (aV (g:=fP) (o:=.cells #[.slice dO bD.length dK,.string aY,.string aX,.slice dV aW.length dJ] 25 (0,0)) (by (with_reducible repeat (first|refine au ?_ _|refine ay ?_|refine ak ?_ _));exact bV.out) hb);have dm:=ae.mk (aV (g:=iQ) (o:=.cells #[.int .u8 jr,.int .u8 jq,.int .u8 jo,.int .u8 jm,.int .i64 jl] 27 (0,0)) (by (with_reducible repeat (first|refine au ?_ _|refine ay ?_|refine ak ?_ _));exact dL.out) hb);have dE:=ae.mk (aQ (by repeat (first|(with_reducible first|exact HB.out|apply aj|apply af|apply ai|refine az ?_ jw.out|refine az ?_ lg.out)|exact HB.out)) hb);clear bV;clear dL;clear HB;have bV:=di;have dL:=dm;have HB:=dE;clear di dm dE;(try clear hb);(try clear hb2);(try clear hk);(try clear hi)))
     have di:=ae.mk (ay bV.out)
     have dm:=ae.mk (ay dL.out)
     have dE:=ae.mk (ai HB.out)
     clear bV
     clear dL
     clear HB
     have bV:=di
     have dL:=dm
     have HB:=dE
     clear di dm dE
     refine nM (n:=16) (S:=fun w'=>w'.cell? ⟨iQ,0,none⟩=some (.int .u8 jr)∧w'.cell? ⟨iQ,1,none⟩=some (.int .u8 jq)∧w'.cell? ⟨iQ,2,none⟩=some (.int .u8 jo)∧w'.cell? ⟨iQ,3,none⟩=some (.int .u8 jm)∧w'.cell? ⟨iQ,4,none⟩=some (.int .i64 jl)) (ds:=[]) #[false,false,false,false,false,false,false,false,false,false,false,false,false,false,false,false] (by kernel_rfl) rfl rfl ⟨(ah dL.out 0).trans rfl,(ah dL.out 1).trans rfl,(ah dL.out 2).trans rfl,(ah dL.out 3).trans rfl,(ah dL.out 4).trans rfl⟩ (fun hHeld=>?_);refine je bT.WN bT.QF (fun dD lK=>?_)
     generalize w35.drew=Yh at bV dL HB hHeld ⊢
     refine gQ (i:=0) (N:=some 24) (v:=?_) (a':=?_) #[true,false,false,false,false,false,false,false,false,false,false,false,false,false,false,false] rfl rfl (dw dD.out lK.out (by kernel_rfl)) (fun _ _ _ h=>h) (Or.inl ⟨by rfl,?_⟩) hHeld ?_ ?_
     rotate_left
     ·
      rintro w' ⟨s0,s1,s2,s3,s4⟩
      go_simp
      with_reducible rfl
     rotate_left
     ·
      simp only [Act.put,List.setIfInBounds_toArray,List.set_cons_zero,List.set_cons_succ,aI,aJ]
      rfl
     refine gQ (i:=2) (N:=some 26) (v:=?_) (a':=?_) #[true,false,true,false,false,false,false,false,false,false,false,false,false,false,false,false] rfl rfl (dw dD.out lK.out (by kernel_rfl)) (fun _ _ _ h=>h) (Or.inl ⟨by rfl,?_⟩) hHeld ?_ ?_
     rotate_left
     ·
      rintro w' ⟨s0,s1,s2,s3,s4⟩
      go_simp
      with_reducible rfl
     rotate_left
     ·
      simp only [Act.put,List.setIfInBounds_toArray,List.set_cons_zero,List.set_cons_succ,aI,aJ]
      rfl
     refine mD (i:=1) (N:=some 25) #[true,true,true,false,false,false,false,false,false,false,false,false,false,false,false,false] rfl rfl (iD dD.out (by kernel_rfl)) (by decide) (fun K hK=>?_)
     refine mG Tryz.func11 (by kernel_rfl) rfl #[.agg #[.int .u8 jr,.int .u8 jq,.int .u8 jo,.int .u8 jm,.int .i64 jl]] (by rfl) rfl rfl (by (try simp only [List.map_toArray,List.map_cons,List.map_nil]);first|done|rfl|(simp only [List.length_drop,List.length_take];rfl)) ?_
     with_reducible refine (eu.calls jr jq jo jm jl o8 _ ?fD A9.out).mono ?_
     (case fD=>repeat (first|exact (Kd.dF ry.out HB.out)|(with_reducible refine Kd.ed ?_ _)|(with_reducible refine Kd.dZ ?_ _)|(with_reducible refine Kd.fO ?_)))
     rintro e w37 ⟨rfl,hb⟩
     refine ⟨_,rfl,?_⟩
     have di:=ae.mk (aV (g:=fP) (o:=.cells #[.slice dO bD.length dK,.string aY,.string aX,.slice dV aW.length dJ] 25 (0,0)) (by (with_reducible repeat (first|refine au ?_ _|refine ay ?_|refine ak ?_ _));exact bV.out) hb)
     have dm:=ae.mk (aV (g:=iQ) (o:=.cells #[.int .u8 jr,.int .u8 jq,.int .u8 jo,.int .u8 jm,.int .i64 jl] 27 (0,0)) (by (with_reducible repeat (first|refine au ?_ _|refine ay ?_|refine ak ?_ _));exact dL.out) hb)
     have dE:=ae.mk (aQ (by repeat (first|(with_reducible first|exact HB.out|apply aj|apply af|apply ai|refine az ?_ jw.out|refine az ?_ lg.out)|exact HB.out)) hb)
     clear bV
     clear dL
     clear HB
     have bV:=di
     have dL:=dm
     have HB:=dE
     clear di dm dE
     (try clear hb)
     (try clear hb2)
     (try clear hk)
     (try clear hi)
     refine hK.out _ _ ⟨(ah dL.out 0).trans rfl,(ah dL.out 1).trans rfl,(ah dL.out 2).trans rfl,(ah dL.out 3).trans rfl,(ah dL.out 4).trans rfl⟩ (fun hHeld=>?_)
     clear hK K
     refine gX (a':=?_) ?_ ?_
     rotate_left
     ·
      show Act.put _ (some 25) _=_
      simp only [Act.put,List.setIfInBounds_toArray,List.set_cons_zero,List.set_cons_succ,aI,aJ]
      rfl
     refine mD (i:=3) (N:=some 27) #[true,true,true,true,false,false,false,false,false,false,false,false,false,false,false,false] rfl rfl (iD dD.out (by kernel_rfl)) (by decide) (fun K hK=>?_)
     refine mG Tryz.func12 (by kernel_rfl) rfl #[.agg #[.int .u8 jr,.int .u8 jq,.int .u8 jo,.int .u8 jm,.int .i64 jl]] (by rfl) rfl rfl (by (try simp only [List.map_toArray,List.map_cons,List.map_nil]);first|done|rfl|(simp only [List.length_drop,List.length_take];rfl)) ?_
     with_reducible refine (bK.calls k jr jq jo jm jl o5 _ ?fD Rj.out).mono ?_
     (case fD=>repeat (first|exact (Kd.dF ry.out HB.out)|(with_reducible refine Kd.ed ?_ _)|(with_reducible refine Kd.dZ ?_ _)|(with_reducible refine Kd.fO ?_)))
     rintro e Rh ⟨rfl,hb⟩
     refine ⟨_,rfl,?_⟩
     have di:=ae.mk (aV (g:=fP) (o:=.cells #[.slice dO bD.length dK,.string aY,.string aX,.slice dV aW.length dJ] 25 (0,0)) (by (with_reducible repeat (first|refine au ?_ _|refine ay ?_|refine ak ?_ _));exact bV.out) hb)
     have dm:=ae.mk (aV (g:=iQ) (o:=.cells #[.int .u8 jr,.int .u8 jq,.int .u8 jo,.int .u8 jm,.int .i64 jl] 27 (0,0)) (by (with_reducible repeat (first|refine au ?_ _|refine ay ?_|refine ak ?_ _));exact dL.out) hb)
     have dE:=ae.mk (aQ (by repeat (first|(with_reducible first|exact HB.out|apply aj|apply af|apply ai|refine az ?_ jw.out|refine az ?_ lg.out)|exact HB.out)) hb)
     clear bV
     clear dL
     clear HB
     have bV:=di
     have dL:=dm
     have HB:=dE
     clear di dm dE
     (try clear hb)
     (try clear hb2)
     (try clear hk)
     (try clear hi)
     refine hK.out _ _ ⟨(ah dL.out 0).trans rfl,(ah dL.out 1).trans rfl,(ah dL.out 2).trans rfl,(ah dL.out 3).trans rfl,(ah dL.out 4).trans rfl⟩ (fun hHeld=>?_)
     clear hK K
     refine gX (a':=?_) ?_ ?_
     rotate_left
     ·
      show Act.put _ (some 27) _=_
      simp only [Act.put,List.setIfInBounds_toArray,List.set_cons_zero,List.set_cons_succ,aI,aJ]
      rfl
     refine bu (i:=4) (N:=some 28) (v:=?_) (a':=?_) #[true,true,true,true,true,false,false,false,false,false,false,false,false,false,false,false] rfl rfl (aN dD.out (by kernel_rfl)) (fun _ _ _ h=>h) (Or.inl ⟨by rfl,?_⟩) ?_ ?_
     rotate_left
     ·
      intro w'
      go_simp
      with_reducible rfl
     rotate_left
     ·
      simp only [Act.put,List.setIfInBounds_toArray,List.set_cons_zero,List.set_cons_succ,aI,aJ]
      rfl
     refine bu (i:=5) (N:=some 29) (v:=?_) (a':=?_) #[true,true,true,true,true,true,false,false,false,false,false,false,false,false,false,false] rfl rfl (aN dD.out (by kernel_rfl)) (fun _ _ _ h=>h) (Or.inl ⟨by rfl,?_⟩) ?_ ?_
     rotate_left
     ·
      intro w'
      go_simp
      with_reducible rfl
     rotate_left
     ·
      simp only [Act.put,List.setIfInBounds_toArray,List.set_cons_zero,List.set_cons_succ,aI,aJ]
      rfl
     refine bu (i:=6) (N:=some 30) (v:=?_) (a':=?_) #[true,true,true,true,true,true,true,false,false,false,false,false,false,false,false,false] rfl rfl (aN dD.out (by kernel_rfl)) (fun _ _ _ h=>h) (Or.inl ⟨by rfl,?_⟩) ?_ ?_
     rotate_left
     ·
      intro w'
      go_simp
      with_reducible rfl
     rotate_left
     ·
      simp only [Act.put,List.setIfInBounds_toArray,List.set_cons_zero,List.set_cons_succ,aI,aJ]
      rfl
     refine bu (i:=7) (N:=some 31) (v:=?_) (a':=?_) #[true,true,true,true,true,true,true,true,false,false,false,false,false,false,false,false] rfl rfl (aN dD.out (by kernel_rfl)) (fun _ _ _ h=>h) (Or.inl ⟨by rfl,?_⟩) ?_ ?_
     rotate_left
     ·
      intro w'
      go_simp
      with_reducible rfl
     rotate_left
     ·
      simp only [Act.put,List.setIfInBounds_toArray,List.set_cons_zero,List.set_cons_succ,aI,aJ]
      rfl
     refine bu (i:=8) (N:=some 32) (v:=?_) (a':=?_) #[true,true,true,true,true,true,true,true,true,false,false,false,false,false,false,false] rfl rfl (aN dD.out (by kernel_rfl)) (fun _ _ _ h=>h) (Or.inl ⟨by rfl,?_⟩) ?_ ?_
     rotate_left
     ·
      intro w'
      go_simp
      with_reducible rfl
     rotate_left
     ·
      simp only [Act.put,List.setIfInBounds_toArray,List.set_cons_zero,List.set_cons_succ,aI,aJ]
      rfl
     refine bu (i:=9) (N:=some 33) (v:=?_) (a':=?_) #[true,true,true,true,true,true,true,true,true,true,false,false,false,false,false,false] rfl rfl (aN dD.out (by kernel_rfl)) (fun _ _ _ h=>h) (Or.inl ⟨by rfl,?_⟩) ?_ ?_
     rotate_left
     ·
      intro w'
      go_simp
      with_reducible rfl
     rotate_left
     ·
      simp only [Act.put,List.setIfInBounds_toArray,List.set_cons_zero,List.set_cons_succ,aI,aJ]
      rfl
     refine bu (i:=10) (N:=some 34) (v:=?_) (a':=?_) #[true,true,true,true,true,true,true,true,true,true,true,false,false,false,false,false] rfl rfl (aN dD.out (by kernel_rfl)) (fun _ _ _ h=>h) (Or.inl ⟨by rfl,?_⟩) ?_ ?_
     rotate_left
     ·
      intro w'
      go_simp
      with_reducible rfl
     rotate_left
     ·
      simp only [Act.put,List.setIfInBounds_toArray,List.set_cons_zero,List.set_cons_succ,aI,aJ]
      rfl
     refine bu (i:=11) (N:=some 35) (v:=undef) (a':=?_) #[true,true,true,true,true,true,true,true,true,true,true,true,false,false,false,false] rfl rfl (aN dD.out (by kernel_rfl)) (fun _ _ _ h=>h) (Or.inr ⟨by rfl,rfl⟩) ?_ ?_
     rotate_left
     ·
      simp only [Act.put,List.setIfInBounds_toArray,List.set_cons_zero,List.set_cons_succ,aI,aJ]
      rfl
     refine bu (i:=12) (N:=some 36) (v:=undef) (a':=?_) #[true,true,true,true,true,true,true,true,true,true,true,true,true,false,false,false] rfl rfl (aN dD.out (by kernel_rfl)) (fun _ _ _ h=>h) (Or.inr ⟨by rfl,rfl⟩) ?_ ?_
     rotate_left
     ·
      simp only [Act.put,List.setIfInBounds_toArray,List.set_cons_zero,List.set_cons_succ,aI,aJ]
      rfl
     refine bu (i:=13) (N:=some 37) (v:=undef) (a':=?_) #[true,true,true,true,true,true,true,true,true,true,true,true,true,true,false,false] rfl rfl (aN dD.out (by kernel_rfl)) (fun _ _ _ h=>h) (Or.inr ⟨by rfl,rfl⟩) ?_ ?_
     rotate_left
     ·
      simp only [Act.put,List.setIfInBounds_toArray,List.set_cons_zero,List.set_cons_succ,aI,aJ]
      rfl
     refine bu (i:=14) (N:=some 38) (v:=?_) (a':=?_) #[true,true,true,true,true,true,true,true,true,true,true,true,true,true,true,false] rfl rfl (aN dD.out (by kernel_rfl)) (fun _ _ _ h=>h) (Or.inl ⟨by rfl,?_⟩) ?_ ?_
     rotate_left
     ·
      intro w'
      go_simp
      with_reducible rfl
     rotate_left
     ·
      simp only [Act.put,List.setIfInBounds_toArray,List.set_cons_zero,List.set_cons_succ,aI,aJ]
      rfl
     refine bu (i:=15) (N:=some 4) (v:=?_) (a':=?_) #[true,true,true,true,true,true,true,true,true,true,true,true,true,true,true,true] rfl rfl (aN dD.out (by kernel_rfl)) (fun _ _ _ h=>h) (Or.inl ⟨by rfl,?_⟩) ?_ ?_
     rotate_left
     ·
      intro w'
      go_simp
      with_reducible rfl
     rotate_left
     ·
      simp only [Act.put,List.setIfInBounds_toArray,List.set_cons_zero,List.set_cons_succ,aI,aJ]
      rfl
     refine qL (lG dD.out (by kernel_rfl)) ?_
     try go_wp2
     go_ret
     exact ⟨by first|rfl|(simp [bH,bG] <;> rfl)|(simp [*,bH,bG] <;> rfl),by repeat (first|(with_reducible first|exact HB.out|apply aj|apply af|apply ai|refine az ?_ jw.out|refine az ?_ lg.out)|exact HB.out)⟩
   ·
    rw [if_neg c11] at H
    have sS:(o8 == o5)=false:=by simpa using c11
    (try (have zo:decide (o8=o5)=false:=by simpa using c11))
    (try (have V5:(o8 == o5)=false:=by simpa using c11))
    (try (have ahr:¬ (o8=o5):=by simpa using c11))
    clear c11
    obtain rfl:=Option.some.inj H
    go_enter Tryz.func3,Tryz.ntmps3
    try go_wp2_with (first|((with_reducible refine eQ (N:=2) rfl ?_);refine fF ?hg (N:=2) ?hd (cs:=#[.slice dO bD.length dK,.string aY,.string aX,.slice dV aW.length dJ]) (t:=25) ?hr ?_;(case hd=>rfl);(case hg=>rfl);(case hr=>first|(go_simp;done)|(go_simp;rfl));intro fP hg Ci hbox hb;have di:=ae.mk (aQ (by repeat (first|(with_reducible first|exact HB.out|apply aj|apply af|apply ai)|exact HB.out)) hb);have dm:=ae.mk (hbox);have dE:=ae.mk ((by rw [hg];exact (bn (by repeat (first|(with_reducible first|exact HB.out|apply aj|apply af|apply ai)|exact HB.out))):w.heap.size≤fP));have gq:=dE;clear HB;have HB:=di;have bV:=dm;have MJ:=dE;have jw:=gq;clear di dm dE gq;clear hb hbox hg)|((with_reducible refine eQ (N:=3) rfl ?_);refine fF ?hg (N:=3) ?hd (cs:=#[.int .u8 jr,.int .u8 jq,.int .u8 jo,.int .u8 jm,.int .i64 jl]) (t:=27) ?hr ?_;(case hd=>rfl);(case hg=>rfl);(case hr=>first|(go_simp;done)|(go_simp;rfl));intro iQ hg w40 hbox hb;have di:=ae.mk (aV (g:=fP) (o:=.cells #[.slice dO bD.length dK,.string aY,.string aX,.slice dV aW.length dJ] 25 (0,0)) (by (with_reducible repeat (first|refine au ?_ _|refine ay ?_|refine ak ?_ _));exact bV.out) hb);have dm:=ae.mk (aQ (by repeat (first|(with_reducible first|exact HB.out|apply aj|apply af|apply ai|refine az ?_ jw.out)|exact HB.out)) hb);have dE:=ae.mk (hbox);have gq:=ae.mk ((by rw [hg];exact (bn (by repeat (first|(with_reducible first|exact HB.out|apply aj|apply af|apply ai|refine az ?_ jw.out)|exact HB.out))):w.heap.size≤iQ));have jC:=gq;have lN:=ae.mk ((by rw [hg];exact Nat.ne_of_lt (gZ (g:=fP) (o:=.cells #[.slice dO bD.length dK,.string aY,.string aX,.slice dV aW.length dJ] 25 (0,0)) (by (with_reducible repeat (first|refine au ?_ _|refine ay ?_|refine ak ?_ _));exact bV.out)):fP ≠ iQ));have nC:=ae.mk lN.out.symm;clear bV;clear HB;have bV:=di;have HB:=dm;have dL:=dE;have MI:=gq;have lg:=jC;have oV:=lN;have oU:=nC;clear di dm dE gq jC lN nC;clear hb hbox hg)|((with_reducible refine bU (f:=7) rfl ?_);refine gy (some 9) rfl rfl Tryz.func7 (by kernel_rfl) rfl #[] rfl (by (try simp only [List.map_toArray,List.map_cons,List.map_nil]);first|done|rfl|(simp only [List.length_drop,List.length_take];rfl)) ?_;(with_reducible refine (dU.calls k  true _ ?fD A3.out).mono ?_);(case fD=>repeat (first|exact (Kd.dF ry.out HB.out)|(with_reducible refine Kd.ed ?_ _)|(with_reducible refine Kd.dZ ?_ _)|(with_reducible refine Kd.fO ?_)));rintro e Yz ⟨rfl,hb⟩;refine ⟨_,rfl,?_⟩;have di:=ae.mk (aV (g:=fP) (o:=.cells #[.slice dO bD.length dK,.string aY,.string aX,.slice dV aW.length dJ] 25 (0,0)) (by (with_reducible repeat (first|refine au ?_ _|refine ay ?_|refine ak ?_ _));exact bV.out) hb);have dm:=ae.mk (aV (g:=iQ) (o:=.cells #[.int .u8 jr,.int .u8 jq,.int .u8 jo,.int .u8 jm,.int .i64 jl] 27 (0,0)) (by (with_reducible repeat (first|refine au ?_ _|refine ay ?_|refine ak ?_ _));exact dL.out) hb);have dE:=ae.mk (aQ (by repeat (first|(with_reducible first|exact HB.out|apply aj|apply af|apply ai|refine az ?_ jw.out|refine az ?_ lg.out)|exact HB.out)) hb);clear bV;clear dL;clear HB;have bV:=di;have dL:=dm;have HB:=dE;clear di dm dE;(try clear hb);(try clear hb2);(try clear hk);(try clear hi);have agU:=oV.out;have agD:=oU.out;have adV:Yz.cell? ⟨fP,0,none⟩=some (.slice dO bD.length dK):=(ah bV.out 0).trans rfl;have adU:Yz.cell? ⟨fP,1,none⟩=some (.string aY):=(ah bV.out 1).trans rfl;have adT:Yz.cell? ⟨fP,2,none⟩=some (.string aX):=(ah bV.out 2).trans rfl;have adS:Yz.cell? ⟨fP,3,none⟩=some (.slice dV aW.length dJ):=(ah bV.out 3).trans rfl;have acw:=ax bV.out 0;have acv:=ax bV.out 1;have acu:=ax bV.out 2;have acs:=ax bV.out 3)|((with_reducible refine bU (f:=8) rfl ?_);refine gy (some 12) rfl rfl Tryz.func8 (by kernel_rfl) rfl #[.agg #[.slice dO bD.length dK,.string aY,.string aX,.slice dV aW.length dJ]] rfl (by (try simp only [List.map_toArray,List.map_cons,List.map_nil]);first|done|rfl|(simp only [List.length_drop,List.length_take];rfl)) ?_;(with_reducible refine (bP.calls k _ _ bD aY aX _ _ aW true _ ?fD ?jO ?lF ?lD A5.out).mono ?_);(case fD=>repeat (first|exact (Kd.dF kZ.out HB.out)|(with_reducible refine Kd.ed ?_ _)|(with_reducible refine Kd.dZ ?_ _)|(with_reducible refine Kd.fO ?_)));(case jO=>exact qj.out);(case lF=>repeat (first|exact (Kd.dF ny.out HB.out)|(with_reducible refine Kd.ed ?_ _)|(with_reducible refine Kd.dZ ?_ _)|(with_reducible refine Kd.fO ?_)));(case lD=>exact qi.out);rintro e w44 ⟨rfl,hb⟩;refine ⟨_,rfl,?_⟩;have di:=ae.mk (aV (g:=fP) (o:=.cells #[.slice dO bD.length dK,.string aY,.string aX,.slice dV aW.length dJ] 25 (0,0)) (by (with_reducible repeat (first|refine au ?_ _|refine ay ?_|refine ak ?_ _));exact bV.out) hb);have dm:=ae.mk (aV (g:=iQ) (o:=.cells #[.int .u8 jr,.int .u8 jq,.int .u8 jo,.int .u8 jm,.int .i64 jl] 27 (0,0)) (by (with_reducible repeat (first|refine au ?_ _|refine ay ?_|refine ak ?_ _));exact dL.out) hb);have dE:=ae.mk (aQ (by repeat (first|(with_reducible first|exact HB.out|apply aj|apply af|apply ai|refine az ?_ jw.out|refine az ?_ lg.out)|exact HB.out)) hb);clear bV;clear dL;clear HB;have bV:=di;have dL:=dm;have HB:=dE;clear di dm dE;(try clear hb);(try clear hb2);(try clear hk);(try clear hi);have adN:w44.cell? ⟨fP,0,none⟩=some (.slice dO bD.length dK):=(ah bV.out 0).trans rfl;have adM:w44.cell? ⟨fP,1,none⟩=some (.string aY):=(ah bV.out 1).trans rfl;have adL:w44.cell? ⟨fP,2,none⟩=some (.string aX):=(ah bV.out 2).trans rfl;have adK:w44.cell? ⟨fP,3,none⟩=some (.slice dV aW.length dJ):=(ah bV.out 3).trans rfl;have acm:=ax bV.out 0;have ack:=ax bV.out 1;have acj:=ax bV.out 2;have aci:=ax bV.out 3)|((with_reducible refine bU (f:=9) rfl ?_);refine gy (some 16) rfl rfl Tryz.func9 (by kernel_rfl) rfl #[.agg #[.slice dO bD.length dK,.string aY,.string aX,.slice dV aW.length dJ]] rfl (by (try simp only [List.map_toArray,List.map_cons,List.map_nil]);first|done|rfl|(simp only [List.length_drop,List.length_take];rfl)) ?_;(with_reducible refine (bI.calls k _ _ bD aY aX _ _ aW zy Ib _ ?fD ?jO ?lF ?lD ?oq A7.out).mono ?_);(case fD=>repeat (first|exact (Kd.dF kZ.out HB.out)|(with_reducible refine Kd.ed ?_ _)|(with_reducible refine Kd.dZ ?_ _)|(with_reducible refine Kd.fO ?_)));(case jO=>exact qj.out);(case lF=>repeat (first|exact (Kd.dF ny.out HB.out)|(with_reducible refine Kd.ed ?_ _)|(with_reducible refine Kd.dZ ?_ _)|(with_reducible refine Kd.fO ?_)));(case lD=>exact qi.out);(case oq=>repeat (first|exact (Kd.dF ry.out HB.out)|(with_reducible refine Kd.ed ?_ _)|(with_reducible refine Kd.dZ ?_ _)|(with_reducible refine Kd.fO ?_)));rintro e Yy ⟨rfl,hb⟩;refine ⟨_,rfl,?_⟩;have di:=ae.mk (aV (g:=fP) (o:=.cells #[.slice dO bD.length dK,.string aY,.string aX,.slice dV aW.length dJ] 25 (0,0)) (by (with_reducible repeat (first|refine au ?_ _|refine ay ?_|refine ak ?_ _));exact bV.out) hb);have dm:=ae.mk (aV (g:=iQ) (o:=.cells #[.int .u8 jr,.int .u8 jq,.int .u8 jo,.int .u8 jm,.int .i64 jl] 27 (0,0)) (by (with_reducible repeat (first|refine au ?_ _|refine ay ?_|refine ak ?_ _));exact dL.out) hb);have dE:=ae.mk (aQ (by repeat (first|(with_reducible first|exact HB.out|apply aj|apply af|apply ai|refine az ?_ jw.out|refine az ?_ lg.out)|exact HB.out)) hb);clear bV;clear dL;clear HB;have bV:=di;have dL:=dm;have HB:=dE;clear di dm dE;(try clear hb);(try clear hb2);(try clear hk);(try clear hi);have Uj:Yy.cell? ⟨fP,0,none⟩=some (.slice dO bD.length dK):=(ah bV.out 0).trans rfl;have Ui:Yy.cell? ⟨fP,1,none⟩=some (.string aY):=(ah bV.out 1).trans rfl;have Uh:Yy.cell? ⟨fP,2,none⟩=some (.string aX):=(ah bV.out 2).trans rfl;have Ug:Yy.cell? ⟨fP,3,none⟩=some (.slice dV aW.length dJ):=(ah bV.out 3).trans rfl;have SX:=ax bV.out 0;have SV:=ax bV.out 1;have SS:=ax bV.out 2;have SQ:=ax bV.out 3)|((with_reducible refine bU (f:=10) rfl ?_);refine gy (some 21) rfl rfl Tryz.func10 (by kernel_rfl) rfl #[.agg #[.slice dO bD.length dK,.string aY,.string aX,.slice dV aW.length dJ]] rfl (by (try simp only [List.map_toArray,List.map_cons,List.map_nil]);first|done|rfl|(simp only [List.length_drop,List.length_take];rfl)) ?_;(with_reducible refine (aH.calls k _ _ bD aY aX _ _ aW zY MQ _ ?fD ?jO ?lF ?lD ?oq A8.out).mono ?_);(case fD=>repeat (first|exact (Kd.dF kZ.out HB.out)|(with_reducible refine Kd.ed ?_ _)|(with_reducible refine Kd.dZ ?_ _)|(with_reducible refine Kd.fO ?_)));(case jO=>exact qj.out);(case lF=>repeat (first|exact (Kd.dF ny.out HB.out)|(with_reducible refine Kd.ed ?_ _)|(with_reducible refine Kd.dZ ?_ _)|(with_reducible refine Kd.fO ?_)));(case lD=>exact qi.out);(case oq=>repeat (first|exact (Kd.dF ry.out HB.out)|(with_reducible refine Kd.ed ?_ _)|(with_reducible refine Kd.dZ ?_ _)|(with_reducible refine Kd.fO ?_)));rintro e w48 ⟨rfl,hb⟩;refine ⟨_,rfl,?_⟩;have di:=ae.mk (aV (g:=fP) (o:=.cells #[.slice dO bD.length dK,.string aY,.string aX,.slice dV aW.length dJ] 25 (0,0)) (by (with_reducible repeat (first|refine au ?_ _|refine ay ?_|refine ak ?_ _));exact bV.out) hb);have dm:=ae.mk (aV (g:=iQ) (o:=.cells #[.int .u8 jr,.int .u8 jq,.int .u8 jo,.int .u8 jm,.int .i64 jl] 27 (0,0)) (by (with_reducible repeat (first|refine au ?_ _|refine ay ?_|refine ak ?_ _));exact dL.out) hb);have dE:=ae.mk (aQ (by repeat (first|(with_reducible first|exact HB.out|apply aj|apply af|apply ai|refine az ?_ jw.out|refine az ?_ lg.out)|exact HB.out)) hb);clear bV;clear dL;clear HB;have bV:=di;have dL:=dm;have HB:=dE;clear di dm dE;(try clear hb);(try clear hb2);(try clear hk);(try clear hi)))
    have di:=ae.mk (ay bV.out)
    have dm:=ae.mk (ay dL.out)
    have dE:=ae.mk (ai HB.out)
    clear bV
    clear dL
    clear HB
    have bV:=di
    have dL:=dm
    have HB:=dE
    clear di dm dE
    refine nM (n:=16) (S:=fun w'=>w'.cell? ⟨iQ,0,none⟩=some (.int .u8 jr)∧w'.cell? ⟨iQ,1,none⟩=some (.int .u8 jq)∧w'.cell? ⟨iQ,2,none⟩=some (.int .u8 jo)∧w'.cell? ⟨iQ,3,none⟩=some (.int .u8 jm)∧w'.cell? ⟨iQ,4,none⟩=some (.int .i64 jl)) (ds:=[]) #[false,false,false,false,false,false,false,false,false,false,false,false,false,false,false,false] (by kernel_rfl) rfl rfl ⟨(ah dL.out 0).trans rfl,(ah dL.out 1).trans rfl,(ah dL.out 2).trans rfl,(ah dL.out 3).trans rfl,(ah dL.out 4).trans rfl⟩ (fun hHeld=>?_);refine je bT.WN bT.QF (fun dD lK=>?_)
    generalize w48.drew=w49 at bV dL HB hHeld ⊢
    refine gQ (i:=0) (N:=some 24) (v:=?_) (a':=?_) #[true,false,false,false,false,false,false,false,false,false,false,false,false,false,false,false] rfl rfl (dw dD.out lK.out (by kernel_rfl)) (fun _ _ _ h=>h) (Or.inl ⟨by rfl,?_⟩) hHeld ?_ ?_
    rotate_left
    ·
     rintro w' ⟨s0,s1,s2,s3,s4⟩
     go_simp
     with_reducible rfl
    rotate_left
    ·
     simp only [Act.put,List.setIfInBounds_toArray,List.set_cons_zero,List.set_cons_succ,aI,aJ]
     rfl
    refine gQ (i:=2) (N:=some 26) (v:=?_) (a':=?_) #[true,false,true,false,false,false,false,false,false,false,false,false,false,false,false,false] rfl rfl (dw dD.out lK.out (by kernel_rfl)) (fun _ _ _ h=>h) (Or.inl ⟨by rfl,?_⟩) hHeld ?_ ?_
    rotate_left
    ·
     rintro w' ⟨s0,s1,s2,s3,s4⟩
     go_simp
     with_reducible rfl
    rotate_left
    ·
     simp only [Act.put,List.setIfInBounds_toArray,List.set_cons_zero,List.set_cons_succ,aI,aJ]
     rfl
    refine mD (i:=1) (N:=some 25) #[true,true,true,false,false,false,false,false,false,false,false,false,false,false,false,false] rfl rfl (iD dD.out (by kernel_rfl)) (by decide) (fun K hK=>?_)
    refine mG Tryz.func11 (by kernel_rfl) rfl #[.agg #[.int .u8 jr,.int .u8 jq,.int .u8 jo,.int .u8 jm,.int .i64 jl]] (by rfl) rfl rfl (by (try simp only [List.map_toArray,List.map_cons,List.map_nil]);first|done|rfl|(simp only [List.length_drop,List.length_take];rfl)) ?_
    with_reducible refine (eu.calls jr jq jo jm jl o8 _ ?fD A9.out).mono ?_
    (case fD=>repeat (first|exact (Kd.dF ry.out HB.out)|(with_reducible refine Kd.ed ?_ _)|(with_reducible refine Kd.dZ ?_ _)|(with_reducible refine Kd.fO ?_)))
    rintro e w50 ⟨rfl,hb⟩
    refine ⟨_,rfl,?_⟩
    have di:=ae.mk (aV (g:=fP) (o:=.cells #[.slice dO bD.length dK,.string aY,.string aX,.slice dV aW.length dJ] 25 (0,0)) (by (with_reducible repeat (first|refine au ?_ _|refine ay ?_|refine ak ?_ _));exact bV.out) hb)
    have dm:=ae.mk (aV (g:=iQ) (o:=.cells #[.int .u8 jr,.int .u8 jq,.int .u8 jo,.int .u8 jm,.int .i64 jl] 27 (0,0)) (by (with_reducible repeat (first|refine au ?_ _|refine ay ?_|refine ak ?_ _));exact dL.out) hb)
    have dE:=ae.mk (aQ (by repeat (first|(with_reducible first|exact HB.out|apply aj|apply af|apply ai|refine az ?_ jw.out|refine az ?_ lg.out)|exact HB.out)) hb)
    clear bV
    clear dL
    clear HB
    have bV:=di
    have dL:=dm
    have HB:=dE
    clear di dm dE
    (try clear hb)
    (try clear hb2)
    (try clear hk)
    (try clear hi)
    refine hK.out _ _ ⟨(ah dL.out 0).trans rfl,(ah dL.out 1).trans rfl,(ah dL.out 2).trans rfl,(ah dL.out 3).trans rfl,(ah dL.out 4).trans rfl⟩ (fun hHeld=>?_)
    clear hK K
    refine gX (a':=?_) ?_ ?_
    rotate_left
    ·
     show Act.put _ (some 25) _=_
     simp only [Act.put,List.setIfInBounds_toArray,List.set_cons_zero,List.set_cons_succ,aI,aJ]
     rfl
    refine mD (i:=3) (N:=some 27) #[true,true,true,true,false,false,false,false,false,false,false,false,false,false,false,false] rfl rfl (iD dD.out (by kernel_rfl)) (by decide) (fun K hK=>?_)
    refine mG Tryz.func12 (by kernel_rfl) rfl #[.agg #[.int .u8 jr,.int .u8 jq,.int .u8 jo,.int .u8 jm,.int .i64 jl]] (by rfl) rfl rfl (by (try simp only [List.map_toArray,List.map_cons,List.map_nil]);first|done|rfl|(simp only [List.length_drop,List.length_take];rfl)) ?_
    with_reducible refine (bK.calls k jr jq jo jm jl o5 _ ?fD Rj.out).mono ?_
    (case fD=>repeat (first|exact (Kd.dF ry.out HB.out)|(with_reducible refine Kd.ed ?_ _)|(with_reducible refine Kd.dZ ?_ _)|(with_reducible refine Kd.fO ?_)))
    rintro e Cf ⟨rfl,hb⟩
    refine ⟨_,rfl,?_⟩
    have di:=ae.mk (aV (g:=fP) (o:=.cells #[.slice dO bD.length dK,.string aY,.string aX,.slice dV aW.length dJ] 25 (0,0)) (by (with_reducible repeat (first|refine au ?_ _|refine ay ?_|refine ak ?_ _));exact bV.out) hb)
    have dm:=ae.mk (aV (g:=iQ) (o:=.cells #[.int .u8 jr,.int .u8 jq,.int .u8 jo,.int .u8 jm,.int .i64 jl] 27 (0,0)) (by (with_reducible repeat (first|refine au ?_ _|refine ay ?_|refine ak ?_ _));exact dL.out) hb)
    have dE:=ae.mk (aQ (by repeat (first|(with_reducible first|exact HB.out|apply aj|apply af|apply ai|refine az ?_ jw.out|refine az ?_ lg.out)|exact HB.out)) hb)
    clear bV
    clear dL
    clear HB
    have bV:=di
    have dL:=dm
    have HB:=dE
    clear di dm dE
    (try clear hb)
    (try clear hb2)
    (try clear hk)
    (try clear hi)
    refine hK.out _ _ ⟨(ah dL.out 0).trans rfl,(ah dL.out 1).trans rfl,(ah dL.out 2).trans rfl,(ah dL.out 3).trans rfl,(ah dL.out 4).trans rfl⟩ (fun hHeld=>?_)
    clear hK K
    refine gX (a':=?_) ?_ ?_
    rotate_left
    ·
     show Act.put _ (some 27) _=_
     simp only [Act.put,List.setIfInBounds_toArray,List.set_cons_zero,List.set_cons_succ,aI,aJ]
     rfl
    refine bu (i:=4) (N:=some 28) (v:=?_) (a':=?_) #[true,true,true,true,true,false,false,false,false,false,false,false,false,false,false,false] rfl rfl (aN dD.out (by kernel_rfl)) (fun _ _ _ h=>h) (Or.inl ⟨by rfl,?_⟩) ?_ ?_
    rotate_left
    ·
     intro w'
     go_simp
     with_reducible rfl
    rotate_left
    ·
     simp only [Act.put,List.setIfInBounds_toArray,List.set_cons_zero,List.set_cons_succ,aI,aJ]
     rfl
    refine bu (i:=5) (N:=some 29) (v:=?_) (a':=?_) #[true,true,true,true,true,true,false,false,false,false,false,false,false,false,false,false] rfl rfl (aN dD.out (by kernel_rfl)) (fun _ _ _ h=>h) (Or.inl ⟨by rfl,?_⟩) ?_ ?_
    rotate_left
    ·
     intro w'
     go_simp
     with_reducible rfl
    rotate_left
    ·
     simp only [Act.put,List.setIfInBounds_toArray,List.set_cons_zero,List.set_cons_succ,aI,aJ]
     rfl
    refine bu (i:=6) (N:=some 30) (v:=undef) (a':=?_) #[true,true,true,true,true,true,true,false,false,false,false,false,false,false,false,false] rfl rfl (aN dD.out (by kernel_rfl)) (fun _ _ _ h=>h) (Or.inr ⟨by rfl,rfl⟩) ?_ ?_
    rotate_left
    ·
     simp only [Act.put,List.setIfInBounds_toArray,List.set_cons_zero,List.set_cons_succ,aI,aJ]
     rfl
    refine bu (i:=7) (N:=some 31) (v:=undef) (a':=?_) #[true,true,true,true,true,true,true,true,false,false,false,false,false,false,false,false] rfl rfl (aN dD.out (by kernel_rfl)) (fun _ _ _ h=>h) (Or.inr ⟨by rfl,rfl⟩) ?_ ?_
    rotate_left
    ·
     simp only [Act.put,List.setIfInBounds_toArray,List.set_cons_zero,List.set_cons_succ,aI,aJ]
     rfl
    refine bu (i:=8) (N:=some 32) (v:=undef) (a':=?_) #[true,true,true,true,true,true,true,true,true,false,false,false,false,false,false,false] rfl rfl (aN dD.out (by kernel_rfl)) (fun _ _ _ h=>h) (Or.inr ⟨by rfl,rfl⟩) ?_ ?_
    rotate_left
    ·
     simp only [Act.put,List.setIfInBounds_toArray,List.set_cons_zero,List.set_cons_succ,aI,aJ]
     rfl
    refine bu (i:=9) (N:=some 33) (v:=?_) (a':=?_) #[true,true,true,true,true,true,true,true,true,true,false,false,false,false,false,false] rfl rfl (aN dD.out (by kernel_rfl)) (fun _ _ _ h=>h) (Or.inl ⟨by rfl,?_⟩) ?_ ?_
    rotate_left
    ·
     intro w'
     go_simp
     with_reducible rfl
    rotate_left
    ·
     simp only [Act.put,List.setIfInBounds_toArray,List.set_cons_zero,List.set_cons_succ,aI,aJ]
     rfl
    refine bu (i:=10) (N:=some 34) (v:=?_) (a':=?_) #[true,true,true,true,true,true,true,true,true,true,true,false,false,false,false,false] rfl rfl (aN dD.out (by kernel_rfl)) (fun _ _ _ h=>h) (Or.inl ⟨by rfl,?_⟩) ?_ ?_
    rotate_left
    ·
     intro w'
     go_simp
     with_reducible rfl
    rotate_left
    ·
     simp only [Act.put,List.setIfInBounds_toArray,List.set_cons_zero,List.set_cons_succ,aI,aJ]
     rfl
    refine bu (i:=11) (N:=some 35) (v:=undef) (a':=?_) #[true,true,true,true,true,true,true,true,true,true,true,true,false,false,false,false] rfl rfl (aN dD.out (by kernel_rfl)) (fun _ _ _ h=>h) (Or.inr ⟨by rfl,rfl⟩) ?_ ?_
    rotate_left
    ·
     simp only [Act.put,List.setIfInBounds_toArray,List.set_cons_zero,List.set_cons_succ,aI,aJ]
     rfl
    refine bu (i:=12) (N:=some 36) (v:=undef) (a':=?_) #[true,true,true,true,true,true,true,true,true,true,true,true,true,false,false,false] rfl rfl (aN dD.out (by kernel_rfl)) (fun _ _ _ h=>h) (Or.inr ⟨by rfl,rfl⟩) ?_ ?_
    rotate_left
    ·
     simp only [Act.put,List.setIfInBounds_toArray,List.set_cons_zero,List.set_cons_succ,aI,aJ]
     rfl
    refine bu (i:=13) (N:=some 37) (v:=undef) (a':=?_) #[true,true,true,true,true,true,true,true,true,true,true,true,true,true,false,false] rfl rfl (aN dD.out (by kernel_rfl)) (fun _ _ _ h=>h) (Or.inr ⟨by rfl,rfl⟩) ?_ ?_
    rotate_left
    ·
     simp only [Act.put,List.setIfInBounds_toArray,List.set_cons_zero,List.set_cons_succ,aI,aJ]
     rfl
    refine bu (i:=14) (N:=some 38) (v:=?_) (a':=?_) #[true,true,true,true,true,true,true,true,true,true,true,true,true,true,true,false] rfl rfl (aN dD.out (by kernel_rfl)) (fun _ _ _ h=>h) (Or.inl ⟨by rfl,?_⟩) ?_ ?_
    rotate_left
    ·
     intro w'
     go_simp
     with_reducible rfl
    rotate_left
    ·
     simp only [Act.put,List.setIfInBounds_toArray,List.set_cons_zero,List.set_cons_succ,aI,aJ]
     rfl
    refine bu (i:=15) (N:=some 4) (v:=?_) (a':=?_) #[true,true,true,true,true,true,true,true,true,true,true,true,true,true,true,true] rfl rfl (aN dD.out (by kernel_rfl)) (fun _ _ _ h=>h) (Or.inl ⟨by rfl,?_⟩) ?_ ?_
    rotate_left
    ·
     intro w'
     go_simp
     with_reducible rfl
    rotate_left
    ·
     simp only [Act.put,List.setIfInBounds_toArray,List.set_cons_zero,List.set_cons_succ,aI,aJ]
     rfl
    refine qL (lG dD.out (by kernel_rfl)) ?_
    try go_wp2
    go_ret
    exact ⟨by first|rfl|(simp [bH,bG] <;> rfl)|(simp [*,bH,bG] <;> rfl),by repeat (first|(with_reducible first|exact HB.out|apply aj|apply af|apply ai|refine az ?_ jw.out|refine az ?_ lg.out)|exact HB.out)⟩
  ·
   replace c6:=Bool.eq_false_iff.mpr c6
   subst c6
   have H1:(some true)=some r:=by rw [if_neg (show ¬ (false=true) by decide)] at H;exact H
   clear H
   have H:=H1
   clear H1
   obtain rfl:=Option.some.inj H
   go_enter Tryz.func3,Tryz.ntmps3
   go_wp2_with (first|((with_reducible refine eQ (N:=2) rfl ?_);refine fF ?hg (N:=2) ?hd (cs:=#[.slice dO bD.length dK,.string aY,.string aX,.slice dV aW.length dJ]) (t:=25) ?hr ?_;(case hd=>rfl);(case hg=>rfl);(case hr=>first|(go_simp;done)|(go_simp;rfl));intro fP hg w52 hbox hb;have di:=ae.mk (aQ (by repeat (first|(with_reducible first|exact HB.out|apply aj|apply af|apply ai)|exact HB.out)) hb);have dm:=ae.mk (hbox);have dE:=ae.mk ((by rw [hg];exact (bn (by repeat (first|(with_reducible first|exact HB.out|apply aj|apply af|apply ai)|exact HB.out))):w.heap.size≤fP));have gq:=dE;clear HB;have HB:=di;have bV:=dm;have MJ:=dE;have jw:=gq;clear di dm dE gq;clear hb hbox hg)|((with_reducible refine eQ (N:=3) rfl ?_);refine fF ?hg (N:=3) ?hd (cs:=#[.int .u8 jr,.int .u8 jq,.int .u8 jo,.int .u8 jm,.int .i64 jl]) (t:=27) ?hr ?_;(case hd=>rfl);(case hg=>rfl);(case hr=>first|(go_simp;done)|(go_simp;rfl));intro iQ hg w53 hbox hb;have di:=ae.mk (aV (g:=fP) (o:=.cells #[.slice dO bD.length dK,.string aY,.string aX,.slice dV aW.length dJ] 25 (0,0)) (by (with_reducible repeat (first|refine au ?_ _|refine ay ?_|refine ak ?_ _));exact bV.out) hb);have dm:=ae.mk (aQ (by repeat (first|(with_reducible first|exact HB.out|apply aj|apply af|apply ai|refine az ?_ jw.out)|exact HB.out)) hb);have dE:=ae.mk (hbox);have gq:=ae.mk ((by rw [hg];exact (bn (by repeat (first|(with_reducible first|exact HB.out|apply aj|apply af|apply ai|refine az ?_ jw.out)|exact HB.out))):w.heap.size≤iQ));have jC:=gq;have lN:=ae.mk ((by rw [hg];exact Nat.ne_of_lt (gZ (g:=fP) (o:=.cells #[.slice dO bD.length dK,.string aY,.string aX,.slice dV aW.length dJ] 25 (0,0)) (by (with_reducible repeat (first|refine au ?_ _|refine ay ?_|refine ak ?_ _));exact bV.out)):fP ≠ iQ));have nC:=ae.mk lN.out.symm;clear bV;clear HB;have bV:=di;have HB:=dm;have dL:=dE;have MI:=gq;have lg:=jC;have oV:=lN;have oU:=nC;clear di dm dE gq jC lN nC;clear hb hbox hg)|((with_reducible refine bU (f:=7) rfl ?_);refine gy (some 9) rfl rfl Tryz.func7 (by kernel_rfl) rfl #[] rfl (by (try simp only [List.map_toArray,List.map_cons,List.map_nil]);first|done|rfl|(simp only [List.length_drop,List.length_take];rfl)) ?_;(with_reducible refine (dU.calls k  true _ ?fD A3.out).mono ?_);(case fD=>repeat (first|exact (Kd.dF ry.out HB.out)|(with_reducible refine Kd.ed ?_ _)|(with_reducible refine Kd.dZ ?_ _)|(with_reducible refine Kd.fO ?_)));rintro e w54 ⟨rfl,hb⟩;refine ⟨_,rfl,?_⟩;have di:=ae.mk (aV (g:=fP) (o:=.cells #[.slice dO bD.length dK,.string aY,.string aX,.slice dV aW.length dJ] 25 (0,0)) (by (with_reducible repeat (first|refine au ?_ _|refine ay ?_|refine ak ?_ _));exact bV.out) hb);have dm:=ae.mk (aV (g:=iQ) (o:=.cells #[.int .u8 jr,.int .u8 jq,.int .u8 jo,.int .u8 jm,.int .i64 jl] 27 (0,0)) (by (with_reducible repeat (first|refine au ?_ _|refine ay ?_|refine ak ?_ _));exact dL.out) hb);have dE:=ae.mk (aQ (by repeat (first|(with_reducible first|exact HB.out|apply aj|apply af|apply ai|refine az ?_ jw.out|refine az ?_ lg.out)|exact HB.out)) hb);clear bV;clear dL;clear HB;have bV:=di;have dL:=dm;have HB:=dE;clear di dm dE;(try clear hb);(try clear hb2);(try clear hk);(try clear hi);have agR:=oV.out;have agA:=oU.out;have adE:w54.cell? ⟨fP,0,none⟩=some (.slice dO bD.length dK):=(ah bV.out 0).trans rfl;have adD:w54.cell? ⟨fP,1,none⟩=some (.string aY):=(ah bV.out 1).trans rfl;have adC:w54.cell? ⟨fP,2,none⟩=some (.string aX):=(ah bV.out 2).trans rfl;have adB:w54.cell? ⟨fP,3,none⟩=some (.slice dV aW.length dJ):=(ah bV.out 3).trans rfl;have acb:=ax bV.out 0;have aca:=ax bV.out 1;have ab9:=ax bV.out 2;have ab8:=ax bV.out 3)|((with_reducible refine bU (f:=8) rfl ?_);refine gy (some 12) rfl rfl Tryz.func8 (by kernel_rfl) rfl #[.agg #[.slice dO bD.length dK,.string aY,.string aX,.slice dV aW.length dJ]] rfl (by (try simp only [List.map_toArray,List.map_cons,List.map_nil]);first|done|rfl|(simp only [List.length_drop,List.length_take];rfl)) ?_;(with_reducible refine (bP.calls k _ _ bD aY aX _ _ aW false _ ?fD ?jO ?lF ?lD A5.out).mono ?_);(case fD=>repeat (first|exact (Kd.dF kZ.out HB.out)|(with_reducible refine Kd.ed ?_ _)|(with_reducible refine Kd.dZ ?_ _)|(with_reducible refine Kd.fO ?_)));(case jO=>exact qj.out);(case lF=>repeat (first|exact (Kd.dF ny.out HB.out)|(with_reducible refine Kd.ed ?_ _)|(with_reducible refine Kd.dZ ?_ _)|(with_reducible refine Kd.fO ?_)));(case lD=>exact qi.out);rintro e w57 ⟨rfl,hb⟩;refine ⟨_,rfl,?_⟩;have di:=ae.mk (aV (g:=fP) (o:=.cells #[.slice dO bD.length dK,.string aY,.string aX,.slice dV aW.length dJ] 25 (0,0)) (by (with_reducible repeat (first|refine au ?_ _|refine ay ?_|refine ak ?_ _));exact bV.out) hb);have dm:=ae.mk (aV (g:=iQ) (o:=.cells #[.int .u8 jr,.int .u8 jq,.int .u8 jo,.int .u8 jm,.int .i64 jl] 27 (0,0)) (by (with_reducible repeat (first|refine au ?_ _|refine ay ?_|refine ak ?_ _));exact dL.out) hb);have dE:=ae.mk (aQ (by repeat (first|(with_reducible first|exact HB.out|apply aj|apply af|apply ai|refine az ?_ jw.out|refine az ?_ lg.out)|exact HB.out)) hb);clear bV;clear dL;clear HB;have bV:=di;have dL:=dm;have HB:=dE;clear di dm dE;(try clear hb);(try clear hb2);(try clear hk);(try clear hi)))
   go_ret
   exact ⟨by first|rfl|(simp [bH,bG] <;> rfl)|(simp [*,bH,bG] <;> rfl),by repeat (first|(with_reducible first|exact HB.out|apply aj|apply af|apply ai|refine az ?_ jw.out|refine az ?_ lg.out)|exact HB.out)⟩
 ·
  replace c4:=Bool.eq_false_iff.mpr c4
  subst c4
  have H1:(some false)=some r:=by rw [if_neg (show ¬ (false=true) by decide)] at H;exact H
  clear H
  have H:=H1
  clear H1
  obtain rfl:=Option.some.inj H
  go_enter Tryz.func3,Tryz.ntmps3
  go_wp2_with (first|((with_reducible refine eQ (N:=2) rfl ?_);refine fF ?hg (N:=2) ?hd (cs:=#[.slice dO bD.length dK,.string aY,.string aX,.slice dV aW.length dJ]) (t:=25) ?hr ?_;(case hd=>rfl);(case hg=>rfl);(case hr=>first|(go_simp;done)|(go_simp;rfl));intro fP hg w58 hbox hb;have di:=ae.mk (aQ (by repeat (first|(with_reducible first|exact HB.out|apply aj|apply af|apply ai)|exact HB.out)) hb);have dm:=ae.mk (hbox);have dE:=ae.mk ((by rw [hg];exact (bn (by repeat (first|(with_reducible first|exact HB.out|apply aj|apply af|apply ai)|exact HB.out))):w.heap.size≤fP));have gq:=dE;clear HB;have HB:=di;have bV:=dm;have MJ:=dE;have jw:=gq;clear di dm dE gq;clear hb hbox hg)|((with_reducible refine eQ (N:=3) rfl ?_);refine fF ?hg (N:=3) ?hd (cs:=#[.int .u8 jr,.int .u8 jq,.int .u8 jo,.int .u8 jm,.int .i64 jl]) (t:=27) ?hr ?_;(case hd=>rfl);(case hg=>rfl);(case hr=>first|(go_simp;done)|(go_simp;rfl));intro iQ hg w59 hbox hb;have di:=ae.mk (aV (g:=fP) (o:=.cells #[.slice dO bD.length dK,.string aY,.string aX,.slice dV aW.length dJ] 25 (0,0)) (by (with_reducible repeat (first|refine au ?_ _|refine ay ?_|refine ak ?_ _));exact bV.out) hb);have dm:=ae.mk (aQ (by repeat (first|(with_reducible first|exact HB.out|apply aj|apply af|apply ai|refine az ?_ jw.out)|exact HB.out)) hb);have dE:=ae.mk (hbox);have gq:=ae.mk ((by rw [hg];exact (bn (by repeat (first|(with_reducible first|exact HB.out|apply aj|apply af|apply ai|refine az ?_ jw.out)|exact HB.out))):w.heap.size≤iQ));have jC:=gq;have lN:=ae.mk ((by rw [hg];exact Nat.ne_of_lt (gZ (g:=fP) (o:=.cells #[.slice dO bD.length dK,.string aY,.string aX,.slice dV aW.length dJ] 25 (0,0)) (by (with_reducible repeat (first|refine au ?_ _|refine ay ?_|refine ak ?_ _));exact bV.out)):fP ≠ iQ));have nC:=ae.mk lN.out.symm;clear bV;clear HB;have bV:=di;have HB:=dm;have dL:=dE;have MI:=gq;have lg:=jC;have oV:=lN;have oU:=nC;clear di dm dE gq jC lN nC;clear hb hbox hg)|((with_reducible refine bU (f:=7) rfl ?_);refine gy (some 9) rfl rfl Tryz.func7 (by kernel_rfl) rfl #[] rfl (by (try simp only [List.map_toArray,List.map_cons,List.map_nil]);first|done|rfl|(simp only [List.length_drop,List.length_take];rfl)) ?_;(with_reducible refine (dU.calls k  false _ ?fD A3.out).mono ?_);(case fD=>repeat (first|exact (Kd.dF ry.out HB.out)|(with_reducible refine Kd.ed ?_ _)|(with_reducible refine Kd.dZ ?_ _)|(with_reducible refine Kd.fO ?_)));rintro e w60 ⟨rfl,hb⟩;refine ⟨_,rfl,?_⟩;have di:=ae.mk (aV (g:=fP) (o:=.cells #[.slice dO bD.length dK,.string aY,.string aX,.slice dV aW.length dJ] 25 (0,0)) (by (with_reducible repeat (first|refine au ?_ _|refine ay ?_|refine ak ?_ _));exact bV.out) hb);have dm:=ae.mk (aV (g:=iQ) (o:=.cells #[.int .u8 jr,.int .u8 jq,.int .u8 jo,.int .u8 jm,.int .i64 jl] 27 (0,0)) (by (with_reducible repeat (first|refine au ?_ _|refine ay ?_|refine ak ?_ _));exact dL.out) hb);have dE:=ae.mk (aQ (by repeat (first|(with_reducible first|exact HB.out|apply aj|apply af|apply ai|refine az ?_ jw.out|refine az ?_ lg.out)|exact HB.out)) hb);clear bV;clear dL;clear HB;have bV:=di;have dL:=dm;have HB:=dE;clear di dm dE;(try clear hb);(try clear hb2);(try clear hk);(try clear hi)))
  go_ret
  exact ⟨by first|rfl|(simp [bH,bG] <;> rfl)|(simp [*,bH,bG] <;> rfl),by repeat (first|(with_reducible first|exact HB.out|apply aj|apply af|apply ai|refine az ?_ jw.out|refine az ?_ lg.out)|exact HB.out)⟩
end Go.Proofs.YtkclndkbccbhaaaGreatDoor.P
end
