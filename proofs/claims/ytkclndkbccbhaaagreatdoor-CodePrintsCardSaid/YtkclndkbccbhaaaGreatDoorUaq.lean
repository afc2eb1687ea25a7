/- Parts of the proof of CodePrints: what the functions that it reaches compute, and plain facts about that. -/
import Derived.Test.YtkclndkbccbhaaaGreatDoorUac
import Derived.Test.YtkclndkbccbhaaaGreatDoorUad
import Derived.Test.YtkclndkbccbhaaaGreatDoorUag
import Derived.Test.YtkclndkbccbhaaaGreatDoorUam
import Derived.Test.YtkclndkbccbhaaaGreatDoorUap
import Derived.Test.YtkclndkbccbhaaaGreatDoorUan
import Derived.Test.YtkclndkbccbhaaaGreatDoorUao
set_option linter.unusedVariables false
set_option linter.unusedSimpArgs false
section
namespace Go.Proofs.YtkclndkbccbhaaaGreatDoor.P
open Go.RowKit Go.Proofs.ag.bJ Go.Proofs.ag.eX Go.Proofs.ag.gp
attribute [local go_sem] kM kK lT lS jE jD kL kJ
attribute [local go_sem high] Qp
def bK.f (k:Nat) (dP:Int) (aY:Int) (aX:Int) (dW:Int) (eP:Int):Option (Bool):=(eY.f dP).bind fun QE=>(if QE.1.toList=([]:List UInt8) then (some false) else ((aT.f k dP aY aX dW eP).bind fun t233=>((aG.f k t233).bind fun mM=>(if mM.2.2.2.2.2=true then (some (mM.1 == dP && (mM.2.1 == aY && (mM.2.2.1 == aX && (mM.2.2.2.1 == dW && (mM.2.2.2.2.1 == eP)))))) else (some false)))))
theorem bK.mono:∀ a0 a1 a2 a3 a4 k,dH (bK.f k a0 a1 a2 a3 a4) (bK.f (k+1) a0 a1 a2 a3 a4):=by
 intro a0 a1 a2 a3 a4 k
 unfold bK.f
 repeat' with_reducible first|apply aT.mono|apply aG.mono|exact dH.refl _|exact dH.none _|refine dH.ite ?_ ?_|refine dH.bind ?_ (fun _=>?_)
set_option maxHeartbeats 8000000 in
set_option maxRecDepth 100000 in
theorem bK.calls (k:Nat) (dP:Int) (aY:Int) (aX:Int) (dW:Int) (eP:Int) (r:Bool) (w:World) (jM:Kd.C tu w tC lJ.length lJ) (h:bK.f k dP aY aX dW eP=some r) :
  Calls Tryz.prog 12 #[.agg #[.int .u8 dP,.int .u8 aY,.int .u8 aX,.int .u8 dW,.int .i64 eP]] w fun e w'=>e=.returned (.bool r)∧Below w.heap.size w w':=by
 have BR:=Tryz.underlying27
 have ry:=ae.mk jM
 clear jM
 have HB:=ae.mk (Below.refl w.heap.size w)
 have H:((eY.f dP).bind fun QE=>(if QE.1.toList=([]:List UInt8) then (some false) else ((aT.f k dP aY aX dW eP).bind fun t233=>((aG.f k t233).bind fun mM=>(if mM.2.2.2.2.2=true then (some (mM.1 == dP && (mM.2.1 == aY && (mM.2.2.1 == aX && (mM.2.2.2.1 == dW && (mM.2.2.2.2.1 == eP)))))) else (some false))))))=some r:=h
 clear h
 replace H:=Option.bind_eq_some_iff.mp H
 obtain ⟨⟨t231,t232⟩,Ce,H⟩:=H
 replace H:(if t231.toList=([]:List UInt8) then (some false) else ((aT.f k dP aY aX dW eP).bind fun t233=>((aG.f k t233).bind fun mM=>(if mM.2.2.2.2.2=true then (some (mM.1 == dP && (mM.2.1 == aY && (mM.2.2.1 == aX && (mM.2.2.2.1 == dW && (mM.2.2.2.2.1 == eP)))))) else (some false)))))=some r:=H
 have A2:=ae.mk Ce
 clear Ce
 by_cases c3:t231.toList=([]:List UInt8)
 ·
  rw [if_pos c3] at H
  have qo:(t231.toList == ([]:List UInt8))=true:=beq_iff_eq.mpr c3
  have xN:(t231.toList != ([]:List UInt8))=false:=bne_eq_false_iff_eq.mpr c3
  clear c3
  obtain rfl:=Option.some.inj H
  go_enter Tryz.func12,Tryz.ntmps12
  go_wp2_with (first|((with_reducible refine eQ (N:=1) rfl ?_);refine fF ?hg (N:=1) ?hd (cs:=#[.int .u8 dP,.int .u8 aY,.int .u8 aX,.int .u8 dW,.int .i64 eP]) (t:=27) ?hr ?_;(case hd=>rfl);(case hg=>rfl);(case hr=>first|(go_simp;done)|(go_simp;rfl));intro iU hg w4 hbox hb;have di:=ae.mk (aQ (by repeat (first|(with_reducible first|exact HB.out|apply aj|apply af|apply ai)|exact HB.out)) hb);have dm:=ae.mk (hbox);have dE:=ae.mk ((by rw [hg];exact (bn (by repeat (first|(with_reducible first|exact HB.out|apply aj|apply af|apply ai)|exact HB.out))):w.heap.size≤iU));have gq:=dE;clear HB;have HB:=di;have gz:=dm;have Wy:=dE;have qP:=gq;clear di dm dE gq;clear hb hbox hg;have Bf:w4.cell? ⟨iU,0,none⟩=some (.int .u8 dP):=(ah gz.out 0).trans rfl;have Be:w4.cell? ⟨iU,1,none⟩=some (.int .u8 aY):=(ah gz.out 1).trans rfl;have Bd:w4.cell? ⟨iU,2,none⟩=some (.int .u8 aX):=(ah gz.out 2).trans rfl;have Bc:w4.cell? ⟨iU,3,none⟩=some (.int .u8 dW):=(ah gz.out 3).trans rfl;have XB:w4.cell? ⟨iU,4,none⟩=some (.int .i64 eP):=(ah gz.out 4).trans rfl;have Ba:=ax gz.out 0;have AZ:=ax gz.out 1;have AY:=ax gz.out 2;have AX:=ax gz.out 3;have Xu:=ax gz.out 4)|((with_reducible refine bU (f:=27) rfl ?_);refine gy (some 10) rfl rfl Tryz.func27 (by kernel_rfl) rfl #[.int .u8 dP] rfl (by (try simp only [List.map_toArray,List.map_cons,List.map_nil]);first|done|rfl|(simp only [List.length_drop,List.length_take];rfl)) ?_;(with_reducible refine (eY.calls dP t231 t232 _ A2.out).mono ?_);rintro e w' ⟨rfl,⟨nd,rfl⟩⟩;refine ⟨_,rfl,?_⟩))
  go_ret
  exact ⟨by first|rfl|(simp [bH,bG] <;> rfl)|(simp [*,bH,bG] <;> rfl),by repeat (first|(with_reducible first|exact HB.out|apply aj|apply af|apply ai|refine az ?_ qP.out)|exact HB.out)⟩
 ·
  rw [if_neg c3] at H
  have qo:(t231.toList == ([]:List UInt8))=false:=beq_eq_false_iff_ne.mpr c3
  have xN:(t231.toList != ([]:List UInt8))=true:=bne_iff_ne.mpr c3
  replace H:=Option.bind_eq_some_iff.mp H
  obtain ⟨t233,A60,H⟩:=H
  replace H:((aG.f k t233).bind fun mM=>(if mM.2.2.2.2.2=true then (some (mM.1 == dP && (mM.2.1 == aY && (mM.2.2.1 == aX && (mM.2.2.2.1 == dW && (mM.2.2.2.2.1 == eP)))))) else (some false)))=some r:=H
  have A6:=ae.mk A60
  clear A60
  replace H:=Option.bind_eq_some_iff.mp H
  obtain ⟨⟨t236,t237,t238,t239,t240,t241⟩,Q7,H⟩:=H
  replace H:(if t241=true then (some (t236 == dP && (t237 == aY && (t238 == aX && (t239 == dW && (t240 == eP)))))) else (some false))=some r:=H
  have A7:=ae.mk Q7
  clear Q7
  by_cases c8:t241=true
  ·
   subst c8
   have H1:(some (t236 == dP && (t237 == aY && (t238 == aX && (t239 == dW && (t240 == eP))))))=some r:=by rw [if_pos rfl] at H;exact H
   clear H
   have H:=H1
   clear H1
   obtain rfl:=Option.some.inj H
   go_enter Tryz.func12,Tryz.ntmps12
   go_wp2_with (first|((with_reducible refine eQ (N:=1) rfl ?_);refine fF ?hg (N:=1) ?hd (cs:=#[.int .u8 dP,.int .u8 aY,.int .u8 aX,.int .u8 dW,.int .i64 eP]) (t:=27) ?hr ?_;(case hd=>rfl);(case hg=>rfl);(case hr=>first|(go_simp;done)|(go_simp;rfl));intro iU hg w9 hbox hb;have di:=ae.mk (aQ (by repeat (first|(with_reducible first|exact HB.out|apply aj|apply af|apply ai)|exact HB.out)) hb);have dm:=ae.mk (hbox);have dE:=ae.mk ((by rw [hg];exact (bn (by repeat (first|(with_reducible first|exact HB.out|apply aj|apply af|apply ai)|exact HB.out))):w.heap.size≤iU));have gq:=dE;clear HB;have HB:=di;have gz:=dm;have Wy:=dE;have qP:=gq;clear di dm dE gq;clear hb hbox hg;have Lr:w9.cell? ⟨iU,0,none⟩=some (.int .u8 dP):=(ah gz.out 0).trans rfl;have Lp:w9.cell? ⟨iU,1,none⟩=some (.int .u8 aY):=(ah gz.out 1).trans rfl;have Lm:w9.cell? ⟨iU,2,none⟩=some (.int .u8 aX):=(ah gz.out 2).trans rfl;have Ll:w9.cell? ⟨iU,3,none⟩=some (.int .u8 dW):=(ah gz.out 3).trans rfl;have aeD:w9.cell? ⟨iU,4,none⟩=some (.int .i64 eP):=(ah gz.out 4).trans rfl;have KF:=ax gz.out 0;have KE:=ax gz.out 1;have KD:=ax gz.out 2;have KC:=ax gz.out 3;have adb:=ax gz.out 4)|((with_reducible refine bU (f:=27) rfl ?_);refine gy (some 10) rfl rfl Tryz.func27 (by kernel_rfl) rfl #[.int .u8 dP] rfl (by (try simp only [List.map_toArray,List.map_cons,List.map_nil]);first|done|rfl|(simp only [List.length_drop,List.length_take];rfl)) ?_;(with_reducible refine (eY.calls dP t231 t232 _ A2.out).mono ?_);rintro e w' ⟨rfl,⟨nd,rfl⟩⟩;refine ⟨_,rfl,?_⟩;(try (rw [rX w9];generalize BK:World.drewN w9 _=w9;have di:ae (w9.heap[iU]? = some (.cells #[.int .u8 dP,.int .u8 aY,.int .u8 aX,.int .u8 dW,.int .i64 eP] 27 (0,0))):=⟨by rw [← BK];exact (by (with_reducible repeat (first|refine au ?_ _|refine ay ?_|refine ak ?_ _));exact gz.out)⟩;have dm:ae (Below w.heap.size w w9):=⟨by rw [← BK];exact (by repeat (first|(with_reducible first|exact HB.out|apply aj|apply af|apply ai|refine az ?_ qP.out)|exact HB.out))⟩;clear gz HB BK;have gz:=di;have HB:=dm;clear di dm;have PV:w9.cell? ⟨iU,0,none⟩=some (.int .u8 dP):=(ah gz.out 0).trans rfl;have PU:w9.cell? ⟨iU,1,none⟩=some (.int .u8 aY):=(ah gz.out 1).trans rfl;have PT:w9.cell? ⟨iU,2,none⟩=some (.int .u8 aX):=(ah gz.out 2).trans rfl;have PS:w9.cell? ⟨iU,3,none⟩=some (.int .u8 dW):=(ah gz.out 3).trans rfl;have PR:w9.cell? ⟨iU,4,none⟩=some (.int .i64 eP):=(ah gz.out 4).trans rfl)))|((with_reducible refine bU (f:=24) rfl ?_);refine gy (some 17) rfl rfl Tryz.func24 (by kernel_rfl) rfl #[.agg #[.int .u8 dP,.int .u8 aY,.int .u8 aX,.int .u8 dW,.int .i64 eP]] rfl (by (try simp only [List.map_toArray,List.map_cons,List.map_nil]);first|done|rfl|(simp only [List.length_drop,List.length_take];rfl)) ?_;(with_reducible refine (aT.calls k dP aY aX dW eP t233 _ ?fD A6.out).mono ?_);(case fD=>repeat (first|exact (Kd.dF ry.out HB.out)|(with_reducible refine Kd.ed ?_ _)|(with_reducible refine Kd.dZ ?_ _)|(with_reducible refine Kd.fO ?_)));rintro e w11 ⟨v234,rfl,ho0,hb⟩;refine ⟨_,rfl,?_⟩;have di:=ae.mk (Kd.iM ho0 (bn (by repeat (first|(with_reducible first|exact HB.out|apply aj|apply af|apply ai|refine az ?_ qP.out)|exact HB.out))));have dm:=ae.mk (aV (g:=iU) (o:=.cells #[.int .u8 dP,.int .u8 aY,.int .u8 aX,.int .u8 dW,.int .i64 eP] 27 (0,0)) (by (with_reducible repeat (first|refine au ?_ _|refine ay ?_|refine ak ?_ _));exact gz.out) hb);have dE:=ae.mk (aQ (by repeat (first|(with_reducible first|exact HB.out|apply aj|apply af|apply ai|refine az ?_ qP.out)|exact HB.out)) hb);clear gz;clear HB;have qh:=di;have gz:=dm;have HB:=dE;clear di dm dE;(try clear hb);(try clear hb2);(try clear hk);(try clear hi);(try clear ho0);obtain ⟨agf,afV,afD⟩:=Kd.iW qh.out;subst afD)|((with_reducible refine bU (f:=28) rfl ?_);refine gy (some 18) rfl rfl Tryz.func28 (by kernel_rfl) rfl #[.slice agf t233.length afV] rfl (by (try simp only [List.map_toArray,List.map_cons,List.map_nil]);first|done|rfl|(simp only [List.length_drop,List.length_take];rfl)) ?_;(with_reducible refine (aG.calls k _ _ t233 t236 t237 t238 t239 t240 true _ ?fD ?jO A7.out).mono ?_);(case fD=>repeat (first|exact (Kd.iO qh.out).2.2|(with_reducible refine Kd.ed ?_ _)|(with_reducible refine Kd.dZ ?_ _)|(with_reducible refine Kd.fO ?_)));(case jO=>exact (Kd.iO qh.out).2.1);rintro e w13 ⟨rfl,hb⟩;refine ⟨_,rfl,?_⟩;have di:=ae.mk (Kd.iF (by (with_reducible repeat (first|apply Kd.dn|apply Kd.dA|apply Kd.dQ));exact qh.out) hb);have dm:=ae.mk (aV (g:=iU) (o:=.cells #[.int .u8 dP,.int .u8 aY,.int .u8 aX,.int .u8 dW,.int .i64 eP] 27 (0,0)) (by (with_reducible repeat (first|refine au ?_ _|refine ay ?_|refine ak ?_ _));exact gz.out) hb);have dE:=ae.mk (aQ (by repeat (first|(with_reducible first|exact HB.out|apply aj|apply af|apply ai|refine az ?_ qP.out)|exact HB.out)) hb);clear qh;clear gz;clear HB;have qh:=di;have gz:=dm;have HB:=dE;clear di dm dE;(try clear hb);(try clear hb2);(try clear hk);(try clear hi))|((with_reducible refine eQ (N:=5) rfl ?_);refine fF ?hg (N:=5) ?hd (cs:=#[.int .u8 0,.int .u8 0,.int .u8 0,.int .u8 0,.int .i64 0]) (t:=27) ?hr ?_;(case hd=>rfl);(case hg=>rfl);(case hr=>first|(go_simp;done)|(go_simp;rfl));intro rW hg MO hbox hb;have di:=ae.mk (Kd.iF (by (with_reducible repeat (first|apply Kd.dn|apply Kd.dA|apply Kd.dQ));exact qh.out) hb);have dm:=ae.mk (aV (g:=iU) (o:=.cells #[.int .u8 dP,.int .u8 aY,.int .u8 aX,.int .u8 dW,.int .i64 eP] 27 (0,0)) (by (with_reducible repeat (first|refine au ?_ _|refine ay ?_|refine ak ?_ _));exact gz.out) hb);have dE:=ae.mk (aQ (by repeat (first|(with_reducible first|exact HB.out|apply aj|apply af|apply ai|refine az ?_ qP.out)|exact HB.out)) hb);have gq:=ae.mk (hbox);have jC:=ae.mk ((by rw [hg];exact (bn (by repeat (first|(with_reducible first|exact HB.out|apply aj|apply af|apply ai|refine az ?_ qP.out)|exact HB.out))):w.heap.size≤rW));have lN:=jC;have nC:=ae.mk ((by rw [hg];exact Nat.ne_of_lt (gZ (g:=iU) (o:=.cells #[.int .u8 dP,.int .u8 aY,.int .u8 aX,.int .u8 dW,.int .i64 eP] 27 (0,0)) (by (with_reducible repeat (first|refine au ?_ _|refine ay ?_|refine ak ?_ _));exact gz.out)):iU ≠ rW));have uX:=ae.mk nC.out.symm;clear qh;clear gz;clear HB;have qh:=di;have gz:=dm;have HB:=dE;have oC:=gq;have aae:=jC;have Q5:=lN;have yU:=nC;have yT:=uX;clear di dm dE gq jC lN nC uX;clear hb hbox hg;have YU:=yT.out;have YR:=yU.out;have Lh:MO.cell? ⟨rW,0,none⟩=some (.int .u8 0):=(ah oC.out 0).trans rfl;have Le:MO.cell? ⟨rW,1,none⟩=some (.int .u8 0):=(ah oC.out 1).trans rfl;have Ld:MO.cell? ⟨rW,2,none⟩=some (.int .u8 0):=(ah oC.out 2).trans rfl;have Lc:MO.cell? ⟨rW,3,none⟩=some (.int .u8 0):=(ah oC.out 3).trans rfl;have U0:MO.cell? ⟨rW,4,none⟩=some (.int .i64 0):=(ah oC.out 4).trans rfl;have Kz:=ax oC.out 0;have Ky:=ax oC.out 1;have Kw:=ax oC.out 2;have Kv:=ax oC.out 3;have TZ:=ax oC.out 4;have La:MO.cell? ⟨iU,0,none⟩=some (.int .u8 dP):=(ah gz.out 0).trans rfl;have KY:MO.cell? ⟨iU,1,none⟩=some (.int .u8 aY):=(ah gz.out 1).trans rfl;have KX:MO.cell? ⟨iU,2,none⟩=some (.int .u8 aX):=(ah gz.out 2).trans rfl;have KW:MO.cell? ⟨iU,3,none⟩=some (.int .u8 dW):=(ah gz.out 3).trans rfl;have UZ:MO.cell? ⟨iU,4,none⟩=some (.int .i64 eP):=(ah gz.out 4).trans rfl;have Ku:=ax gz.out 0;have Kt:=ax gz.out 1;have Kr:=ax gz.out 2;have Kq:=ax gz.out 3;have TY:=ax gz.out 4))
   go_ret
   exact ⟨by first|rfl|(simp [bH,bG] <;> rfl)|(simp [*,bH,bG] <;> rfl),by repeat (first|(with_reducible first|exact HB.out|apply aj|apply af|apply ai|refine az ?_ qP.out|refine az ?_ Q5.out)|exact HB.out)⟩
  ·
   replace c8:=Bool.eq_false_iff.mpr c8
   subst c8
   have H1:(some false)=some r:=by rw [if_neg (show ¬ (false=true) by decide)] at H;exact H
   clear H
   have H:=H1
   clear H1
   obtain rfl:=Option.some.inj H
   go_enter Tryz.func12,Tryz.ntmps12
   go_wp2_with (first|((with_reducible refine eQ (N:=1) rfl ?_);refine fF ?hg (N:=1) ?hd (cs:=#[.int .u8 dP,.int .u8 aY,.int .u8 aX,.int .u8 dW,.int .i64 eP]) (t:=27) ?hr ?_;(case hd=>rfl);(case hg=>rfl);(case hr=>first|(go_simp;done)|(go_simp;rfl));intro iU hg yZ hbox hb;have di:=ae.mk (aQ (by repeat (first|(with_reducible first|exact HB.out|apply aj|apply af|apply ai)|exact HB.out)) hb);have dm:=ae.mk (hbox);have dE:=ae.mk ((by rw [hg];exact (bn (by repeat (first|(with_reducible first|exact HB.out|apply aj|apply af|apply ai)|exact HB.out))):w.heap.size≤iU));have gq:=dE;clear HB;have HB:=di;have gz:=dm;have Wy:=dE;have qP:=gq;clear di dm dE gq;clear hb hbox hg;have KU:yZ.cell? ⟨iU,0,none⟩=some (.int .u8 dP):=(ah gz.out 0).trans rfl;have KT:yZ.cell? ⟨iU,1,none⟩=some (.int .u8 aY):=(ah gz.out 1).trans rfl;have KR:yZ.cell? ⟨iU,2,none⟩=some (.int .u8 aX):=(ah gz.out 2).trans rfl;have KQ:yZ.cell? ⟨iU,3,none⟩=some (.int .u8 dW):=(ah gz.out 3).trans rfl;have aex:yZ.cell? ⟨iU,4,none⟩=some (.int .i64 eP):=(ah gz.out 4).trans rfl;have Ko:=ax gz.out 0;have J9:=ax gz.out 1;have J8:=ax gz.out 2;have J7:=ax gz.out 3;have ac5:=ax gz.out 4)|((with_reducible refine bU (f:=27) rfl ?_);refine gy (some 10) rfl rfl Tryz.func27 (by kernel_rfl) rfl #[.int .u8 dP] rfl (by (try simp only [List.map_toArray,List.map_cons,List.map_nil]);first|done|rfl|(simp only [List.length_drop,List.length_take];rfl)) ?_;(with_reducible refine (eY.calls dP t231 t232 _ A2.out).mono ?_);rintro e w' ⟨rfl,⟨nd,rfl⟩⟩;refine ⟨_,rfl,?_⟩;(try (rw [rX yZ];generalize BK:World.drewN yZ _=yZ;have di:ae (yZ.heap[iU]? = some (.cells #[.int .u8 dP,.int .u8 aY,.int .u8 aX,.int .u8 dW,.int .i64 eP] 27 (0,0))):=⟨by rw [← BK];exact (by (with_reducible repeat (first|refine au ?_ _|refine ay ?_|refine ak ?_ _));exact gz.out)⟩;have dm:ae (Below w.heap.size w yZ):=⟨by rw [← BK];exact (by repeat (first|(with_reducible first|exact HB.out|apply aj|apply af|apply ai|refine az ?_ qP.out)|exact HB.out))⟩;clear gz HB BK;have gz:=di;have HB:=dm;clear di dm;have PV:yZ.cell? ⟨iU,0,none⟩=some (.int .u8 dP):=(ah gz.out 0).trans rfl;have PU:yZ.cell? ⟨iU,1,none⟩=some (.int .u8 aY):=(ah gz.out 1).trans rfl;have PT:yZ.cell? ⟨iU,2,none⟩=some (.int .u8 aX):=(ah gz.out 2).trans rfl;have PS:yZ.cell? ⟨iU,3,none⟩=some (.int .u8 dW):=(ah gz.out 3).trans rfl;have PR:yZ.cell? ⟨iU,4,none⟩=some (.int .i64 eP):=(ah gz.out 4).trans rfl)))|((with_reducible refine bU (f:=24) rfl ?_);refine gy (some 17) rfl rfl Tryz.func24 (by kernel_rfl) rfl #[.agg #[.int .u8 dP,.int .u8 aY,.int .u8 aX,.int .u8 dW,.int .i64 eP]] rfl (by (try simp only [List.map_toArray,List.map_cons,List.map_nil]);first|done|rfl|(simp only [List.length_drop,List.length_take];rfl)) ?_;(with_reducible refine (aT.calls k dP aY aX dW eP t233 _ ?fD A6.out).mono ?_);(case fD=>repeat (first|exact (Kd.dF ry.out HB.out)|(with_reducible refine Kd.ed ?_ _)|(with_reducible refine Kd.dZ ?_ _)|(with_reducible refine Kd.fO ?_)));rintro e WG ⟨v234,rfl,ho0,hb⟩;refine ⟨_,rfl,?_⟩;have di:=ae.mk (Kd.iM ho0 (bn (by repeat (first|(with_reducible first|exact HB.out|apply aj|apply af|apply ai|refine az ?_ qP.out)|exact HB.out))));have dm:=ae.mk (aV (g:=iU) (o:=.cells #[.int .u8 dP,.int .u8 aY,.int .u8 aX,.int .u8 dW,.int .i64 eP] 27 (0,0)) (by (with_reducible repeat (first|refine au ?_ _|refine ay ?_|refine ak ?_ _));exact gz.out) hb);have dE:=ae.mk (aQ (by repeat (first|(with_reducible first|exact HB.out|apply aj|apply af|apply ai|refine az ?_ qP.out)|exact HB.out)) hb);clear gz;clear HB;have qh:=di;have gz:=dm;have HB:=dE;clear di dm dE;(try clear hb);(try clear hb2);(try clear hk);(try clear hi);(try clear ho0);obtain ⟨agc,afS,afx⟩:=Kd.iW qh.out;subst afx)|((with_reducible refine bU (f:=28) rfl ?_);refine gy (some 18) rfl rfl Tryz.func28 (by kernel_rfl) rfl #[.slice agc t233.length afS] rfl (by (try simp only [List.map_toArray,List.map_cons,List.map_nil]);first|done|rfl|(simp only [List.length_drop,List.length_take];rfl)) ?_;(with_reducible refine (aG.calls k _ _ t233 t236 t237 t238 t239 t240 false _ ?fD ?jO A7.out).mono ?_);(case fD=>repeat (first|exact (Kd.iO qh.out).2.2|(with_reducible refine Kd.ed ?_ _)|(with_reducible refine Kd.dZ ?_ _)|(with_reducible refine Kd.fO ?_)));(case jO=>exact (Kd.iO qh.out).2.1);rintro e Oi ⟨rfl,hb⟩;refine ⟨_,rfl,?_⟩;have di:=ae.mk (Kd.iF (by (with_reducible repeat (first|apply Kd.dn|apply Kd.dA|apply Kd.dQ));exact qh.out) hb);have dm:=ae.mk (aV (g:=iU) (o:=.cells #[.int .u8 dP,.int .u8 aY,.int .u8 aX,.int .u8 dW,.int .i64 eP] 27 (0,0)) (by (with_reducible repeat (first|refine au ?_ _|refine ay ?_|refine ak ?_ _));exact gz.out) hb);have dE:=ae.mk (aQ (by repeat (first|(with_reducible first|exact HB.out|apply aj|apply af|apply ai|refine az ?_ qP.out)|exact HB.out)) hb);clear qh;clear gz;clear HB;have qh:=di;have gz:=dm;have HB:=dE;clear di dm dE;(try clear hb);(try clear hb2);(try clear hk);(try clear hi))|((with_reducible refine eQ (N:=5) rfl ?_);refine fF ?hg (N:=5) ?hd (cs:=#[.int .u8 0,.int .u8 0,.int .u8 0,.int .u8 0,.int .i64 0]) (t:=27) ?hr ?_;(case hd=>rfl);(case hg=>rfl);(case hr=>first|(go_simp;done)|(go_simp;rfl));intro rW hg zI hbox hb;have di:=ae.mk (Kd.iF (by (with_reducible repeat (first|apply Kd.dn|apply Kd.dA|apply Kd.dQ));exact qh.out) hb);have dm:=ae.mk (aV (g:=iU) (o:=.cells #[.int .u8 dP,.int .u8 aY,.int .u8 aX,.int .u8 dW,.int .i64 eP] 27 (0,0)) (by (with_reducible repeat (first|refine au ?_ _|refine ay ?_|refine ak ?_ _));exact gz.out) hb);have dE:=ae.mk (aQ (by repeat (first|(with_reducible first|exact HB.out|apply aj|apply af|apply ai|refine az ?_ qP.out)|exact HB.out)) hb);have gq:=ae.mk (hbox);have jC:=ae.mk ((by rw [hg];exact (bn (by repeat (first|(with_reducible first|exact HB.out|apply aj|apply af|apply ai|refine az ?_ qP.out)|exact HB.out))):w.heap.size≤rW));have lN:=jC;have nC:=ae.mk ((by rw [hg];exact Nat.ne_of_lt (gZ (g:=iU) (o:=.cells #[.int .u8 dP,.int .u8 aY,.int .u8 aX,.int .u8 dW,.int .i64 eP] 27 (0,0)) (by (with_reducible repeat (first|refine au ?_ _|refine ay ?_|refine ak ?_ _));exact gz.out)):iU ≠ rW));have uX:=ae.mk nC.out.symm;clear qh;clear gz;clear HB;have qh:=di;have gz:=dm;have HB:=dE;have oC:=gq;have aae:=jC;have Q5:=lN;have yU:=nC;have yT:=uX;clear di dm dE gq jC lN nC uX;clear hb hbox hg;have ag2:=yT.out;have agL:=yU.out;have KJ:zI.cell? ⟨rW,0,none⟩=some (.int .u8 0):=(ah oC.out 0).trans rfl;have KI:zI.cell? ⟨rW,1,none⟩=some (.int .u8 0):=(ah oC.out 1).trans rfl;have KH:zI.cell? ⟨rW,2,none⟩=some (.int .u8 0):=(ah oC.out 2).trans rfl;have KG:zI.cell? ⟨rW,3,none⟩=some (.int .u8 0):=(ah oC.out 3).trans rfl;have UH:zI.cell? ⟨rW,4,none⟩=some (.int .i64 0):=(ah oC.out 4).trans rfl;have JZ:=ax oC.out 0;have JY:=ax oC.out 1;have JX:=ax oC.out 2;have JW:=ax oC.out 3;have TG:=ax oC.out 4))
   go_ret
   exact ⟨by first|rfl|(simp [bH,bG] <;> rfl)|(simp [*,bH,bG] <;> rfl),by repeat (first|(with_reducible first|exact HB.out|apply aj|apply af|apply ai|refine az ?_ qP.out|refine az ?_ Q5.out)|exact HB.out)⟩
def bF.l0:Nat→ByteArray→Int→Option (Bool)
 | 0,_,_=>none
 | k+1,x0,x3=>if x3 < (x0.size:Int) then (if 0≤x3 then (if (bt x0 x3) ≥ 97 then (if (bt x0 x3)≤122 then (bF.l0 k x0 (wrap64 (x3+1))) else (if (bt x0 x3) ≥ 48 then (if (bt x0 x3)≤57 then (bF.l0 k x0 (wrap64 (x3+1))) else (if ((bt x0 x3)=45) then (bF.l0 k x0 (wrap64 (x3+1))) else (some false))) else (if ((bt x0 x3)=45) then (bF.l0 k x0 (wrap64 (x3+1))) else (some false)))) else (if (bt x0 x3) ≥ 48 then (if (bt x0 x3)≤57 then (bF.l0 k x0 (wrap64 (x3+1))) else (if ((bt x0 x3)=45) then (bF.l0 k x0 (wrap64 (x3+1))) else (some false))) else (if ((bt x0 x3)=45) then (bF.l0 k x0 (wrap64 (x3+1))) else (some false)))) else (none)) else (if (x0.size:Int) ≥ 1 then (some (decide ((x0.size:Int)≤30))) else (some false))
def bF.f (k:Nat) (a0:ByteArray):Option (Bool):=bF.l0 k a0 0
theorem bF.gY:∀ k,(∀ y0 y1,dH (bF.l0 k y0 y1) (bF.l0 (k+1) y0 y1))
 | 0=>fun _ _ r h=>by simp [bF.l0] at h
 | k+1=>by
  have jK:=bF.gY k
  ·
   intro y0 y1
   unfold bF.l0
   repeat' with_reducible first|apply jK|exact dH.refl _|exact dH.none _|refine dH.ite ?_ ?_|refine dH.bind ?_ (fun _=>?_)
theorem bF.mono:∀ a0 k,dH (bF.f k a0) (bF.f (k+1) a0):=by
 intro a0 k
 have jK:=bF.gY k
 unfold bF.f
 repeat' with_reducible first|apply jK|exact dH.refl _|exact dH.none _|refine dH.ite ?_ ?_|refine dH.bind ?_ (fun _=>?_)
set_option maxHeartbeats 8000000 in
set_option maxRecDepth 100000 in
theorem bF.calls (k:Nat) (a0:ByteArray) (r:Bool) (w:World) (h:bF.f k a0=some r) :
  Calls Tryz.prog 36 #[.string a0] w fun e w'=>e=.returned (.bool r)∧bC w w':=by
 have H:(bF.l0 k a0 0)=some r:=h
 clear h
 have H':=ae.mk H
 clear H
 go_enter Tryz.func36,Tryz.ntmps36
 go_wp2
 go_loopg [3] k (fun kq v3 w'=>∃ (eU:Int),v3=.int .i64 eU∧ae (bF.l0 kq a0 eU=some r)∧ae (kq≤k)∧bC w w')
 case atStart=>exact ⟨(0),(by first|rfl|(simp;done)|(simp [*];done)),H',⟨Nat.le_refl _⟩,by repeat (first|exact bC.refl _|apply bC.step)⟩
 case round =>
  clear H'
  obtain ⟨eU,rfl,HA,nZ,⟨m1,rfl⟩⟩:=hrel
  cases gk with
  | zero=>exact absurd HA.out (by simp [bF.l0])
  | succ k1 =>
   have H:=HA.out
   clear HA
   simp only [bF.l0] at H
   by_cases c2:eU < (a0.size:Int)
   ·
    rw [if_pos c2] at H
    have sH:decide (eU < (a0.size:Int))=true:=decide_eq_true c2
    clear c2
    by_cases c3:0≤eU
    ·
     rw [if_pos c3] at H
     have qo:decide (0≤eU)=true:=decide_eq_true c3
     clear c3
     by_cases c5:(bt a0 eU) ≥ 97
     ·
      rw [if_pos c5] at H
      have xm:decide (97≤(bt a0 eU))=true:=decide_eq_true c5
      clear c5
      by_cases c6:(bt a0 eU)≤122
      ·
       rw [if_pos c6] at H
       have qW:decide ((bt a0 eU)≤122)=true:=decide_eq_true c6
       clear c6
       have H':=ae.mk H
       clear H
       have p4:0≤(eU:Int):=of_decide_eq_true (by first|(with_reducible assumption)|assumption)
       have q4:eU < (a0.size:Int):=of_decide_eq_true (by first|(with_reducible assumption)|assumption)
       have hx4:=lL a0 eU
       replace p4:=eq_true p4
       replace q4:=eq_true q4
       go_wp2
       go_roundg k1
       case measure=>have:=nZ.out;omega
       case rel=>exact ⟨(wrap64 (eU+1)),(by first|rfl|(simp;done)|(simp [*];done)),H',⟨by have:=nZ.out;omega⟩,by repeat (first|exact bC.refl _|apply bC.step)⟩
      ·
       rw [if_neg c6] at H
       have qW:decide ((bt a0 eU)≤122)=false:=decide_eq_false c6
       clear c6
       by_cases c7:(bt a0 eU) ≥ 48
       ·
        rw [if_pos c7] at H
        have nX:decide (48≤(bt a0 eU))=true:=decide_eq_true c7
        clear c7
        by_cases c8:(bt a0 eU)≤57
        ·
         rw [if_pos c8] at H
         have tK:decide ((bt a0 eU)≤57)=true:=decide_eq_true c8
         clear c8
         have H':=ae.mk H
         clear H
         have p4:0≤(eU:Int):=of_decide_eq_true (by first|(with_reducible assumption)|assumption)
         have q4:eU < (a0.size:Int):=of_decide_eq_true (by first|(with_reducible assumption)|assumption)
         have hx4:=lL a0 eU
         replace p4:=eq_true p4
         replace q4:=eq_true q4
         go_wp2
         go_roundg k1
         case measure=>have:=nZ.out;omega
         case rel=>exact ⟨(wrap64 (eU+1)),(by first|rfl|(simp;done)|(simp [*];done)),H',⟨by have:=nZ.out;omega⟩,by repeat (first|exact bC.refl _|apply bC.step)⟩
        ·
         rw [if_neg c8] at H
         have tK:decide ((bt a0 eU)≤57)=false:=decide_eq_false c8
         clear c8
         by_cases c9:((bt a0 eU)=45)
         ·
          rw [if_pos c9] at H
          have E8:((bt a0 eU) == 45)=true:=beq_iff_eq.mpr c9
          have IZ:((bt a0 eU) != 45)=false:=bne_eq_false_iff_eq.mpr c9
          clear c9
          have H':=ae.mk H
          clear H
          have p4:0≤(eU:Int):=of_decide_eq_true (by first|(with_reducible assumption)|assumption)
          have q4:eU < (a0.size:Int):=of_decide_eq_true (by first|(with_reducible assumption)|assumption)
          have hx4:=lL a0 eU
          replace p4:=eq_true p4
          replace q4:=eq_true q4
          go_wp2
          go_roundg k1
          case measure=>have:=nZ.out;omega
          case rel=>exact ⟨(wrap64 (eU+1)),(by first|rfl|(simp;done)|(simp [*];done)),H',⟨by have:=nZ.out;omega⟩,by repeat (first|exact bC.refl _|apply bC.step)⟩
         ·
          rw [if_neg c9] at H
          have E8:((bt a0 eU) == 45)=false:=beq_eq_false_iff_ne.mpr c9
          have IZ:((bt a0 eU) != 45)=true:=bne_iff_ne.mpr c9
          obtain rfl:=Option.some.inj H
          have p4:0≤(eU:Int):=of_decide_eq_true (by first|(with_reducible assumption)|assumption)
          have q4:eU < (a0.size:Int):=of_decide_eq_true (by first|(with_reducible assumption)|assumption)
          have hx4:=lL a0 eU
          replace p4:=eq_true p4
          replace q4:=eq_true q4
          go_wp2
          go_ret
          exact ⟨by first|rfl|(simp;done)|(simp [*];done),by repeat (first|exact bC.refl _|apply bC.step)⟩
       ·
        rw [if_neg c7] at H
        have nX:decide (48≤(bt a0 eU))=false:=decide_eq_false c7
        clear c7
        by_cases c10:((bt a0 eU)=45)
        ·
         rw [if_pos c10] at H
         have nO:((bt a0 eU) == 45)=true:=beq_iff_eq.mpr c10
         have zq:((bt a0 eU) != 45)=false:=bne_eq_false_iff_eq.mpr c10
         clear c10
         have H':=ae.mk H
         clear H
         have p4:0≤(eU:Int):=of_decide_eq_true (by first|(with_reducible assumption)|assumption)
         have q4:eU < (a0.size:Int):=of_decide_eq_true (by first|(with_reducible assumption)|assumption)
         have hx4:=lL a0 eU
         replace p4:=eq_true p4
         replace q4:=eq_true q4
         go_wp2
         go_roundg k1
         case measure=>have:=nZ.out;omega
         case rel=>exact ⟨(wrap64 (eU+1)),(by first|rfl|(simp;done)|(simp [*];done)),H',⟨by have:=nZ.out;omega⟩,by repeat (first|exact bC.refl _|apply bC.step)⟩
        ·
         rw [if_neg c10] at H
         have nO:((bt a0 eU) == 45)=false:=beq_eq_false_iff_ne.mpr c10
         have zq:((bt a0 eU) != 45)=true:=bne_iff_ne.mpr c10
         obtain rfl:=Option.some.inj H
         have p4:0≤(eU:Int):=of_decide_eq_true (by first|(with_reducible assumption)|assumption)
         have q4:eU < (a0.size:Int):=of_decide_eq_true (by first|(with_reducible assumption)|assumption)
         have hx4:=lL a0 eU
         replace p4:=eq_true p4
         replace q4:=eq_true q4
         go_wp2
         go_ret
         exact ⟨by first|rfl|(simp;done)|(simp [*];done),by repeat (first|exact bC.refl _|apply bC.step)⟩
     ·
      rw [if_neg c5] at H
      have xm:decide (97≤(bt a0 eU))=false:=decide_eq_false c5
      clear c5
      by_cases c11:(bt a0 eU) ≥ 48
      ·
       rw [if_pos c11] at H
       have sS:decide (48≤(bt a0 eU))=true:=decide_eq_true c11
       clear c11
       by_cases c12:(bt a0 eU)≤57
       ·
        rw [if_pos c12] at H
        have ve:decide ((bt a0 eU)≤57)=true:=decide_eq_true c12
        clear c12
        have H':=ae.mk H
        clear H
        have p4:0≤(eU:Int):=of_decide_eq_true (by first|(with_reducible assumption)|assumption)
        have q4:eU < (a0.size:Int):=of_decide_eq_true (by first|(with_reducible assumption)|assumption)
        have hx4:=lL a0 eU
        replace p4:=eq_true p4
        replace q4:=eq_true q4
        go_wp2
        go_roundg k1
        case measure=>have:=nZ.out;omega
        case rel=>exact ⟨(wrap64 (eU+1)),(by first|rfl|(simp;done)|(simp [*];done)),H',⟨by have:=nZ.out;omega⟩,by repeat (first|exact bC.refl _|apply bC.step)⟩
       ·
        rw [if_neg c12] at H
        have ve:decide ((bt a0 eU)≤57)=false:=decide_eq_false c12
        clear c12
        by_cases c13:((bt a0 eU)=45)
        ·
         rw [if_pos c13] at H
         have rZ:((bt a0 eU) == 45)=true:=beq_iff_eq.mpr c13
         have Hf:((bt a0 eU) != 45)=false:=bne_eq_false_iff_eq.mpr c13
         clear c13
         have H':=ae.mk H
         clear H
         have p4:0≤(eU:Int):=of_decide_eq_true (by first|(with_reducible assumption)|assumption)
         have q4:eU < (a0.size:Int):=of_decide_eq_true (by first|(with_reducible assumption)|assumption)
         have hx4:=lL a0 eU
         replace p4:=eq_true p4
         replace q4:=eq_true q4
         go_wp2
         go_roundg k1
         case measure=>have:=nZ.out;omega
         case rel=>exact ⟨(wrap64 (eU+1)),(by first|rfl|(simp;done)|(simp [*];done)),H',⟨by have:=nZ.out;omega⟩,by repeat (first|exact bC.refl _|apply bC.step)⟩
        ·
         rw [if_neg c13] at H
         have rZ:((bt a0 eU) == 45)=false:=beq_eq_false_iff_ne.mpr c13
         have Hf:((bt a0 eU) != 45)=true:=bne_iff_ne.mpr c13
         obtain rfl:=Option.some.inj H
         have p4:0≤(eU:Int):=of_decide_eq_true (by first|(with_reducible assumption)|assumption)
         have q4:eU < (a0.size:Int):=of_decide_eq_true (by first|(with_reducible assumption)|assumption)
         have hx4:=lL a0 eU
         replace p4:=eq_true p4
         replace q4:=eq_true q4
         go_wp2
         go_ret
         exact ⟨by first|rfl|(simp;done)|(simp [*];done),by repeat (first|exact bC.refl _|apply bC.step)⟩
      ·
       rw [if_neg c11] at H
       have sS:decide (48≤(bt a0 eU))=false:=decide_eq_false c11
       clear c11
       by_cases c14:((bt a0 eU)=45)
       ·
        rw [if_pos c14] at H
        have yB:((bt a0 eU) == 45)=true:=beq_iff_eq.mpr c14
        have He:((bt a0 eU) != 45)=false:=bne_eq_false_iff_eq.mpr c14
        clear c14
        have H':=ae.mk H
        clear H
        have p4:0≤(eU:Int):=of_decide_eq_true (by first|(with_reducible assumption)|assumption)
        have q4:eU < (a0.size:Int):=of_decide_eq_true (by first|(with_reducible assumption)|assumption)
        have hx4:=lL a0 eU
        replace p4:=eq_true p4
        replace q4:=eq_true q4
        go_wp2
        go_roundg k1
        case measure=>have:=nZ.out;omega
        case rel=>exact ⟨(wrap64 (eU+1)),(by first|rfl|(simp;done)|(simp [*];done)),H',⟨by have:=nZ.out;omega⟩,by repeat (first|exact bC.refl _|apply bC.step)⟩
       ·
        rw [if_neg c14] at H
        have yB:((bt a0 eU) == 45)=false:=beq_eq_false_iff_ne.mpr c14
        have He:((bt a0 eU) != 45)=true:=bne_iff_ne.mpr c14
        obtain rfl:=Option.some.inj H
        have p4:0≤(eU:Int):=of_decide_eq_true (by first|(with_reducible assumption)|assumption)
        have q4:eU < (a0.size:Int):=of_decide_eq_true (by first|(with_reducible assumption)|assumption)
        have hx4:=lL a0 eU
        replace p4:=eq_true p4
        replace q4:=eq_true q4
        go_wp2
        go_ret
        exact ⟨by first|rfl|(simp;done)|(simp [*];done),by repeat (first|exact bC.refl _|apply bC.step)⟩
    ·
     rw [if_neg c3] at H
     exact absurd H (by simp)
   ·
    rw [if_neg c2] at H
    have sH:decide (eU < (a0.size:Int))=false:=decide_eq_false c2
    clear c2
    by_cases c15:(a0.size:Int) ≥ 1
    ·
     rw [if_pos c15] at H
     have wo:decide (1≤(a0.size:Int))=true:=decide_eq_true c15
     have LP:decide (1≤a0.size)=true:=decide_eq_true (by omega)
     clear c15
     obtain rfl:=Option.some.inj H
     go_wp2
     go_ret
     exact ⟨by first|rfl|(simp;done)|(simp [*];done),by repeat (first|exact bC.refl _|apply bC.step)⟩
    ·
     rw [if_neg c15] at H
     have wo:decide (1≤(a0.size:Int))=false:=decide_eq_false c15
     have LP:decide (1≤a0.size)=false:=decide_eq_false (by omega)
     clear c15
     obtain rfl:=Option.some.inj H
     go_wp2
     go_ret
     exact ⟨by first|rfl|(simp;done)|(simp [*];done),by repeat (first|exact bC.refl _|apply bC.step)⟩
def aK.l0:Nat→ByteArray→Int→Option (Bool)
 | 0,_,_=>none
 | k+1,x0,x3=>if x3 < (x0.size:Int) then (if 0≤x3 then (if (bt x0 x3)=45 then (some false) else (aK.l0 k x0 (wrap64 (x3+1)))) else (none)) else (if x0.toList=([]:List UInt8) then (some true) else ((bF.f k x0).bind fun t243=>(some t243)))
def aK.f (k:Nat) (a0:ByteArray):Option (Bool):=aK.l0 k a0 0
theorem aK.gY:∀ k,(∀ y0 y1,dH (aK.l0 k y0 y1) (aK.l0 (k+1) y0 y1))
 | 0=>fun _ _ r h=>by simp [aK.l0] at h
 | k+1=>by
  have jK:=aK.gY k
  ·
   intro y0 y1
   unfold aK.l0
   repeat' with_reducible first|apply jK|apply bF.mono|exact dH.refl _|exact dH.none _|refine dH.ite ?_ ?_|refine dH.bind ?_ (fun _=>?_)
theorem aK.mono:∀ a0 k,dH (aK.f k a0) (aK.f (k+1) a0):=by
 intro a0 k
 have jK:=aK.gY k
 unfold aK.f
 repeat' with_reducible first|apply jK|apply bF.mono|exact dH.refl _|exact dH.none _|refine dH.ite ?_ ?_|refine dH.bind ?_ (fun _=>?_)
set_option maxHeartbeats 8000000 in
set_option maxRecDepth 100000 in
theorem aK.calls (k:Nat) (a0:ByteArray) (r:Bool) (w:World) (h:aK.f k a0=some r) :
  Calls Tryz.prog 43 #[.string a0] w fun e w'=>e=.returned (.bool r)∧bC w w':=by
 have H:(aK.l0 k a0 0)=some r:=h
 clear h
 have H':=ae.mk H
 clear H
 go_enter Tryz.func43,Tryz.ntmps43
 go_wp2
 go_loopg [3] k (fun kq v3 w'=>∃ (eU:Int),v3=.int .i64 eU∧ae (aK.l0 kq a0 eU=some r)∧ae (kq≤k)∧bC w w')
 case atStart=>exact ⟨(0),(by first|rfl|(simp;done)|(simp [*];done)),H',⟨Nat.le_refl _⟩,by repeat (first|exact bC.refl _|apply bC.step)⟩
 case round =>
  clear H'
  obtain ⟨eU,rfl,HA,nZ,⟨m1,rfl⟩⟩:=hrel
  cases gk with
  | zero=>exact absurd HA.out (by simp [aK.l0])
  | succ k1 =>
   have H:=HA.out
   clear HA
   simp only [aK.l0] at H
   by_cases c2:eU < (a0.size:Int)
   ·
    rw [if_pos c2] at H
    have sH:decide (eU < (a0.size:Int))=true:=decide_eq_true c2
    clear c2
    by_cases c3:0≤eU
    ·
     rw [if_pos c3] at H
     have qo:decide (0≤eU)=true:=decide_eq_true c3
     clear c3
     by_cases c5:(bt a0 eU)=45
     ·
      rw [if_pos c5] at H
      have xm:((bt a0 eU) == 45)=true:=beq_iff_eq.mpr c5
      have Fa:((bt a0 eU) != 45)=false:=bne_eq_false_iff_eq.mpr c5
      clear c5
      obtain rfl:=Option.some.inj H
      have p4:0≤(eU:Int):=of_decide_eq_true (by first|(with_reducible assumption)|assumption)
      have q4:eU < (a0.size:Int):=of_decide_eq_true (by first|(with_reducible assumption)|assumption)
      have hx4:=lL a0 eU
      replace p4:=eq_true p4
      replace q4:=eq_true q4
      go_wp2
      go_ret
      exact ⟨by first|rfl|(simp;done)|(simp [*];done),by repeat (first|exact bC.refl _|apply bC.step)⟩
     ·
      rw [if_neg c5] at H
      have xm:((bt a0 eU) == 45)=false:=beq_eq_false_iff_ne.mpr c5
      have Fa:((bt a0 eU) != 45)=true:=bne_iff_ne.mpr c5
      have H':=ae.mk H
      clear H
      have p4:0≤(eU:Int):=of_decide_eq_true (by first|(with_reducible assumption)|assumption)
      have q4:eU < (a0.size:Int):=of_decide_eq_true (by first|(with_reducible assumption)|assumption)
      have hx4:=lL a0 eU
      replace p4:=eq_true p4
      replace q4:=eq_true q4
      go_wp2
      go_roundg k1
      case measure=>have:=nZ.out;omega
      case rel=>exact ⟨(wrap64 (eU+1)),(by first|rfl|(simp;done)|(simp [*];done)),H',⟨by have:=nZ.out;omega⟩,by repeat (first|exact bC.refl _|apply bC.step)⟩
    ·
     rw [if_neg c3] at H
     exact absurd H (by simp)
   ·
    rw [if_neg c2] at H
    have sH:decide (eU < (a0.size:Int))=false:=decide_eq_false c2
    clear c2
    by_cases c6:a0.toList=([]:List UInt8)
    ·
     rw [if_pos c6] at H
     have qW:(a0.toList == ([]:List UInt8))=true:=beq_iff_eq.mpr c6
     have yR:(a0.toList != ([]:List UInt8))=false:=bne_eq_false_iff_eq.mpr c6
     clear c6
     obtain rfl:=Option.some.inj H
     go_wp2
     go_ret
     exact ⟨by first|rfl|(simp;done)|(simp [*];done),by repeat (first|exact bC.refl _|apply bC.step)⟩
    ·
     rw [if_neg c6] at H
     have qW:(a0.toList == ([]:List UInt8))=false:=beq_eq_false_iff_ne.mpr c6
     have yR:(a0.toList != ([]:List UInt8))=true:=bne_iff_ne.mpr c6
     replace H:=Option.bind_eq_some_iff.mp H
     obtain ⟨t243,Q7,H⟩:=H
     replace H:(some t243)=some r:=H
     have A7:=ae.mk Q7
     clear Q7
     obtain rfl:=Option.some.inj H
     go_wp2_with (first|(go_at_call 36;(with_reducible refine (bF.calls k1 a0 t243 _ A7.out).mono ?_);rintro e w' ⟨rfl,⟨nd,rfl⟩⟩))
     go_ret
     exact ⟨by first|rfl|(simp;done)|(simp [*];done),by repeat (first|exact bC.refl _|apply bC.step)⟩
end Go.Proofs.YtkclndkbccbhaaaGreatDoor.P
end
section
namespace Go.Proofs.YtkclndkbccbhaaaGreatDoor.P
open Go.RowKit Go.Proofs.ag.bJ Go.Proofs.ag.eX Go.Proofs.ag.gp
attribute [local go_sem] kM kK lT lS jE jD kL kJ
def dG.l0:Nat→ByteArray→List ByteArray→ByteArray→Int→Option (List ByteArray)
 | 0,_,_,_,_=>none
 | k+1,x0,x3,x4,x5=>if x5 < (x0.size:Int) then (if 0≤x5 then (if (bt x0 x5)=35 then (if x4.toList=([]:List UInt8) then (some x3) else (if x3.length < 8796093022208 then (some (x3++[x4])) else (none))) else (if (bt x0 x5)=32 then (if x4.toList=([]:List UInt8) then (dG.l0 k x0 x3 (⟨#[]⟩:ByteArray) (wrap64 (x5+1))) else (if x3.length < 8796093022208 then (dG.l0 k x0 (x3++[x4]) (⟨#[]⟩:ByteArray) (wrap64 (x5+1))) else (none))) else (if x5≤(wrap64 (x5+1)) then (if (wrap64 (x5+1))≤(x0.size:Int) then (if x4.size+(x0.extract (x5:Int).toNat ((wrap64 (x5+1)):Int).toNat).size≤9223372036854775807 then (dG.l0 k x0 x3 (x4++(x0.extract (x5:Int).toNat ((wrap64 (x5+1)):Int).toNat)) (wrap64 (x5+1))) else (none)) else (none)) else (none)))) else (none)) else (if x4.toList=([]:List UInt8) then (some x3) else (if x3.length < 8796093022208 then (some (x3++[x4])) else (none)))
def dG.f (k:Nat) (a0:ByteArray):Option (List ByteArray):=dG.l0 k a0 ([]:List ByteArray) (⟨#[]⟩:ByteArray) 0
theorem dG.gY:∀ k,(∀ y0 y1 y2 y3,dH (dG.l0 k y0 y1 y2 y3) (dG.l0 (k+1) y0 y1 y2 y3))
 | 0=>fun _ _ _ _ r h=>by simp [dG.l0] at h
 | k+1=>by
  have jK:=dG.gY k
  ·
   intro y0 y1 y2 y3
   unfold dG.l0
   repeat' with_reducible first|apply jK|exact dH.refl _|exact dH.none _|refine dH.ite ?_ ?_|refine dH.bind ?_ (fun _=>?_)
theorem dG.mono:∀ a0 k,dH (dG.f k a0) (dG.f (k+1) a0):=by
 intro a0 k
 have jK:=dG.gY k
 unfold dG.f
 repeat' with_reducible first|apply jK|exact dH.refl _|exact dH.none _|refine dH.ite ?_ ?_|refine dH.bind ?_ (fun _=>?_)
end Go.Proofs.YtkclndkbccbhaaaGreatDoor.P
end
section
namespace Go.Proofs.YtkclndkbccbhaaaGreatDoor.P
open Go.RowKit Go.Proofs.ag.bJ Go.Proofs.ag.eX Go.Proofs.ag.gp
attribute [local go_sem] kM kK lT lS jE jD kL kJ
mutual
def bM.l0:Nat→ByteArray→List (List ByteArray)→Int→Int→Int→Option ((List (List ByteArray)) × Int × Int)
 | 0,_,_,_,_,_=>none
 | k+1,x0,x5,x6,x7,x8=>if x8≤(x0.size:Int) then (if x8 < (x0.size:Int) then (if 0≤x8 then (bM.j1 k x0 x5 x6 x7 x8 ((bt x0 x8) != 10)) else (none)) else (bM.j1 k x0 x5 x6 x7 x8 false)) else (some (x5,0,0))
def bM.j1:Nat→ByteArray→List (List ByteArray)→Int→Int→Int→Bool→Option ((List (List ByteArray)) × Int × Int)
 | 0,_,_,_,_,_,_=>none
 | k+1,x0,x5,x6,x7,x8,x29=>if x29=true then (bM.l0 k x0 x5 x6 x7 (wrap64 (x8+1))) else (if 0≤x6 then (if x6≤x8 then (if x8≤(x0.size:Int) then ((dG.f k (x0.extract (x6:Int).toNat (x8:Int).toNat)).bind fun aeZ=>(bM.l1 k x0 x5 x7 x8 aeZ 0)) else (none)) else (none)) else (none))
def bM.l1:Nat→ByteArray→List (List ByteArray)→Int→Int→List ByteArray→Int→Option ((List (List ByteArray)) × Int × Int)
 | 0,_,_,_,_,_,_=>none
 | k+1,x0,x5,x7,x8,x9,x10=>if x10 < (x9.length:Int) then (if 0≤x10 then ((bF.f k (gI ByteArray.empty x9 x10)).bind fun aeY=>(if aeY=true then (bM.l1 k x0 x5 x7 x8 x9 (wrap64 (x10+1))) else (some (([]:List (List ByteArray)),x7,4)))) else (none)) else (if (x9.length:Int) > 0 then (if x5.length < 5864062014805 then (bM.l0 k x0 (x5++[x9]) (wrap64 (x8+1)) (wrap64 (x7+1)) (wrap64 (x8+1))) else (none)) else (bM.l0 k x0 x5 (wrap64 (x8+1)) (wrap64 (x7+1)) (wrap64 (x8+1))))
end
def bM.f (k:Nat) (a0:ByteArray):Option ((List (List ByteArray)) × Int × Int):=if (a0.size:Int) > 20000 then (some (([]:List (List ByteArray)),0,3)) else (bM.l0 k a0 ([]:List (List ByteArray)) 0 1 0)
theorem bM.gY:∀ k,(∀ y0 y1 y2 y3 y4,dH (bM.l0 k y0 y1 y2 y3 y4) (bM.l0 (k+1) y0 y1 y2 y3 y4))∧(∀ y0 y1 y2 y3 y4 y5,dH (bM.j1 k y0 y1 y2 y3 y4 y5) (bM.j1 (k+1) y0 y1 y2 y3 y4 y5))∧(∀ y0 y1 y2 y3 y4 y5,dH (bM.l1 k y0 y1 y2 y3 y4 y5) (bM.l1 (k+1) y0 y1 y2 y3 y4 y5))
 | 0=>⟨fun _ _ _ _ _ r h=>by simp [bM.l0] at h,fun _ _ _ _ _ _ r h=>by simp [bM.j1] at h,fun _ _ _ _ _ _ r h=>by simp [bM.l1] at h⟩
 | k+1=>by
  obtain ⟨jK,ih1,ih2⟩:=bM.gY k
  refine ⟨?_,?_,?_⟩
  ·
   intro y0 y1 y2 y3 y4
   unfold bM.l0
   repeat' with_reducible first|apply jK|apply ih1|apply ih2|apply bF.mono|apply dG.mono|exact dH.refl _|exact dH.none _|refine dH.ite ?_ ?_|refine dH.bind ?_ (fun _=>?_)
  ·
   intro y0 y1 y2 y3 y4 y5
   unfold bM.j1
   repeat' with_reducible first|apply jK|apply ih1|apply ih2|apply bF.mono|apply dG.mono|exact dH.refl _|exact dH.none _|refine dH.ite ?_ ?_|refine dH.bind ?_ (fun _=>?_)
  ·
   intro y0 y1 y2 y3 y4 y5
   unfold bM.l1
   repeat' with_reducible first|apply jK|apply ih1|apply ih2|apply bF.mono|apply dG.mono|exact dH.refl _|exact dH.none _|refine dH.ite ?_ ?_|refine dH.bind ?_ (fun _=>?_)
theorem bM.mono:∀ a0 k,dH (bM.f k a0) (bM.f (k+1) a0):=by
 intro a0 k
 obtain ⟨jK,ih1,ih2⟩:=bM.gY k
 unfold bM.f
 repeat' with_reducible first|apply jK|apply ih1|apply ih2|apply bF.mono|apply dG.mono|exact dH.refl _|exact dH.none _|refine dH.ite ?_ ?_|refine dH.bind ?_ (fun _=>?_)
def fA.j0:Nat→List (List ByteArray)→Int→Bool→Bool→Option (ByteArray × Bool)
 | 0,_,_,_,_=>none
 | k+1,x0,x1,x3,x32=>if x32=true then (some ((⟨#[]⟩:ByteArray),false)) else (if 0≤x1 then (if x1 < (x0.length:Int) then (if 1 < ((iP x0 x1).length:Int) then (if x3=true then (if (gI ByteArray.empty (iP x0 x1) 1).toList=([45]:List UInt8) then (some ((⟨#[]⟩:ByteArray),true)) else ((aK.f k (gI ByteArray.empty (iP x0 x1) 1)).bind fun aeX=>(some (gI ByteArray.empty (iP x0 x1) 1,aeX)))) else ((aK.f k (gI ByteArray.empty (iP x0 x1) 1)).bind fun aeW=>(some (gI ByteArray.empty (iP x0 x1) 1,aeW)))) else (none)) else (none)) else (none))
def fA.f (k:Nat) (l0:List (List ByteArray)) (a1:Int) (a2:ByteArray) (a3:Bool):Option (ByteArray × Bool):=if a1 ≥ (l0.length:Int) then (fA.j0 k l0 a1 a3 true) else (if 0≤a1 then (if a1 < (l0.length:Int) then (if ((iP l0 a1).length:Int)=2 then (if 0 < ((iP l0 a1).length:Int) then (fA.j0 k l0 a1 a3 ((gI ByteArray.empty (iP l0 a1) 0).toList != a2.toList)) else (none)) else (fA.j0 k l0 a1 a3 true)) else (none)) else (none))
theorem fA.gY:∀ k,(∀ y0 y1 y2 y3,dH (fA.j0 k y0 y1 y2 y3) (fA.j0 (k+1) y0 y1 y2 y3))
 | 0=>fun _ _ _ _ r h=>by simp [fA.j0] at h
 | k+1=>by
  have jK:=fA.gY k
  ·
   intro y0 y1 y2 y3
   unfold fA.j0
   repeat' with_reducible first|apply jK|apply aK.mono|exact dH.refl _|exact dH.none _|refine dH.ite ?_ ?_|refine dH.bind ?_ (fun _=>?_)
theorem fA.mono:∀ a0 a1 a2 a3 k,dH (fA.f k a0 a1 a2 a3) (fA.f (k+1) a0 a1 a2 a3):=by
 intro a0 a1 a2 a3 k
 have jK:=fA.gY k
 unfold fA.f
 repeat' with_reducible first|apply jK|apply aK.mono|exact dH.refl _|exact dH.none _|refine dH.ite ?_ ?_|refine dH.bind ?_ (fun _=>?_)
end Go.Proofs.YtkclndkbccbhaaaGreatDoor.P
end
section
namespace Go.Proofs.YtkclndkbccbhaaaGreatDoor.P
open Go Go.RowKit Go.Proofs.ag.bJ Go.Proofs.ag.eX Go.Proofs.ag.gp
theorem Nr (c:UInt8) (X:Option Bool) :
    (if (c.toNat:Int) ≥ 97 then (if (c.toNat:Int)≤122 then X else (if (c.toNat:Int) ≥ 48 then (if (c.toNat:Int)≤57 then X else (if ((c.toNat:Int)=45) then X else (some false))) else (if ((c.toNat:Int)=45) then X else (some false)))) else (if (c.toNat:Int) ≥ 48 then (if (c.toNat:Int)≤57 then X else (if ((c.toNat:Int)=45) then X else (some false))) else (if ((c.toNat:Int)=45) then X else (some false))))=if IA c=true then X else some false:=by
  unfold IA
  simp only [Bool.or_eq_true,decide_eq_true_eq]
  by_cases h1:97≤c.toNat <;> by_cases h2:c.toNat≤122 <;> by_cases h3:48≤c.toNat <;> by_cases h4:c.toNat≤57 <;> by_cases h5:c.toNat=45
  all_goals first
    | omega
    | (repeat' split) <;> first|rfl|omega
theorem O3 (w:List UInt8) (hw:w.length≤140737488355328):∀ (d i:Nat),i+d=w.length →
    Ev (fun k=>bF.l0 k (Bs w) (i:Int)) ((w.drop i).all IA && decide (1≤w.length) && decide (w.length≤30))
  | 0,i,hi=>by
    rw [List.drop_eq_nil_of_le (by omega)]
    refine Ev.step (f:=fun _=>some _) (fun k=>?_) (Ev.now _)
    simp only [bF.l0]
    rw [ig,if_neg (by omega)]
    simp only [List.all_nil,Bool.true_and]
    by_cases h1:1≤w.length
    · rw [if_pos (by omega),decide_eq_true h1,Bool.true_and]
      congr 1
      exact decide_eq_decide.2 (by omega)
    · rw [if_neg (by omega),decide_eq_false h1,Bool.false_and]
  | d+1,i,hi=>by
    have hlt:i < w.length:=by omega
    have hc:w[i]? = some w[i]:=List.getElem?_eq_getElem hlt
    have hdr:w.drop i=w[i] :: w.drop (i+1):=List.drop_eq_getElem_cons hlt
    generalize w[i]=c at hc hdr
    have Jw:∀ k,bF.l0 (k+1) (Bs w) (i:Int)=if IA c=true then bF.l0 k (Bs w) ((i+1:Nat):Int) else some false:=by
      intro k
      rw [← Nr c,← Bz w i c hc,← jA i (by omega)]
      conv=>lhs;simp only [bF.l0]
      rw [ig,if_pos (by omega),if_pos (by omega)]
    rw [hdr,List.all_cons]
    cases ho:IA c with
    | true =>
      rw [Bool.true_and]
      exact Ev.step (fun k=>by rw [Jw k,if_pos ho]) (O3 w hw d (i+1) (by omega))
    | false =>
      simp only [Bool.false_and]
      exact Ev.step (f:=fun _=>some _) (fun k=>by rw [Jw k,if_neg (by rw [ho];simp)]) (Ev.now _)
def Oh (w:List UInt8):Bool:=w.all IA && decide (1≤w.length) && decide (w.length≤30)
theorem Xn (w:List UInt8) (hw:w.length≤140737488355328):Ev (fun k=>bF.f k (Bs w)) (Oh w):=O3 w hw w.length 0 (Nat.zero_add _)
theorem bt0 (c:UInt8) (r:List UInt8):bt (Bs (c :: r)) 0=(c.toNat:Int):=Bz (c :: r) 0 c rfl
theorem Qv (D:List UInt8) (hD:D.length≤100000):∀ (d i:Nat),i+d=D.length→Ev (fun k=>aA.l0 k (Bs D) (i:Int)) ((D.drop i).all yt)
  | 0,i,hi=>by
    rw [List.drop_eq_nil_of_le (by omega)]
    refine Ev.step (f:=fun _=>some true) (fun k=>?_) (Ev.now _)
    simp only [aA.l0]
    rw [ig,if_neg (by omega)]
  | d+1,i,hi=>by
    have hlt:i < D.length:=by omega
    have hc:D[i]? = some D[i]:=List.getElem?_eq_getElem hlt
    have hdr:D.drop i=D[i] :: D.drop (i+1):=List.drop_eq_getElem_cons hlt
    generalize D[i]=c at hc hdr
    have hb:=Bz D i c hc
    rw [hdr,List.all_cons]
    have ih:=Qv D hD d (i+1) (by omega)
    cases hd:yt c with
    | true =>
      have h2:=hd
      simp only [yt,decide_eq_true_eq] at h2
      rw [Bool.true_and]
      refine Ev.step (fun k=>?_) ih
      conv=>lhs;simp only [aA.l0]
      rw [ig,if_pos (by omega),if_pos (by omega),hb,if_neg (by omega),if_neg (by omega),jA i (by omega)]
    | false =>
      have h2:=hd
      simp only [yt,decide_eq_false_iff_not] at h2
      rw [Bool.false_and]
      refine Ev.step (f:=fun _=>some false) (fun k=>?_) (Ev.now _)
      conv=>lhs;simp only [aA.l0]
      rw [ig,if_pos (by omega),if_pos (by omega),hb]
      by_cases h3:(c.toNat:Int) < 48
      · rw [if_pos h3]
      · rw [if_neg h3,if_pos (by omega)]
theorem XV (w D:List UInt8) (hD:D.length≤100000):Ev (fun k=>aA.j1 k (Bs w) (Bs D)) (!D.isEmpty && !(D.head? == some 48 && decide (1 < D.length ∨ 1 < w.length)) && D.all yt):=by
  cases D with
  | nil =>
    refine Ev.step (f:=fun k=>aA.j2 k (Bs []) true) (fun k=>?_) (Ev.step (f:=fun _=>some false) (fun k=>?_) (Ev.now _))
    · conv=>lhs;simp only [aA.j1]
      rw [nG,if_pos rfl]
    · simp only [aA.j2]
      rw [if_pos trivial]
  | cons c r =>
    have hb:=bt0 c r
    have h0:=Qv (c :: r) hD (c :: r).length 0 (Nat.zero_add _)
    rw [List.drop_zero] at h0
    have fin:∀ b:Bool,Ev (fun k=>aA.j2 k (Bs (c :: r)) b) (!b && (c :: r).all yt):=by
      intro b
      cases b with
      | true=>exact Ev.step (f:=fun _=>some false) (fun k=>by simp only [aA.j2];rw [if_pos trivial]) (Ev.now _)
      | false=>exact Ev.step (fun k=>by simp only [aA.j2];rw [if_neg (by simp)]) (by rw [Bool.not_false,Bool.true_and];exact h0)
    have hlen:(Bs (c :: r)).size=(c :: r).length:=ig _
    by_cases h48:c=48
    · subst h48
      by_cases hr:1 < ((48:UInt8) :: r).length
      · have:=fin true
        refine Ev.step (f:=fun k=>aA.j2 k (Bs (48 :: r)) true) (fun k=>?_) ?_
        · conv=>lhs;simp only [aA.j1]
          rw [nG,if_neg (by simp),hlen,if_pos (by simp only [List.length_cons];omega),hb,if_pos (by decide),if_pos (by omega)]
        · rw [show (!((48:UInt8) :: r).isEmpty && !(((48:UInt8) :: r).head? == some 48 && decide (1 < ((48:UInt8) :: r).length ∨ 1 < w.length)) && ((48:UInt8) :: r).all yt)=(!true && ((48:UInt8) :: r).all yt) from by rw [decide_eq_true (Or.inl hr)];simp]
          exact this
      · refine Ev.step (f:=fun k=>aA.j2 k (Bs (48 :: r)) (decide (1 < w.length))) (fun k=>?_) ?_
        · conv=>lhs;simp only [aA.j1]
          rw [nG,if_neg (by simp),hlen,if_pos (by simp only [List.length_cons];omega),hb,if_pos (by decide),if_neg (by omega),ig]
          congr 1
          exact decide_eq_decide.2 (by omega)
        · have hd:decide (1 < ((48:UInt8) :: r).length ∨ 1 < w.length)=decide (1 < w.length):=decide_eq_decide.2 ⟨fun h=>h.resolve_left hr,Or.inr⟩
          rw [hd]
          have:=fin (decide (1 < w.length))
          simpa using this
    · have hne:¬ (c.toNat:Int)=48:=fun h=>h48 (UInt8.toNat_inj.1 (by show c.toNat=48;omega))
      refine Ev.step (f:=fun k=>aA.j2 k (Bs (c :: r)) false) (fun k=>?_) ?_
      · conv=>lhs;simp only [aA.j1]
        rw [nG,if_neg (by simp),hlen,if_pos (by simp only [List.length_cons];omega),hb,if_neg hne]
      · have:=fin false
        have hcb:(c == 48)=false:=by simp [h48]
        simpa [hcb] using this
theorem NV (w:List UInt8) (hw:w.length≤10000):Ev (fun k=>aA.f k (Bs w)) (rf w):=by
  have hle:(unsigned w).length≤w.length:=trimPrefix_le w [45]
  have hj:=XV w (unsigned w) (by omega)
  have hr:(!(unsigned w).isEmpty && !((unsigned w).head? == some 48 && decide (1 < (unsigned w).length ∨ 1 < w.length)) && (unsigned w).all yt)=rf w:=by
    rw [Bool.eq_iff_iff,yL]
    simp only [Bool.and_eq_true,Bool.not_eq_true',List.isEmpty_eq_false_iff,Bool.and_eq_false_iff,beq_eq_false_iff_ne,decide_eq_false_iff_not,List.all_eq_true]
    have key:(unsigned w).head? = some 48→(w=[48] ↔ ¬ (1 < (unsigned w).length ∨ 1 < w.length)):=by
      intro hh
      constructor
      · rintro rfl;decide
      · intro hn
        obtain ⟨neg,hs,_⟩:=signed w
        cases hu:unsigned w with
        | nil=>rw [hu] at hh;cases hh
        | cons c r =>
          rw [hu] at hh hs hn
          simp only [List.head?_cons,Option.some.injEq] at hh
          subst hh
          have hrl:r=[]:=by
            cases r with
            | nil=>rfl
            | cons a b=>simp at hn
          subst hrl
          cases neg with
          | true=>rw [hs] at hn;simp at hn
          | false=>exact hs
    constructor
    · rintro ⟨⟨h1,h2⟩,h3⟩
      exact ⟨h1,h3,fun hh=>(key hh).2 (by rcases h2 with h2|h2;exact absurd hh h2;exact h2)⟩
    · rintro ⟨h1,h2,h3⟩
      refine ⟨⟨h1,?_⟩,h2⟩
      by_cases hh:(unsigned w).head? = some 48
      · exact .inr ((key hh).1 (h3 hh))
      · exact .inl hh
  rw [hr] at hj
  cases w with
  | nil =>
    refine Ev.congr (f:=fun k=>aA.j0 k (Bs []) (Bs []) false) (fun k=>?_) (Ev.step (fun k=>?_) hj)
    · unfold aA.f
      rw [ig,if_neg (by simp)]
    · conv=>lhs;simp only [aA.j0]
      rw [if_neg (by simp)]
      rfl
  | cons c r =>
    have hb:=bt0 c r
    refine Ev.congr (f:=fun k=>aA.j0 k (Bs (c :: r)) (Bs (c :: r)) (bt (Bs (c :: r)) 0 == 45)) (fun k=>?_) ?_
    · unfold aA.f
      rw [ig,if_pos (by simp only [List.length_cons];omega),if_pos (by simp only [List.length_cons];omega)]
    · rw [hb]
      by_cases e:c=45
      · subst e
        refine Ev.step (fun k=>?_) hj
        conv=>lhs;simp only [aA.j0]
        rw [ig,if_pos (by decide),if_pos (by simp only [List.length_cons];omega),Bi]
        rw [uy]
        congr 2
        simp
      · have hne:((c.toNat:Int) == 45)=false:=beq_eq_false_iff_ne.2 fun h=>e (UInt8.toNat_inj.1 (by show c.toNat=45;omega))
        rw [hne]
        refine Ev.step (fun k=>?_) hj
        conv=>lhs;simp only [aA.j0]
        rw [if_neg (by simp),rC _ (by simp [e])]
theorem Jy (n:Nat) (h:n < 18446744073709551616):IntKind.u64.wrap (n:Int)=(n:Int):=by
  have:IntKind.u64.wrap (n:Int)=(n:Int) % 18446744073709551616:=rfl
  rw [this]
  omega
theorem OW (D:List UInt8) (hD:D.length≤100000) (h:∀ c ∈ D,yt c=true) (neg:Bool) (r:Int × Int) (hr:Ev (fun k=>aC.j2 k (Bs D) neg ((nS 0 (D.take 19):Nat):Int)) r) :
    ∀ (d i:Nat),i+d=19→i≤D.length→Ev (fun k=>aC.l0 k (Bs D) neg ((nS 0 (D.take i):Nat):Int) (i:Int)) r
  | 0,i,hi,hl=>by
    obtain rfl:i=19:=by omega
    refine Ev.step (fun k=>?_) hr
    conv=>lhs;simp only [aC.l0]
    rw [ig]
    by_cases hlt:(((19:Nat):Nat):Int) < (D.length:Int)
    · rw [if_pos hlt,if_neg (by omega)]
    · rw [if_neg hlt]
  | d+1,i,hi,hl=>by
    by_cases hlt:i < D.length
    · have hc:D[i]? = some D[i]:=List.getElem?_eq_getElem hlt
      have hm:=h D[i] (List.getElem_mem hlt)
      have htk:D.take (i+1)=D.take i++[D[i]]:=List.take_succ_eq_append_getElem hlt
      generalize D[i]=c at hc hm htk
      have hb:=Bz D i c hc
      have hv:nS 0 (D.take (i+1))=nS 0 (D.take i) * 10+(c.toNat - 48):=by rw [htk,Cj]
      have hlim:nS 0 (D.take i) < 1000000000000000000:=by
        have h1:=Ju (D.take i) (fun x hx=>h x (List.mem_of_mem_take hx)) 0
        have h2:(D.take i).length≤18:=by rw [List.length_take];omega
        have h3:10 ^ (D.take i).length≤10 ^ 18:=Nat.pow_le_pow_right (by omega) h2
        have h4:(10:Nat) ^ 18=1000000000000000000:=by decide
        omega
      have ih:=OW D hD h neg r hr d (i+1) (by omega) (by omega)
      refine Ev.step (fun k=>?_) ih
      conv=>lhs;simp only [aC.l0]
      simp only [yt,decide_eq_true_eq] at hm
      rw [ig,if_pos (by omega),if_pos (by omega),if_pos (by omega),hb,jA i (by omega)]
      rw [hv]
      generalize nS 0 (D.take i)=v at hlim ⊢
      have u1:IntKind.u64.wrap ((v:Int) * 10)=((v * 10:Nat):Int):=by
        rw [show (v:Int) * 10=((v * 10:Nat):Int) from by omega]
        exact Jy _ (by omega)
      have u2:IntKind.u64.wrap (((v * 10:Nat):Int)+((c.toNat:Int) - 48) % 256)=((v * 10+(c.toNat - 48):Nat):Int):=by
        rw [show ((v * 10:Nat):Int)+((c.toNat:Int) - 48) % 256=((v * 10+(c.toNat - 48):Nat):Int) from by omega]
        exact Jy _ (by omega)
      rw [u1,u2]
    · have e:D.take i=D.take 19:=by
        rw [List.take_of_length_le (by omega),List.take_of_length_le (by omega)]
      rw [e]
      refine Ev.step (fun k=>?_) hr
      conv=>lhs;simp only [aC.l0]
      rw [ig,if_neg (by omega)]
theorem Xl (D:List UInt8) (hD:D.length≤100000) (hd:∀ c ∈ D,yt c=true) (hz:D.head? = some 48→D.length≤1) (neg:Bool) :
    Ev (fun k=>aC.j2 k (Bs D) neg ((nS 0 (D.take 19):Nat):Int)) (if AU neg (nS 0 D) then (VI neg (nS 0 D),0) else (0,3)):=by
  have j3t:∀ x:Int,∀ b:Bool,b=true→Ev (fun k=>aC.j3 k neg x b) (0,3):=by
    rintro x b rfl
    exact Ev.step (f:=fun _=>some _) (fun k=>by simp only [aC.j3];rw [if_pos trivial]) (Ev.now _)
  by_cases hl:19 < D.length
  · have hb:AU neg (nS 0 D)=false:=by
      cases D with
      | nil=>simp at hl
      | cons c r =>
        have h48:c ≠ 48:=by rintro rfl;have:=hz rfl;omega
        have h1:=Gp (r:=r) (hd c (by simp)) h48
        have h2:(10:Nat) ^ 19≤10 ^ r.length:=Nat.pow_le_pow_right (by omega) (by rw [List.length_cons] at hl;omega)
        rw [VL] at h2
        unfold AU
        cases neg <;> simp <;> omega
    rw [hb,if_neg (by simp)]
    refine Ev.step (f:=fun k=>aC.j3 k neg ((nS 0 (D.take 19):Nat):Int) (decide (((Bs D).size:Int) > 19))) (fun k=>?_) (j3t _ _ (decide_eq_true (by rw [ig];omega)))
    conv=>lhs;simp only [aC.j2]
    rw [if_pos (by rw [ig];omega)]
  · have htk:D.take 19=D:=List.take_of_length_le (by omega)
    rw [htk]
    generalize nS 0 D=u
    by_cases h1:9223372036854775808 < u
    · have hb:AU neg u=false:=by unfold AU;cases neg <;> simp <;> omega
      rw [hb,if_neg (by simp)]
      refine Ev.step (f:=fun k=>aC.j3 k neg (u:Int) (decide ((u:Int) > 9223372036854775808))) (fun k=>?_) (j3t _ _ (decide_eq_true (by omega)))
      conv=>lhs;simp only [aC.j2]
      rw [if_neg (by rw [ig];omega),if_pos (by omega)]
    · by_cases h2:u=9223372036854775808
      · subst h2
        refine Ev.step (f:=fun k=>aC.j3 k neg (((9223372036854775808:Nat):Nat):Int) (!neg)) (fun k=>?_) ?_
        · conv=>lhs;simp only [aC.j2]
          rw [if_neg (by rw [ig];omega),if_neg (by omega),if_pos (by omega)]
        · cases neg with
          | false=>exact j3t _ _ rfl
          | true =>
            refine Ev.step (f:=fun _=>some _) (fun k=>?_) (Ev.now _)
            simp only [aC.j3]
            have hi:AU true 9223372036854775808=true:=by decide
            have hw:wrap64 (-wrap64 ((9223372036854775808:Nat):Int))=VI true 9223372036854775808:=by unfold VI wrap64;rw [if_pos rfl];omega
            rw [if_neg (by simp),if_pos trivial,if_pos hi,hw]
      · have hb:AU neg u=true:=by unfold AU;cases neg <;> simp <;> omega
        rw [hb,if_pos rfl]
        refine Ev.step (f:=fun k=>aC.j3 k neg (u:Int) false) (fun k=>?_) (Ev.step (f:=fun _=>some _) (fun k=>?_) (Ev.now _))
        · conv=>lhs;simp only [aC.j2]
          rw [if_neg (by rw [ig];omega),if_neg (by omega),if_neg (by omega)]
        · simp only [aC.j3]
          have hw:wrap64 (u:Int)=u:=by unfold wrap64;omega
          rw [if_neg (by simp),hw]
          cases neg with
          | true =>
            have hw2:wrap64 (-(u:Int))=-(u:Int):=by unfold wrap64;omega
            rw [if_pos rfl,hw2]
            rfl
          | false=>rw [if_neg (by simp)];rfl
theorem RH (w:List UInt8) (hw:w.length≤10000):Ev (fun k=>aC.f k (Bs w)) (Xm w):=by
  unfold aC.f
  refine Ev.bind (NV w hw) ?_
  unfold Xm
  cases hn:rf w with
  | false=>exact Ev.congr (f:=fun _=>some _) (fun k=>if_neg (by simp)) (Ev.now _)
  | true =>
    refine Ev.congr (fun k=>if_pos rfl) ?_
    rw [if_pos rfl]
    obtain ⟨hne,hdig,hzero⟩:=(yL w).1 hn
    obtain ⟨neg,hs,hneg⟩:=signed w
    have hle:(unsigned w).length≤w.length:=trimPrefix_le w [45]
    have hz:(unsigned w).head? = some 48→(unsigned w).length≤1:=fun h=>by
      have:=hzero h
      rw [this] at hle ⊢
      decide
    have hj2:=Xl (unsigned w) (by omega) hdig hz neg
    have hl0:=OW (unsigned w) (by omega) hdig neg _ hj2 19 0 rfl (Nat.zero_le _)
    have hof:numOf w=if AU neg (nS 0 (unsigned w)) then (VI neg (nS 0 (unsigned w)),0) else (0,3):=by
      rw [← Gl neg (unsigned w) hdig hne,← hs]
    rw [← hof] at hl0
    have hj0:Ev (fun k=>aC.j0 k (Bs (unsigned w)) neg) (numOf w):=Ev.step (fun k=>by simp only [aC.j0];rfl) hl0
    cases w with
    | nil=>simp [unsigned,Lib.trimPrefix,Lib.hasPrefix] at hne
    | cons c r =>
      have hb:=bt0 c r
      refine Ev.congr (fun k=>if_pos (by rw [ig];simp only [List.length_cons];omega)) ?_
      rw [hb]
      by_cases e:c=45
      · subst e
        obtain rfl:neg=true:=hneg.2 rfl
        refine Ev.congr (fun k=>?_) hj0
        rw [if_pos (by decide),if_pos (by rw [ig];simp only [List.length_cons];omega),Bi,ig]
        rw [uy]
        have e1:List.take (((45:UInt8) :: r).length - 1) (List.drop 1 ((45:UInt8) :: r))=r:=by simp
        rw [e1]
        rfl
      · have VQ:¬ (c.toNat:Int)=45:=fun h=>e (UInt8.toNat_inj.1 (by show c.toNat=45;omega))
        obtain rfl:neg=false:=by
          cases neg with
          | false=>rfl
          | true=>exact absurd (by simpa using hneg.1 rfl) e
        refine Ev.congr (fun k=>?_) hj0
        rw [if_neg VQ,show ((c.toNat:Int) == 45)=false from beq_eq_false_iff_ne.2 VQ,rC (c :: r) (by simp [e])]
def y9 (x:List (List UInt8)) (j:Nat):List UInt8:=if j=0 then Lib.join x [32] else Lib.joinTail [32] (x.drop j)
theorem Ig {x:List (List UInt8)} {j:Nat} {w:List UInt8} (h:x[j]? = some w):y9 x j=(if 0 < j then [32] else [])++w++y9 x (j+1):=by
  obtain ⟨hl,hw⟩:=List.getElem?_eq_some_iff.1 h
  have hdr:x.drop j=w :: x.drop (j+1):=by rw [List.drop_eq_getElem_cons hl,hw]
  unfold y9
  rw [if_neg (by omega:¬ j+1=0)]
  by_cases e:j=0
  · subst e
    rw [List.drop_zero] at hdr
    rw [if_pos rfl,if_neg (by omega),List.nil_append]
    conv=>lhs;rw [hdr,Lib.join_cons]
  · rw [if_neg e,if_pos (by omega),hdr]
    simp [Lib.joinTail]
theorem Oy (L:List (List (List UInt8))) (i:Nat) (x:List (List UInt8)) (hx:L[i]? = some x) (hi:i < 2000000) (hb:vF x≤2000000) :
    ∀ (d j:Nat),j+d=x.length→∀ o:List UInt8,o.length≤4000000→∀ r,(∀ o':List UInt8,o'=o++y9 x j++[10]→Ev (fun k=>bg.l0 k (conv L) (Bs o') ((i+1:Nat):Int)) r) →
      o.length+(y9 x j).length≤4000000→Ev (fun k=>bg.l1 k (conv L) (Bs o) (i:Int) (j:Int)) r
  | 0,j,hj,o,ho,r,hr,hlen=>by
    have e:y9 x j=[]:=by
      unfold y9
      by_cases e:j=0
      · subst e
        have:x=[]:=List.length_eq_zero_iff.1 (by omega)
        rw [if_pos rfl,this]
        rfl
      · rw [if_neg e,List.drop_eq_nil_of_le (by omega)]
        rfl
    have hil:i < L.length:=(List.getElem?_eq_some_iff.1 hx).1
    refine Ev.step (fun k=>?_) (hr (o++[10]) (by rw [e,List.append_nil]))
    conv=>lhs;simp only [bg.l1]
    rw [DX L i x hx,if_pos (by omega),if_pos (by rw [oN];omega),List.length_map,if_neg (by omega),ig,if_pos (by omega),jA i (by omega),show (⟨#[10]⟩:ByteArray)=Bs [10] from rfl,Fv]
  | d+1,j,hj,o,ho,r,hr,hlen=>by
    have hlt:j < x.length:=by omega
    have hw:x[j]? = some x[j]:=List.getElem?_eq_getElem hlt
    have hm:=O0 (List.getElem_mem hlt)
    have hxl:=Gm x
    generalize x[j]=w at hw hm
    have hil:i < L.length:=(List.getElem?_eq_some_iff.1 hx).1
    rw [Ig hw] at hr hlen
    simp only [List.length_append] at hlen
    by_cases e:0 < j
    · rw [if_pos e] at hr hlen
      have ih:=Oy L i x hx hi hb d (j+1) (by omega) (o++[32]++w) (by simp only [List.length_append,List.length_cons,List.length_nil] at hlen ⊢;omega) r (fun o' h'=>hr o' (by rw [h'];simp)) (by simp only [List.length_append,List.length_cons,List.length_nil] at hlen ⊢;omega)
      refine Ev.step (fun k=>?_) ih
      conv=>lhs;simp only [bg.l1]
      simp only [List.length_cons,List.length_nil] at hlen
      have e32:Bs o++(⟨#[32]⟩:ByteArray)=Bs (o++[32]):=Fv o [32]
      rw [DX L i x hx,VK x j w hw,e32,Fv,ig,ig,ig,List.length_map,if_pos (by omega),if_pos (by rw [oN];omega),if_pos (by omega),if_pos (by omega),if_pos (by omega),if_pos (by omega),if_pos (by simp only [List.length_append,List.length_cons,List.length_nil];omega),jA j (by omega)]
    · rw [if_neg e] at hr hlen
      have ih:=Oy L i x hx hi hb d (j+1) (by omega) (o++w) (by simp only [List.length_append,List.length_nil] at hlen ⊢;omega) r (fun o' h'=>hr o' (by rw [h'];simp)) (by simp only [List.length_append,List.length_nil] at hlen ⊢;omega)
      refine Ev.step (fun k=>?_) ih
      conv=>lhs;simp only [bg.l1]
      simp only [List.length_nil] at hlen
      rw [DX L i x hx,VK x j w hw,Fv,ig,ig,List.length_map,if_pos (by omega),if_pos (by rw [oN];omega),if_pos (by omega),if_neg (by omega),if_pos (by omega),if_pos (by omega),jA j (by omega)]
theorem VJ (L:List (List (List UInt8))) (hL:tot L≤1048576):∀ (d i:Nat),i+d=L.length→∀ o:List UInt8,o.length+tot (L.drop i)≤2000000 →
    Ev (fun k=>bg.l0 k (conv L) (Bs o) (i:Int)) (Bs (o++joinL (L.drop i)))
  | 0,i,hi,o,ho=>by
    rw [List.drop_eq_nil_of_le (by omega)]
    refine Ev.step (f:=fun _=>some _) (fun k=>?_) (Ev.now _)
    simp only [bg.l0]
    rw [oN,if_neg (by omega)]
    simp [joinL]
  | d+1,i,hi,o,ho=>by
    have hlt:i < L.length:=by omega
    have hw:L[i]? = some L[i]:=List.getElem?_eq_getElem hlt
    have hdr:L.drop i=L[i] :: L.drop (i+1):=List.drop_eq_getElem_cons hlt
    have hmem:=JH (List.getElem_mem hlt)
    have hll:=JK L
    generalize L[i]=x at hw hdr hmem
    rw [hdr,qC] at ho
    rw [hdr,AO]
    have hjl:=zl x
    have e0:y9 x 0=Lib.join x [32]:=if_pos rfl
    have h1:=Oy L i x hw (by omega) (by omega) x.length 0 (Nat.zero_add _) o (by omega) (Bs (o++(Lib.join x [32]++10 :: joinL (L.drop (i+1))))) (fun o' h'=>by
      have ih:=VJ L hL d (i+1) (by omega) o' (by rw [h',e0];simp only [List.length_append,List.length_cons,List.length_nil];omega)
      have e:o'++joinL (L.drop (i+1))=o++(Lib.join x [32]++10 :: joinL (L.drop (i+1))):=by rw [h',e0];simp
      rw [e] at ih
      exact ih) (by rw [e0];omega)
    refine Ev.step (fun k=>?_) h1
    conv=>lhs;simp only [bg.l0]
    rw [oN,if_pos (by omega)]
    rfl
theorem Ox (L:List (List (List UInt8))) (hL:tot L≤1048576):Ev (fun k=>bg.f k (conv L)) (Bs (joinL L)):=by
  have h:=VJ L hL L.length 0 (Nat.zero_add _) [] (by rw [List.drop_zero];simp only [List.length_nil];omega)
  rw [List.drop_zero,List.nil_append] at h
  exact h
end Go.Proofs.YtkclndkbccbhaaaGreatDoor.P
end
