/- Parts of the proof of ModelRuns: what the functions that it reaches compute, and plain facts about that. -/
import Derived.Test.YtlemecdddhdagaaDoorYab
import Derived.Test.YtlemecdddhdagaaDoorYag
import Derived.Test.YtlemecdddhdagaaDoorYaj
import Derived.Test.YtlemecdddhdagaaDoorYah
set_option linter.unusedVariables false
set_option linter.unusedSimpArgs false
section
namespace Go.Proofs.YtlemecdddhdagaaDoor.P
open Go.RowKit Go.Proofs.af.bD Go.Proofs.af.dB Go.Proofs.af.dM
attribute [local go_sem] lq lg mG mF jY jX lh kZ
def gW.f (k:Nat) :Option (Bool):=(some (([(⟨#[105]⟩:ByteArray)]:List ByteArray):List ByteArray)).bind fun y167=>((some (([(⟨1,0,0,0,5⟩:iw),(⟨5,0,0,0,0⟩:iw),(⟨9,0,0,0,0⟩:iw),(⟨8,1,0,0,0⟩:iw),(⟨14,1,0,0,0⟩:iw)]:List (iw)):List (iw))).bind fun iE=>((fU.f k y167 (⟨#[48]⟩:ByteArray) (⟨#[]⟩:ByteArray) iE 5).bind fun pF=>((fU.f k y167 (⟨#[48]⟩:ByteArray) (⟨#[]⟩:ByteArray) iE 4).bind fun xX=>(if 1 < (iE.length:Int) then ((fU.f k y167 (⟨#[48]⟩:ByteArray) (⟨#[]⟩:ByteArray) (iE.set (1:Int).toNat (⟨6,(aA iE 1).f1,(aA iE 1).f2,(aA iE 1).f3,(aA iE 1).f4⟩:iw)) 9).bind fun sQ=>(if (pF.1.length:Int)=1 then (if 0 < (pF.1.length:Int) then (if (rd pF.1 0)=5 then (if pF.2=0 then (if xX.2=10 then (some (sQ.2 == 9)) else (some false)) else (some false)) else (some false)) else (none)) else (some false))) else (none)))))
theorem QT {α:Type} {g:Nat→Option α} {a b:α} (hg:∀ k,dO (g k) (g (k+1))) {k k':Nat} (h:g k=some a) (h':g k'=some b):a=b:=by
 obtain ⟨K,hK⟩:=Ev.of hg h
 obtain ⟨K',hK'⟩:=Ev.of hg h'
 exact Option.some.inj ((hK (max K K') (Nat.le_max_left _ _)).symm.trans (hK' _ (Nat.le_max_right _ _)))
theorem Jb {k:Nat} {a:List Int} {e:Int} {y:List ByteArray} {z:List (iw)} (hy:y=([(⟨#[105]⟩:ByteArray)]:List ByteArray)) (hz:z=([(⟨1,0,0,0,5⟩:iw),(⟨5,0,0,0,0⟩:iw),(⟨9,0,0,0,0⟩:iw),(⟨8,1,0,0,0⟩:iw),(⟨14,1,0,0,0⟩:iw)]:List (iw))) (h:fU.f k y (⟨#[48]⟩:ByteArray) (⟨#[]⟩:ByteArray) z 5=some (a,e)):a=[5]∧e=0:=by
 subst hy hz
 have F:fU.f 40 ([(⟨#[105]⟩:ByteArray)]:List ByteArray) (⟨#[48]⟩:ByteArray) (⟨#[]⟩:ByteArray) ([(⟨1,0,0,0,5⟩:iw),(⟨5,0,0,0,0⟩:iw),(⟨9,0,0,0,0⟩:iw),(⟨8,1,0,0,0⟩:iw),(⟨14,1,0,0,0⟩:iw)]:List (iw)) 5=some ([5],0):=by kernel_rfl
 have:=QT (fun q=>fU.mono _ _ _ _ _ q) h F
 exact ⟨congrArg Prod.fst this,congrArg Prod.snd this⟩
theorem aaP {k:Nat} {a:List Int} {e:Int} {y:List ByteArray} {z:List (iw)} (hy:y=([(⟨#[105]⟩:ByteArray)]:List ByteArray)) (hz:z=([(⟨1,0,0,0,5⟩:iw),(⟨5,0,0,0,0⟩:iw),(⟨9,0,0,0,0⟩:iw),(⟨8,1,0,0,0⟩:iw),(⟨14,1,0,0,0⟩:iw)]:List (iw))) (h:fU.f k y (⟨#[48]⟩:ByteArray) (⟨#[]⟩:ByteArray) z 4=some (a,e)):e=10:=by
 subst hy hz
 have F:fU.f 40 ([(⟨#[105]⟩:ByteArray)]:List ByteArray) (⟨#[48]⟩:ByteArray) (⟨#[]⟩:ByteArray) ([(⟨1,0,0,0,5⟩:iw),(⟨5,0,0,0,0⟩:iw),(⟨9,0,0,0,0⟩:iw),(⟨8,1,0,0,0⟩:iw),(⟨14,1,0,0,0⟩:iw)]:List (iw)) 4=some ([],10):=by kernel_rfl
 exact congrArg Prod.snd (QT (fun q=>fU.mono _ _ _ _ _ q) h F)
theorem gW.mono:∀ k,dO (gW.f k ) (gW.f (k+1) ):=by
 intro  k
 unfold gW.f
 repeat' with_reducible first|apply fU.mono|exact dO.refl _|exact dO.none _|refine dO.ite ?_ ?_|refine dO.bind ?_ (fun _=>?_)
set_option maxHeartbeats 8000000 in
set_option maxRecDepth 100000 in
theorem gW.calls (k:Nat)  (r:Bool) (w:World) (lQ:Kd.C Kd.string w qZ kP.length kP) (h:gW.f k =some r) :
  Calls Tryd.prog 10 #[] w fun e w'=>e=.returned (.bool r)∧Below w.heap.size w w':=by
 have BV:=Tryd.underlying55
 have yx:=Tryd.underlying25
 have yT:=ae.mk lQ
 clear lQ
 have HB:=ae.mk (Below.refl w.heap.size w)
 have H:((some (([(⟨#[105]⟩:ByteArray)]:List ByteArray):List ByteArray)).bind fun y167=>((some (([(⟨1,0,0,0,5⟩:iw),(⟨5,0,0,0,0⟩:iw),(⟨9,0,0,0,0⟩:iw),(⟨8,1,0,0,0⟩:iw),(⟨14,1,0,0,0⟩:iw)]:List (iw)):List (iw))).bind fun iE=>((fU.f k y167 (⟨#[48]⟩:ByteArray) (⟨#[]⟩:ByteArray) iE 5).bind fun pF=>((fU.f k y167 (⟨#[48]⟩:ByteArray) (⟨#[]⟩:ByteArray) iE 4).bind fun xX=>(if 1 < (iE.length:Int) then ((fU.f k y167 (⟨#[48]⟩:ByteArray) (⟨#[]⟩:ByteArray) (iE.set (1:Int).toNat (⟨6,(aA iE 1).f1,(aA iE 1).f2,(aA iE 1).f3,(aA iE 1).f4⟩:iw)) 9).bind fun sQ=>(if (pF.1.length:Int)=1 then (if 0 < (pF.1.length:Int) then (if (rd pF.1 0)=5 then (if pF.2=0 then (if xX.2=10 then (some (sQ.2 == 9)) else (some false)) else (some false)) else (some false)) else (none)) else (some false))) else (none))))))=some r:=h
 clear h
 obtain ⟨y167,hy167⟩:∃ y_:List ByteArray,y_=(([(⟨#[105]⟩:ByteArray)]:List ByteArray)):=⟨_,rfl⟩
 replace H:((some (([(⟨1,0,0,0,5⟩:iw),(⟨5,0,0,0,0⟩:iw),(⟨9,0,0,0,0⟩:iw),(⟨8,1,0,0,0⟩:iw),(⟨14,1,0,0,0⟩:iw)]:List (iw)):List (iw))).bind fun iE=>((fU.f k y167 (⟨#[48]⟩:ByteArray) (⟨#[]⟩:ByteArray) iE 5).bind fun pF=>((fU.f k y167 (⟨#[48]⟩:ByteArray) (⟨#[]⟩:ByteArray) iE 4).bind fun xX=>(if 1 < (iE.length:Int) then ((fU.f k y167 (⟨#[48]⟩:ByteArray) (⟨#[]⟩:ByteArray) (iE.set (1:Int).toNat (⟨6,(aA iE 1).f1,(aA iE 1).f2,(aA iE 1).f3,(aA iE 1).f4⟩:iw)) 9).bind fun sQ=>(if (pF.1.length:Int)=1 then (if 0 < (pF.1.length:Int) then (if (rd pF.1 0)=5 then (if pF.2=0 then (if xX.2=10 then (some (sQ.2 == 9)) else (some false)) else (some false)) else (some false)) else (none)) else (some false))) else (none)))))=some r:=by first|(rw [hy167];with_reducible exact H)|(have uo:=(Option.bind_some _ _).symm.trans H;rw [hy167];with_reducible exact uo)|(have uo:=(Option.bind_some _ _).symm.trans H;with_reducible exact uo)|with_reducible exact H|(rw [hy167];exact H)|exact H
 have DJ:=ae.mk hy167
 clear hy167
 obtain ⟨iE,F8⟩:∃ y_:List (iw),y_=(([(⟨1,0,0,0,5⟩:iw),(⟨5,0,0,0,0⟩:iw),(⟨9,0,0,0,0⟩:iw),(⟨8,1,0,0,0⟩:iw),(⟨14,1,0,0,0⟩:iw)]:List (iw))):=⟨_,rfl⟩
 replace H:((fU.f k y167 (⟨#[48]⟩:ByteArray) (⟨#[]⟩:ByteArray) iE 5).bind fun pF=>((fU.f k y167 (⟨#[48]⟩:ByteArray) (⟨#[]⟩:ByteArray) iE 4).bind fun xX=>(if 1 < (iE.length:Int) then ((fU.f k y167 (⟨#[48]⟩:ByteArray) (⟨#[]⟩:ByteArray) (iE.set (1:Int).toNat (⟨6,(aA iE 1).f1,(aA iE 1).f2,(aA iE 1).f3,(aA iE 1).f4⟩:iw)) 9).bind fun sQ=>(if (pF.1.length:Int)=1 then (if 0 < (pF.1.length:Int) then (if (rd pF.1 0)=5 then (if pF.2=0 then (if xX.2=10 then (some (sQ.2 == 9)) else (some false)) else (some false)) else (some false)) else (none)) else (some false))) else (none))))=some r:=by first|(rw [F8];with_reducible exact H)|(have uo:=(Option.bind_some _ _).symm.trans H;rw [F8];with_reducible exact uo)|(have uo:=(Option.bind_some _ _).symm.trans H;with_reducible exact uo)|with_reducible exact H|(rw [F8];exact H)|exact H
 have DI:=ae.mk F8
 clear F8
 replace H:=Option.bind_eq_some_iff.mp H
 obtain ⟨⟨t174,t177⟩,Zh,H⟩:=H
 replace H:((fU.f k y167 (⟨#[48]⟩:ByteArray) (⟨#[]⟩:ByteArray) iE 4).bind fun xX=>(if 1 < (iE.length:Int) then ((fU.f k y167 (⟨#[48]⟩:ByteArray) (⟨#[]⟩:ByteArray) (iE.set (1:Int).toNat (⟨6,(aA iE 1).f1,(aA iE 1).f2,(aA iE 1).f3,(aA iE 1).f4⟩:iw)) 9).bind fun sQ=>(if (t174.length:Int)=1 then (if 0 < (t174.length:Int) then (if (rd t174 0)=5 then (if t177=0 then (if xX.2=10 then (some (sQ.2 == 9)) else (some false)) else (some false)) else (some false)) else (none)) else (some false))) else (none)))=some r:=H
 have A1:=ae.mk Zh
 clear Zh
 replace H:=Option.bind_eq_some_iff.mp H
 obtain ⟨⟨t178,t181⟩,Su,H⟩:=H
 replace H:(if 1 < (iE.length:Int) then ((fU.f k y167 (⟨#[48]⟩:ByteArray) (⟨#[]⟩:ByteArray) (iE.set (1:Int).toNat (⟨6,(aA iE 1).f1,(aA iE 1).f2,(aA iE 1).f3,(aA iE 1).f4⟩:iw)) 9).bind fun sQ=>(if (t174.length:Int)=1 then (if 0 < (t174.length:Int) then (if (rd t174 0)=5 then (if t177=0 then (if t181=10 then (some (sQ.2 == 9)) else (some false)) else (some false)) else (some false)) else (none)) else (some false))) else (none))=some r:=H
 have A2:=ae.mk Su
 clear Su
 by_cases c3:1 < (iE.length:Int)
 ·
  rw [if_pos c3] at H
  have ou:decide (1 < (iE.length:Int))=true:=decide_eq_true c3
  have zi:decide (1 < iE.length)=true:=decide_eq_true (by omega)
  clear c3
  obtain ⟨Ny,F7⟩:∃ y_:List (iw),y_=(iE.set (1:Int).toNat (⟨6,(aA iE 1).f1,(aA iE 1).f2,(aA iE 1).f3,(aA iE 1).f4⟩:iw)):=⟨_,rfl⟩
  replace H:((fU.f k y167 (⟨#[48]⟩:ByteArray) (⟨#[]⟩:ByteArray) Ny 9).bind fun sQ=>(if (t174.length:Int)=1 then (if 0 < (t174.length:Int) then (if (rd t174 0)=5 then (if t177=0 then (if t181=10 then (some (sQ.2 == 9)) else (some false)) else (some false)) else (some false)) else (none)) else (some false)))=some r:=by first|(rw [F7];with_reducible exact H)|(have uo:=(Option.bind_some _ _).symm.trans H;rw [F7];with_reducible exact uo)|(have uo:=(Option.bind_some _ _).symm.trans H;with_reducible exact uo)|with_reducible exact H|(rw [F7];exact H)|exact H
  have aeR:=ae.mk F7
  clear F7
  replace H:=Option.bind_eq_some_iff.mp H
  obtain ⟨⟨t183,t186⟩,A50,H⟩:=H
  replace H:(if (t174.length:Int)=1 then (if 0 < (t174.length:Int) then (if (rd t174 0)=5 then (if t177=0 then (if t181=10 then (some (t186 == 9)) else (some false)) else (some false)) else (some false)) else (none)) else (some false))=some r:=H
  have A5:=ae.mk A50
  clear A50
  by_cases c6:(t174.length:Int)=1
  ·
   rw [if_pos c6] at H
   have oH:((t174.length:Int) == 1)=true:=beq_iff_eq.mpr c6
   have yC:((t174.length:Int) != 1)=false:=bne_eq_false_iff_eq.mpr c6
   clear c6
   by_cases c7:0 < (t174.length:Int)
   ·
    rw [if_pos c7] at H
    have oM:decide (0 < (t174.length:Int))=true:=decide_eq_true c7
    have xR:decide (0 < t174.length)=true:=decide_eq_true (by omega)
    clear c7
    by_cases c8:(rd t174 0)=5
    ·
     rw [if_pos c8] at H
     have pM:((rd t174 0) == 5)=true:=beq_iff_eq.mpr c8
     have zh:((rd t174 0) != 5)=false:=bne_eq_false_iff_eq.mpr c8
     clear c8
     by_cases c9:t177=0
     ·
      rw [if_pos c9] at H
      have EU:(t177 == 0)=true:=beq_iff_eq.mpr c9
      have XW:(t177 != 0)=false:=bne_eq_false_iff_eq.mpr c9
      clear c9
      by_cases c10:t181=10
      ·
       rw [if_pos c10] at H
       have pR:(t181 == 10)=true:=beq_iff_eq.mpr c10
       have MO:(t181 != 10)=false:=bne_eq_false_iff_eq.mpr c10
       clear c10
       obtain rfl:=Option.some.inj H
       go_enter Tryd.func10,Tryd.ntmps10
       go_wp2_with (first|((with_reducible refine bI (N:=8) rfl ?_);refine Kd.uu Kd.string _ 9 ?hg (N:=8) ?hd (xs:=([(⟨#[105]⟩:ByteArray)]:List ByteArray)) (inner:=[.string (⟨#[105]⟩:ByteArray)]) (ok:=fun _=>True) (oQ:=fun _=>True) ?hr ?hp (fun _ hk=>hk) trivial (Below.refl _ _) (Nat.le_refl _) (by simp) ?_;(case hd=>rfl);(case hg=>rfl);(case hr=>first|(go_simp;done)|(go_simp;rfl));(case hp=>exact (jA.one (show Kd.M Kd.string _ _ _ (⟨#[105]⟩:ByteArray) [.string (⟨#[105]⟩:ByteArray)] from rfl) (jA.none _ _)));intro v168 w11 Qd hb BX oG;clear BX oG;(first|rw [← DJ.out] at Qd|(simp only [Int.reduceToNat] at Qd;rw [← DJ.out] at Qd));have dV:=ae.mk (Kd.jS Qd (bU (by repeat (first|(with_reducible first|exact HB.out|apply ah|apply ag|apply ai)|exact HB.out))));have dU:=ae.mk (bn (by repeat (first|(with_reducible first|exact HB.out|apply ah|apply ag|apply ai)|exact HB.out)) hb);clear HB;have mV:=dV;have HB:=dU;clear dV dU;clear hb Qd)|((with_reducible refine bI (N:=14) rfl ?_);refine Kd.uu uq _ 55 ?hg (N:=14) ?hd (xs:=([(⟨1,0,0,0,5⟩:iw),(⟨5,0,0,0,0⟩:iw),(⟨9,0,0,0,0⟩:iw),(⟨8,1,0,0,0⟩:iw),(⟨14,1,0,0,0⟩:iw)]:List (iw))) (inner:=[.int .u8 1,.int .u8 0,.int .u8 0,.int .u8 0,.int .i64 5,.int .u8 5,.int .u8 0,.int .u8 0,.int .u8 0,.int .i64 0,.int .u8 9,.int .u8 0,.int .u8 0,.int .u8 0,.int .i64 0,.int .u8 8,.int .u8 1,.int .u8 0,.int .u8 0,.int .i64 0,.int .u8 14,.int .u8 1,.int .u8 0,.int .u8 0,.int .i64 0]) (ok:=fun _=>True) (oQ:=fun _=>True) ?hr ?hp (fun _ hk=>hk) trivial (Below.refl _ _) (Nat.le_refl _) (by simp) ?_;(case hd=>rfl);(case hg=>rfl);(case hr=>first|(go_simp;done)|(go_simp;rfl));(case hp=>exact (jA.c5 (show Kd.M uq _ _ _ (⟨1,0,0,0,5⟩:iw) [.int .u8 1,.int .u8 0,.int .u8 0,.int .u8 0,.int .i64 5] from (vM _ _ _ (⟨1,0,0,0,5⟩:iw) )) (jA.c5 (show Kd.M uq _ _ _ (⟨5,0,0,0,0⟩:iw) [.int .u8 5,.int .u8 0,.int .u8 0,.int .u8 0,.int .i64 0] from (vM _ _ _ (⟨5,0,0,0,0⟩:iw) )) (jA.c5 (show Kd.M uq _ _ _ (⟨9,0,0,0,0⟩:iw) [.int .u8 9,.int .u8 0,.int .u8 0,.int .u8 0,.int .i64 0] from (vM _ _ _ (⟨9,0,0,0,0⟩:iw) )) (jA.c5 (show Kd.M uq _ _ _ (⟨8,1,0,0,0⟩:iw) [.int .u8 8,.int .u8 1,.int .u8 0,.int .u8 0,.int .i64 0] from (vM _ _ _ (⟨8,1,0,0,0⟩:iw) )) (jA.c5 (show Kd.M uq _ _ _ (⟨14,1,0,0,0⟩:iw) [.int .u8 14,.int .u8 1,.int .u8 0,.int .u8 0,.int .i64 0] from (vM _ _ _ (⟨14,1,0,0,0⟩:iw) )) (jA.none _ _)))))));intro v171 Zm Qc hb BX oG;clear BX oG;(first|rw [← DI.out] at Qc|(simp only [Int.reduceToNat] at Qc;rw [← DI.out] at Qc));have dV:=ae.mk (Kd.kF (by (with_reducible repeat (first|apply Kd.iJ|apply Kd.iI|apply Kd.jk));exact mV.out) hb);have dU:=ae.mk (Kd.jS Qc (bU (by repeat (first|(with_reducible first|exact HB.out|apply ah|apply ag|apply ai)|exact HB.out))));have dR:=ae.mk (bn (by repeat (first|(with_reducible first|exact HB.out|apply ah|apply ag|apply ai)|exact HB.out)) hb);clear mV;clear HB;have mV:=dV;have kV:=dU;have HB:=dR;clear dV dU dR;clear hb Qc;obtain ⟨Cj,sO,amW⟩:=Kd.jR kV.out;subst amW;obtain ⟨vg,uA,amV⟩:=Kd.jR mV.out;subst amV)|((with_reducible refine bI (N:=1) rfl ?_);refine fF ?hg (N:=1) ?hd (cs:=#[.slice none 0 0,.string (⟨#[]⟩:ByteArray),.string (⟨#[]⟩:ByteArray),.slice none 0 0]) (t:=25) ?hr ?_;(case hd=>rfl);(case hg=>rfl);(case hr=>first|(go_simp;done)|(go_simp;rfl));intro jT hg w17 hbox hb;have dV:=ae.mk (Kd.kF (by (with_reducible repeat (first|apply Kd.iJ|apply Kd.iI|apply Kd.jk));exact mV.out) hb);have dU:=ae.mk (Kd.kF (by (with_reducible repeat (first|apply Kd.iJ|apply Kd.iI|apply Kd.jk));exact kV.out) hb);have dR:=ae.mk (bn (by repeat (first|(with_reducible first|exact HB.out|apply ah|apply ag|apply ai)|exact HB.out)) hb);have gZ:=ae.mk (hbox);have l9:=ae.mk ((by rw [hg];exact (bU (by repeat (first|(with_reducible first|exact HB.out|apply ah|apply ag|apply ai)|exact HB.out))):w.heap.size≤jT));have mY:=l9;clear mV;clear kV;clear HB;have mV:=dV;have kV:=dU;have HB:=dR;have je:=gZ;have apN:=l9;have yV:=mY;clear dV dU dR gZ l9 mY;clear hb hbox hg;have L9:w17.cell? ⟨jT,0,none⟩=some (.slice none 0 0):=(ax je.out 0).trans rfl;have L8:w17.cell? ⟨jT,1,none⟩=some (.string (⟨#[]⟩:ByteArray)):=(ax je.out 1).trans rfl;have L6:w17.cell? ⟨jT,2,none⟩=some (.string (⟨#[]⟩:ByteArray)):=(ax je.out 2).trans rfl;have LZ:w17.cell? ⟨jT,3,none⟩=some (.slice none 0 0):=(ax je.out 3).trans rfl;have KU:=aC je.out 0;have KT:=aC je.out 1;have KR:=aC je.out 2;have KQ:=aC je.out 3)|((with_reducible refine bz (f:=12) rfl ?_);refine dS (some 18) rfl rfl Tryd.func12 (by kernel_rfl) rfl #[.agg #[.slice vg y167.length uA,.string (⟨#[48]⟩:ByteArray),.string (⟨#[]⟩:ByteArray),.slice Cj iE.length sO],.int .i64 5] rfl (by (try simp only [List.map_toArray,List.map_cons,List.map_nil]);first|done|rfl|(simp only [List.length_drop,List.length_take];rfl)) ?_;(with_reducible refine (fU.calls k _ _ y167 (⟨#[48]⟩:ByteArray) (⟨#[]⟩:ByteArray) _ _ iE 5 t174 t177 _ ?bZ ?dh ?iW ?iV ?FH A1.out).mono ?_);(case bZ=>refine (Kd.dW (e:=9) (base:=w.heap.size) (ok:=fun k_=>True) (n:=y167.length) (c:=uA) ?_).2.2;exact (by (with_reducible repeat (first|apply Kd.iJ|apply Kd.iI|apply Kd.jk));exact (Kd.kS (Kd.qN (p:=⟨jT,3,none⟩) (Kd.qN (p:=⟨jT,2,none⟩) (Kd.qN (p:=⟨jT,1,none⟩) (Kd.qN (p:=⟨jT,0,none⟩) (Kd.rU mV.out je.out (by decide)) (fun _ hk=>hk.2) (.slice vg y167.length uA)) (fun _ hk=>hk.2) (.string (⟨#[48]⟩:ByteArray))) (fun _ hk=>hk.2) (.string (⟨#[]⟩:ByteArray))) (fun _ hk=>hk.2) (.slice Cj iE.length sO)) (fun _ h_=>h_.1))));(case dh=>exact (Kd.dW mV.out).2.1);(case iW=>refine (Kd.dW (e:=55) (base:=w.heap.size) (ok:=fun k_=>True) (n:=iE.length) (c:=sO) ?_).2.2;exact (by (with_reducible repeat (first|apply Kd.iJ|apply Kd.iI|apply Kd.jk));exact (Kd.kS (Kd.qN (p:=⟨jT,3,none⟩) (Kd.qN (p:=⟨jT,2,none⟩) (Kd.qN (p:=⟨jT,1,none⟩) (Kd.qN (p:=⟨jT,0,none⟩) (Kd.rU kV.out je.out (by decide)) (fun _ hk=>hk.2) (.slice vg y167.length uA)) (fun _ hk=>hk.2) (.string (⟨#[48]⟩:ByteArray))) (fun _ hk=>hk.2) (.string (⟨#[]⟩:ByteArray))) (fun _ hk=>hk.2) (.slice Cj iE.length sO)) (fun _ h_=>h_.1))));(case iV=>exact (Kd.dW kV.out).2.1);(case FH=>exact Kd.bJ yT.out (by repeat (first|(with_reducible first|exact HB.out|apply ah|apply ag|apply ai|refine aj ?_ yV.out)|exact HB.out)));rintro e w19 ⟨v175,rfl,ho0,hb⟩;refine ⟨_,rfl,?_⟩;have dV:=ae.mk (Kd.kF (by (with_reducible repeat (first|apply Kd.iJ|apply Kd.iI|apply Kd.jk));exact (Kd.kS (Kd.qN (p:=⟨jT,3,none⟩) (Kd.qN (p:=⟨jT,2,none⟩) (Kd.qN (p:=⟨jT,1,none⟩) (Kd.qN (p:=⟨jT,0,none⟩) (Kd.rU mV.out je.out (by decide)) (fun _ hk=>hk.2) (.slice vg y167.length uA)) (fun _ hk=>hk.2) (.string (⟨#[48]⟩:ByteArray))) (fun _ hk=>hk.2) (.string (⟨#[]⟩:ByteArray))) (fun _ hk=>hk.2) (.slice Cj iE.length sO)) (fun _ h_=>h_.1))) hb);have dU:=ae.mk (Kd.kF (by (with_reducible repeat (first|apply Kd.iJ|apply Kd.iI|apply Kd.jk));exact (Kd.kS (Kd.qN (p:=⟨jT,3,none⟩) (Kd.qN (p:=⟨jT,2,none⟩) (Kd.qN (p:=⟨jT,1,none⟩) (Kd.qN (p:=⟨jT,0,none⟩) (Kd.rU kV.out je.out (by decide)) (fun _ hk=>hk.2) (.slice vg y167.length uA)) (fun _ hk=>hk.2) (.string (⟨#[48]⟩:ByteArray))) (fun _ hk=>hk.2) (.string (⟨#[]⟩:ByteArray))) (fun _ hk=>hk.2) (.slice Cj iE.length sO)) (fun _ h_=>h_.1))) hb);have dR:=ae.mk (Kd.jS ho0 (bU (by repeat (first|(with_reducible first|exact HB.out|apply ah|apply ag|apply ai|refine aj ?_ yV.out)|exact HB.out))));have gZ:=ae.mk (bg (g:=jT) (o:=.cells #[.slice vg y167.length uA,.string (⟨#[48]⟩:ByteArray),.string (⟨#[]⟩:ByteArray),.slice Cj iE.length sO] 25 (0,0)) (by (with_reducible repeat (first|refine au ?_ _|refine ay ?_|refine ak ?_ _));refine dQ (cs:=#[.slice vg y167.length uA,.string (⟨#[48]⟩:ByteArray),.string (⟨#[]⟩:ByteArray),.slice none 0 0]) ?_ 3 _ rfl;(with_reducible repeat (first|refine au ?_ _|refine ay ?_|refine ak ?_ _));refine dQ (cs:=#[.slice vg y167.length uA,.string (⟨#[48]⟩:ByteArray),.string (⟨#[]⟩:ByteArray),.slice none 0 0]) ?_ 2 _ rfl;(with_reducible repeat (first|refine au ?_ _|refine ay ?_|refine ak ?_ _));refine dQ (cs:=#[.slice vg y167.length uA,.string (⟨#[]⟩:ByteArray),.string (⟨#[]⟩:ByteArray),.slice none 0 0]) ?_ 1 _ rfl;(with_reducible repeat (first|refine au ?_ _|refine ay ?_|refine ak ?_ _));refine dQ (cs:=#[.slice none 0 0,.string (⟨#[]⟩:ByteArray),.string (⟨#[]⟩:ByteArray),.slice none 0 0]) ?_ 0 _ rfl;(with_reducible repeat (first|refine au ?_ _|refine ay ?_|refine ak ?_ _));exact je.out) hb);have l9:=ae.mk (bn (by repeat (first|(with_reducible first|exact HB.out|apply ah|apply ag|apply ai|refine aj ?_ yV.out)|exact HB.out)) hb);clear mV;clear kV;clear je;clear HB;have mV:=dV;have kV:=dU;have sV:=dR;have je:=gZ;have HB:=l9;clear dV dU dR gZ l9;(try clear hb);(try clear hb2);(try clear hk);(try clear hi);(try clear ho0);have Xo:w19.cell? ⟨jT,0,none⟩=some (.slice vg y167.length uA):=(ax je.out 0).trans rfl;have Xn:w19.cell? ⟨jT,1,none⟩=some (.string (⟨#[48]⟩:ByteArray)):=(ax je.out 1).trans rfl;have Xm:w19.cell? ⟨jT,2,none⟩=some (.string (⟨#[]⟩:ByteArray)):=(ax je.out 2).trans rfl;have Xl:w19.cell? ⟨jT,3,none⟩=some (.slice Cj iE.length sO):=(ax je.out 3).trans rfl;have Vz:=aC je.out 0;have Vy:=aC je.out 1;have Vx:=aC je.out 2;have Vw:=aC je.out 3)|((with_reducible refine bz (f:=12) rfl ?_);refine dS (some 23) rfl rfl Tryd.func12 (by kernel_rfl) rfl #[.agg #[.slice vg y167.length uA,.string (⟨#[48]⟩:ByteArray),.string (⟨#[]⟩:ByteArray),.slice Cj iE.length sO],.int .i64 4] rfl (by (try simp only [List.map_toArray,List.map_cons,List.map_nil]);first|done|rfl|(simp only [List.length_drop,List.length_take];rfl)) ?_;(with_reducible refine (fU.calls k _ _ y167 (⟨#[48]⟩:ByteArray) (⟨#[]⟩:ByteArray) _ _ iE 4 t178 t181 _ ?bZ ?dh ?iW ?iV ?FH A2.out).mono ?_);(case bZ=>repeat (first|exact (Kd.dW mV.out).2.2|(with_reducible refine Kd.bP ?_ _)|(with_reducible refine Kd.bQ ?_ _)|(with_reducible refine Kd.dD ?_)));(case dh=>exact (Kd.dW mV.out).2.1);(case iW=>repeat (first|exact (Kd.dW kV.out).2.2|(with_reducible refine Kd.bP ?_ _)|(with_reducible refine Kd.bQ ?_ _)|(with_reducible refine Kd.dD ?_)));(case iV=>exact (Kd.dW kV.out).2.1);(case FH=>repeat (first|exact (Kd.bJ yT.out HB.out)|(with_reducible refine Kd.bP ?_ _)|(with_reducible refine Kd.bQ ?_ _)|(with_reducible refine Kd.dD ?_)));rintro e Fp ⟨aqr,rfl,ho0,hb⟩;refine ⟨_,rfl,?_⟩;have dV:=ae.mk (Kd.kF (by (with_reducible repeat (first|apply Kd.iJ|apply Kd.iI|apply Kd.jk));exact mV.out) hb);have dU:=ae.mk (Kd.kF (by (with_reducible repeat (first|apply Kd.iJ|apply Kd.iI|apply Kd.jk));exact kV.out) hb);have dR:=ae.mk (Kd.BB (by (with_reducible repeat (first|apply Kd.iJ|apply Kd.iI|apply Kd.jk));exact sV.out) (Kd.E8 ho0) hb);have gZ:=ae.mk (Kd.jS (Kd.Je ho0 (Kd.Jf (by (with_reducible repeat (first|apply Kd.iJ|apply Kd.iI|apply Kd.jk));exact sV.out))) (bU (by repeat (first|(with_reducible first|exact HB.out|apply ah|apply ag|apply ai|refine aj ?_ yV.out)|exact HB.out))));have l9:=ae.mk (bg (g:=jT) (o:=.cells #[.slice vg y167.length uA,.string (⟨#[48]⟩:ByteArray),.string (⟨#[]⟩:ByteArray),.slice Cj iE.length sO] 25 (0,0)) (by (with_reducible repeat (first|refine au ?_ _|refine ay ?_|refine ak ?_ _));exact je.out) hb);have mY:=ae.mk (bn (by repeat (first|(with_reducible first|exact HB.out|apply ah|apply ag|apply ai|refine aj ?_ yV.out)|exact HB.out)) hb);clear mV;clear kV;clear sV;clear je;clear HB;have mV:=dV;have kV:=dU;have sV:=dR;have BF:=gZ;have je:=l9;have HB:=mY;clear dV dU dR gZ l9 mY;(try clear hb);(try clear hb2);(try clear hk);(try clear hi);(try clear ho0);have LY:Fp.cell? ⟨jT,0,none⟩=some (.slice vg y167.length uA):=(ax je.out 0).trans rfl;have LX:Fp.cell? ⟨jT,1,none⟩=some (.string (⟨#[48]⟩:ByteArray)):=(ax je.out 1).trans rfl;have LW:Fp.cell? ⟨jT,2,none⟩=some (.string (⟨#[]⟩:ByteArray)):=(ax je.out 2).trans rfl;have LV:Fp.cell? ⟨jT,3,none⟩=some (.slice Cj iE.length sO):=(ax je.out 3).trans rfl;have KP:=aC je.out 0;have KO:=aC je.out 1;have KN:=aC je.out 2;have KL:=aC je.out 3;have p4:0≤(1:Int):=(by omega);have q4:(1:Int) < ((iE.length:Int):Int):=of_decide_eq_true (by first|(with_reducible assumption)|assumption);have qi4:(1 < iE.length)=True:=eq_true (by omega);obtain ⟨Cc,co4,eo4,gb4,gl4,cl4,HG4⟩:=Kd.BA kV.out (by omega);(first|cases eo4|(injection eo4 with ea_ en_ ec_;(first|subst ea_|(injection ea_ with ea_;subst ea_));subst ec_;clear en_));have GB4:=ae.mk gb4;have GG4:=ae.mk HG4;clear gb4 gl4 HG4;obtain ⟨ce4,amC,hM4,Oa,N9⟩:=Kd.RF kV.out z55 (1:Int) p4 q4;obtain rfl:=Dn hM4;have Yq:Fp.cell? ⟨Cc,(1:Int).toNat * 5,none⟩=some (.int .u8 ((aA iE 1).f0)):=Oa 0 _ rfl;have Yp:Fp.cell? ⟨Cc,(1:Int).toNat * 5+1,none⟩=some (.int .u8 ((aA iE 1).f1)):=Oa 1 _ rfl;have Yo:Fp.cell? ⟨Cc,(1:Int).toNat * 5+2,none⟩=some (.int .u8 ((aA iE 1).f2)):=Oa 2 _ rfl;have Yn:Fp.cell? ⟨Cc,(1:Int).toNat * 5+3,none⟩=some (.int .u8 ((aA iE 1).f3)):=Oa 3 _ rfl;have Ym:Fp.cell? ⟨Cc,(1:Int).toNat * 5+4,none⟩=some (.int .i64 ((aA iE 1).f4)):=Oa 4 _ rfl;have YG:Fp.frozen? ⟨Cc,(1:Int).toNat * 5,none⟩=false:=N9 0;have YF:Fp.frozen? ⟨Cc,(1:Int).toNat * 5+1,none⟩=false:=N9 1;have YE:Fp.frozen? ⟨Cc,(1:Int).toNat * 5+2,none⟩=false:=N9 2;have YD:Fp.frozen? ⟨Cc,(1:Int).toNat * 5+3,none⟩=false:=N9 3;have YC:Fp.frozen? ⟨Cc,(1:Int).toNat * 5+4,none⟩=false:=N9 4;clear amC Oa N9 hM4;(try rw [show ((1:Int)).toNat=1 from rfl] at Yq);(try simp only [Nat.reduceMul,Nat.zero_mul,Nat.zero_add,Nat.reduceAdd] at Yq);(try rw [show ((1:Int)).toNat=1 from rfl] at YG);(try simp only [Nat.reduceMul,Nat.zero_mul,Nat.zero_add,Nat.reduceAdd] at YG);(try rw [show ((1:Int)).toNat=1 from rfl] at Yp);(try simp only [Nat.reduceMul,Nat.zero_mul,Nat.zero_add,Nat.reduceAdd] at Yp);(try rw [show ((1:Int)).toNat=1 from rfl] at YF);(try simp only [Nat.reduceMul,Nat.zero_mul,Nat.zero_add,Nat.reduceAdd] at YF);(try rw [show ((1:Int)).toNat=1 from rfl] at Yo);(try simp only [Nat.reduceMul,Nat.zero_mul,Nat.zero_add,Nat.reduceAdd] at Yo);(try rw [show ((1:Int)).toNat=1 from rfl] at YE);(try simp only [Nat.reduceMul,Nat.zero_mul,Nat.zero_add,Nat.reduceAdd] at YE);(try rw [show ((1:Int)).toNat=1 from rfl] at Yn);(try simp only [Nat.reduceMul,Nat.zero_mul,Nat.zero_add,Nat.reduceAdd] at Yn);(try rw [show ((1:Int)).toNat=1 from rfl] at YD);(try simp only [Nat.reduceMul,Nat.zero_mul,Nat.zero_add,Nat.reduceAdd] at YD);(try rw [show ((1:Int)).toNat=1 from rfl] at Ym);(try simp only [Nat.reduceMul,Nat.zero_mul,Nat.zero_add,Nat.reduceAdd] at Ym);(try rw [show ((1:Int)).toNat=1 from rfl] at YC);(try simp only [Nat.reduceMul,Nat.zero_mul,Nat.zero_add,Nat.reduceAdd] at YC);replace p4:=eq_true p4;replace q4:=eq_true q4;have aeU:=ae.mk (show Kd.R uq 55 Fp w.heap.size (fun _=>True) (.slice (some ⟨Cc,0,none⟩) iE.length sO) iE from (by (with_reducible repeat (first|apply Kd.iJ|apply Kd.iI|apply Kd.jk));exact kV.out));obtain ⟨arc,YH,adu,QD,YB⟩:=Kd.RF aeU.out z55 (1:Int) (by omega) (by have h_:(1:Int) < ((iE.length:Int):Int):=of_decide_eq_true (by first|(with_reducible assumption)|assumption);first|exact h_|(have e_:=(Kd.dW kV.out).1;omega)|simpa using h_);obtain rfl:=Dn adu;have aa8:=Kd.aeP aeU.out (1:Int) (by omega) (by have h_:(1:Int) < ((iE.length:Int):Int):=of_decide_eq_true (by first|(with_reducible assumption)|assumption);first|exact h_|(have e_:=(Kd.dW kV.out).1;omega)|simpa using h_) (wH:=[.int .u8 6]) (j:=0) YH QD (show 1≤5 from by decide) (x':=(⟨6,(aA iE 1).f1,(aA iE 1).f2,(aA iE 1).f3,(aA iE 1).f4⟩:iw)) (vM _ _ _ (⟨6,(aA iE 1).f1,(aA iE 1).f2,(aA iE 1).f3,(aA iE 1).f4⟩:iw) ) (fun _ hk=>hk);have IK:=QD 0 _ rfl;(try simp only [show (uq).sz=5 from rfl,Nat.mul_one,Nat.add_zero] at IK);(try rw [show ((1:Int)).toNat=1 from rfl] at IK);(try simp only [Nat.reduceMul,Nat.zero_mul,Nat.zero_add,Nat.reduceAdd] at IK);have IU:=YB 0;(try simp only [show (uq).sz=5 from rfl,Nat.mul_one,Nat.add_zero] at IU);(try rw [show ((1:Int)).toNat=1 from rfl] at IU);(try simp only [Nat.reduceMul,Nat.zero_mul,Nat.zero_add,Nat.reduceAdd] at IU);clear YH QD YB adu)|((with_reducible refine IZ (t:=5) (p:=29) rfl ?_);refine Fz (t:=5) (p:=29) (v:=?alQ) (w1:=(Fp.setCell ⟨Cc,5,none⟩ (.int .u8 6))) ?hg ?ho ?hn ?hr ?_;(case ho=>rfl);(case hg=>rfl);(case hn=>rfl);(case hr=>first|(go_simp;done)|(go_simp;rfl));intro Tj hw;have hg:Fp.grownBy Tj (some Cc):=(by rw [hw];exact aa8.2);have hp_:Kd.R uq 55 Tj w.heap.size (fun _=>True) (.slice (some ⟨Cc,0,none⟩) iE.length sO) Ny:=(by rw [hw,aeR.out];exact aa8.1);clear aa8;have dV:=ae.mk (Kd.EZ (v:=(.slice (some ⟨Cc,0,none⟩) iE.length sO)) (by (with_reducible repeat (first|apply Kd.iJ|apply Kd.iI|apply Kd.jk));exact mV.out) (Kd.EY kV.out) (by decide) hg);have dU:=ae.mk (hp_);have dR:=ae.mk (DF (g:=jT) (o:=.cells #[.slice vg y167.length uA,.string (⟨#[48]⟩:ByteArray),.string (⟨#[]⟩:ByteArray),.slice (some ⟨Cc,0,none⟩) iE.length sO] 25 (0,0)) (by (with_reducible repeat (first|refine au ?_ _|refine ay ?_|refine ak ?_ _));exact je.out) hg (Kd.aeQ kV.out je.out (by decide)));have gZ:=ae.mk (Kd.EZ (v:=(.slice (some ⟨Cc,0,none⟩) iE.length sO)) (by (with_reducible repeat (first|apply Kd.iJ|apply Kd.iI|apply Kd.jk));exact sV.out) (Kd.EY kV.out) (by decide) hg);have l9:=ae.mk (Kd.EZ (v:=(.slice (some ⟨Cc,0,none⟩) iE.length sO)) (by (with_reducible repeat (first|apply Kd.iJ|apply Kd.iI|apply Kd.jk));exact BF.out) (Kd.EY kV.out) (by decide) hg);have mY:=ae.mk ((by rw [hw];exact aj (HB.out) GB4.out:Below w.heap.size w Tj));clear mV;clear kV;clear je;clear sV;clear BF;clear HB;have mV:=dV;have kV:=dU;have je:=dR;have sV:=gZ;have BF:=l9;have HB:=mY;clear dV dU dR gZ l9 mY;clear hg hw hp_;have zM:Tj.cell? ⟨jT,0,none⟩=some (.slice vg y167.length uA):=(ax je.out 0).trans rfl;have zL:Tj.cell? ⟨jT,1,none⟩=some (.string (⟨#[48]⟩:ByteArray)):=(ax je.out 1).trans rfl;have zK:Tj.cell? ⟨jT,2,none⟩=some (.string (⟨#[]⟩:ByteArray)):=(ax je.out 2).trans rfl;have zJ:Tj.cell? ⟨jT,3,none⟩=some (.slice (some ⟨Cc,0,none⟩) iE.length sO):=(ax je.out 3).trans rfl;have zD:=aC je.out 0;have zC:=aC je.out 1;have zB:=aC je.out 2;have zA:=aC je.out 3)|((with_reducible refine bz (f:=12) rfl ?_);refine dS (some 32) rfl rfl Tryd.func12 (by kernel_rfl) rfl #[.agg #[.slice vg y167.length uA,.string (⟨#[48]⟩:ByteArray),.string (⟨#[]⟩:ByteArray),.slice (some ⟨Cc,0,none⟩) Ny.length sO],.int .i64 9] rfl (by (try simp only [List.map_toArray,List.map_cons,List.map_nil]);first|done|(rw [show Ny.length=iE.length from (Kd.dW kV.out).1.symm] <;> rfl)|rfl|(simp only [List.length_drop,List.length_take];rfl)) ?_;(with_reducible refine (fU.calls k _ _ y167 (⟨#[48]⟩:ByteArray) (⟨#[]⟩:ByteArray) _ _ Ny 9 t183 t186 _ ?bZ ?dh ?iW ?iV ?FH A5.out).mono ?_);(case bZ=>repeat (first|exact (Kd.dW mV.out).2.2|(with_reducible refine Kd.bP ?_ _)|(with_reducible refine Kd.bQ ?_ _)|(with_reducible refine Kd.dD ?_)));(case dh=>exact (Kd.dW mV.out).2.1);(case iW=>repeat (first|exact (Kd.dW kV.out).2.2|(with_reducible refine Kd.bP ?_ _)|(with_reducible refine Kd.bQ ?_ _)|(with_reducible refine Kd.dD ?_)));(case iV=>rw [show Ny.length=iE.length from (Kd.dW kV.out).1.symm];exact (Kd.dW kV.out).2.1);(case FH=>repeat (first|exact (Kd.bJ yT.out HB.out)|(with_reducible refine Kd.bP ?_ _)|(with_reducible refine Kd.bQ ?_ _)|(with_reducible refine Kd.dD ?_)));rintro e w26 ⟨aqp,rfl,ho0,hb⟩;refine ⟨_,rfl,?_⟩;have dV:=ae.mk (Kd.kF (by (with_reducible repeat (first|apply Kd.iJ|apply Kd.iI|apply Kd.jk));exact mV.out) hb);have dU:=ae.mk (Kd.kF (by (with_reducible repeat (first|apply Kd.iJ|apply Kd.iI|apply Kd.jk));exact kV.out) hb);have dR:=ae.mk (Kd.BB (by (with_reducible repeat (first|apply Kd.iJ|apply Kd.iI|apply Kd.jk));exact sV.out) (Kd.E8 ho0) hb);have gZ:=ae.mk (Kd.BB (by (with_reducible repeat (first|apply Kd.iJ|apply Kd.iI|apply Kd.jk));exact BF.out) (Kd.E8 ho0) hb);have l9:=ae.mk (Kd.jS (Kd.Je (Kd.Je ho0 (Kd.Jf (by (with_reducible repeat (first|apply Kd.iJ|apply Kd.iI|apply Kd.jk));exact sV.out))) (Kd.Jf (by (with_reducible repeat (first|apply Kd.iJ|apply Kd.iI|apply Kd.jk));exact BF.out))) (bU (by repeat (first|(with_reducible first|exact HB.out|apply ah|apply ag|apply ai|refine aj ?_ yV.out)|exact HB.out))));have mY:=ae.mk (bg (g:=jT) (o:=.cells #[.slice vg y167.length uA,.string (⟨#[48]⟩:ByteArray),.string (⟨#[]⟩:ByteArray),.slice (some ⟨Cc,0,none⟩) iE.length sO] 25 (0,0)) (by (with_reducible repeat (first|refine au ?_ _|refine ay ?_|refine ak ?_ _));exact je.out) hb);have nY:=ae.mk (bn (by repeat (first|(with_reducible first|exact HB.out|apply ah|apply ag|apply ai|refine aj ?_ yV.out)|exact HB.out)) hb);clear mV;clear kV;clear sV;clear BF;clear je;clear HB;have mV:=dV;have kV:=dU;have sV:=dR;have BF:=gZ;have apx:=l9;have je:=mY;have HB:=nY;clear dV dU dR gZ l9 mY nY;(try clear hb);(try clear hb2);(try clear hk);(try clear hi);(try clear ho0);obtain ⟨arv,arb,amU⟩:=Kd.jR sV.out;subst amU;have ZK:0≤(0:Int):=(by omega);have ZC:0 < (t174.length:Int):=of_decide_eq_true (by first|(with_reducible assumption)|assumption);obtain ⟨apk,e187,J4⟩:=Kd.rH (Kd.dW sV.out).2.2 0 ZK ZC;cases e187;have anM:(0 < t174.length)=True:=eq_true (by omega);(try rw [show ((0:Int)).toNat=0 from rfl] at J4);(try rw [Addr.add_zero'] at J4);replace ZK:=eq_true ZK;replace ZC:=eq_true ZC))
       go_ret
       exact ⟨by first|rfl|(simp [aQ,aN] <;> rfl)|(simp [*,aQ,aN] <;> rfl),by repeat (first|(with_reducible first|exact HB.out|apply ah|apply ag|apply ai|refine aj ?_ yV.out)|exact HB.out)⟩
      ·
       exact absurd (aaP DJ.out DI.out A2.out) c10
     ·
      exact absurd (Jb DJ.out DI.out A1.out).2 c9
    ·
     exact absurd (by rw [(Jb DJ.out DI.out A1.out).1];rfl) c8
   ·
    rw [if_neg c7] at H
    exact absurd H (by simp)
  ·
   exact absurd (by rw [(Jb DJ.out DI.out A1.out).1];rfl) c6
 ·
  rw [if_neg c3] at H
  exact absurd H (by simp)
def df.l0:Nat→Int→List ByteArray→Int→Int→List ByteArray→ByteArray→ByteArray→List (iw)→Option (Bool)
 | 0,_,_,_,_,_,_,_,_=>none
 | k+1,x3,x14,x15,x16,SL,SK,SI,Jt=>if x16 < x15 then (if 0≤x16 then (if x16 < (x14.length:Int) then (df.l0 k (wrap64 (x3+(wrap64 (((dY ByteArray.empty x14 x16).size:Int)+1)))) x14 x15 (wrap64 (x16+1)) SL SK SI Jt) else (none)) else (none)) else (if x3≤500 then (some (decide ((Jt.length:Int)≤210))) else (some false))
def df.f (k:Nat) (aZ:List ByteArray) (aU:ByteArray) (aV:ByteArray) (aI:List (iw)):Option (Bool):=df.l0 k (wrap64 ((aU.size:Int)+(aV.size:Int))) aZ (aZ.length:Int) 0 aZ aU aV aI
theorem df.iD:∀ k,(∀ y0 y1 y2 y3 y4 y5 y6 y7,dO (df.l0 k y0 y1 y2 y3 y4 y5 y6 y7) (df.l0 (k+1) y0 y1 y2 y3 y4 y5 y6 y7))
 | 0=>fun _ _ _ _ _ _ _ _ r h=>by simp [df.l0] at h
 | k+1=>by
  have lS:=df.iD k
  ·
   intro y0 y1 y2 y3 y4 y5 y6 y7
   unfold df.l0
   repeat' with_reducible first|apply lS|exact dO.refl _|exact dO.none _|refine dO.ite ?_ ?_|refine dO.bind ?_ (fun _=>?_)
theorem df.mono:∀ a0 a1 a2 a3 k,dO (df.f k a0 a1 a2 a3) (df.f (k+1) a0 a1 a2 a3):=by
 intro a0 a1 a2 a3 k
 have lS:=df.iD k
 unfold df.f
 repeat' with_reducible first|apply lS|exact dO.refl _|exact dO.none _|refine dO.ite ?_ ?_|refine dO.bind ?_ (fun _=>?_)
set_option maxHeartbeats 8000000 in
set_option maxRecDepth 100000 in
theorem df.calls (k:Nat) (ed:Option Addr) (dZ:Nat) (aZ:List ByteArray) (aU:ByteArray) (aV:ByteArray) (gm:Option Addr) (eU:Nat) (aI:List (iw)) (r:Bool) (w:World) (jO:Kd.C Kd.string w ed aZ.length aZ) (jQ:aZ.length≤dZ) (jM:Kd.C uq w gm aI.length aI) (jP:aI.length≤eU) (h:df.f k aZ aU aV aI=some r) :
  Calls Tryd.prog 11 #[.agg #[.slice ed aZ.length dZ,.string aU,.string aV,.slice gm aI.length eU]] w fun e w'=>e=.returned (.bool r)∧Below w.heap.size w w':=by
 have yx:=Tryd.underlying25
 have iH:=ae.mk jO
 have iK:=ae.mk jQ
 clear jO jQ
 have jJ:=ae.mk jM
 have kC:=ae.mk jP
 clear jM jP
 have HB:=ae.mk (Below.refl w.heap.size w)
 have H:(df.l0 k (wrap64 ((aU.size:Int)+(aV.size:Int))) aZ (aZ.length:Int) 0 aZ aU aV aI)=some r:=h
 clear h
 have H':=ae.mk H
 clear H
 go_enter Tryd.func11,Tryd.ntmps11
 go_wp2_with (first|((with_reducible refine bI (N:=1) rfl ?_);(try (refine nN (by rfl) ?_;dsimp only));refine fF ?hg (N:=1) ?hd (cs:=#[.slice ed aZ.length dZ,.string aU,.string aV,.slice gm aI.length eU]) (t:=25) ?hr ?_;(case hd=>rfl);(case hg=>rfl);(case hr=>first|(go_simp;done)|(go_simp;rfl));intro wW hg w2 hbox hb;have dV:=ae.mk (bn (by repeat (first|(with_reducible first|exact HB.out|apply ah|apply ag|apply ai)|exact HB.out)) hb);have dU:=ae.mk (hbox);have dR:=ae.mk ((by rw [hg];exact (bU (by repeat (first|(with_reducible first|exact HB.out|apply ah|apply ag|apply ai)|exact HB.out))):w.heap.size≤wW));have gZ:=dR;clear HB;have HB:=dV;have pI:=dU;have apL:=dR;have Ns:=gZ;clear dV dU dR gZ;clear hb hbox hg;have amA:w2.cell? ⟨wW,0,none⟩=some (.slice ed aZ.length dZ):=(ax pI.out 0).trans rfl;have amz:w2.cell? ⟨wW,1,none⟩=some (.string aU):=(ax pI.out 1).trans rfl;have amy:w2.cell? ⟨wW,2,none⟩=some (.string aV):=(ax pI.out 2).trans rfl;have amx:w2.cell? ⟨wW,3,none⟩=some (.slice gm aI.length eU):=(ax pI.out 3).trans rfl;have amo:=aC pI.out 0;have amn:=aC pI.out 1;have amm:=aC pI.out 2;have aml:=aC pI.out 3))
 go_loopg [3,16] k (fun kq v3 v16 w'=>∃ (kD:Int) (qY:Int),v3=.int .i64 kD∧v16=.int .i64 qY∧ae (df.l0 kq kD aZ (aZ.length:Int) qY aZ aU aV aI=some r)∧ae (kq≤k)∧ae (w'.heap[wW]? = some (.cells #[(.slice ed aZ.length dZ),.string aU,.string aV,(.slice gm aI.length eU)] 25 (0,0)))∧ae (Below w.heap.size w w'))
 case atStart=>exact ⟨(wrap64 ((aU.size:Int)+(aV.size:Int))),(0),(by first|rfl|(simp;done)|(simp [*];done)),(by first|rfl|(simp;done)|(simp [*];done)),H',⟨Nat.le_refl _⟩,⟨by (with_reducible repeat (first|refine au ?_ _|refine ay ?_|refine ak ?_ _));exact pI.out⟩,⟨by repeat (first|(with_reducible first|exact HB.out|apply ah|apply ag|apply ai|refine aj ?_ Ns.out)|exact HB.out)⟩⟩
 case round =>
  clear H'
  obtain ⟨kD,qY,rfl,rfl,HA,qO,pI,HB⟩:=hrel
  cases gk with
  | zero=>exact absurd HA.out (by simp [df.l0])
  | succ k1 =>
   have H:=HA.out
   clear HA
   simp only [df.l0] at H
   by_cases c4:qY < (aZ.length:Int)
   ·
    rw [if_pos c4] at H
    have oq:decide (qY < (aZ.length:Int))=true:=decide_eq_true c4
    clear c4
    by_cases c5:0≤qY
    ·
     rw [if_pos c5] at H
     have rG:decide (0≤qY)=true:=decide_eq_true c5
     clear c5
     by_cases c6:qY < (aZ.length:Int)
     ·
      rw [if_pos c6] at H
      have oH:decide (qY < (aZ.length:Int))=true:=decide_eq_true c6
      clear c6
      have H':=ae.mk H
      clear H
      have ZI:0≤(qY:Int):=of_decide_eq_true (by first|(with_reducible assumption)|assumption)
      have ZA:qY < (aZ.length:Int):=of_decide_eq_true (by first|(with_reducible assumption)|assumption)
      obtain ⟨apj,e189,Ef⟩:=Kd.kN iH.out qY ZI ZA
      cases e189
      replace Ef:=(HB.out.cell (World.block_lt_of_cell? w _ Ef)).trans Ef
      replace ZI:=eq_true ZI
      replace ZA:=eq_true ZA
      go_wp2
      go_roundg k1
      case measure=>have:=qO.out;omega
      case rel=>exact ⟨(wrap64 (kD+(wrap64 (((dY ByteArray.empty aZ qY).size:Int)+1)))),(wrap64 (qY+1)),(by first|rfl|(simp;done)|(simp [*];done)),(by first|rfl|(simp;done)|(simp [*];done)),H',⟨by have:=qO.out;omega⟩,⟨by (with_reducible repeat (first|refine au ?_ _|refine ay ?_|refine ak ?_ _));exact pI.out⟩,⟨by repeat (first|(with_reducible first|exact HB.out|apply ah|apply ag|apply ai|refine aj ?_ Ns.out)|exact HB.out)⟩⟩
     ·
      rw [if_neg c6] at H
      exact absurd H (by simp)
    ·
     rw [if_neg c5] at H
     exact absurd H (by simp)
   ·
    rw [if_neg c4] at H
    have oq:decide (qY < (aZ.length:Int))=false:=decide_eq_false c4
    clear c4
    by_cases c7:kD≤500
    ·
     rw [if_pos c7] at H
     have oM:decide (kD≤500)=true:=decide_eq_true c7
     clear c7
     obtain rfl:=Option.some.inj H
     have Qq:wr.cell? ⟨wW,0,none⟩=some (.slice ed aZ.length dZ):=(ax pI.out 0).trans rfl
     have Qp:wr.cell? ⟨wW,1,none⟩=some (.string aU):=(ax pI.out 1).trans rfl
     have Qo:wr.cell? ⟨wW,2,none⟩=some (.string aV):=(ax pI.out 2).trans rfl
     have Qn:wr.cell? ⟨wW,3,none⟩=some (.slice gm aI.length eU):=(ax pI.out 3).trans rfl
     have Qi:=aC pI.out 0
     have Qh:=aC pI.out 1
     have Qg:=aC pI.out 2
     have Qe:=aC pI.out 3
     go_wp2
     go_ret
     exact ⟨by first|rfl|(simp [aQ,aN] <;> rfl)|(simp [*,aQ,aN] <;> rfl),by repeat (first|(with_reducible first|exact HB.out|apply ah|apply ag|apply ai|refine aj ?_ Ns.out)|exact HB.out)⟩
    ·
     rw [if_neg c7] at H
     have oM:decide (kD≤500)=false:=decide_eq_false c7
     clear c7
     obtain rfl:=Option.some.inj H
     go_wp2
     go_ret
     exact ⟨by first|rfl|(simp [aQ,aN] <;> rfl)|(simp [*,aQ,aN] <;> rfl),by repeat (first|(with_reducible first|exact HB.out|apply ah|apply ag|apply ai|refine aj ?_ Ns.out)|exact HB.out)⟩
def dm.l0:Nat→List Int→List Int→Int→Option (Bool)
 | 0,_,_,_=>none
 | k+1,x0,x1,x5=>if x5 < (x0.length:Int) then (if 0≤x5 then (if x5 < (x1.length:Int) then (if (rd x0 x5)=(rd x1 x5) then (dm.l0 k x0 x1 (wrap64 (x5+1))) else (some false)) else (none)) else (none)) else (some true)
def dm.f (k:Nat) (l0:List Int) (l1:List Int):Option (Bool):=if (l0.length:Int)=(l1.length:Int) then (dm.l0 k l0 l1 0) else (some false)
theorem dm.iD:∀ k,(∀ y0 y1 y2,dO (dm.l0 k y0 y1 y2) (dm.l0 (k+1) y0 y1 y2))
 | 0=>fun _ _ _ r h=>by simp [dm.l0] at h
 | k+1=>by
  have lS:=dm.iD k
  ·
   intro y0 y1 y2
   unfold dm.l0
   repeat' with_reducible first|apply lS|exact dO.refl _|exact dO.none _|refine dO.ite ?_ ?_|refine dO.bind ?_ (fun _=>?_)
theorem dm.mono:∀ a0 a1 k,dO (dm.f k a0 a1) (dm.f (k+1) a0 a1):=by
 intro a0 a1 k
 have lS:=dm.iD k
 unfold dm.f
 repeat' with_reducible first|apply lS|exact dO.refl _|exact dO.none _|refine dO.ite ?_ ?_|refine dO.bind ?_ (fun _=>?_)
set_option maxHeartbeats 8000000 in
set_option maxRecDepth 100000 in
theorem dm.calls (k:Nat) (A0:Option Addr) (c0:Nat) (l0:List Int) (A1:Option Addr) (c1:Nat) (l1:List Int) (r:Bool) (w:World) (hr0:Kd.C (Kd.int .i64) w A0 l0.length l0) (hc0:l0.length≤c0) (hr1:Kd.C (Kd.int .i64) w A1 l1.length l1) (hc1:l1.length≤c1) (h:dm.f k l0 l1=some r) :
  Calls Tryd.prog 13 #[.slice A0 l0.length c0,.slice A1 l1.length c1] w fun e w'=>e=.returned (.bool r)∧aT w w':=by
 have HR0:=ae.mk hr0
 have sZ:=ae.mk hc0
 clear hr0 hc0
 have HR1:=ae.mk hr1
 have HC1:=ae.mk hc1
 clear hr1 hc1
 have H:(if (l0.length:Int)=(l1.length:Int) then (dm.l0 k l0 l1 0) else (some false))=some r:=h
 clear h
 by_cases c3:(l0.length:Int)=(l1.length:Int)
 ·
  rw [if_pos c3] at H
  have ou:((l0.length:Int) == (l1.length:Int))=true:=beq_iff_eq.mpr c3
  have zi:((l0.length:Int) != (l1.length:Int))=false:=bne_eq_false_iff_eq.mpr c3
  have anl:(l0.length == l1.length)=true:=by first|simpa using c3|(simp at c3 ⊢;omega)
  clear c3
  have H':=ae.mk H
  clear H
  go_enter Tryd.func13,Tryd.ntmps13
  go_wp2
  repeat (go_quiet (fail);try go_wp2)
  go_loopg [5] k (fun kq v5 w'=>∃ (jm:Int),v5=.int .i64 jm∧ae (dm.l0 kq l0 l1 jm=some r)∧ae (kq≤k)∧aT w w')
  case atStart=>exact ⟨(0),(by first|rfl|(simp;done)|(simp [*];done)),H',⟨Nat.le_refl _⟩,by repeat (first|exact aT.refl _|apply aT.step)⟩
  case round =>
   clear H'
   obtain ⟨jm,rfl,HA,qO,⟨m1,rfl⟩⟩:=hrel
   cases gk with
   | zero=>exact absurd HA.out (by simp [dm.l0])
   | succ k1 =>
    have H:=HA.out
    clear HA
    simp only [dm.l0] at H
    by_cases c4:jm < (l0.length:Int)
    ·
     rw [if_pos c4] at H
     have oq:decide (jm < (l0.length:Int))=true:=decide_eq_true c4
     clear c4
     by_cases c5:0≤jm
     ·
      rw [if_pos c5] at H
      have rG:decide (0≤jm)=true:=decide_eq_true c5
      clear c5
      by_cases c6:jm < (l1.length:Int)
      ·
       rw [if_pos c6] at H
       have oH:decide (jm < (l1.length:Int))=true:=decide_eq_true c6
       clear c6
       by_cases c7:(rd l0 jm)=(rd l1 jm)
       ·
        rw [if_pos c7] at H
        have oM:((rd l0 jm) == (rd l1 jm))=true:=beq_iff_eq.mpr c7
        have xR:((rd l0 jm) != (rd l1 jm))=false:=bne_eq_false_iff_eq.mpr c7
        clear c7
        have H':=ae.mk H
        clear H
        have Iq:0≤(jm:Int):=of_decide_eq_true (by first|(with_reducible assumption)|assumption)
        have Ib:jm < (l0.length:Int):=of_decide_eq_true (by first|(with_reducible assumption)|assumption)
        obtain ⟨aeG,e190,Ud⟩:=Kd.rH HR0.out jm Iq Ib
        cases e190
        replace Iq:=eq_true Iq
        replace Ib:=eq_true Ib
        have Ip:0≤(jm:Int):=of_decide_eq_true (by first|(with_reducible assumption)|assumption)
        have Ia:jm < (l1.length:Int):=of_decide_eq_true (by first|(with_reducible assumption)|assumption)
        obtain ⟨aeF,aar,Uc⟩:=Kd.rH HR1.out jm Ip Ia
        cases aar
        replace Ip:=eq_true Ip
        replace Ia:=eq_true Ia
        go_wp2
        repeat (go_quiet (fail);try go_wp2)
        go_roundg k1
        case measure=>have:=qO.out;omega
        case rel=>exact ⟨(wrap64 (jm+1)),(by first|rfl|(simp;done)|(simp [*];done)),H',⟨by have:=qO.out;omega⟩,by repeat (first|exact aT.refl _|apply aT.step)⟩
       ·
        rw [if_neg c7] at H
        have oM:((rd l0 jm) == (rd l1 jm))=false:=beq_eq_false_iff_ne.mpr c7
        have xR:((rd l0 jm) != (rd l1 jm))=true:=bne_iff_ne.mpr c7
        obtain rfl:=Option.some.inj H
        have Iq:0≤(jm:Int):=of_decide_eq_true (by first|(with_reducible assumption)|assumption)
        have Ib:jm < (l0.length:Int):=of_decide_eq_true (by first|(with_reducible assumption)|assumption)
        obtain ⟨aeG,e190,Ud⟩:=Kd.rH HR0.out jm Iq Ib
        cases e190
        replace Iq:=eq_true Iq
        replace Ib:=eq_true Ib
        have Ip:0≤(jm:Int):=of_decide_eq_true (by first|(with_reducible assumption)|assumption)
        have Ia:jm < (l1.length:Int):=of_decide_eq_true (by first|(with_reducible assumption)|assumption)
        obtain ⟨aeF,aar,Uc⟩:=Kd.rH HR1.out jm Ip Ia
        cases aar
        replace Ip:=eq_true Ip
        replace Ia:=eq_true Ia
        go_wp2
        repeat (go_quiet (fail);try go_wp2)
        go_ret
        exact ⟨by first|rfl|(simp;done)|(simp [*];done),by repeat (first|exact aT.refl _|apply aT.step)⟩
      ·
       rw [if_neg c6] at H
       exact absurd H (by simp)
     ·
      rw [if_neg c5] at H
      exact absurd H (by simp)
    ·
     rw [if_neg c4] at H
     have oq:decide (jm < (l0.length:Int))=false:=decide_eq_false c4
     clear c4
     obtain rfl:=Option.some.inj H
     go_wp2
     repeat (go_quiet (fail);try go_wp2)
     go_ret
     exact ⟨by first|rfl|(simp;done)|(simp [*];done),by repeat (first|exact aT.refl _|apply aT.step)⟩
 ·
  rw [if_neg c3] at H
  have ou:((l0.length:Int) == (l1.length:Int))=false:=beq_eq_false_iff_ne.mpr c3
  have zi:((l0.length:Int) != (l1.length:Int))=true:=bne_iff_ne.mpr c3
  have anl:(l0.length == l1.length)=false:=by first|simpa using c3|(simp at c3 ⊢;omega)
  obtain rfl:=Option.some.inj H
  go_enter Tryd.func13,Tryd.ntmps13
  go_wp2
  repeat (go_quiet (fail);try go_wp2)
  go_ret
  exact ⟨by first|rfl|(simp;done)|(simp [*];done),by repeat (first|exact aT.refl _|apply aT.step)⟩
end Go.Proofs.YtlemecdddhdagaaDoor.P
end
section
namespace Go.Proofs.YtlemecdddhdagaaDoor.P
open Go.RowKit Go.Proofs.af.bD Go.Proofs.af.dB Go.Proofs.af.dM
theorem XZ:Ev (fun k=>gW.f k) true:=Ev.of (k:=40) gW.mono (by kernel_rfl)
theorem adC (t:List ByteArray) (lo gl:ByteArray) (code:List iw) (ht:t.length≤9223372036854775807):∃ b,Ev (fun k=>df.f k t lo gl code) b:=by
  have:∀ d i x3,i+d=t.length→∃ b,Ev (fun k=>df.l0 k x3 t t.length (i:Nat) t lo gl code) b:=by
    intro d
    induction d with
    | zero =>
      intro i x3 hi
      by_cases h:x3≤500
      · refine ⟨_,Ev.step (f:=fun _=>some (decide ((code.length:Int)≤210))) (fun k=>?_) (Ev.now _)⟩
        simp only [df.l0]
        rw [if_neg (by omega),if_pos h]
      · refine ⟨_,Ev.step (f:=fun _=>some false) (fun k=>?_) (Ev.now _)⟩
        simp only [df.l0]
        rw [if_neg (by omega),if_neg h]
    | succ d ih =>
      intro i x3 hi
      obtain ⟨b,hb⟩:=ih (i+1) (wrap64 (x3+(wrap64 (((dY ByteArray.empty t i).size:Int)+1)))) (by omega)
      refine ⟨b,Ev.step (fun k=>?_) hb⟩
      simp only [df.l0]
      rw [if_pos (by omega),if_pos (by omega),if_pos (by omega),wrapN (i:=i) (n:=t.length) (by omega) ht]
  exact this t.length 0 _ (by omega)
theorem Ai {t:List ByteArray} (h:jW t=true) (i:Nat) (hi:i < t.length):1≤jy t i∧jy t i≤6:=by
  have h':=h
  unfold jW at h'
  simp only [Bool.and_eq_true,decide_eq_true_eq] at h'
  have h2:=oI.1 h'.1 i hi
  unfold uz at h2
  simp only [Bool.and_eq_true,decide_eq_true_eq] at h2
  unfold jy OU
  rw [h,if_pos (by simp;omega)]
  omega
theorem FD {t:List ByteArray} (h:jW t=true) (i:Nat):jy t i≤6:=by
  by_cases hi:i < t.length
  · exact (Ai h i hi).2
  · unfold jy OU
    rw [if_neg (by simp;omega)]
    decide
theorem Gp {t:List ByteArray} {lo gl:ByteArray} (h:headB t lo gl=true):jW t=true∧(∀ j,j < lo.size→0≤lu (bt lo j) t.length)∧(∀ j,j < gl.size→0≤lu (bt gl j) t.length)∧lo.size≤8∧gl.size≤4:=by
  unfold headB ry at h
  simp only [Bool.and_eq_true,decide_eq_true_eq] at h
  obtain ⟨⟨h1,h2⟩,h3,h4⟩:=h
  have hj:∀ j,j < (lo++gl).size→0≤lu (bt (lo++gl) j) t.length:=fun j hj=>of_decide_eq_true (oI.1 h1 j hj)
  have sz:(lo++gl).size=lo.size+gl.size:=by simp
  refine ⟨h2,fun j h=>?_,fun j h=>?_,h3,h4⟩
  · have:=hj j (by omega)
    rw [show bt (lo++gl) (j:Int)=bt lo j from ?_] at this
    · exact this
    · unfold bt
      rw [dif_pos (by rw [Int.toNat_natCast];omega),dif_pos (by rw [Int.toNat_natCast];omega)]
      congr 2
      exact ByteArray.getElem_append_left _
  · have:=hj (lo.size+j) (by omega)
    rw [show bt (lo++gl) ((lo.size+j:Nat):Int)=bt gl j from ?_] at this
    · exact this
    · unfold bt
      rw [dif_pos (by rw [Int.toNat_natCast];omega),dif_pos (by rw [Int.toNat_natCast];omega)]
      congr 2
      have:(lo++gl)[lo.size+j]'(by omega)=gl[lo.size+j - lo.size]'(by omega):=ByteArray.getElem_append_right (by omega)
      show (lo++gl)[lo.size+j]'(by omega)=gl[j]'(by omega)
      rw [this]
      congr 1
      omega
theorem getD_take (l:List iw) (m i:Nat):(l.take m).getD i z55=if i < m then l.getD i z55 else z55:=by
  rw [List.getD_eq_getElem?_getD,List.getD_eq_getElem?_getD,List.getElem?_take]
  split <;> rfl
theorem Tf (i:Nat):(0≤(([]:List iw).getD i z55).f1∧(([]:List iw).getD i z55).f1≤255)∧(0≤(([]:List iw).getD i z55).f2∧(([]:List iw).getD i z55).f2≤255)∧(0≤(([]:List iw).getD i z55).f3∧(([]:List iw).getD i z55).f3≤255):=by
  show (0≤z55.f1∧z55.f1≤255)∧(0≤z55.f2∧z55.f2≤255)∧(0≤z55.f3∧z55.f3≤255)
  decide
theorem Wf.take {code:List iw} (h:Wf code) (m:Nat):Wf (code.take m):=fun i=>by
  rw [getD_take]
  split
  · exact h i
  · exact Tf 0
end Go.Proofs.YtlemecdddhdagaaDoor.P
end
section
namespace Go.Proofs.YtlemecdddhdagaaDoor.P
open Go.RowKit Go.Proofs.af.bD Go.Proofs.af.dB Go.Proofs.af.dM
structure Fine (t:List ByteArray) (lo gl:ByteArray) (n:Nat) (x:iw):Prop where
  op:1≤x.f0∧x.f0≤15
  jump:x.f0=3 ∨ x.f0=4→0≤x.f4∧x.f4≤n
  one:x.f0=1 ∨ x.f0=4 ∨ x.f0=14→x.f1 < 8
  add:x.f0=2→x.f1 < 8∧x.f2 < 8∧x.f3 < 8
  new:x.f0=5 ∨ x.f0=6→0≤dw t lo x.f1
  move:x.f0=7→0≤dw t lo x.f1∧dw t lo x.f1=dw t lo x.f2
  ab4:x.f0=8→x.f1 < 8∧0≤dw t lo x.f2∧0≤x.f4∧x.f4 < jy t (dw t lo x.f2)
  Zu:x.f0=9→x.f2 < 8∧0≤dw t lo x.f1∧0≤x.f4∧x.f4 < jy t (dw t lo x.f1)∧Fh t (dw t lo x.f1) x.f4 < 0
  ab3:x.f0=10→0≤dw t lo x.f1∧0≤dw t lo x.f2∧0≤x.f4∧x.f4 < jy t (dw t lo x.f2)∧dw t lo x.f1=Fh t (dw t lo x.f2) x.f4
  Zt:x.f0=11→0≤dw t lo x.f2∧0≤dw t lo x.f1∧0≤x.f4∧x.f4 < jy t (dw t lo x.f1)∧dw t lo x.f2=Fh t (dw t lo x.f1) x.f4
  ab5:x.f0=12→0≤dw t lo x.f1∧dw t lo x.f1=dw t gl x.f2
  Zv:x.f0=13→0≤dw t lo x.f2∧dw t lo x.f2=dw t gl x.f1
  same:x.f0=15→x.f1 < 8∧0≤dw t lo x.f2∧dw t lo x.f2=dw t lo x.f3
theorem sD {a b:Int}:pJ a b=true ↔ 0≤a∧a=b:=by simp [pJ]
theorem J3 {a:Int}:oU [a]=true ↔ a < 8:=by
  unfold oU
  rw [oI]
  refine ⟨fun h=>of_decide_eq_true (h 0 (by simp)),fun h j hj=>?_⟩
  obtain rfl:j=0:=by simp at hj;omega
  exact decide_eq_true h
theorem ab9 {a b c:Int}:oU [a,b,c]=true ↔ a < 8∧b < 8∧c < 8:=by
  unfold oU
  rw [oI]
  refine ⟨fun h=>⟨of_decide_eq_true (h 0 (by simp)),of_decide_eq_true (h 1 (by simp)),of_decide_eq_true (h 2 (by simp))⟩,fun h j hj=>?_⟩
  obtain rfl|rfl|rfl:j=0 ∨ j=1 ∨ j=2:=by simp at hj;omega
  · exact decide_eq_true h.1
  · exact decide_eq_true h.2.1
  · exact decide_eq_true h.2.2
theorem yB {t:List ByteArray} {a n:Int} (h:(nO t a n).2=true ∨ 0≤(nO t a n).1):0≤a∧0≤n∧n < jy t a∧(nO t a n).1=Fh t a n:=by
  unfold nO at h ⊢
  split
  · rename_i hc
    exact ⟨hc.1,hc.2.1,hc.2.2,rfl⟩
  · rename_i hc
    rw [if_neg hc] at h
    simp at h
theorem XO {t:List ByteArray} {lo gl:ByteArray} {n:Nat} {x:iw} (h:oN t lo gl n x=none):Fine t lo gl n x:=by
  unfold oN at h
  split at h
  case isFalse=>cases h
  rename_i h1
  split at h
  case isTrue=>cases h
  rename_i h2
  split at h
  case isFalse=>cases h
  rename_i h3
  unfold ru at h1
  split at h1
  case isTrue=>cases h1
  rename_i q1
  split at h1
  case isTrue=>cases h1
  rename_i q2
  clear h h1
  have hk:nZ t lo gl x.f0 x.f1 x.f2 x.f3 x.f4=true:=h3
  have hn:∀ {a m:Int},ql t a m=true→0≤a∧0≤m∧m < jy t a∧Fh t a m < 0:=fun {a m} hh=>by
    simp only [ql,Bool.and_eq_true,decide_eq_true_eq] at hh
    obtain ⟨y1,y2,y3,y4⟩:=yB (.inl hh.1)
    exact ⟨y1,y2,y3,y4 ▸ hh.2⟩
  refine ⟨⟨by omega,by omega⟩,fun hj=>?_,fun hj=>?_,fun hj=>?_,fun hj=>?_,fun hj=>?_,fun hj=>?_,fun hj=>?_,fun hj=>?_,fun hj=>?_,fun hj=>?_,fun hj=>?_,fun hj=>?_⟩
  · rcases hj with hj|hj <;> simp [rD,hj] at h2 <;> omega
  · rcases hj with hj|hj|hj <;> simp [nZ,lT,hj] at hk <;> exact J3.1 hk
  · simp [nZ,lT,hj] at hk
    exact ab9.1 hk
  · rcases hj with hj|hj <;> simp [nZ,lT,nT,hj] at hk <;> exact hk
  · simp [nZ,lT,nT,qm,hj] at hk
    exact sD.1 hk
  · simp [nZ,lT,nT,qm,hj] at hk
    obtain ⟨y1,y2,y3,_⟩:=hn hk.2
    exact ⟨J3.1 hk.1,y1,y2,y3⟩
  · simp [nZ,lT,nT,qm,hj] at hk
    exact ⟨J3.1 hk.1,hn hk.2⟩
  · simp [nZ,lT,nT,qm,hj] at hk
    obtain ⟨y0,y⟩:=sD.1 hk
    obtain ⟨z1,z2,z3,z4⟩:=yB (.inr (y ▸ y0))
    exact ⟨y0,z1,z2,z3,y.trans z4⟩
  · simp [nZ,lT,nT,qm,hj] at hk
    obtain ⟨y0,y⟩:=sD.1 hk
    obtain ⟨z1,z2,z3,z4⟩:=yB (.inr (y ▸ y0))
    exact ⟨y0,z1,z2,z3,y.trans z4⟩
  · simp [nZ,lT,nT,qm,hj] at hk
    exact sD.1 hk
  · simp [nZ,lT,nT,qm,hj] at hk
    exact sD.1 hk
  · simp [nZ,lT,nT,qm,hj] at hk
    exact ⟨J3.1 hk.1,sD.1 hk.2⟩
def Fa (ty:List Int) (v τ:Int):Prop:=v=0 ∨ (1≤v∧v≤ty.length∧ty.getD (v - 1).toNat (-1)=τ)
theorem Fa.more {ty:List Int} {v τ σ:Int} (h:Fa ty v τ):Fa (ty++[σ]) v τ:=by
  rcases h with h|⟨h1,h2,h3⟩
  · exact .inl h
  · refine .inr ⟨h1,by simp;omega,?_⟩
    rw [List.getD_eq_getElem?_getD,List.getElem?_append_left (by omega),← List.getD_eq_getElem?_getD]
    exact h3
structure Inv (t:List ByteArray) (lo gl:ByteArray) (n:Nat) (s:St) (ty:List Int):Prop where
  len:ty.length=s.aW.length
  size:∀ j:Nat,j < ty.length→((s.aW.getD j []).length:Int)=jy t (ty.getD j (-1))
  obj:∀ j f:Nat,j < ty.length→0≤Fh t (ty.getD j (-1)) f→Fa ty (rd (s.aW.getD j []) f) (Fh t (ty.getD j (-1)) f)
  p:∀ a:Nat,0≤dw t lo a→Fa ty (s.p a) (dw t lo a)
  g:∀ a:Nat,0≤dw t gl a→Fa ty (s.g a) (dw t gl a)
  few:s.aW.length≤n∧s.out.length≤n
section
variable {t:List ByteArray} {lo gl:ByteArray} {n:Nat} {s:St} {ty:List Int}
theorem inv0:Inv t lo gl 0 zV [] :=
  ⟨rfl,fun j hj=>absurd hj (by simp),fun j f hj=>absurd hj (by simp),fun _ _=>.inl rfl,fun _ _=>.inl rfl,Nat.le_refl _,Nat.le_refl _⟩
theorem Inv.as {s':St} (h:Inv t lo gl n s ty) (e1:s'.aW=s.aW) (e2:s'.p=s.p) (e3:s'.g=s.g) (e4:s'.out.length≤n+1):Inv t lo gl (n+1) s' ty:=by
  refine ⟨by rw [e1];exact h.len,by rw [e1];exact h.size,by rw [e1];exact h.obj,by rw [e2];exact h.p,by rw [e3];exact h.g,by rw [e1];have:=h.few.1;omega,e4⟩
theorem Inv.TA {s':St} (h:Inv t lo gl n s ty) (a:Nat) (v:Int) (e1:s'.aW=s.aW) (e2:s'.p=upd s.p a v) (e3:s'.g=s.g) (e4:s'.out=s.out) (hv:Fa ty v (dw t lo a)):Inv t lo gl (n+1) s' ty:=by
  refine ⟨by rw [e1];exact h.len,by rw [e1];exact h.size,by rw [e1];exact h.obj,fun b hb=>?_,by rw [e3];exact h.g,by rw [e1];have:=h.few.1;omega,by rw [e4];have:=h.few.2;omega⟩
  rw [e2]
  unfold upd
  split
  · rename_i hba
    rw [hba]
    exact hv
  · exact h.p b hb
theorem Inv.alV {s':St} (h:Inv t lo gl n s ty) (a:Nat) (v:Int) (e1:s'.aW=s.aW) (e2:s'.p=s.p) (e3:s'.g=upd s.g a v) (e4:s'.out=s.out) (hv:Fa ty v (dw t gl a)):Inv t lo gl (n+1) s' ty:=by
  refine ⟨by rw [e1];exact h.len,by rw [e1];exact h.size,by rw [e1];exact h.obj,by rw [e2];exact h.p,fun b hb=>?_,by rw [e1];have:=h.few.1;omega,by rw [e4];have:=h.few.2;omega⟩
  rw [e3]
  unfold upd
  split
  · rename_i hba
    rw [hba]
    exact hv
  · exact h.g b hb
theorem Inv.abM {s':St} (h:Inv t lo gl n s ty) (o:Nat) (m:Nat) (v:Int) (ho:o < ty.length) (hm:(m:Int) < jy t (ty.getD o (-1))) (e1:s'.aW=s.aW.set o ((s.aW.getD o []).set m v)) (e2:s'.p=s.p) (e3:s'.g=s.g) (e4:s'.out=s.out)
    (hv:0≤Fh t (ty.getD o (-1)) m→Fa ty v (Fh t (ty.getD o (-1)) m)):Inv t lo gl (n+1) s' ty:=by
  have hlen:=h.len
  have hrow:∀ j,s'.aW.getD j []=if j=o then (s.aW.getD o []).set m v else s.aW.getD j []:=fun j=>by
    rw [e1,List.getD_eq_getElem?_getD,List.getElem?_set]
    split
    · rename_i hoj
      rw [if_pos hoj.symm,if_pos (by omega)]
      rfl
    · rename_i hoj
      rw [if_neg (fun he=>hoj he.symm),← List.getD_eq_getElem?_getD]
  refine ⟨by rw [e1,List.length_set];exact h.len,fun j hj=>?_,fun j f hj hf=>?_,by rw [e2];exact h.p,by rw [e3];exact h.g,by rw [e1,List.length_set];have:=h.few.1;omega,by rw [e4];have:=h.few.2;omega⟩
  · rw [hrow]
    split
    · rename_i hjo
      rw [List.length_set,hjo]
      exact h.size o ho
    · exact h.size j hj
  · rw [hrow]
    split
    · rename_i hjo
      rw [hjo] at hf ⊢
      have hs:=h.size o ho
      unfold rd
      rw [Int.toNat_natCast,List.getD_eq_getElem?_getD,List.getElem?_set]
      split
      · rename_i hmf
        rw [← hmf] at hf ⊢
        rw [if_pos (by omega)]
        exact hv hf
      · have:=h.obj o f ho hf
        unfold rd at this
        rw [Int.toNat_natCast,List.getD_eq_getElem?_getD] at this
        exact this
    · exact h.obj j f hj hf
theorem Inv.new {s':St} (h:Inv t lo gl n s ty) (a:Nat) (τ:Int) (hτ:dw t lo a=τ) (e1:s'.aW=s.aW++[List.replicate (jy t τ).toNat 0]) (hz:0≤jy t τ) (e2:s'.p=upd s.p a ((s.aW.length:Int)+1)) (e3:s'.g=s.g) (e4:s'.out=s.out):Inv t lo gl (n+1) s' (ty++[τ]):=by
  have hlen:=h.len
  have hl:(ty++[τ]).length=ty.length+1:=by simp
  have hty:∀ j,j < ty.length→(ty++[τ]).getD j (-1)=ty.getD j (-1):=fun j hj=>by
    rw [List.getD_eq_getElem?_getD,List.getElem?_append_left hj,← List.getD_eq_getElem?_getD]
  have acd:(ty++[τ]).getD ty.length (-1)=τ:=by
    rw [List.getD_eq_getElem?_getD,List.getElem?_append_right (Nat.le_refl _)]
    simp
  have hob:∀ j,j < ty.length→s'.aW.getD j []=s.aW.getD j []:=fun j hj=>by
    rw [e1,List.getD_eq_getElem?_getD,List.getElem?_append_left (by omega),← List.getD_eq_getElem?_getD]
  have acg:s'.aW.getD ty.length []=List.replicate (jy t τ).toNat 0:=by
    rw [e1,hlen,List.getD_eq_getElem?_getD,List.getElem?_append_right (Nat.le_refl _)]
    simp
  have hr0:∀ (m:Nat) (i:Int),rd (List.replicate m (0:Int)) i=0:=fun m i=>by
    unfold rd
    rw [List.getD_eq_getElem?_getD,List.getElem?_replicate]
    split <;> rfl
  refine ⟨by rw [e1];simp [hlen],fun j hj=>?_,fun j f hj hf=>?_,fun b hb=>?_,fun b hb=>?_,by rw [e1];have:=h.few.1;simp;omega,by rw [e4];have:=h.few.2;omega⟩
  · by_cases hj2:j < ty.length
    · rw [hty j hj2,hob j hj2]
      exact h.size j hj2
    · obtain rfl:j=ty.length:=by omega
      rw [acd,acg,List.length_replicate]
      omega
  · by_cases hj2:j < ty.length
    · rw [hty j hj2] at hf ⊢
      rw [hob j hj2]
      exact (h.obj j f hj2 hf).more
    · obtain rfl:j=ty.length:=by omega
      rw [acg,hr0]
      exact .inl rfl
  · rw [e2]
    unfold upd
    split
    · rename_i hba
      rw [hba,hτ]
      refine .inr ⟨by omega,by rw [hl,hlen];omega,?_⟩
      rw [show ((s.aW.length:Int)+1 - 1).toNat=ty.length by rw [hlen];omega]
      exact acd
    · exact (h.p b hb).more
  · rw [e3]
    exact (h.g b hb).more
end
end Go.Proofs.YtlemecdddhdagaaDoor.P
end
