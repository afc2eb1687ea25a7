/- Parts of the proof of ModelSteps: what the functions that it reaches compute, and plain facts about that. -/
import Derived.Test.YtlemecdddhdagaaDoorZab
import Derived.Test.YtlemecdddhdagaaDoorZag
import Derived.Test.YtlemecdddhdagaaDoorZaj
import Derived.Test.YtlemecdddhdagaaDoorZah
set_option linter.unusedVariables false
set_option linter.unusedSimpArgs false
section
namespace Go.Proofs.YtlemecdddhdagaaDoor.P
open Go.RowKit Go.Proofs.af.bF Go.Proofs.af.dD Go.Proofs.af.dN
attribute [local go_sem] lF lC mP mO kE kD lD lu
def gJ.f (k:Nat) :Option (Bool):=(some (([(⟨#[105]⟩:ByteArray)]:List ByteArray):List ByteArray)).bind fun y167=>((some (([(⟨1,0,0,0,5⟩:iD),(⟨5,0,0,0,0⟩:iD),(⟨9,0,0,0,0⟩:iD),(⟨8,1,0,0,0⟩:iD),(⟨14,1,0,0,0⟩:iD)]:List (iD)):List (iD))).bind fun iG=>((gW.f k y167 (⟨#[48]⟩:ByteArray) (⟨#[]⟩:ByteArray) iG 5).bind fun pJ=>((gW.f k y167 (⟨#[48]⟩:ByteArray) (⟨#[]⟩:ByteArray) iG 4).bind fun yA=>(if 1 < (iG.length:Int) then ((gW.f k y167 (⟨#[48]⟩:ByteArray) (⟨#[]⟩:ByteArray) (iG.set (1:Int).toNat (⟨6,(aA iG 1).f1,(aA iG 1).f2,(aA iG 1).f3,(aA iG 1).f4⟩:iD)) 9).bind fun tH=>(if (pJ.1.length:Int)=1 then (if 0 < (pJ.1.length:Int) then (if (rd pJ.1 0)=5 then (if pJ.2=0 then (if yA.2=10 then (some (tH.2 == 9)) else (some false)) else (some false)) else (some false)) else (none)) else (some false))) else (none)))))
theorem Rn {α:Type} {g:Nat→Option α} {a b:α} (hg:∀ k,dP (g k) (g (k+1))) {k k':Nat} (h:g k=some a) (h':g k'=some b):a=b:=by
 obtain ⟨K,hK⟩:=Ev.of hg h
 obtain ⟨K',hK'⟩:=Ev.of hg h'
 exact Option.some.inj ((hK (max K K') (Nat.le_max_left _ _)).symm.trans (hK' _ (Nat.le_max_right _ _)))
theorem Jq {k:Nat} {a:List Int} {e:Int} {y:List ByteArray} {z:List (iD)} (hy:y=([(⟨#[105]⟩:ByteArray)]:List ByteArray)) (hz:z=([(⟨1,0,0,0,5⟩:iD),(⟨5,0,0,0,0⟩:iD),(⟨9,0,0,0,0⟩:iD),(⟨8,1,0,0,0⟩:iD),(⟨14,1,0,0,0⟩:iD)]:List (iD))) (h:gW.f k y (⟨#[48]⟩:ByteArray) (⟨#[]⟩:ByteArray) z 5=some (a,e)):a=[5]∧e=0:=by
 subst hy hz
 have F:gW.f 40 ([(⟨#[105]⟩:ByteArray)]:List ByteArray) (⟨#[48]⟩:ByteArray) (⟨#[]⟩:ByteArray) ([(⟨1,0,0,0,5⟩:iD),(⟨5,0,0,0,0⟩:iD),(⟨9,0,0,0,0⟩:iD),(⟨8,1,0,0,0⟩:iD),(⟨14,1,0,0,0⟩:iD)]:List (iD)) 5=some ([5],0):=by kernel_rfl
 have:=Rn (fun q=>gW.mono _ _ _ _ _ q) h F
 exact ⟨congrArg Prod.fst this,congrArg Prod.snd this⟩
theorem abK {k:Nat} {a:List Int} {e:Int} {y:List ByteArray} {z:List (iD)} (hy:y=([(⟨#[105]⟩:ByteArray)]:List ByteArray)) (hz:z=([(⟨1,0,0,0,5⟩:iD),(⟨5,0,0,0,0⟩:iD),(⟨9,0,0,0,0⟩:iD),(⟨8,1,0,0,0⟩:iD),(⟨14,1,0,0,0⟩:iD)]:List (iD))) (h:gW.f k y (⟨#[48]⟩:ByteArray) (⟨#[]⟩:ByteArray) z 4=some (a,e)):e=10:=by
 subst hy hz
 have F:gW.f 40 ([(⟨#[105]⟩:ByteArray)]:List ByteArray) (⟨#[48]⟩:ByteArray) (⟨#[]⟩:ByteArray) ([(⟨1,0,0,0,5⟩:iD),(⟨5,0,0,0,0⟩:iD),(⟨9,0,0,0,0⟩:iD),(⟨8,1,0,0,0⟩:iD),(⟨14,1,0,0,0⟩:iD)]:List (iD)) 4=some ([],10):=by kernel_rfl
 exact congrArg Prod.snd (Rn (fun q=>gW.mono _ _ _ _ _ q) h F)
theorem gJ.mono:∀ k,dP (gJ.f k ) (gJ.f (k+1) ):=by
 intro  k
 unfold gJ.f
 repeat' with_reducible first|apply gW.mono|exact dP.refl _|exact dP.none _|refine dP.ite ?_ ?_|refine dP.bind ?_ (fun _=>?_)
set_option maxHeartbeats 8000000 in
set_option maxRecDepth 100000 in
theorem gJ.calls (k:Nat)  (r:Bool) (w:World) (lM:Kd.C Kd.string w rf kQ.length kQ) (h:gJ.f k =some r) :
  Calls Tryd.prog 10 #[] w fun e w'=>e=.returned (.bool r)∧Below w.heap.size w w':=by
 have CW:=Tryd.underlying55
 have yP:=Tryd.underlying25
 have yH:=ae.mk lM
 clear lM
 have HB:=ae.mk (Below.refl w.heap.size w)
 have H:((some (([(⟨#[105]⟩:ByteArray)]:List ByteArray):List ByteArray)).bind fun y167=>((some (([(⟨1,0,0,0,5⟩:iD),(⟨5,0,0,0,0⟩:iD),(⟨9,0,0,0,0⟩:iD),(⟨8,1,0,0,0⟩:iD),(⟨14,1,0,0,0⟩:iD)]:List (iD)):List (iD))).bind fun iG=>((gW.f k y167 (⟨#[48]⟩:ByteArray) (⟨#[]⟩:ByteArray) iG 5).bind fun pJ=>((gW.f k y167 (⟨#[48]⟩:ByteArray) (⟨#[]⟩:ByteArray) iG 4).bind fun yA=>(if 1 < (iG.length:Int) then ((gW.f k y167 (⟨#[48]⟩:ByteArray) (⟨#[]⟩:ByteArray) (iG.set (1:Int).toNat (⟨6,(aA iG 1).f1,(aA iG 1).f2,(aA iG 1).f3,(aA iG 1).f4⟩:iD)) 9).bind fun tH=>(if (pJ.1.length:Int)=1 then (if 0 < (pJ.1.length:Int) then (if (rd pJ.1 0)=5 then (if pJ.2=0 then (if yA.2=10 then (some (tH.2 == 9)) else (some false)) else (some false)) else (some false)) else (none)) else (some false))) else (none))))))=some r:=h
 clear h
 obtain ⟨y167,hy167⟩:∃ y_:List ByteArray,y_=(([(⟨#[105]⟩:ByteArray)]:List ByteArray)):=⟨_,rfl⟩
 replace H:((some (([(⟨1,0,0,0,5⟩:iD),(⟨5,0,0,0,0⟩:iD),(⟨9,0,0,0,0⟩:iD),(⟨8,1,0,0,0⟩:iD),(⟨14,1,0,0,0⟩:iD)]:List (iD)):List (iD))).bind fun iG=>((gW.f k y167 (⟨#[48]⟩:ByteArray) (⟨#[]⟩:ByteArray) iG 5).bind fun pJ=>((gW.f k y167 (⟨#[48]⟩:ByteArray) (⟨#[]⟩:ByteArray) iG 4).bind fun yA=>(if 1 < (iG.length:Int) then ((gW.f k y167 (⟨#[48]⟩:ByteArray) (⟨#[]⟩:ByteArray) (iG.set (1:Int).toNat (⟨6,(aA iG 1).f1,(aA iG 1).f2,(aA iG 1).f3,(aA iG 1).f4⟩:iD)) 9).bind fun tH=>(if (pJ.1.length:Int)=1 then (if 0 < (pJ.1.length:Int) then (if (rd pJ.1 0)=5 then (if pJ.2=0 then (if yA.2=10 then (some (tH.2 == 9)) else (some false)) else (some false)) else (some false)) else (none)) else (some false))) else (none)))))=some r:=by first|(rw [hy167];with_reducible exact H)|(have uB:=(Option.bind_some _ _).symm.trans H;rw [hy167];with_reducible exact uB)|(have uB:=(Option.bind_some _ _).symm.trans H;with_reducible exact uB)|with_reducible exact H|(rw [hy167];exact H)|exact H
 have Ec:=ae.mk hy167
 clear hy167
 obtain ⟨iG,Gw⟩:∃ y_:List (iD),y_=(([(⟨1,0,0,0,5⟩:iD),(⟨5,0,0,0,0⟩:iD),(⟨9,0,0,0,0⟩:iD),(⟨8,1,0,0,0⟩:iD),(⟨14,1,0,0,0⟩:iD)]:List (iD))):=⟨_,rfl⟩
 replace H:((gW.f k y167 (⟨#[48]⟩:ByteArray) (⟨#[]⟩:ByteArray) iG 5).bind fun pJ=>((gW.f k y167 (⟨#[48]⟩:ByteArray) (⟨#[]⟩:ByteArray) iG 4).bind fun yA=>(if 1 < (iG.length:Int) then ((gW.f k y167 (⟨#[48]⟩:ByteArray) (⟨#[]⟩:ByteArray) (iG.set (1:Int).toNat (⟨6,(aA iG 1).f1,(aA iG 1).f2,(aA iG 1).f3,(aA iG 1).f4⟩:iD)) 9).bind fun tH=>(if (pJ.1.length:Int)=1 then (if 0 < (pJ.1.length:Int) then (if (rd pJ.1 0)=5 then (if pJ.2=0 then (if yA.2=10 then (some (tH.2 == 9)) else (some false)) else (some false)) else (some false)) else (none)) else (some false))) else (none))))=some r:=by first|(rw [Gw];with_reducible exact H)|(have uB:=(Option.bind_some _ _).symm.trans H;rw [Gw];with_reducible exact uB)|(have uB:=(Option.bind_some _ _).symm.trans H;with_reducible exact uB)|with_reducible exact H|(rw [Gw];exact H)|exact H
 have Eb:=ae.mk Gw
 clear Gw
 replace H:=Option.bind_eq_some_iff.mp H
 obtain ⟨⟨t174,t177⟩,ZW,H⟩:=H
 replace H:((gW.f k y167 (⟨#[48]⟩:ByteArray) (⟨#[]⟩:ByteArray) iG 4).bind fun yA=>(if 1 < (iG.length:Int) then ((gW.f k y167 (⟨#[48]⟩:ByteArray) (⟨#[]⟩:ByteArray) (iG.set (1:Int).toNat (⟨6,(aA iG 1).f1,(aA iG 1).f2,(aA iG 1).f3,(aA iG 1).f4⟩:iD)) 9).bind fun tH=>(if (t174.length:Int)=1 then (if 0 < (t174.length:Int) then (if (rd t174 0)=5 then (if t177=0 then (if yA.2=10 then (some (tH.2 == 9)) else (some false)) else (some false)) else (some false)) else (none)) else (some false))) else (none)))=some r:=H
 have A1:=ae.mk ZW
 clear ZW
 replace H:=Option.bind_eq_some_iff.mp H
 obtain ⟨⟨t178,t181⟩,Tc,H⟩:=H
 replace H:(if 1 < (iG.length:Int) then ((gW.f k y167 (⟨#[48]⟩:ByteArray) (⟨#[]⟩:ByteArray) (iG.set (1:Int).toNat (⟨6,(aA iG 1).f1,(aA iG 1).f2,(aA iG 1).f3,(aA iG 1).f4⟩:iD)) 9).bind fun tH=>(if (t174.length:Int)=1 then (if 0 < (t174.length:Int) then (if (rd t174 0)=5 then (if t177=0 then (if t181=10 then (some (tH.2 == 9)) else (some false)) else (some false)) else (some false)) else (none)) else (some false))) else (none))=some r:=H
 have A2:=ae.mk Tc
 clear Tc
 by_cases c3:1 < (iG.length:Int)
 ·
  rw [if_pos c3] at H
  have oG:decide (1 < (iG.length:Int))=true:=decide_eq_true c3
  have zO:decide (1 < iG.length)=true:=decide_eq_true (by omega)
  clear c3
  obtain ⟨NT,Gv⟩:∃ y_:List (iD),y_=(iG.set (1:Int).toNat (⟨6,(aA iG 1).f1,(aA iG 1).f2,(aA iG 1).f3,(aA iG 1).f4⟩:iD)):=⟨_,rfl⟩
  replace H:((gW.f k y167 (⟨#[48]⟩:ByteArray) (⟨#[]⟩:ByteArray) NT 9).bind fun tH=>(if (t174.length:Int)=1 then (if 0 < (t174.length:Int) then (if (rd t174 0)=5 then (if t177=0 then (if t181=10 then (some (tH.2 == 9)) else (some false)) else (some false)) else (some false)) else (none)) else (some false)))=some r:=by first|(rw [Gv];with_reducible exact H)|(have uB:=(Option.bind_some _ _).symm.trans H;rw [Gv];with_reducible exact uB)|(have uB:=(Option.bind_some _ _).symm.trans H;with_reducible exact uB)|with_reducible exact H|(rw [Gv];exact H)|exact H
  have afM:=ae.mk Gv
  clear Gv
  replace H:=Option.bind_eq_some_iff.mp H
  obtain ⟨⟨t183,t186⟩,A50,H⟩:=H
  replace H:(if (t174.length:Int)=1 then (if 0 < (t174.length:Int) then (if (rd t174 0)=5 then (if t177=0 then (if t181=10 then (some (t186 == 9)) else (some false)) else (some false)) else (some false)) else (none)) else (some false))=some r:=H
  have A5:=ae.mk A50
  clear A50
  by_cases c6:(t174.length:Int)=1
  ·
   rw [if_pos c6] at H
   have oK:((t174.length:Int) == 1)=true:=beq_iff_eq.mpr c6
   have yT:((t174.length:Int) != 1)=false:=bne_eq_false_iff_eq.mpr c6
   clear c6
   by_cases c7:0 < (t174.length:Int)
   ·
    rw [if_pos c7] at H
    have oQ:decide (0 < (t174.length:Int))=true:=decide_eq_true c7
    have yw:decide (0 < t174.length)=true:=decide_eq_true (by omega)
    clear c7
    by_cases c8:(rd t174 0)=5
    ·
     rw [if_pos c8] at H
     have pU:((rd t174 0) == 5)=true:=beq_iff_eq.mpr c8
     have zN:((rd t174 0) != 5)=false:=bne_eq_false_iff_eq.mpr c8
     clear c8
     by_cases c9:t177=0
     ·
      rw [if_pos c9] at H
      have Fz:(t177 == 0)=true:=beq_iff_eq.mpr c9
      have Yx:(t177 != 0)=false:=bne_eq_false_iff_eq.mpr c9
      clear c9
      by_cases c10:t181=10
      ·
       rw [if_pos c10] at H
       have pW:(t181 == 10)=true:=beq_iff_eq.mpr c10
       have Nu:(t181 != 10)=false:=bne_eq_false_iff_eq.mpr c10
       clear c10
       obtain rfl:=Option.some.inj H
       go_enter Tryd.func10,Tryd.ntmps10
       go_wp2_with (first|((with_reducible refine bD (N:=8) rfl ?_);refine Kd.uF Kd.string _ 9 ?hg (N:=8) ?hd (xs:=([(⟨#[105]⟩:ByteArray)]:List ByteArray)) (inner:=[.string (⟨#[105]⟩:ByteArray)]) (ok:=fun _=>True) (oW:=fun _=>True) ?hr ?hp (fun _ hk=>hk) trivial (Below.refl _ _) (Nat.le_refl _) (by simp) ?_;(case hd=>rfl);(case hg=>rfl);(case hr=>first|(go_simp;done)|(go_simp;rfl));(case hp=>exact (jF.one (show Kd.M Kd.string _ _ _ (⟨#[105]⟩:ByteArray) [.string (⟨#[105]⟩:ByteArray)] from rfl) (jF.none _ _)));intro v168 w11 Qu hb CX oJ;clear CX oJ;(first|rw [← Ec.out] at Qu|(simp only [Int.reduceToNat] at Qu;rw [← Ec.out] at Qu));have dX:=ae.mk (Kd.jy Qu (bY (by repeat (first|(with_reducible first|exact HB.out|apply ah|apply ag|apply ai)|exact HB.out))));have dW:=ae.mk (bn (by repeat (first|(with_reducible first|exact HB.out|apply ah|apply ag|apply ai)|exact HB.out)) hb);clear HB;have mZ:=dX;have HB:=dW;clear dX dW;clear hb Qu)|((with_reducible refine bD (N:=14) rfl ?_);refine Kd.uF uD _ 55 ?hg (N:=14) ?hd (xs:=([(⟨1,0,0,0,5⟩:iD),(⟨5,0,0,0,0⟩:iD),(⟨9,0,0,0,0⟩:iD),(⟨8,1,0,0,0⟩:iD),(⟨14,1,0,0,0⟩:iD)]:List (iD))) (inner:=[.int .u8 1,.int .u8 0,.int .u8 0,.int .u8 0,.int .i64 5,.int .u8 5,.int .u8 0,.int .u8 0,.int .u8 0,.int .i64 0,.int .u8 9,.int .u8 0,.int .u8 0,.int .u8 0,.int .i64 0,.int .u8 8,.int .u8 1,.int .u8 0,.int .u8 0,.int .i64 0,.int .u8 14,.int .u8 1,.int .u8 0,.int .u8 0,.int .i64 0]) (ok:=fun _=>True) (oW:=fun _=>True) ?hr ?hp (fun _ hk=>hk) trivial (Below.refl _ _) (Nat.le_refl _) (by simp) ?_;(case hd=>rfl);(case hg=>rfl);(case hr=>first|(go_simp;done)|(go_simp;rfl));(case hp=>exact (jF.c5 (show Kd.M uD _ _ _ (⟨1,0,0,0,5⟩:iD) [.int .u8 1,.int .u8 0,.int .u8 0,.int .u8 0,.int .i64 5] from (wo _ _ _ (⟨1,0,0,0,5⟩:iD) )) (jF.c5 (show Kd.M uD _ _ _ (⟨5,0,0,0,0⟩:iD) [.int .u8 5,.int .u8 0,.int .u8 0,.int .u8 0,.int .i64 0] from (wo _ _ _ (⟨5,0,0,0,0⟩:iD) )) (jF.c5 (show Kd.M uD _ _ _ (⟨9,0,0,0,0⟩:iD) [.int .u8 9,.int .u8 0,.int .u8 0,.int .u8 0,.int .i64 0] from (wo _ _ _ (⟨9,0,0,0,0⟩:iD) )) (jF.c5 (show Kd.M uD _ _ _ (⟨8,1,0,0,0⟩:iD) [.int .u8 8,.int .u8 1,.int .u8 0,.int .u8 0,.int .i64 0] from (wo _ _ _ (⟨8,1,0,0,0⟩:iD) )) (jF.c5 (show Kd.M uD _ _ _ (⟨14,1,0,0,0⟩:iD) [.int .u8 14,.int .u8 1,.int .u8 0,.int .u8 0,.int .i64 0] from (wo _ _ _ (⟨14,1,0,0,0⟩:iD) )) (jF.none _ _)))))));intro v171 Z5 Qs hb CX oJ;clear CX oJ;(first|rw [← Eb.out] at Qs|(simp only [Int.reduceToNat] at Qs;rw [← Eb.out] at Qs));have dX:=ae.mk (Kd.jA (by (with_reducible repeat (first|apply Kd.iK|apply Kd.iJ|apply Kd.jq));exact mZ.out) hb);have dW:=ae.mk (Kd.jy Qs (bY (by repeat (first|(with_reducible first|exact HB.out|apply ah|apply ag|apply ai)|exact HB.out))));have dU:=ae.mk (bn (by repeat (first|(with_reducible first|exact HB.out|apply ah|apply ag|apply ai)|exact HB.out)) hb);clear mZ;clear HB;have mZ:=dX;have kZ:=dW;have HB:=dU;clear dX dW dU;clear hb Qs;obtain ⟨Di,tC,anR⟩:=Kd.jw kZ.out;subst anR;obtain ⟨vJ,uK,anQ⟩:=Kd.jw mZ.out;subst anQ)|((with_reducible refine bD (N:=1) rfl ?_);refine fG ?hg (N:=1) ?hd (cs:=#[.slice none 0 0,.string (⟨#[]⟩:ByteArray),.string (⟨#[]⟩:ByteArray),.slice none 0 0]) (t:=25) ?hr ?_;(case hd=>rfl);(case hg=>rfl);(case hr=>first|(go_simp;done)|(go_simp;rfl));intro jZ hg w17 hbox hb;have dX:=ae.mk (Kd.jA (by (with_reducible repeat (first|apply Kd.iK|apply Kd.iJ|apply Kd.jq));exact mZ.out) hb);have dW:=ae.mk (Kd.jA (by (with_reducible repeat (first|apply Kd.iK|apply Kd.iJ|apply Kd.jq));exact kZ.out) hb);have dU:=ae.mk (bn (by repeat (first|(with_reducible first|exact HB.out|apply ah|apply ag|apply ai)|exact HB.out)) hb);have iq:=ae.mk (hbox);have mr:=ae.mk ((by rw [hg];exact (bY (by repeat (first|(with_reducible first|exact HB.out|apply ah|apply ag|apply ai)|exact HB.out))):w.heap.size≤jZ));have ny:=mr;clear mZ;clear kZ;clear HB;have mZ:=dX;have kZ:=dW;have HB:=dU;have jg:=iq;have aqF:=mr;have zG:=ny;clear dX dW dU iq mr ny;clear hb hbox hg;have MV:w17.cell? ⟨jZ,0,none⟩=some (.slice none 0 0):=(ax jg.out 0).trans rfl;have MS:w17.cell? ⟨jZ,1,none⟩=some (.string (⟨#[]⟩:ByteArray)):=(ax jg.out 1).trans rfl;have MR:w17.cell? ⟨jZ,2,none⟩=some (.string (⟨#[]⟩:ByteArray)):=(ax jg.out 2).trans rfl;have MQ:w17.cell? ⟨jZ,3,none⟩=some (.slice none 0 0):=(ax jg.out 3).trans rfl;have LD:=aC jg.out 0;have LC:=aC jg.out 1;have Lu:=aC jg.out 2;have Lt:=aC jg.out 3)|((with_reducible refine bz (f:=12) rfl ?_);refine dV (some 18) rfl rfl Tryd.func12 (by kernel_rfl) rfl #[.agg #[.slice vJ y167.length uK,.string (⟨#[48]⟩:ByteArray),.string (⟨#[]⟩:ByteArray),.slice Di iG.length tC],.int .i64 5] rfl (by (try simp only [List.map_toArray,List.map_cons,List.map_nil]);first|done|rfl|(simp only [List.length_drop,List.length_take];rfl)) ?_;(with_reducible refine (gW.calls k _ _ y167 (⟨#[48]⟩:ByteArray) (⟨#[]⟩:ByteArray) _ _ iG 5 t174 t177 _ ?df ?dA ?iY ?iW ?F7 A1.out).mono ?_);(case df=>refine (Kd.dS (e:=9) (base:=w.heap.size) (ok:=fun k_=>True) (n:=y167.length) (c:=uK) ?_).2.2;exact (by (with_reducible repeat (first|apply Kd.iK|apply Kd.iJ|apply Kd.jq));exact (Kd.jH (Kd.qW (p:=⟨jZ,3,none⟩) (Kd.qW (p:=⟨jZ,2,none⟩) (Kd.qW (p:=⟨jZ,1,none⟩) (Kd.qW (p:=⟨jZ,0,none⟩) (Kd.qB mZ.out jg.out (by decide)) (fun _ hk=>hk.2) (.slice vJ y167.length uK)) (fun _ hk=>hk.2) (.string (⟨#[48]⟩:ByteArray))) (fun _ hk=>hk.2) (.string (⟨#[]⟩:ByteArray))) (fun _ hk=>hk.2) (.slice Di iG.length tC)) (fun _ h_=>h_.1))));(case dA=>exact (Kd.dS mZ.out).2.1);(case iY=>refine (Kd.dS (e:=55) (base:=w.heap.size) (ok:=fun k_=>True) (n:=iG.length) (c:=tC) ?_).2.2;exact (by (with_reducible repeat (first|apply Kd.iK|apply Kd.iJ|apply Kd.jq));exact (Kd.jH (Kd.qW (p:=⟨jZ,3,none⟩) (Kd.qW (p:=⟨jZ,2,none⟩) (Kd.qW (p:=⟨jZ,1,none⟩) (Kd.qW (p:=⟨jZ,0,none⟩) (Kd.qB kZ.out jg.out (by decide)) (fun _ hk=>hk.2) (.slice vJ y167.length uK)) (fun _ hk=>hk.2) (.string (⟨#[48]⟩:ByteArray))) (fun _ hk=>hk.2) (.string (⟨#[]⟩:ByteArray))) (fun _ hk=>hk.2) (.slice Di iG.length tC)) (fun _ h_=>h_.1))));(case iW=>exact (Kd.dS kZ.out).2.1);(case F7=>exact Kd.bJ yH.out (by repeat (first|(with_reducible first|exact HB.out|apply ah|apply ag|apply ai|refine aj ?_ zG.out)|exact HB.out)));rintro e w19 ⟨v175,rfl,ho0,hb⟩;refine ⟨_,rfl,?_⟩;have dX:=ae.mk (Kd.jA (by (with_reducible repeat (first|apply Kd.iK|apply Kd.iJ|apply Kd.jq));exact (Kd.jH (Kd.qW (p:=⟨jZ,3,none⟩) (Kd.qW (p:=⟨jZ,2,none⟩) (Kd.qW (p:=⟨jZ,1,none⟩) (Kd.qW (p:=⟨jZ,0,none⟩) (Kd.qB mZ.out jg.out (by decide)) (fun _ hk=>hk.2) (.slice vJ y167.length uK)) (fun _ hk=>hk.2) (.string (⟨#[48]⟩:ByteArray))) (fun _ hk=>hk.2) (.string (⟨#[]⟩:ByteArray))) (fun _ hk=>hk.2) (.slice Di iG.length tC)) (fun _ h_=>h_.1))) hb);have dW:=ae.mk (Kd.jA (by (with_reducible repeat (first|apply Kd.iK|apply Kd.iJ|apply Kd.jq));exact (Kd.jH (Kd.qW (p:=⟨jZ,3,none⟩) (Kd.qW (p:=⟨jZ,2,none⟩) (Kd.qW (p:=⟨jZ,1,none⟩) (Kd.qW (p:=⟨jZ,0,none⟩) (Kd.qB kZ.out jg.out (by decide)) (fun _ hk=>hk.2) (.slice vJ y167.length uK)) (fun _ hk=>hk.2) (.string (⟨#[48]⟩:ByteArray))) (fun _ hk=>hk.2) (.string (⟨#[]⟩:ByteArray))) (fun _ hk=>hk.2) (.slice Di iG.length tC)) (fun _ h_=>h_.1))) hb);have dU:=ae.mk (Kd.jy ho0 (bY (by repeat (first|(with_reducible first|exact HB.out|apply ah|apply ag|apply ai|refine aj ?_ zG.out)|exact HB.out))));have iq:=ae.mk (bg (g:=jZ) (o:=.cells #[.slice vJ y167.length uK,.string (⟨#[48]⟩:ByteArray),.string (⟨#[]⟩:ByteArray),.slice Di iG.length tC] 25 (0,0)) (by (with_reducible repeat (first|refine au ?_ _|refine ay ?_|refine ak ?_ _));refine dR (cs:=#[.slice vJ y167.length uK,.string (⟨#[48]⟩:ByteArray),.string (⟨#[]⟩:ByteArray),.slice none 0 0]) ?_ 3 _ rfl;(with_reducible repeat (first|refine au ?_ _|refine ay ?_|refine ak ?_ _));refine dR (cs:=#[.slice vJ y167.length uK,.string (⟨#[48]⟩:ByteArray),.string (⟨#[]⟩:ByteArray),.slice none 0 0]) ?_ 2 _ rfl;(with_reducible repeat (first|refine au ?_ _|refine ay ?_|refine ak ?_ _));refine dR (cs:=#[.slice vJ y167.length uK,.string (⟨#[]⟩:ByteArray),.string (⟨#[]⟩:ByteArray),.slice none 0 0]) ?_ 1 _ rfl;(with_reducible repeat (first|refine au ?_ _|refine ay ?_|refine ak ?_ _));refine dR (cs:=#[.slice none 0 0,.string (⟨#[]⟩:ByteArray),.string (⟨#[]⟩:ByteArray),.slice none 0 0]) ?_ 0 _ rfl;(with_reducible repeat (first|refine au ?_ _|refine ay ?_|refine ak ?_ _));exact jg.out) hb);have mr:=ae.mk (bn (by repeat (first|(with_reducible first|exact HB.out|apply ah|apply ag|apply ai|refine aj ?_ zG.out)|exact HB.out)) hb);clear mZ;clear kZ;clear jg;clear HB;have mZ:=dX;have kZ:=dW;have tN:=dU;have jg:=iq;have HB:=mr;clear dX dW dU iq mr;(try clear hb);(try clear hb2);(try clear hk);(try clear hi);(try clear ho0);have XQ:w19.cell? ⟨jZ,0,none⟩=some (.slice vJ y167.length uK):=(ax jg.out 0).trans rfl;have XP:w19.cell? ⟨jZ,1,none⟩=some (.string (⟨#[48]⟩:ByteArray)):=(ax jg.out 1).trans rfl;have XO:w19.cell? ⟨jZ,2,none⟩=some (.string (⟨#[]⟩:ByteArray)):=(ax jg.out 2).trans rfl;have XN:w19.cell? ⟨jZ,3,none⟩=some (.slice Di iG.length tC):=(ax jg.out 3).trans rfl;have VZ:=aC jg.out 0;have VY:=aC jg.out 1;have VX:=aC jg.out 2;have VW:=aC jg.out 3)|((with_reducible refine bz (f:=12) rfl ?_);refine dV (some 23) rfl rfl Tryd.func12 (by kernel_rfl) rfl #[.agg #[.slice vJ y167.length uK,.string (⟨#[48]⟩:ByteArray),.string (⟨#[]⟩:ByteArray),.slice Di iG.length tC],.int .i64 4] rfl (by (try simp only [List.map_toArray,List.map_cons,List.map_nil]);first|done|rfl|(simp only [List.length_drop,List.length_take];rfl)) ?_;(with_reducible refine (gW.calls k _ _ y167 (⟨#[48]⟩:ByteArray) (⟨#[]⟩:ByteArray) _ _ iG 4 t178 t181 _ ?df ?dA ?iY ?iW ?F7 A2.out).mono ?_);(case df=>repeat (first|exact (Kd.dS mZ.out).2.2|(with_reducible refine Kd.bQ ?_ _)|(with_reducible refine Kd.bP ?_ _)|(with_reducible refine Kd.dF ?_)));(case dA=>exact (Kd.dS mZ.out).2.1);(case iY=>repeat (first|exact (Kd.dS kZ.out).2.2|(with_reducible refine Kd.bQ ?_ _)|(with_reducible refine Kd.bP ?_ _)|(with_reducible refine Kd.dF ?_)));(case iW=>exact (Kd.dS kZ.out).2.1);(case F7=>repeat (first|exact (Kd.bJ yH.out HB.out)|(with_reducible refine Kd.bQ ?_ _)|(with_reducible refine Kd.bP ?_ _)|(with_reducible refine Kd.dF ?_)));rintro e FV ⟨ark,rfl,ho0,hb⟩;refine ⟨_,rfl,?_⟩;have dX:=ae.mk (Kd.jA (by (with_reducible repeat (first|apply Kd.iK|apply Kd.iJ|apply Kd.jq));exact mZ.out) hb);have dW:=ae.mk (Kd.jA (by (with_reducible repeat (first|apply Kd.iK|apply Kd.iJ|apply Kd.jq));exact kZ.out) hb);have dU:=ae.mk (Kd.Ce (by (with_reducible repeat (first|apply Kd.iK|apply Kd.iJ|apply Kd.jq));exact tN.out) (Kd.Cf ho0) hb);have iq:=ae.mk (Kd.jy (Kd.Jt ho0 (Kd.Ju (by (with_reducible repeat (first|apply Kd.iK|apply Kd.iJ|apply Kd.jq));exact tN.out))) (bY (by repeat (first|(with_reducible first|exact HB.out|apply ah|apply ag|apply ai|refine aj ?_ zG.out)|exact HB.out))));have mr:=ae.mk (bg (g:=jZ) (o:=.cells #[.slice vJ y167.length uK,.string (⟨#[48]⟩:ByteArray),.string (⟨#[]⟩:ByteArray),.slice Di iG.length tC] 25 (0,0)) (by (with_reducible repeat (first|refine au ?_ _|refine ay ?_|refine ak ?_ _));exact jg.out) hb);have ny:=ae.mk (bn (by repeat (first|(with_reducible first|exact HB.out|apply ah|apply ag|apply ai|refine aj ?_ zG.out)|exact HB.out)) hb);clear mZ;clear kZ;clear tN;clear jg;clear HB;have mZ:=dX;have kZ:=dW;have tN:=dU;have Cm:=iq;have jg:=mr;have HB:=ny;clear dX dW dU iq mr ny;(try clear hb);(try clear hb2);(try clear hk);(try clear hi);(try clear ho0);have MP:FV.cell? ⟨jZ,0,none⟩=some (.slice vJ y167.length uK):=(ax jg.out 0).trans rfl;have MO:FV.cell? ⟨jZ,1,none⟩=some (.string (⟨#[48]⟩:ByteArray)):=(ax jg.out 1).trans rfl;have MN:FV.cell? ⟨jZ,2,none⟩=some (.string (⟨#[]⟩:ByteArray)):=(ax jg.out 2).trans rfl;have MM:FV.cell? ⟨jZ,3,none⟩=some (.slice Di iG.length tC):=(ax jg.out 3).trans rfl;have Ls:=aC jg.out 0;have Lr:=aC jg.out 1;have Lp:=aC jg.out 2;have Lm:=aC jg.out 3;have p4:0≤(1:Int):=(by omega);have q4:(1:Int) < ((iG.length:Int):Int):=of_decide_eq_true (by first|(with_reducible assumption)|assumption);have qi4:(1 < iG.length)=True:=eq_true (by omega);obtain ⟨C9,co4,eo4,gb4,gl4,cl4,HG4⟩:=Kd.yY kZ.out (by omega);(first|cases eo4|(injection eo4 with ea_ en_ ec_;(first|subst ea_|(injection ea_ with ea_;subst ea_));subst ec_;clear en_));have GB4:=ae.mk gb4;have GG4:=ae.mk HG4;clear gb4 gl4 HG4;obtain ⟨ce4,anu,hM4,Oy,Ox⟩:=Kd.Su kZ.out z55 (1:Int) p4 q4;obtain rfl:=DT hM4;have Y1:FV.cell? ⟨C9,(1:Int).toNat * 5,none⟩=some (.int .u8 ((aA iG 1).f0)):=Oy 0 _ rfl;have Y0:FV.cell? ⟨C9,(1:Int).toNat * 5+1,none⟩=some (.int .u8 ((aA iG 1).f1)):=Oy 1 _ rfl;have YZ:FV.cell? ⟨C9,(1:Int).toNat * 5+2,none⟩=some (.int .u8 ((aA iG 1).f2)):=Oy 2 _ rfl;have YY:FV.cell? ⟨C9,(1:Int).toNat * 5+3,none⟩=some (.int .u8 ((aA iG 1).f3)):=Oy 3 _ rfl;have YX:FV.cell? ⟨C9,(1:Int).toNat * 5+4,none⟩=some (.int .i64 ((aA iG 1).f4)):=Oy 4 _ rfl;have Zf:FV.frozen? ⟨C9,(1:Int).toNat * 5,none⟩=false:=Ox 0;have Ze:FV.frozen? ⟨C9,(1:Int).toNat * 5+1,none⟩=false:=Ox 1;have Zd:FV.frozen? ⟨C9,(1:Int).toNat * 5+2,none⟩=false:=Ox 2;have Zc:FV.frozen? ⟨C9,(1:Int).toNat * 5+3,none⟩=false:=Ox 3;have Zb:FV.frozen? ⟨C9,(1:Int).toNat * 5+4,none⟩=false:=Ox 4;clear anu Oy Ox hM4;(try rw [show ((1:Int)).toNat=1 from rfl] at Y1);(try simp only [Nat.reduceMul,Nat.zero_mul,Nat.zero_add,Nat.reduceAdd] at Y1);(try rw [show ((1:Int)).toNat=1 from rfl] at Zf);(try simp only [Nat.reduceMul,Nat.zero_mul,Nat.zero_add,Nat.reduceAdd] at Zf);(try rw [show ((1:Int)).toNat=1 from rfl] at Y0);(try simp only [Nat.reduceMul,Nat.zero_mul,Nat.zero_add,Nat.reduceAdd] at Y0);(try rw [show ((1:Int)).toNat=1 from rfl] at Ze);(try simp only [Nat.reduceMul,Nat.zero_mul,Nat.zero_add,Nat.reduceAdd] at Ze);(try rw [show ((1:Int)).toNat=1 from rfl] at YZ);(try simp only [Nat.reduceMul,Nat.zero_mul,Nat.zero_add,Nat.reduceAdd] at YZ);(try rw [show ((1:Int)).toNat=1 from rfl] at Zd);(try simp only [Nat.reduceMul,Nat.zero_mul,Nat.zero_add,Nat.reduceAdd] at Zd);(try rw [show ((1:Int)).toNat=1 from rfl] at YY);(try simp only [Nat.reduceMul,Nat.zero_mul,Nat.zero_add,Nat.reduceAdd] at YY);(try rw [show ((1:Int)).toNat=1 from rfl] at Zc);(try simp only [Nat.reduceMul,Nat.zero_mul,Nat.zero_add,Nat.reduceAdd] at Zc);(try rw [show ((1:Int)).toNat=1 from rfl] at YX);(try simp only [Nat.reduceMul,Nat.zero_mul,Nat.zero_add,Nat.reduceAdd] at YX);(try rw [show ((1:Int)).toNat=1 from rfl] at Zb);(try simp only [Nat.reduceMul,Nat.zero_mul,Nat.zero_add,Nat.reduceAdd] at Zb);replace p4:=eq_true p4;replace q4:=eq_true q4;have afP:=ae.mk (show Kd.R uD 55 FV w.heap.size (fun _=>True) (.slice (some ⟨C9,0,none⟩) iG.length tC) iG from (by (with_reducible repeat (first|apply Kd.iK|apply Kd.iJ|apply Kd.jq));exact kZ.out));obtain ⟨asi,Zg,aes,QT,Za⟩:=Kd.Su afP.out z55 (1:Int) (by omega) (by have h_:(1:Int) < ((iG.length:Int):Int):=of_decide_eq_true (by first|(with_reducible assumption)|assumption);first|exact h_|(have e_:=(Kd.dS kZ.out).1;omega)|simpa using h_);obtain rfl:=DT aes;have ab1:=Kd.afK afP.out (1:Int) (by omega) (by have h_:(1:Int) < ((iG.length:Int):Int):=of_decide_eq_true (by first|(with_reducible assumption)|assumption);first|exact h_|(have e_:=(Kd.dS kZ.out).1;omega)|simpa using h_) (wS:=[.int .u8 6]) (j:=0) Zg QT (show 1≤5 from by decide) (x':=(⟨6,(aA iG 1).f1,(aA iG 1).f2,(aA iG 1).f3,(aA iG 1).f4⟩:iD)) (wo _ _ _ (⟨6,(aA iG 1).f1,(aA iG 1).f2,(aA iG 1).f3,(aA iG 1).f4⟩:iD) ) (fun _ hk=>hk);have I8:=QT 0 _ rfl;(try simp only [show (uD).sz=5 from rfl,Nat.mul_one,Nat.add_zero] at I8);(try rw [show ((1:Int)).toNat=1 from rfl] at I8);(try simp only [Nat.reduceMul,Nat.zero_mul,Nat.zero_add,Nat.reduceAdd] at I8);have Jd:=Za 0;(try simp only [show (uD).sz=5 from rfl,Nat.mul_one,Nat.add_zero] at Jd);(try rw [show ((1:Int)).toNat=1 from rfl] at Jd);(try simp only [Nat.reduceMul,Nat.zero_mul,Nat.zero_add,Nat.reduceAdd] at Jd);clear Zg QT Za aes)|((with_reducible refine Ji (t:=5) (p:=29) rfl ?_);refine FZ (t:=5) (p:=29) (v:=?amL) (w1:=(FV.setCell ⟨C9,5,none⟩ (.int .u8 6))) ?hg ?ho ?hn ?hr ?_;(case ho=>rfl);(case hg=>rfl);(case hn=>rfl);(case hr=>first|(go_simp;done)|(go_simp;rfl));intro TW hw;have hg:FV.grownBy TW (some C9):=(by rw [hw];exact ab1.2);have hp_:Kd.R uD 55 TW w.heap.size (fun _=>True) (.slice (some ⟨C9,0,none⟩) iG.length tC) NT:=(by rw [hw,afM.out];exact ab1.1);clear ab1;have dX:=ae.mk (Kd.FI (v:=(.slice (some ⟨C9,0,none⟩) iG.length tC)) (by (with_reducible repeat (first|apply Kd.iK|apply Kd.iJ|apply Kd.jq));exact mZ.out) (Kd.FH kZ.out) (by decide) hg);have dW:=ae.mk (hp_);have dU:=ae.mk (D9 (g:=jZ) (o:=.cells #[.slice vJ y167.length uK,.string (⟨#[48]⟩:ByteArray),.string (⟨#[]⟩:ByteArray),.slice (some ⟨C9,0,none⟩) iG.length tC] 25 (0,0)) (by (with_reducible repeat (first|refine au ?_ _|refine ay ?_|refine ak ?_ _));exact jg.out) hg (Kd.afL kZ.out jg.out (by decide)));have iq:=ae.mk (Kd.FI (v:=(.slice (some ⟨C9,0,none⟩) iG.length tC)) (by (with_reducible repeat (first|apply Kd.iK|apply Kd.iJ|apply Kd.jq));exact tN.out) (Kd.FH kZ.out) (by decide) hg);have mr:=ae.mk (Kd.FI (v:=(.slice (some ⟨C9,0,none⟩) iG.length tC)) (by (with_reducible repeat (first|apply Kd.iK|apply Kd.iJ|apply Kd.jq));exact Cm.out) (Kd.FH kZ.out) (by decide) hg);have ny:=ae.mk ((by rw [hw];exact aj (HB.out) GB4.out:Below w.heap.size w TW));clear mZ;clear kZ;clear jg;clear tN;clear Cm;clear HB;have mZ:=dX;have kZ:=dW;have jg:=dU;have tN:=iq;have Cm:=mr;have HB:=ny;clear dX dW dU iq mr ny;clear hg hw hp_;have Ap:TW.cell? ⟨jZ,0,none⟩=some (.slice vJ y167.length uK):=(ax jg.out 0).trans rfl;have Am:TW.cell? ⟨jZ,1,none⟩=some (.string (⟨#[48]⟩:ByteArray)):=(ax jg.out 1).trans rfl;have Ak:TW.cell? ⟨jZ,2,none⟩=some (.string (⟨#[]⟩:ByteArray)):=(ax jg.out 2).trans rfl;have Aj:TW.cell? ⟨jZ,3,none⟩=some (.slice (some ⟨C9,0,none⟩) iG.length tC):=(ax jg.out 3).trans rfl;have Ae:=aC jg.out 0;have Ad:=aC jg.out 1;have Ac:=aC jg.out 2;have Aa:=aC jg.out 3)|((with_reducible refine bz (f:=12) rfl ?_);refine dV (some 32) rfl rfl Tryd.func12 (by kernel_rfl) rfl #[.agg #[.slice vJ y167.length uK,.string (⟨#[48]⟩:ByteArray),.string (⟨#[]⟩:ByteArray),.slice (some ⟨C9,0,none⟩) NT.length tC],.int .i64 9] rfl (by (try simp only [List.map_toArray,List.map_cons,List.map_nil]);first|done|(rw [show NT.length=iG.length from (Kd.dS kZ.out).1.symm] <;> rfl)|rfl|(simp only [List.length_drop,List.length_take];rfl)) ?_;(with_reducible refine (gW.calls k _ _ y167 (⟨#[48]⟩:ByteArray) (⟨#[]⟩:ByteArray) _ _ NT 9 t183 t186 _ ?df ?dA ?iY ?iW ?F7 A5.out).mono ?_);(case df=>repeat (first|exact (Kd.dS mZ.out).2.2|(with_reducible refine Kd.bQ ?_ _)|(with_reducible refine Kd.bP ?_ _)|(with_reducible refine Kd.dF ?_)));(case dA=>exact (Kd.dS mZ.out).2.1);(case iY=>repeat (first|exact (Kd.dS kZ.out).2.2|(with_reducible refine Kd.bQ ?_ _)|(with_reducible refine Kd.bP ?_ _)|(with_reducible refine Kd.dF ?_)));(case iW=>rw [show NT.length=iG.length from (Kd.dS kZ.out).1.symm];exact (Kd.dS kZ.out).2.1);(case F7=>repeat (first|exact (Kd.bJ yH.out HB.out)|(with_reducible refine Kd.bQ ?_ _)|(with_reducible refine Kd.bP ?_ _)|(with_reducible refine Kd.dF ?_)));rintro e w26 ⟨arj,rfl,ho0,hb⟩;refine ⟨_,rfl,?_⟩;have dX:=ae.mk (Kd.jA (by (with_reducible repeat (first|apply Kd.iK|apply Kd.iJ|apply Kd.jq));exact mZ.out) hb);have dW:=ae.mk (Kd.jA (by (with_reducible repeat (first|apply Kd.iK|apply Kd.iJ|apply Kd.jq));exact kZ.out) hb);have dU:=ae.mk (Kd.Ce (by (with_reducible repeat (first|apply Kd.iK|apply Kd.iJ|apply Kd.jq));exact tN.out) (Kd.Cf ho0) hb);have iq:=ae.mk (Kd.Ce (by (with_reducible repeat (first|apply Kd.iK|apply Kd.iJ|apply Kd.jq));exact Cm.out) (Kd.Cf ho0) hb);have mr:=ae.mk (Kd.jy (Kd.Jt (Kd.Jt ho0 (Kd.Ju (by (with_reducible repeat (first|apply Kd.iK|apply Kd.iJ|apply Kd.jq));exact tN.out))) (Kd.Ju (by (with_reducible repeat (first|apply Kd.iK|apply Kd.iJ|apply Kd.jq));exact Cm.out))) (bY (by repeat (first|(with_reducible first|exact HB.out|apply ah|apply ag|apply ai|refine aj ?_ zG.out)|exact HB.out))));have ny:=ae.mk (bg (g:=jZ) (o:=.cells #[.slice vJ y167.length uK,.string (⟨#[48]⟩:ByteArray),.string (⟨#[]⟩:ByteArray),.slice (some ⟨C9,0,none⟩) iG.length tC] 25 (0,0)) (by (with_reducible repeat (first|refine au ?_ _|refine ay ?_|refine ak ?_ _));exact jg.out) hb);have oz:=ae.mk (bn (by repeat (first|(with_reducible first|exact HB.out|apply ah|apply ag|apply ai|refine aj ?_ zG.out)|exact HB.out)) hb);clear mZ;clear kZ;clear tN;clear Cm;clear jg;clear HB;have mZ:=dX;have kZ:=dW;have tN:=dU;have Cm:=iq;have aqr:=mr;have jg:=ny;have HB:=oz;clear dX dW dU iq mr ny oz;(try clear hb);(try clear hb2);(try clear hk);(try clear hi);(try clear ho0);obtain ⟨asN,ash,anP⟩:=Kd.jw tN.out;subst anP;have aay:0≤(0:Int):=(by omega);have aao:0 < (t174.length:Int):=of_decide_eq_true (by first|(with_reducible assumption)|assumption);obtain ⟨aqa,e187,KE⟩:=Kd.rV (Kd.dS tN.out).2.2 0 aay aao;cases e187;have aoC:(0 < t174.length)=True:=eq_true (by omega);(try rw [show ((0:Int)).toNat=0 from rfl] at KE);(try rw [Addr.add_zero'] at KE);replace aay:=eq_true aay;replace aao:=eq_true aao))
       go_ret
       exact ⟨by first|rfl|(simp [aQ,aN] <;> rfl)|(simp [*,aQ,aN] <;> rfl),by repeat (first|(with_reducible first|exact HB.out|apply ah|apply ag|apply ai|refine aj ?_ zG.out)|exact HB.out)⟩
      ·
       exact absurd (abK Ec.out Eb.out A2.out) c10
     ·
      exact absurd (Jq Ec.out Eb.out A1.out).2 c9
    ·
     exact absurd (by rw [(Jq Ec.out Eb.out A1.out).1];rfl) c8
   ·
    rw [if_neg c7] at H
    exact absurd H (by simp)
  ·
   exact absurd (by rw [(Jq Ec.out Eb.out A1.out).1];rfl) c6
 ·
  rw [if_neg c3] at H
  exact absurd H (by simp)
def dw.l0:Nat→Int→List ByteArray→Int→Int→List ByteArray→ByteArray→ByteArray→List (iD)→Option (Bool)
 | 0,_,_,_,_,_,_,_,_=>none
 | k+1,x3,x14,x15,x16,TG,TF,TE,JK=>if x16 < x15 then (if 0≤x16 then (if x16 < (x14.length:Int) then (dw.l0 k (wrap64 (x3+(wrap64 (((dZ ByteArray.empty x14 x16).size:Int)+1)))) x14 x15 (wrap64 (x16+1)) TG TF TE JK) else (none)) else (none)) else (if x3≤500 then (some (decide ((JK.length:Int)≤210))) else (some false))
def dw.f (k:Nat) (aZ:List ByteArray) (aV:ByteArray) (aW:ByteArray) (aI:List (iD)):Option (Bool):=dw.l0 k (wrap64 ((aV.size:Int)+(aW.size:Int))) aZ (aZ.length:Int) 0 aZ aV aW aI
theorem dw.iF:∀ k,(∀ y0 y1 y2 y3 y4 y5 y6 y7,dP (dw.l0 k y0 y1 y2 y3 y4 y5 y6 y7) (dw.l0 (k+1) y0 y1 y2 y3 y4 y5 y6 y7))
 | 0=>fun _ _ _ _ _ _ _ _ r h=>by simp [dw.l0] at h
 | k+1=>by
  have lW:=dw.iF k
  ·
   intro y0 y1 y2 y3 y4 y5 y6 y7
   unfold dw.l0
   repeat' with_reducible first|apply lW|exact dP.refl _|exact dP.none _|refine dP.ite ?_ ?_|refine dP.bind ?_ (fun _=>?_)
theorem dw.mono:∀ a0 a1 a2 a3 k,dP (dw.f k a0 a1 a2 a3) (dw.f (k+1) a0 a1 a2 a3):=by
 intro a0 a1 a2 a3 k
 have lW:=dw.iF k
 unfold dw.f
 repeat' with_reducible first|apply lW|exact dP.refl _|exact dP.none _|refine dP.ite ?_ ?_|refine dP.bind ?_ (fun _=>?_)
set_option maxHeartbeats 8000000 in
set_option maxRecDepth 100000 in
theorem dw.calls (k:Nat) (eu:Option Addr) (ed:Nat) (aZ:List ByteArray) (aV:ByteArray) (aW:ByteArray) (gm:Option Addr) (eX:Nat) (aI:List (iD)) (r:Bool) (w:World) (jV:Kd.C Kd.string w eu aZ.length aZ) (jX:aZ.length≤ed) (jU:Kd.C uD w gm aI.length aI) (jW:aI.length≤eX) (h:dw.f k aZ aV aW aI=some r) :
  Calls Tryd.prog 11 #[.agg #[.slice eu aZ.length ed,.string aV,.string aW,.slice gm aI.length eX]] w fun e w'=>e=.returned (.bool r)∧Below w.heap.size w w':=by
 have yP:=Tryd.underlying25
 have iI:=ae.mk jV
 have iL:=ae.mk jX
 clear jV jX
 have jR:=ae.mk jU
 have kK:=ae.mk jW
 clear jU jW
 have HB:=ae.mk (Below.refl w.heap.size w)
 have H:(dw.l0 k (wrap64 ((aV.size:Int)+(aW.size:Int))) aZ (aZ.length:Int) 0 aZ aV aW aI)=some r:=h
 clear h
 have H':=ae.mk H
 clear H
 go_enter Tryd.func11,Tryd.ntmps11
 go_wp2_with (first|((with_reducible refine bD (N:=1) rfl ?_);(try (refine nT (by rfl) ?_;dsimp only));refine fG ?hg (N:=1) ?hd (cs:=#[.slice eu aZ.length ed,.string aV,.string aW,.slice gm aI.length eX]) (t:=25) ?hr ?_;(case hd=>rfl);(case hg=>rfl);(case hr=>first|(go_simp;done)|(go_simp;rfl));intro xm hg w2 hbox hb;have dX:=ae.mk (bn (by repeat (first|(with_reducible first|exact HB.out|apply ah|apply ag|apply ai)|exact HB.out)) hb);have dW:=ae.mk (hbox);have dU:=ae.mk ((by rw [hg];exact (bY (by repeat (first|(with_reducible first|exact HB.out|apply ah|apply ag|apply ai)|exact HB.out))):w.heap.size≤xm));have iq:=dU;clear HB;have HB:=dX;have pM:=dW;have aqD:=dU;have NQ:=iq;clear dX dW dU iq;clear hb hbox hg;have anr:w2.cell? ⟨xm,0,none⟩=some (.slice eu aZ.length ed):=(ax pM.out 0).trans rfl;have anq:w2.cell? ⟨xm,1,none⟩=some (.string aV):=(ax pM.out 1).trans rfl;have anp:w2.cell? ⟨xm,2,none⟩=some (.string aW):=(ax pM.out 2).trans rfl;have ano:w2.cell? ⟨xm,3,none⟩=some (.slice gm aI.length eX):=(ax pM.out 3).trans rfl;have ani:=aC pM.out 0;have anh:=aC pM.out 1;have ang:=aC pM.out 2;have anf:=aC pM.out 3))
 go_loopg [3,16] k (fun kq v3 v16 w'=>∃ (kL:Int) (rF:Int),v3=.int .i64 kL∧v16=.int .i64 rF∧ae (dw.l0 kq kL aZ (aZ.length:Int) rF aZ aV aW aI=some r)∧ae (kq≤k)∧ae (w'.heap[xm]? = some (.cells #[(.slice eu aZ.length ed),.string aV,.string aW,(.slice gm aI.length eX)] 25 (0,0)))∧ae (Below w.heap.size w w'))
 case atStart=>exact ⟨(wrap64 ((aV.size:Int)+(aW.size:Int))),(0),(by first|rfl|(simp;done)|(simp [*];done)),(by first|rfl|(simp;done)|(simp [*];done)),H',⟨Nat.le_refl _⟩,⟨by (with_reducible repeat (first|refine au ?_ _|refine ay ?_|refine ak ?_ _));exact pM.out⟩,⟨by repeat (first|(with_reducible first|exact HB.out|apply ah|apply ag|apply ai|refine aj ?_ NQ.out)|exact HB.out)⟩⟩
 case round =>
  clear H'
  obtain ⟨kL,rF,rfl,rfl,HA,qX,pM,HB⟩:=hrel
  cases gk with
  | zero=>exact absurd HA.out (by simp [dw.l0])
  | succ k1 =>
   have H:=HA.out
   clear HA
   simp only [dw.l0] at H
   by_cases c4:rF < (aZ.length:Int)
   ·
    rw [if_pos c4] at H
    have oD:decide (rF < (aZ.length:Int))=true:=decide_eq_true c4
    clear c4
    by_cases c5:0≤rF
    ·
     rw [if_pos c5] at H
     have rU:decide (0≤rF)=true:=decide_eq_true c5
     clear c5
     by_cases c6:rF < (aZ.length:Int)
     ·
      rw [if_pos c6] at H
      have oK:decide (rF < (aZ.length:Int))=true:=decide_eq_true c6
      clear c6
      have H':=ae.mk H
      clear H
      have aaw:0≤(rF:Int):=of_decide_eq_true (by first|(with_reducible assumption)|assumption)
      have aam:rF < (aZ.length:Int):=of_decide_eq_true (by first|(with_reducible assumption)|assumption)
      obtain ⟨ap9,e189,EG⟩:=Kd.kT iI.out rF aaw aam
      cases e189
      replace EG:=(HB.out.cell (World.block_lt_of_cell? w _ EG)).trans EG
      replace aaw:=eq_true aaw
      replace aam:=eq_true aam
      go_wp2
      go_roundg k1
      case measure=>have:=qX.out;omega
      case rel=>exact ⟨(wrap64 (kL+(wrap64 (((dZ ByteArray.empty aZ rF).size:Int)+1)))),(wrap64 (rF+1)),(by first|rfl|(simp;done)|(simp [*];done)),(by first|rfl|(simp;done)|(simp [*];done)),H',⟨by have:=qX.out;omega⟩,⟨by (with_reducible repeat (first|refine au ?_ _|refine ay ?_|refine ak ?_ _));exact pM.out⟩,⟨by repeat (first|(with_reducible first|exact HB.out|apply ah|apply ag|apply ai|refine aj ?_ NQ.out)|exact HB.out)⟩⟩
     ·
      rw [if_neg c6] at H
      exact absurd H (by simp)
    ·
     rw [if_neg c5] at H
     exact absurd H (by simp)
   ·
    rw [if_neg c4] at H
    have oD:decide (rF < (aZ.length:Int))=false:=decide_eq_false c4
    clear c4
    by_cases c7:kL≤500
    ·
     rw [if_pos c7] at H
     have oQ:decide (kL≤500)=true:=decide_eq_true c7
     clear c7
     obtain rfl:=Option.some.inj H
     have QI:wr.cell? ⟨xm,0,none⟩=some (.slice eu aZ.length ed):=(ax pM.out 0).trans rfl
     have QH:wr.cell? ⟨xm,1,none⟩=some (.string aV):=(ax pM.out 1).trans rfl
     have QG:wr.cell? ⟨xm,2,none⟩=some (.string aW):=(ax pM.out 2).trans rfl
     have QF:wr.cell? ⟨xm,3,none⟩=some (.slice gm aI.length eX):=(ax pM.out 3).trans rfl
     have Qy:=aC pM.out 0
     have Qx:=aC pM.out 1
     have Qw:=aC pM.out 2
     have Qv:=aC pM.out 3
     go_wp2
     go_ret
     exact ⟨by first|rfl|(simp [aQ,aN] <;> rfl)|(simp [*,aQ,aN] <;> rfl),by repeat (first|(with_reducible first|exact HB.out|apply ah|apply ag|apply ai|refine aj ?_ NQ.out)|exact HB.out)⟩
    ·
     rw [if_neg c7] at H
     have oQ:decide (kL≤500)=false:=decide_eq_false c7
     clear c7
     obtain rfl:=Option.some.inj H
     go_wp2
     go_ret
     exact ⟨by first|rfl|(simp [aQ,aN] <;> rfl)|(simp [*,aQ,aN] <;> rfl),by repeat (first|(with_reducible first|exact HB.out|apply ah|apply ag|apply ai|refine aj ?_ NQ.out)|exact HB.out)⟩
def dm.l0:Nat→List Int→List Int→Int→Option (Bool)
 | 0,_,_,_=>none
 | k+1,x0,x1,x5=>if x5 < (x0.length:Int) then (if 0≤x5 then (if x5 < (x1.length:Int) then (if (rd x0 x5)=(rd x1 x5) then (dm.l0 k x0 x1 (wrap64 (x5+1))) else (some false)) else (none)) else (none)) else (some true)
def dm.f (k:Nat) (l0:List Int) (l1:List Int):Option (Bool):=if (l0.length:Int)=(l1.length:Int) then (dm.l0 k l0 l1 0) else (some false)
theorem dm.iF:∀ k,(∀ y0 y1 y2,dP (dm.l0 k y0 y1 y2) (dm.l0 (k+1) y0 y1 y2))
 | 0=>fun _ _ _ r h=>by simp [dm.l0] at h
 | k+1=>by
  have lW:=dm.iF k
  ·
   intro y0 y1 y2
   unfold dm.l0
   repeat' with_reducible first|apply lW|exact dP.refl _|exact dP.none _|refine dP.ite ?_ ?_|refine dP.bind ?_ (fun _=>?_)
theorem dm.mono:∀ a0 a1 k,dP (dm.f k a0 a1) (dm.f (k+1) a0 a1):=by
 intro a0 a1 k
 have lW:=dm.iF k
 unfold dm.f
 repeat' with_reducible first|apply lW|exact dP.refl _|exact dP.none _|refine dP.ite ?_ ?_|refine dP.bind ?_ (fun _=>?_)
set_option maxHeartbeats 8000000 in
set_option maxRecDepth 100000 in
theorem dm.calls (k:Nat) (A0:Option Addr) (c0:Nat) (l0:List Int) (A1:Option Addr) (c1:Nat) (l1:List Int) (r:Bool) (w:World) (hr0:Kd.C (Kd.int .i64) w A0 l0.length l0) (hc0:l0.length≤c0) (hr1:Kd.C (Kd.int .i64) w A1 l1.length l1) (hc1:l1.length≤c1) (h:dm.f k l0 l1=some r) :
  Calls Tryd.prog 13 #[.slice A0 l0.length c0,.slice A1 l1.length c1] w fun e w'=>e=.returned (.bool r)∧aU w w':=by
 have HR0:=ae.mk hr0
 have tX:=ae.mk hc0
 clear hr0 hc0
 have HR1:=ae.mk hr1
 have Tz:=ae.mk hc1
 clear hr1 hc1
 have H:(if (l0.length:Int)=(l1.length:Int) then (dm.l0 k l0 l1 0) else (some false))=some r:=h
 clear h
 by_cases c3:(l0.length:Int)=(l1.length:Int)
 ·
  rw [if_pos c3] at H
  have oG:((l0.length:Int) == (l1.length:Int))=true:=beq_iff_eq.mpr c3
  have zO:((l0.length:Int) != (l1.length:Int))=false:=bne_eq_false_iff_eq.mpr c3
  have aoa:(l0.length == l1.length)=true:=by first|simpa using c3|(simp at c3 ⊢;omega)
  clear c3
  have H':=ae.mk H
  clear H
  go_enter Tryd.func13,Tryd.ntmps13
  go_wp2
  repeat (go_quiet (fail);try go_wp2)
  go_loopg [5] k (fun kq v5 w'=>∃ (jr:Int),v5=.int .i64 jr∧ae (dm.l0 kq l0 l1 jr=some r)∧ae (kq≤k)∧aU w w')
  case atStart=>exact ⟨(0),(by first|rfl|(simp;done)|(simp [*];done)),H',⟨Nat.le_refl _⟩,by repeat (first|exact aU.refl _|apply aU.step)⟩
  case round =>
   clear H'
   obtain ⟨jr,rfl,HA,qX,⟨m1,rfl⟩⟩:=hrel
   cases gk with
   | zero=>exact absurd HA.out (by simp [dm.l0])
   | succ k1 =>
    have H:=HA.out
    clear HA
    simp only [dm.l0] at H
    by_cases c4:jr < (l0.length:Int)
    ·
     rw [if_pos c4] at H
     have oD:decide (jr < (l0.length:Int))=true:=decide_eq_true c4
     clear c4
     by_cases c5:0≤jr
     ·
      rw [if_pos c5] at H
      have rU:decide (0≤jr)=true:=decide_eq_true c5
      clear c5
      by_cases c6:jr < (l1.length:Int)
      ·
       rw [if_pos c6] at H
       have oK:decide (jr < (l1.length:Int))=true:=decide_eq_true c6
       clear c6
       by_cases c7:(rd l0 jr)=(rd l1 jr)
       ·
        rw [if_pos c7] at H
        have oQ:((rd l0 jr) == (rd l1 jr))=true:=beq_iff_eq.mpr c7
        have yw:((rd l0 jr) != (rd l1 jr))=false:=bne_eq_false_iff_eq.mpr c7
        clear c7
        have H':=ae.mk H
        clear H
        have IM:0≤(jr:Int):=of_decide_eq_true (by first|(with_reducible assumption)|assumption)
        have IA:jr < (l0.length:Int):=of_decide_eq_true (by first|(with_reducible assumption)|assumption)
        obtain ⟨afC,e190,UG⟩:=Kd.rV HR0.out jr IM IA
        cases e190
        replace IM:=eq_true IM
        replace IA:=eq_true IA
        have IL:0≤(jr:Int):=of_decide_eq_true (by first|(with_reducible assumption)|assumption)
        have Iz:jr < (l1.length:Int):=of_decide_eq_true (by first|(with_reducible assumption)|assumption)
        obtain ⟨afB,abg,UF⟩:=Kd.rV HR1.out jr IL Iz
        cases abg
        replace IL:=eq_true IL
        replace Iz:=eq_true Iz
        go_wp2
        repeat (go_quiet (fail);try go_wp2)
        go_roundg k1
        case measure=>have:=qX.out;omega
        case rel=>exact ⟨(wrap64 (jr+1)),(by first|rfl|(simp;done)|(simp [*];done)),H',⟨by have:=qX.out;omega⟩,by repeat (first|exact aU.refl _|apply aU.step)⟩
       ·
        rw [if_neg c7] at H
        have oQ:((rd l0 jr) == (rd l1 jr))=false:=beq_eq_false_iff_ne.mpr c7
        have yw:((rd l0 jr) != (rd l1 jr))=true:=bne_iff_ne.mpr c7
        obtain rfl:=Option.some.inj H
        have IM:0≤(jr:Int):=of_decide_eq_true (by first|(with_reducible assumption)|assumption)
        have IA:jr < (l0.length:Int):=of_decide_eq_true (by first|(with_reducible assumption)|assumption)
        obtain ⟨afC,e190,UG⟩:=Kd.rV HR0.out jr IM IA
        cases e190
        replace IM:=eq_true IM
        replace IA:=eq_true IA
        have IL:0≤(jr:Int):=of_decide_eq_true (by first|(with_reducible assumption)|assumption)
        have Iz:jr < (l1.length:Int):=of_decide_eq_true (by first|(with_reducible assumption)|assumption)
        obtain ⟨afB,abg,UF⟩:=Kd.rV HR1.out jr IL Iz
        cases abg
        replace IL:=eq_true IL
        replace Iz:=eq_true Iz
        go_wp2
        repeat (go_quiet (fail);try go_wp2)
        go_ret
        exact ⟨by first|rfl|(simp;done)|(simp [*];done),by repeat (first|exact aU.refl _|apply aU.step)⟩
      ·
       rw [if_neg c6] at H
       exact absurd H (by simp)
     ·
      rw [if_neg c5] at H
      exact absurd H (by simp)
    ·
     rw [if_neg c4] at H
     have oD:decide (jr < (l0.length:Int))=false:=decide_eq_false c4
     clear c4
     obtain rfl:=Option.some.inj H
     go_wp2
     repeat (go_quiet (fail);try go_wp2)
     go_ret
     exact ⟨by first|rfl|(simp;done)|(simp [*];done),by repeat (first|exact aU.refl _|apply aU.step)⟩
 ·
  rw [if_neg c3] at H
  have oG:((l0.length:Int) == (l1.length:Int))=false:=beq_eq_false_iff_ne.mpr c3
  have zO:((l0.length:Int) != (l1.length:Int))=true:=bne_iff_ne.mpr c3
  have aoa:(l0.length == l1.length)=false:=by first|simpa using c3|(simp at c3 ⊢;omega)
  obtain rfl:=Option.some.inj H
  go_enter Tryd.func13,Tryd.ntmps13
  go_wp2
  repeat (go_quiet (fail);try go_wp2)
  go_ret
  exact ⟨by first|rfl|(simp;done)|(simp [*];done),by repeat (first|exact aU.refl _|apply aU.step)⟩
end Go.Proofs.YtlemecdddhdagaaDoor.P
end
section
namespace Go.Proofs.YtlemecdddhdagaaDoor.P
open Go.RowKit Go.Proofs.af.bF Go.Proofs.af.dD Go.Proofs.af.dN
theorem YA:Ev (fun k=>gJ.f k) true:=Ev.of (k:=40) gJ.mono (by kernel_rfl)
theorem aeA (t:List ByteArray) (lo gl:ByteArray) (code:List iD) (ht:t.length≤9223372036854775807):∃ b,Ev (fun k=>dw.f k t lo gl code) b:=by
  have:∀ d i x3,i+d=t.length→∃ b,Ev (fun k=>dw.l0 k x3 t t.length (i:Nat) t lo gl code) b:=by
    intro d
    induction d with
    | zero =>
      intro i x3 hi
      by_cases h:x3≤500
      · refine ⟨_,Ev.step (f:=fun _=>some (decide ((code.length:Int)≤210))) (fun k=>?_) (Ev.now _)⟩
        simp only [dw.l0]
        rw [if_neg (by omega),if_pos h]
      · refine ⟨_,Ev.step (f:=fun _=>some false) (fun k=>?_) (Ev.now _)⟩
        simp only [dw.l0]
        rw [if_neg (by omega),if_neg h]
    | succ d ih =>
      intro i x3 hi
      obtain ⟨b,hb⟩:=ih (i+1) (wrap64 (x3+(wrap64 (((dZ ByteArray.empty t i).size:Int)+1)))) (by omega)
      refine ⟨b,Ev.step (fun k=>?_) hb⟩
      simp only [dw.l0]
      rw [if_pos (by omega),if_pos (by omega),if_pos (by omega),wrapN (i:=i) (n:=t.length) (by omega) ht]
  exact this t.length 0 _ (by omega)
theorem Bi {t:List ByteArray} (h:kC t=true) (i:Nat) (hi:i < t.length):1≤jG t i∧jG t i≤6:=by
  have h':=h
  unfold kC at h'
  simp only [Bool.and_eq_true,decide_eq_true_eq] at h'
  have h2:=oL.1 h'.1 i hi
  unfold uI at h2
  simp only [Bool.and_eq_true,decide_eq_true_eq] at h2
  unfold jG Pg
  rw [h,if_pos (by simp;omega)]
  omega
theorem F6 {t:List ByteArray} (h:kC t=true) (i:Nat):jG t i≤6:=by
  by_cases hi:i < t.length
  · exact (Bi h i hi).2
  · unfold jG Pg
    rw [if_neg (by simp;omega)]
    decide
theorem GN {t:List ByteArray} {lo gl:ByteArray} (h:headB t lo gl=true):kC t=true∧(∀ j,j < lo.size→0≤lG (bt lo j) t.length)∧(∀ j,j < gl.size→0≤lG (bt gl j) t.length)∧lo.size≤8∧gl.size≤4:=by
  unfold headB rJ at h
  simp only [Bool.and_eq_true,decide_eq_true_eq] at h
  obtain ⟨⟨h1,h2⟩,h3,h4⟩:=h
  have hj:∀ j,j < (lo++gl).size→0≤lG (bt (lo++gl) j) t.length:=fun j hj=>of_decide_eq_true (oL.1 h1 j hj)
  have sz:(lo++gl).size=lo.size+gl.size:=by simp
  refine ⟨h2,fun j h=>?_,fun j h=>?_,h3,h4⟩
  · have:=hj j (by omega)
    rw [show bt (lo++gl) (j:Int)=bt lo j from ?_] at this
    · exact this
    · unfold bt
      rw [dif_pos (by rw [Int.toNat_natCast];omega),dif_pos (by rw [Int.toNat_natCast];omega)]
      congr 2
      exact ByteArray.getElem_append_left _
  · have:=hj (lo.size+j) (by omega)
    rw [show bt (lo++gl) ((lo.size+j:Nat):Int)=bt gl j from ?_] at this
    · exact this
    · unfold bt
      rw [dif_pos (by rw [Int.toNat_natCast];omega),dif_pos (by rw [Int.toNat_natCast];omega)]
      congr 2
      have:(lo++gl)[lo.size+j]'(by omega)=gl[lo.size+j - lo.size]'(by omega):=ByteArray.getElem_append_right (by omega)
      show (lo++gl)[lo.size+j]'(by omega)=gl[j]'(by omega)
      rw [this]
      congr 1
      omega
theorem getD_take (l:List iD) (m i:Nat):(l.take m).getD i z55=if i < m then l.getD i z55 else z55:=by
  rw [List.getD_eq_getElem?_getD,List.getD_eq_getElem?_getD,List.getElem?_take]
  split <;> rfl
theorem TU (i:Nat):(0≤(([]:List iD).getD i z55).f1∧(([]:List iD).getD i z55).f1≤255)∧(0≤(([]:List iD).getD i z55).f2∧(([]:List iD).getD i z55).f2≤255)∧(0≤(([]:List iD).getD i z55).f3∧(([]:List iD).getD i z55).f3≤255):=by
  show (0≤z55.f1∧z55.f1≤255)∧(0≤z55.f2∧z55.f2≤255)∧(0≤z55.f3∧z55.f3≤255)
  decide
theorem Wf.take {code:List iD} (h:Wf code) (m:Nat):Wf (code.take m):=fun i=>by
  rw [getD_take]
  split
  · exact h i
  · exact TU 0
end Go.Proofs.YtlemecdddhdagaaDoor.P
end
section
namespace Go.Proofs.YtlemecdddhdagaaDoor.P
open Go.RowKit Go.Proofs.af.bF Go.Proofs.af.dD Go.Proofs.af.dN
structure Fine (t:List ByteArray) (lo gl:ByteArray) (n:Nat) (x:iD):Prop where
  op:1≤x.f0∧x.f0≤15
  jump:x.f0=3 ∨ x.f0=4→0≤x.f4∧x.f4≤n
  one:x.f0=1 ∨ x.f0=4 ∨ x.f0=14→x.f1 < 8
  add:x.f0=2→x.f1 < 8∧x.f2 < 8∧x.f3 < 8
  new:x.f0=5 ∨ x.f0=6→0≤dB t lo x.f1
  move:x.f0=7→0≤dB t lo x.f1∧dB t lo x.f1=dB t lo x.f2
  acY:x.f0=8→x.f1 < 8∧0≤dB t lo x.f2∧0≤x.f4∧x.f4 < jG t (dB t lo x.f2)
  aag:x.f0=9→x.f2 < 8∧0≤dB t lo x.f1∧0≤x.f4∧x.f4 < jG t (dB t lo x.f1)∧FQ t (dB t lo x.f1) x.f4 < 0
  acX:x.f0=10→0≤dB t lo x.f1∧0≤dB t lo x.f2∧0≤x.f4∧x.f4 < jG t (dB t lo x.f2)∧dB t lo x.f1=FQ t (dB t lo x.f2) x.f4
  aaf:x.f0=11→0≤dB t lo x.f2∧0≤dB t lo x.f1∧0≤x.f4∧x.f4 < jG t (dB t lo x.f1)∧dB t lo x.f2=FQ t (dB t lo x.f1) x.f4
  acZ:x.f0=12→0≤dB t lo x.f1∧dB t lo x.f1=dB t gl x.f2
  aah:x.f0=13→0≤dB t lo x.f2∧dB t lo x.f2=dB t gl x.f1
  same:x.f0=15→x.f1 < 8∧0≤dB t lo x.f2∧dB t lo x.f2=dB t lo x.f3
theorem sQ {a b:Int}:pO a b=true ↔ 0≤a∧a=b:=by simp [pO]
theorem KD {a:Int}:oZ [a]=true ↔ a < 8:=by
  unfold oZ
  rw [oL]
  refine ⟨fun h=>of_decide_eq_true (h 0 (by simp)),fun h j hj=>?_⟩
  obtain rfl:j=0:=by simp at hj;omega
  exact decide_eq_true h
theorem ac4 {a b c:Int}:oZ [a,b,c]=true ↔ a < 8∧b < 8∧c < 8:=by
  unfold oZ
  rw [oL]
  refine ⟨fun h=>⟨of_decide_eq_true (h 0 (by simp)),of_decide_eq_true (h 1 (by simp)),of_decide_eq_true (h 2 (by simp))⟩,fun h j hj=>?_⟩
  obtain rfl|rfl|rfl:j=0 ∨ j=1 ∨ j=2:=by simp at hj;omega
  · exact decide_eq_true h.1
  · exact decide_eq_true h.2.1
  · exact decide_eq_true h.2.2
theorem yS {t:List ByteArray} {a n:Int} (h:(nU t a n).2=true ∨ 0≤(nU t a n).1):0≤a∧0≤n∧n < jG t a∧(nU t a n).1=FQ t a n:=by
  unfold nU at h ⊢
  split
  · rename_i hc
    exact ⟨hc.1,hc.2.1,hc.2.2,rfl⟩
  · rename_i hc
    rw [if_neg hc] at h
    simp at h
theorem Yk {t:List ByteArray} {lo gl:ByteArray} {n:Nat} {x:iD} (h:oU t lo gl n x=none):Fine t lo gl n x:=by
  unfold oU at h
  split at h
  case isFalse=>cases h
  rename_i h1
  split at h
  case isTrue=>cases h
  rename_i h2
  split at h
  case isFalse=>cases h
  rename_i h3
  unfold rH at h1
  split at h1
  case isTrue=>cases h1
  rename_i q1
  split at h1
  case isTrue=>cases h1
  rename_i q2
  clear h h1
  have hk:oC t lo gl x.f0 x.f1 x.f2 x.f3 x.f4=true:=h3
  have hn:∀ {a m:Int},qy t a m=true→0≤a∧0≤m∧m < jG t a∧FQ t a m < 0:=fun {a m} hh=>by
    simp only [qy,Bool.and_eq_true,decide_eq_true_eq] at hh
    obtain ⟨y1,y2,y3,y4⟩:=yS (.inl hh.1)
    exact ⟨y1,y2,y3,y4 ▸ hh.2⟩
  refine ⟨⟨by omega,by omega⟩,fun hj=>?_,fun hj=>?_,fun hj=>?_,fun hj=>?_,fun hj=>?_,fun hj=>?_,fun hj=>?_,fun hj=>?_,fun hj=>?_,fun hj=>?_,fun hj=>?_,fun hj=>?_⟩
  · rcases hj with hj|hj <;> simp [rO,hj] at h2 <;> omega
  · rcases hj with hj|hj|hj <;> simp [oC,lX,hj] at hk <;> exact KD.1 hk
  · simp [oC,lX,hj] at hk
    exact ac4.1 hk
  · rcases hj with hj|hj <;> simp [oC,lX,nZ,hj] at hk <;> exact hk
  · simp [oC,lX,nZ,qA,hj] at hk
    exact sQ.1 hk
  · simp [oC,lX,nZ,qA,hj] at hk
    obtain ⟨y1,y2,y3,_⟩:=hn hk.2
    exact ⟨KD.1 hk.1,y1,y2,y3⟩
  · simp [oC,lX,nZ,qA,hj] at hk
    exact ⟨KD.1 hk.1,hn hk.2⟩
  · simp [oC,lX,nZ,qA,hj] at hk
    obtain ⟨y0,y⟩:=sQ.1 hk
    obtain ⟨z1,z2,z3,z4⟩:=yS (.inr (y ▸ y0))
    exact ⟨y0,z1,z2,z3,y.trans z4⟩
  · simp [oC,lX,nZ,qA,hj] at hk
    obtain ⟨y0,y⟩:=sQ.1 hk
    obtain ⟨z1,z2,z3,z4⟩:=yS (.inr (y ▸ y0))
    exact ⟨y0,z1,z2,z3,y.trans z4⟩
  · simp [oC,lX,nZ,qA,hj] at hk
    exact sQ.1 hk
  · simp [oC,lX,nZ,qA,hj] at hk
    exact sQ.1 hk
  · simp [oC,lX,nZ,qA,hj] at hk
    exact ⟨KD.1 hk.1,sQ.1 hk.2⟩
def FM (ty:List Int) (v τ:Int):Prop:=v=0 ∨ (1≤v∧v≤ty.length∧ty.getD (v - 1).toNat (-1)=τ)
theorem FM.more {ty:List Int} {v τ σ:Int} (h:FM ty v τ):FM (ty++[σ]) v τ:=by
  rcases h with h|⟨h1,h2,h3⟩
  · exact .inl h
  · refine .inr ⟨h1,by simp;omega,?_⟩
    rw [List.getD_eq_getElem?_getD,List.getElem?_append_left (by omega),← List.getD_eq_getElem?_getD]
    exact h3
structure Inv (t:List ByteArray) (lo gl:ByteArray) (n:Nat) (s:St) (ty:List Int):Prop where
  len:ty.length=s.aT.length
  size:∀ j:Nat,j < ty.length→((s.aT.getD j []).length:Int)=jG t (ty.getD j (-1))
  obj:∀ j f:Nat,j < ty.length→0≤FQ t (ty.getD j (-1)) f→FM ty (rd (s.aT.getD j []) f) (FQ t (ty.getD j (-1)) f)
  p:∀ a:Nat,0≤dB t lo a→FM ty (s.p a) (dB t lo a)
  g:∀ a:Nat,0≤dB t gl a→FM ty (s.g a) (dB t gl a)
  few:s.aT.length≤n∧s.out.length≤n
section
variable {t:List ByteArray} {lo gl:ByteArray} {n:Nat} {s:St} {ty:List Int}
theorem inv0:Inv t lo gl 0 Ea [] :=
  ⟨rfl,fun j hj=>absurd hj (by simp),fun j f hj=>absurd hj (by simp),fun _ _=>.inl rfl,fun _ _=>.inl rfl,Nat.le_refl _,Nat.le_refl _⟩
theorem Inv.as {s':St} (h:Inv t lo gl n s ty) (e1:s'.aT=s.aT) (e2:s'.p=s.p) (e3:s'.g=s.g) (e4:s'.out.length≤n+1):Inv t lo gl (n+1) s' ty:=by
  refine ⟨by rw [e1];exact h.len,by rw [e1];exact h.size,by rw [e1];exact h.obj,by rw [e2];exact h.p,by rw [e3];exact h.g,by rw [e1];have:=h.few.1;omega,e4⟩
theorem Inv.Uh {s':St} (h:Inv t lo gl n s ty) (a:Nat) (v:Int) (e1:s'.aT=s.aT) (e2:s'.p=upd s.p a v) (e3:s'.g=s.g) (e4:s'.out=s.out) (hv:FM ty v (dB t lo a)):Inv t lo gl (n+1) s' ty:=by
  refine ⟨by rw [e1];exact h.len,by rw [e1];exact h.size,by rw [e1];exact h.obj,fun b hb=>?_,by rw [e3];exact h.g,by rw [e1];have:=h.few.1;omega,by rw [e4];have:=h.few.2;omega⟩
  rw [e2]
  unfold upd
  split
  · rename_i hba
    rw [hba]
    exact hv
  · exact h.p b hb
theorem Inv.amQ {s':St} (h:Inv t lo gl n s ty) (a:Nat) (v:Int) (e1:s'.aT=s.aT) (e2:s'.p=s.p) (e3:s'.g=upd s.g a v) (e4:s'.out=s.out) (hv:FM ty v (dB t gl a)):Inv t lo gl (n+1) s' ty:=by
  refine ⟨by rw [e1];exact h.len,by rw [e1];exact h.size,by rw [e1];exact h.obj,by rw [e2];exact h.p,fun b hb=>?_,by rw [e1];have:=h.few.1;omega,by rw [e4];have:=h.few.2;omega⟩
  rw [e3]
  unfold upd
  split
  · rename_i hba
    rw [hba]
    exact hv
  · exact h.g b hb
theorem Inv.acH {s':St} (h:Inv t lo gl n s ty) (o:Nat) (m:Nat) (v:Int) (ho:o < ty.length) (hm:(m:Int) < jG t (ty.getD o (-1))) (e1:s'.aT=s.aT.set o ((s.aT.getD o []).set m v)) (e2:s'.p=s.p) (e3:s'.g=s.g) (e4:s'.out=s.out)
    (hv:0≤FQ t (ty.getD o (-1)) m→FM ty v (FQ t (ty.getD o (-1)) m)):Inv t lo gl (n+1) s' ty:=by
  have hlen:=h.len
  have hrow:∀ j,s'.aT.getD j []=if j=o then (s.aT.getD o []).set m v else s.aT.getD j []:=fun j=>by
    rw [e1,List.getD_eq_getElem?_getD,List.getElem?_set]
    split
    · rename_i hoj
      rw [if_pos hoj.symm,if_pos (by omega)]
      rfl
    · rename_i hoj
      rw [if_neg (fun he=>hoj he.symm),← List.getD_eq_getElem?_getD]
  refine ⟨by rw [e1,List.length_set];exact h.len,fun j hj=>?_,fun j f hj hf=>?_,by rw [e2];exact h.p,by rw [e3];exact h.g,by rw [e1,List.length_set];have:=h.few.1;omega,by rw [e4];have:=h.few.2;omega⟩
  · rw [hrow]
    split
    · rename_i hjo
      rw [List.length_set,hjo]
      exact h.size o ho
    · exact h.size j hj
  · rw [hrow]
    split
    · rename_i hjo
      rw [hjo] at hf ⊢
      have hs:=h.size o ho
      unfold rd
      rw [Int.toNat_natCast,List.getD_eq_getElem?_getD,List.getElem?_set]
      split
      · rename_i hmf
        rw [← hmf] at hf ⊢
        rw [if_pos (by omega)]
        exact hv hf
      · have:=h.obj o f ho hf
        unfold rd at this
        rw [Int.toNat_natCast,List.getD_eq_getElem?_getD] at this
        exact this
    · exact h.obj j f hj hf
theorem Inv.new {s':St} (h:Inv t lo gl n s ty) (a:Nat) (τ:Int) (hτ:dB t lo a=τ) (e1:s'.aT=s.aT++[List.replicate (jG t τ).toNat 0]) (hz:0≤jG t τ) (e2:s'.p=upd s.p a ((s.aT.length:Int)+1)) (e3:s'.g=s.g) (e4:s'.out=s.out):Inv t lo gl (n+1) s' (ty++[τ]):=by
  have hlen:=h.len
  have hl:(ty++[τ]).length=ty.length+1:=by simp
  have hty:∀ j,j < ty.length→(ty++[τ]).getD j (-1)=ty.getD j (-1):=fun j hj=>by
    rw [List.getD_eq_getElem?_getD,List.getElem?_append_left hj,← List.getD_eq_getElem?_getD]
  have ac7:(ty++[τ]).getD ty.length (-1)=τ:=by
    rw [List.getD_eq_getElem?_getD,List.getElem?_append_right (Nat.le_refl _)]
    simp
  have hob:∀ j,j < ty.length→s'.aT.getD j []=s.aT.getD j []:=fun j hj=>by
    rw [e1,List.getD_eq_getElem?_getD,List.getElem?_append_left (by omega),← List.getD_eq_getElem?_getD]
  have adf:s'.aT.getD ty.length []=List.replicate (jG t τ).toNat 0:=by
    rw [e1,hlen,List.getD_eq_getElem?_getD,List.getElem?_append_right (Nat.le_refl _)]
    simp
  have hr0:∀ (m:Nat) (i:Int),rd (List.replicate m (0:Int)) i=0:=fun m i=>by
    unfold rd
    rw [List.getD_eq_getElem?_getD,List.getElem?_replicate]
    split <;> rfl
  refine ⟨by rw [e1];simp [hlen],fun j hj=>?_,fun j f hj hf=>?_,fun b hb=>?_,fun b hb=>?_,by rw [e1];have:=h.few.1;simp;omega,by rw [e4];have:=h.few.2;omega⟩
  · by_cases hj2:j < ty.length
    · rw [hty j hj2,hob j hj2]
      exact h.size j hj2
    · obtain rfl:j=ty.length:=by omega
      rw [ac7,adf,List.length_replicate]
      omega
  · by_cases hj2:j < ty.length
    · rw [hty j hj2] at hf ⊢
      rw [hob j hj2]
      exact (h.obj j f hj2 hf).more
    · obtain rfl:j=ty.length:=by omega
      rw [adf,hr0]
      exact .inl rfl
  · rw [e2]
    unfold upd
    split
    · rename_i hba
      rw [hba,hτ]
      refine .inr ⟨by omega,by rw [hl,hlen];omega,?_⟩
      rw [show ((s.aT.length:Int)+1 - 1).toNat=ty.length by rw [hlen];omega]
      exact ac7
    · exact (h.p b hb).more
  · rw [e3]
    exact (h.g b hb).more
end
end Go.Proofs.YtlemecdddhdagaaDoor.P
end
