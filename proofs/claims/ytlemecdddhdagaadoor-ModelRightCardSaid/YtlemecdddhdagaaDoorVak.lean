/- Parts of the proof of ModelRight: what the functions that it reaches compute, and plain facts about that. -/
import Derived.Test.YtlemecdddhdagaaDoorVab
import Derived.Test.YtlemecdddhdagaaDoorVag
import Derived.Test.YtlemecdddhdagaaDoorVaj
import Derived.Test.YtlemecdddhdagaaDoorVah
set_option linter.unusedVariables false
set_option linter.unusedSimpArgs false
section
namespace Go.Proofs.YtlemecdddhdagaaDoor.P
open Go.RowKit Go.Proofs.ag.bI Go.Proofs.ag.dM Go.Proofs.ag.dZ
attribute [local go_sem] kU kS lW lV jS jR kT kR
def gX.f (k:Nat) :Option (Bool):=(some (([(⟨#[105]⟩:ByteArray)]:List ByteArray):List ByteArray)).bind fun y167=>((some (([(⟨1,0,0,0,5⟩:gZ),(⟨5,0,0,0,0⟩:gZ),(⟨9,0,0,0,0⟩:gZ),(⟨8,1,0,0,0⟩:gZ),(⟨14,1,0,0,0⟩:gZ)]:List (gZ)):List (gZ))).bind fun ig=>((gB.f k y167 (⟨#[48]⟩:ByteArray) (⟨#[]⟩:ByteArray) ig 5).bind fun oM=>((gB.f k y167 (⟨#[48]⟩:ByteArray) (⟨#[]⟩:ByteArray) ig 4).bind fun xw=>(if 1 < (ig.length:Int) then ((gB.f k y167 (⟨#[48]⟩:ByteArray) (⟨#[]⟩:ByteArray) (ig.set (1:Int).toNat (⟨6,(aA ig 1).f1,(aA ig 1).f2,(aA ig 1).f3,(aA ig 1).f4⟩:gZ)) 9).bind fun rO=>(if (oM.1.length:Int)=1 then (if 0 < (oM.1.length:Int) then (if (rd oM.1 0)=5 then (if oM.2=0 then (if xw.2=10 then (some (rO.2 == 9)) else (some false)) else (some false)) else (some false)) else (none)) else (some false))) else (none)))))
theorem PO {α:Type} {g:Nat→Option α} {a b:α} (hg:∀ k,dN (g k) (g (k+1))) {k k':Nat} (h:g k=some a) (h':g k'=some b):a=b:=by
 obtain ⟨K,hK⟩:=Ev.of hg h
 obtain ⟨K',hK'⟩:=Ev.of hg h'
 exact Option.some.inj ((hK (max K K') (Nat.le_max_left _ _)).symm.trans (hK' _ (Nat.le_max_right _ _)))
theorem Ht {k:Nat} {a:List Int} {e:Int} {y:List ByteArray} {z:List (gZ)} (hy:y=([(⟨#[105]⟩:ByteArray)]:List ByteArray)) (hz:z=([(⟨1,0,0,0,5⟩:gZ),(⟨5,0,0,0,0⟩:gZ),(⟨9,0,0,0,0⟩:gZ),(⟨8,1,0,0,0⟩:gZ),(⟨14,1,0,0,0⟩:gZ)]:List (gZ))) (h:gB.f k y (⟨#[48]⟩:ByteArray) (⟨#[]⟩:ByteArray) z 5=some (a,e)):a=[5]∧e=0:=by
 subst hy hz
 have F:gB.f 40 ([(⟨#[105]⟩:ByteArray)]:List ByteArray) (⟨#[48]⟩:ByteArray) (⟨#[]⟩:ByteArray) ([(⟨1,0,0,0,5⟩:gZ),(⟨5,0,0,0,0⟩:gZ),(⟨9,0,0,0,0⟩:gZ),(⟨8,1,0,0,0⟩:gZ),(⟨14,1,0,0,0⟩:gZ)]:List (gZ)) 5=some ([5],0):=by kernel_rfl
 have:=PO (fun q=>gB.mono _ _ _ _ _ q) h F
 exact ⟨congrArg Prod.fst this,congrArg Prod.snd this⟩
theorem ZE {k:Nat} {a:List Int} {e:Int} {y:List ByteArray} {z:List (gZ)} (hy:y=([(⟨#[105]⟩:ByteArray)]:List ByteArray)) (hz:z=([(⟨1,0,0,0,5⟩:gZ),(⟨5,0,0,0,0⟩:gZ),(⟨9,0,0,0,0⟩:gZ),(⟨8,1,0,0,0⟩:gZ),(⟨14,1,0,0,0⟩:gZ)]:List (gZ))) (h:gB.f k y (⟨#[48]⟩:ByteArray) (⟨#[]⟩:ByteArray) z 4=some (a,e)):e=10:=by
 subst hy hz
 have F:gB.f 40 ([(⟨#[105]⟩:ByteArray)]:List ByteArray) (⟨#[48]⟩:ByteArray) (⟨#[]⟩:ByteArray) ([(⟨1,0,0,0,5⟩:gZ),(⟨5,0,0,0,0⟩:gZ),(⟨9,0,0,0,0⟩:gZ),(⟨8,1,0,0,0⟩:gZ),(⟨14,1,0,0,0⟩:gZ)]:List (gZ)) 4=some ([],10):=by kernel_rfl
 exact congrArg Prod.snd (PO (fun q=>gB.mono _ _ _ _ _ q) h F)
theorem gX.mono:∀ k,dN (gX.f k ) (gX.f (k+1) ):=by
 intro  k
 unfold gX.f
 repeat' with_reducible first|apply gB.mono|exact dN.refl _|exact dN.none _|refine dN.ite ?_ ?_|refine dN.bind ?_ (fun _=>?_)
set_option maxHeartbeats 8000000 in
set_option maxRecDepth 100000 in
theorem gX.calls (k:Nat)  (r:Bool) (w:World) (kZ:Kd.C Kd.string w qx ku.length ku) (h:gX.f k =some r) :
  Calls Tryd.prog 10 #[] w fun e w'=>e=.returned (.bool r)∧Below w.heap.size w w':=by
 have Bi:=Tryd.underlying55
 have xM:=Tryd.underlying25
 have wJ:=ae.mk kZ
 clear kZ
 have HB:=ae.mk (Below.refl w.heap.size w)
 have H:((some (([(⟨#[105]⟩:ByteArray)]:List ByteArray):List ByteArray)).bind fun y167=>((some (([(⟨1,0,0,0,5⟩:gZ),(⟨5,0,0,0,0⟩:gZ),(⟨9,0,0,0,0⟩:gZ),(⟨8,1,0,0,0⟩:gZ),(⟨14,1,0,0,0⟩:gZ)]:List (gZ)):List (gZ))).bind fun ig=>((gB.f k y167 (⟨#[48]⟩:ByteArray) (⟨#[]⟩:ByteArray) ig 5).bind fun oM=>((gB.f k y167 (⟨#[48]⟩:ByteArray) (⟨#[]⟩:ByteArray) ig 4).bind fun xw=>(if 1 < (ig.length:Int) then ((gB.f k y167 (⟨#[48]⟩:ByteArray) (⟨#[]⟩:ByteArray) (ig.set (1:Int).toNat (⟨6,(aA ig 1).f1,(aA ig 1).f2,(aA ig 1).f3,(aA ig 1).f4⟩:gZ)) 9).bind fun rO=>(if (oM.1.length:Int)=1 then (if 0 < (oM.1.length:Int) then (if (rd oM.1 0)=5 then (if oM.2=0 then (if xw.2=10 then (some (rO.2 == 9)) else (some false)) else (some false)) else (some false)) else (none)) else (some false))) else (none))))))=some r:=h
 clear h
 obtain ⟨y167,hy167⟩:∃ y_:List ByteArray,y_=(([(⟨#[105]⟩:ByteArray)]:List ByteArray)):=⟨_,rfl⟩
 replace H:((some (([(⟨1,0,0,0,5⟩:gZ),(⟨5,0,0,0,0⟩:gZ),(⟨9,0,0,0,0⟩:gZ),(⟨8,1,0,0,0⟩:gZ),(⟨14,1,0,0,0⟩:gZ)]:List (gZ)):List (gZ))).bind fun ig=>((gB.f k y167 (⟨#[48]⟩:ByteArray) (⟨#[]⟩:ByteArray) ig 5).bind fun oM=>((gB.f k y167 (⟨#[48]⟩:ByteArray) (⟨#[]⟩:ByteArray) ig 4).bind fun xw=>(if 1 < (ig.length:Int) then ((gB.f k y167 (⟨#[48]⟩:ByteArray) (⟨#[]⟩:ByteArray) (ig.set (1:Int).toNat (⟨6,(aA ig 1).f1,(aA ig 1).f2,(aA ig 1).f3,(aA ig 1).f4⟩:gZ)) 9).bind fun rO=>(if (oM.1.length:Int)=1 then (if 0 < (oM.1.length:Int) then (if (rd oM.1 0)=5 then (if oM.2=0 then (if xw.2=10 then (some (rO.2 == 9)) else (some false)) else (some false)) else (some false)) else (none)) else (some false))) else (none)))))=some r:=by first|(rw [hy167];with_reducible exact H)|(have tJ:=(Option.bind_some _ _).symm.trans H;rw [hy167];with_reducible exact tJ)|(have tJ:=(Option.bind_some _ _).symm.trans H;with_reducible exact tJ)|with_reducible exact H|(rw [hy167];exact H)|exact H
 have CP:=ae.mk hy167
 clear hy167
 obtain ⟨ig,EO⟩:∃ y_:List (gZ),y_=(([(⟨1,0,0,0,5⟩:gZ),(⟨5,0,0,0,0⟩:gZ),(⟨9,0,0,0,0⟩:gZ),(⟨8,1,0,0,0⟩:gZ),(⟨14,1,0,0,0⟩:gZ)]:List (gZ))):=⟨_,rfl⟩
 replace H:((gB.f k y167 (⟨#[48]⟩:ByteArray) (⟨#[]⟩:ByteArray) ig 5).bind fun oM=>((gB.f k y167 (⟨#[48]⟩:ByteArray) (⟨#[]⟩:ByteArray) ig 4).bind fun xw=>(if 1 < (ig.length:Int) then ((gB.f k y167 (⟨#[48]⟩:ByteArray) (⟨#[]⟩:ByteArray) (ig.set (1:Int).toNat (⟨6,(aA ig 1).f1,(aA ig 1).f2,(aA ig 1).f3,(aA ig 1).f4⟩:gZ)) 9).bind fun rO=>(if (oM.1.length:Int)=1 then (if 0 < (oM.1.length:Int) then (if (rd oM.1 0)=5 then (if oM.2=0 then (if xw.2=10 then (some (rO.2 == 9)) else (some false)) else (some false)) else (some false)) else (none)) else (some false))) else (none))))=some r:=by first|(rw [EO];with_reducible exact H)|(have tJ:=(Option.bind_some _ _).symm.trans H;rw [EO];with_reducible exact tJ)|(have tJ:=(Option.bind_some _ _).symm.trans H;with_reducible exact tJ)|with_reducible exact H|(rw [EO];exact H)|exact H
 have CO:=ae.mk EO
 clear EO
 replace H:=Option.bind_eq_some_iff.mp H
 obtain ⟨⟨t174,t177⟩,X6,H⟩:=H
 replace H:((gB.f k y167 (⟨#[48]⟩:ByteArray) (⟨#[]⟩:ByteArray) ig 4).bind fun xw=>(if 1 < (ig.length:Int) then ((gB.f k y167 (⟨#[48]⟩:ByteArray) (⟨#[]⟩:ByteArray) (ig.set (1:Int).toNat (⟨6,(aA ig 1).f1,(aA ig 1).f2,(aA ig 1).f3,(aA ig 1).f4⟩:gZ)) 9).bind fun rO=>(if (t174.length:Int)=1 then (if 0 < (t174.length:Int) then (if (rd t174 0)=5 then (if t177=0 then (if xw.2=10 then (some (rO.2 == 9)) else (some false)) else (some false)) else (some false)) else (none)) else (some false))) else (none)))=some r:=H
 have A1:=ae.mk X6
 clear X6
 replace H:=Option.bind_eq_some_iff.mp H
 obtain ⟨⟨t178,t181⟩,Qy,H⟩:=H
 replace H:(if 1 < (ig.length:Int) then ((gB.f k y167 (⟨#[48]⟩:ByteArray) (⟨#[]⟩:ByteArray) (ig.set (1:Int).toNat (⟨6,(aA ig 1).f1,(aA ig 1).f2,(aA ig 1).f3,(aA ig 1).f4⟩:gZ)) 9).bind fun rO=>(if (t174.length:Int)=1 then (if 0 < (t174.length:Int) then (if (rd t174 0)=5 then (if t177=0 then (if t181=10 then (some (rO.2 == 9)) else (some false)) else (some false)) else (some false)) else (none)) else (some false))) else (none))=some r:=H
 have A2:=ae.mk Qy
 clear Qy
 by_cases c3:1 < (ig.length:Int)
 ·
  rw [if_pos c3] at H
  have nN:decide (1 < (ig.length:Int))=true:=decide_eq_true c3
  have yI:decide (1 < ig.length)=true:=decide_eq_true (by omega)
  clear c3
  obtain ⟨Lr,EN⟩:∃ y_:List (gZ),y_=(ig.set (1:Int).toNat (⟨6,(aA ig 1).f1,(aA ig 1).f2,(aA ig 1).f3,(aA ig 1).f4⟩:gZ)):=⟨_,rfl⟩
  replace H:((gB.f k y167 (⟨#[48]⟩:ByteArray) (⟨#[]⟩:ByteArray) Lr 9).bind fun rO=>(if (t174.length:Int)=1 then (if 0 < (t174.length:Int) then (if (rd t174 0)=5 then (if t177=0 then (if t181=10 then (some (rO.2 == 9)) else (some false)) else (some false)) else (some false)) else (none)) else (some false)))=some r:=by first|(rw [EN];with_reducible exact H)|(have tJ:=(Option.bind_some _ _).symm.trans H;rw [EN];with_reducible exact tJ)|(have tJ:=(Option.bind_some _ _).symm.trans H;with_reducible exact tJ)|with_reducible exact H|(rw [EN];exact H)|exact H
  have adu:=ae.mk EN
  clear EN
  replace H:=Option.bind_eq_some_iff.mp H
  obtain ⟨⟨t183,t186⟩,A50,H⟩:=H
  replace H:(if (t174.length:Int)=1 then (if 0 < (t174.length:Int) then (if (rd t174 0)=5 then (if t177=0 then (if t181=10 then (some (t186 == 9)) else (some false)) else (some false)) else (some false)) else (none)) else (some false))=some r:=H
  have A5:=ae.mk A50
  clear A50
  by_cases c6:(t174.length:Int)=1
  ·
   rw [if_pos c6] at H
   have nR:((t174.length:Int) == 1)=true:=beq_iff_eq.mpr c6
   have xP:((t174.length:Int) != 1)=false:=bne_eq_false_iff_eq.mpr c6
   clear c6
   by_cases c7:0 < (t174.length:Int)
   ·
    rw [if_pos c7] at H
    have nV:decide (0 < (t174.length:Int))=true:=decide_eq_true c7
    have xn:decide (0 < t174.length)=true:=decide_eq_true (by omega)
    clear c7
    by_cases c8:(rd t174 0)=5
    ·
     rw [if_pos c8] at H
     have oU:((rd t174 0) == 5)=true:=beq_iff_eq.mpr c8
     have yH:((rd t174 0) != 5)=false:=bne_eq_false_iff_eq.mpr c8
     clear c8
     by_cases c9:t177=0
     ·
      rw [if_pos c9] at H
      have Eb:(t177 == 0)=true:=beq_iff_eq.mpr c9
      have WB:(t177 != 0)=false:=bne_eq_false_iff_eq.mpr c9
      clear c9
      by_cases c10:t181=10
      ·
       rw [if_pos c10] at H
       have oW:(t181 == 10)=true:=beq_iff_eq.mpr c10
       have KO:(t181 != 10)=false:=bne_eq_false_iff_eq.mpr c10
       clear c10
       obtain rfl:=Option.some.inj H
       go_enter Tryd.func10,Tryd.ntmps10
       go_wp2_with (first|((with_reducible refine dL (N:=8) rfl ?_);refine Kd.uC Kd.string _ 9 ?hg (N:=8) ?hd (xs:=([(⟨#[105]⟩:ByteArray)]:List ByteArray)) (inner:=[.string (⟨#[105]⟩:ByteArray)]) (ok:=fun _=>True) (pM:=fun _=>True) ?hr ?hp (fun _ hk=>hk) trivial (Below.refl _ _) (Nat.le_refl _) (by simp) ?_;(case hd=>rfl);(case hg=>rfl);(case hr=>first|(go_simp;done)|(go_simp;rfl));(case hp=>exact (jk.one (show Kd.M Kd.string _ _ _ (⟨#[105]⟩:ByteArray) [.string (⟨#[105]⟩:ByteArray)] from rfl) (jk.none _ _)));intro v168 w11 OJ hb Bj nP;clear Bj nP;(first|rw [← CP.out] at OJ|(simp only [Int.reduceToNat] at OJ;rw [← CP.out] at OJ));have dV:=ae.mk (Kd.jh OJ (bW (by repeat (first|(with_reducible first|exact HB.out|apply ah|apply af|apply ai)|exact HB.out))));have dU:=ae.mk (bg (by repeat (first|(with_reducible first|exact HB.out|apply ah|apply af|apply ai)|exact HB.out)) hb);clear HB;have mf:=dV;have HB:=dU;clear dV dU;clear hb OJ)|((with_reducible refine dL (N:=14) rfl ?_);refine Kd.uC tZ _ 55 ?hg (N:=14) ?hd (xs:=([(⟨1,0,0,0,5⟩:gZ),(⟨5,0,0,0,0⟩:gZ),(⟨9,0,0,0,0⟩:gZ),(⟨8,1,0,0,0⟩:gZ),(⟨14,1,0,0,0⟩:gZ)]:List (gZ))) (inner:=[.int .u8 1,.int .u8 0,.int .u8 0,.int .u8 0,.int .i64 5,.int .u8 5,.int .u8 0,.int .u8 0,.int .u8 0,.int .i64 0,.int .u8 9,.int .u8 0,.int .u8 0,.int .u8 0,.int .i64 0,.int .u8 8,.int .u8 1,.int .u8 0,.int .u8 0,.int .i64 0,.int .u8 14,.int .u8 1,.int .u8 0,.int .u8 0,.int .i64 0]) (ok:=fun _=>True) (pM:=fun _=>True) ?hr ?hp (fun _ hk=>hk) trivial (Below.refl _ _) (Nat.le_refl _) (by simp) ?_;(case hd=>rfl);(case hg=>rfl);(case hr=>first|(go_simp;done)|(go_simp;rfl));(case hp=>exact (jk.c5 (show Kd.M tZ _ _ _ (⟨1,0,0,0,5⟩:gZ) [.int .u8 1,.int .u8 0,.int .u8 0,.int .u8 0,.int .i64 5] from (uS _ _ _ (⟨1,0,0,0,5⟩:gZ) )) (jk.c5 (show Kd.M tZ _ _ _ (⟨5,0,0,0,0⟩:gZ) [.int .u8 5,.int .u8 0,.int .u8 0,.int .u8 0,.int .i64 0] from (uS _ _ _ (⟨5,0,0,0,0⟩:gZ) )) (jk.c5 (show Kd.M tZ _ _ _ (⟨9,0,0,0,0⟩:gZ) [.int .u8 9,.int .u8 0,.int .u8 0,.int .u8 0,.int .i64 0] from (uS _ _ _ (⟨9,0,0,0,0⟩:gZ) )) (jk.c5 (show Kd.M tZ _ _ _ (⟨8,1,0,0,0⟩:gZ) [.int .u8 8,.int .u8 1,.int .u8 0,.int .u8 0,.int .i64 0] from (uS _ _ _ (⟨8,1,0,0,0⟩:gZ) )) (jk.c5 (show Kd.M tZ _ _ _ (⟨14,1,0,0,0⟩:gZ) [.int .u8 14,.int .u8 1,.int .u8 0,.int .u8 0,.int .i64 0] from (uS _ _ _ (⟨14,1,0,0,0⟩:gZ) )) (jk.none _ _)))))));intro v171 Yb OI hb Bj nP;clear Bj nP;(first|rw [← CO.out] at OI|(simp only [Int.reduceToNat] at OI;rw [← CO.out] at OI));have dV:=ae.mk (Kd.ja (by (with_reducible repeat (first|apply Kd.iy|apply Kd.iw|apply Kd.jc));exact mf.out) hb);have dU:=ae.mk (Kd.jh OI (bW (by repeat (first|(with_reducible first|exact HB.out|apply ah|apply af|apply ai)|exact HB.out))));have dR:=ae.mk (bg (by repeat (first|(with_reducible first|exact HB.out|apply ah|apply af|apply ai)|exact HB.out)) hb);clear mf;clear HB;have mf:=dV;have kM:=dU;have HB:=dR;clear dV dU dR;clear hb OI;obtain ⟨BB,rM,ak7⟩:=Kd.jr kM.out;subst ak7;obtain ⟨uG,tX,ak6⟩:=Kd.jr mf.out;subst ak6)|((with_reducible refine dL (N:=1) rfl ?_);refine fF ?hg (N:=1) ?hd (cs:=#[.slice none 0 0,.string (⟨#[]⟩:ByteArray),.string (⟨#[]⟩:ByteArray),.slice none 0 0]) (t:=25) ?hr ?_;(case hd=>rfl);(case hg=>rfl);(case hr=>first|(go_simp;done)|(go_simp;rfl));intro jP hg w17 hbox hb;have dV:=ae.mk (Kd.ja (by (with_reducible repeat (first|apply Kd.iy|apply Kd.iw|apply Kd.jc));exact mf.out) hb);have dU:=ae.mk (Kd.ja (by (with_reducible repeat (first|apply Kd.iy|apply Kd.iw|apply Kd.jc));exact kM.out) hb);have dR:=ae.mk (bg (by repeat (first|(with_reducible first|exact HB.out|apply ah|apply af|apply ai)|exact HB.out)) hb);have gQ:=ae.mk (hbox);have lQ:=ae.mk ((by rw [hg];exact (bW (by repeat (first|(with_reducible first|exact HB.out|apply ah|apply af|apply ai)|exact HB.out))):w.heap.size≤jP));have mr:=lQ;clear mf;clear kM;clear HB;have mf:=dV;have kM:=dU;have HB:=dR;have iV:=gQ;have anV:=lQ;have yz:=mr;clear dV dU dR gQ lQ mr;clear hb hbox hg;have Kz:w17.cell? ⟨jP,0,none⟩=some (.slice none 0 0):=(ax iV.out 0).trans rfl;have Ky:w17.cell? ⟨jP,1,none⟩=some (.string (⟨#[]⟩:ByteArray)):=(ax iV.out 1).trans rfl;have Kw:w17.cell? ⟨jP,2,none⟩=some (.string (⟨#[]⟩:ByteArray)):=(ax iV.out 2).trans rfl;have Kv:w17.cell? ⟨jP,3,none⟩=some (.slice none 0 0):=(ax iV.out 3).trans rfl;have JE:=aC iV.out 0;have JD:=aC iV.out 1;have JC:=aC iV.out 2;have JB:=aC iV.out 3)|((with_reducible refine bu (f:=12) rfl ?_);refine dS (some 18) rfl rfl Tryd.func12 (by kernel_rfl) rfl #[.agg #[.slice uG y167.length tX,.string (⟨#[48]⟩:ByteArray),.string (⟨#[]⟩:ByteArray),.slice BB ig.length rM],.int .i64 5] rfl (by (try simp only [List.map_toArray,List.map_cons,List.map_nil]);first|done|rfl|(simp only [List.length_drop,List.length_take];rfl)) ?_;(with_reducible refine (gB.calls k _ _ y167 (⟨#[48]⟩:ByteArray) (⟨#[]⟩:ByteArray) _ _ ig 5 t174 t177 _ ?cu ?dw ?iM ?iL ?Ew A1.out).mono ?_);(case cu=>refine (Kd.eG (e:=9) (base:=w.heap.size) (ok:=fun k_=>True) (n:=y167.length) (c:=tX) ?_).2.2;exact (by (with_reducible repeat (first|apply Kd.iy|apply Kd.iw|apply Kd.jc));exact (Kd.jO (Kd.qo (p:=⟨jP,3,none⟩) (Kd.qo (p:=⟨jP,2,none⟩) (Kd.qo (p:=⟨jP,1,none⟩) (Kd.qo (p:=⟨jP,0,none⟩) (Kd.tH mf.out iV.out (by decide)) (fun _ hk=>hk.2) (.slice uG y167.length tX)) (fun _ hk=>hk.2) (.string (⟨#[48]⟩:ByteArray))) (fun _ hk=>hk.2) (.string (⟨#[]⟩:ByteArray))) (fun _ hk=>hk.2) (.slice BB ig.length rM)) (fun _ h_=>h_.1))));(case dw=>exact (Kd.eG mf.out).2.1);(case iM=>refine (Kd.eG (e:=55) (base:=w.heap.size) (ok:=fun k_=>True) (n:=ig.length) (c:=rM) ?_).2.2;exact (by (with_reducible repeat (first|apply Kd.iy|apply Kd.iw|apply Kd.jc));exact (Kd.jO (Kd.qo (p:=⟨jP,3,none⟩) (Kd.qo (p:=⟨jP,2,none⟩) (Kd.qo (p:=⟨jP,1,none⟩) (Kd.qo (p:=⟨jP,0,none⟩) (Kd.tH kM.out iV.out (by decide)) (fun _ hk=>hk.2) (.slice uG y167.length tX)) (fun _ hk=>hk.2) (.string (⟨#[48]⟩:ByteArray))) (fun _ hk=>hk.2) (.string (⟨#[]⟩:ByteArray))) (fun _ hk=>hk.2) (.slice BB ig.length rM)) (fun _ h_=>h_.1))));(case iL=>exact (Kd.eG kM.out).2.1);(case Ew=>exact Kd.bK wJ.out (by repeat (first|(with_reducible first|exact HB.out|apply ah|apply af|apply ai|refine aj ?_ yz.out)|exact HB.out)));rintro e w19 ⟨v175,rfl,ho0,hb⟩;refine ⟨_,rfl,?_⟩;have dV:=ae.mk (Kd.ja (by (with_reducible repeat (first|apply Kd.iy|apply Kd.iw|apply Kd.jc));exact (Kd.jO (Kd.qo (p:=⟨jP,3,none⟩) (Kd.qo (p:=⟨jP,2,none⟩) (Kd.qo (p:=⟨jP,1,none⟩) (Kd.qo (p:=⟨jP,0,none⟩) (Kd.tH mf.out iV.out (by decide)) (fun _ hk=>hk.2) (.slice uG y167.length tX)) (fun _ hk=>hk.2) (.string (⟨#[48]⟩:ByteArray))) (fun _ hk=>hk.2) (.string (⟨#[]⟩:ByteArray))) (fun _ hk=>hk.2) (.slice BB ig.length rM)) (fun _ h_=>h_.1))) hb);have dU:=ae.mk (Kd.ja (by (with_reducible repeat (first|apply Kd.iy|apply Kd.iw|apply Kd.jc));exact (Kd.jO (Kd.qo (p:=⟨jP,3,none⟩) (Kd.qo (p:=⟨jP,2,none⟩) (Kd.qo (p:=⟨jP,1,none⟩) (Kd.qo (p:=⟨jP,0,none⟩) (Kd.tH kM.out iV.out (by decide)) (fun _ hk=>hk.2) (.slice uG y167.length tX)) (fun _ hk=>hk.2) (.string (⟨#[48]⟩:ByteArray))) (fun _ hk=>hk.2) (.string (⟨#[]⟩:ByteArray))) (fun _ hk=>hk.2) (.slice BB ig.length rM)) (fun _ h_=>h_.1))) hb);have dR:=ae.mk (Kd.jh ho0 (bW (by repeat (first|(with_reducible first|exact HB.out|apply ah|apply af|apply ai|refine aj ?_ yz.out)|exact HB.out))));have gQ:=ae.mk (bf (g:=jP) (o:=.cells #[.slice uG y167.length tX,.string (⟨#[48]⟩:ByteArray),.string (⟨#[]⟩:ByteArray),.slice BB ig.length rM] 25 (0,0)) (by (with_reducible repeat (first|refine au ?_ _|refine ay ?_|refine ak ?_ _));refine dP (cs:=#[.slice uG y167.length tX,.string (⟨#[48]⟩:ByteArray),.string (⟨#[]⟩:ByteArray),.slice none 0 0]) ?_ 3 _ rfl;(with_reducible repeat (first|refine au ?_ _|refine ay ?_|refine ak ?_ _));refine dP (cs:=#[.slice uG y167.length tX,.string (⟨#[48]⟩:ByteArray),.string (⟨#[]⟩:ByteArray),.slice none 0 0]) ?_ 2 _ rfl;(with_reducible repeat (first|refine au ?_ _|refine ay ?_|refine ak ?_ _));refine dP (cs:=#[.slice uG y167.length tX,.string (⟨#[]⟩:ByteArray),.string (⟨#[]⟩:ByteArray),.slice none 0 0]) ?_ 1 _ rfl;(with_reducible repeat (first|refine au ?_ _|refine ay ?_|refine ak ?_ _));refine dP (cs:=#[.slice none 0 0,.string (⟨#[]⟩:ByteArray),.string (⟨#[]⟩:ByteArray),.slice none 0 0]) ?_ 0 _ rfl;(with_reducible repeat (first|refine au ?_ _|refine ay ?_|refine ak ?_ _));exact iV.out) hb);have lQ:=ae.mk (bg (by repeat (first|(with_reducible first|exact HB.out|apply ah|apply af|apply ai|refine aj ?_ yz.out)|exact HB.out)) hb);clear mf;clear kM;clear iV;clear HB;have mf:=dV;have kM:=dU;have rV:=dR;have iV:=gQ;have HB:=lQ;clear dV dU dR gQ lQ;(try clear hb);(try clear hb2);(try clear hk);(try clear hi);(try clear ho0);have VL:w19.cell? ⟨jP,0,none⟩=some (.slice uG y167.length tX):=(ax iV.out 0).trans rfl;have VK:w19.cell? ⟨jP,1,none⟩=some (.string (⟨#[48]⟩:ByteArray)):=(ax iV.out 1).trans rfl;have VJ:w19.cell? ⟨jP,2,none⟩=some (.string (⟨#[]⟩:ByteArray)):=(ax iV.out 2).trans rfl;have VI:w19.cell? ⟨jP,3,none⟩=some (.slice BB ig.length rM):=(ax iV.out 3).trans rfl;have Ug:=aC iV.out 0;have Uf:=aC iV.out 1;have Ue:=aC iV.out 2;have Ud:=aC iV.out 3)|((with_reducible refine bu (f:=12) rfl ?_);refine dS (some 23) rfl rfl Tryd.func12 (by kernel_rfl) rfl #[.agg #[.slice uG y167.length tX,.string (⟨#[48]⟩:ByteArray),.string (⟨#[]⟩:ByteArray),.slice BB ig.length rM],.int .i64 4] rfl (by (try simp only [List.map_toArray,List.map_cons,List.map_nil]);first|done|rfl|(simp only [List.length_drop,List.length_take];rfl)) ?_;(with_reducible refine (gB.calls k _ _ y167 (⟨#[48]⟩:ByteArray) (⟨#[]⟩:ByteArray) _ _ ig 4 t178 t181 _ ?cu ?dw ?iM ?iL ?Ew A2.out).mono ?_);(case cu=>repeat (first|exact (Kd.eG mf.out).2.2|(with_reducible refine Kd.bT ?_ _)|(with_reducible refine Kd.bQ ?_ _)|(with_reducible refine Kd.dD ?_)));(case dw=>exact (Kd.eG mf.out).2.1);(case iM=>repeat (first|exact (Kd.eG kM.out).2.2|(with_reducible refine Kd.bT ?_ _)|(with_reducible refine Kd.bQ ?_ _)|(with_reducible refine Kd.dD ?_)));(case iL=>exact (Kd.eG kM.out).2.1);(case Ew=>repeat (first|exact (Kd.bK wJ.out HB.out)|(with_reducible refine Kd.bT ?_ _)|(with_reducible refine Kd.bQ ?_ _)|(with_reducible refine Kd.dD ?_)));rintro e Ej ⟨aov,rfl,ho0,hb⟩;refine ⟨_,rfl,?_⟩;have dV:=ae.mk (Kd.ja (by (with_reducible repeat (first|apply Kd.iy|apply Kd.iw|apply Kd.jc));exact mf.out) hb);have dU:=ae.mk (Kd.ja (by (with_reducible repeat (first|apply Kd.iy|apply Kd.iw|apply Kd.jc));exact kM.out) hb);have dR:=ae.mk (Kd.AB (by (with_reducible repeat (first|apply Kd.iy|apply Kd.iw|apply Kd.jc));exact rV.out) (Kd.AL ho0) hb);have gQ:=ae.mk (Kd.jh (Kd.Hw ho0 (Kd.Nk (by (with_reducible repeat (first|apply Kd.iy|apply Kd.iw|apply Kd.jc));exact rV.out))) (bW (by repeat (first|(with_reducible first|exact HB.out|apply ah|apply af|apply ai|refine aj ?_ yz.out)|exact HB.out))));have lQ:=ae.mk (bf (g:=jP) (o:=.cells #[.slice uG y167.length tX,.string (⟨#[48]⟩:ByteArray),.string (⟨#[]⟩:ByteArray),.slice BB ig.length rM] 25 (0,0)) (by (with_reducible repeat (first|refine au ?_ _|refine ay ?_|refine ak ?_ _));exact iV.out) hb);have mr:=ae.mk (bg (by repeat (first|(with_reducible first|exact HB.out|apply ah|apply af|apply ai|refine aj ?_ yz.out)|exact HB.out)) hb);clear mf;clear kM;clear rV;clear iV;clear HB;have mf:=dV;have kM:=dU;have rV:=dR;have AX:=gQ;have iV:=lQ;have HB:=mr;clear dV dU dR gQ lQ mr;(try clear hb);(try clear hb2);(try clear hk);(try clear hi);(try clear ho0);have Ku:Ej.cell? ⟨jP,0,none⟩=some (.slice uG y167.length tX):=(ax iV.out 0).trans rfl;have Kt:Ej.cell? ⟨jP,1,none⟩=some (.string (⟨#[48]⟩:ByteArray)):=(ax iV.out 1).trans rfl;have Kr:Ej.cell? ⟨jP,2,none⟩=some (.string (⟨#[]⟩:ByteArray)):=(ax iV.out 2).trans rfl;have Kq:Ej.cell? ⟨jP,3,none⟩=some (.slice BB ig.length rM):=(ax iV.out 3).trans rfl;have JA:=aC iV.out 0;have Jz:=aC iV.out 1;have Jy:=aC iV.out 2;have Jw:=aC iV.out 3;have p4:0≤(1:Int):=(by omega);have q4:(1:Int) < ((ig.length:Int):Int):=of_decide_eq_true (by first|(with_reducible assumption)|assumption);have qi4:(1 < ig.length)=True:=eq_true (by omega);obtain ⟨Bl,co4,eo4,gb4,gl4,cl4,HG4⟩:=Kd.Eg kM.out (by omega);(first|cases eo4|(injection eo4 with ea_ en_ ec_;(first|subst ea_|(injection ea_ with ea_;subst ea_));subst ec_;clear en_));have GB4:=ae.mk gb4;have GG4:=ae.mk HG4;clear gb4 gl4 HG4;obtain ⟨ce4,akQ,hM4,Md,Mc⟩:=Kd.Qn kM.out z55 (1:Int) p4 q4;obtain rfl:=BV hM4;have Xe:Ej.cell? ⟨Bl,(1:Int).toNat * 5,none⟩=some (.int .u8 ((aA ig 1).f0)):=Md 0 _ rfl;have Xd:Ej.cell? ⟨Bl,(1:Int).toNat * 5+1,none⟩=some (.int .u8 ((aA ig 1).f1)):=Md 1 _ rfl;have Xc:Ej.cell? ⟨Bl,(1:Int).toNat * 5+2,none⟩=some (.int .u8 ((aA ig 1).f2)):=Md 2 _ rfl;have Xb:Ej.cell? ⟨Bl,(1:Int).toNat * 5+3,none⟩=some (.int .u8 ((aA ig 1).f3)):=Md 3 _ rfl;have Xa:Ej.cell? ⟨Bl,(1:Int).toNat * 5+4,none⟩=some (.int .i64 ((aA ig 1).f4)):=Md 4 _ rfl;have Xq:Ej.frozen? ⟨Bl,(1:Int).toNat * 5,none⟩=false:=Mc 0;have Xp:Ej.frozen? ⟨Bl,(1:Int).toNat * 5+1,none⟩=false:=Mc 1;have Xo:Ej.frozen? ⟨Bl,(1:Int).toNat * 5+2,none⟩=false:=Mc 2;have Xn:Ej.frozen? ⟨Bl,(1:Int).toNat * 5+3,none⟩=false:=Mc 3;have Xm:Ej.frozen? ⟨Bl,(1:Int).toNat * 5+4,none⟩=false:=Mc 4;clear akQ Md Mc hM4;(try rw [show ((1:Int)).toNat=1 from rfl] at Xe);(try simp only [Nat.reduceMul,Nat.zero_mul,Nat.zero_add,Nat.reduceAdd] at Xe);(try rw [show ((1:Int)).toNat=1 from rfl] at Xq);(try simp only [Nat.reduceMul,Nat.zero_mul,Nat.zero_add,Nat.reduceAdd] at Xq);(try rw [show ((1:Int)).toNat=1 from rfl] at Xd);(try simp only [Nat.reduceMul,Nat.zero_mul,Nat.zero_add,Nat.reduceAdd] at Xd);(try rw [show ((1:Int)).toNat=1 from rfl] at Xp);(try simp only [Nat.reduceMul,Nat.zero_mul,Nat.zero_add,Nat.reduceAdd] at Xp);(try rw [show ((1:Int)).toNat=1 from rfl] at Xc);(try simp only [Nat.reduceMul,Nat.zero_mul,Nat.zero_add,Nat.reduceAdd] at Xc);(try rw [show ((1:Int)).toNat=1 from rfl] at Xo);(try simp only [Nat.reduceMul,Nat.zero_mul,Nat.zero_add,Nat.reduceAdd] at Xo);(try rw [show ((1:Int)).toNat=1 from rfl] at Xb);(try simp only [Nat.reduceMul,Nat.zero_mul,Nat.zero_add,Nat.reduceAdd] at Xb);(try rw [show ((1:Int)).toNat=1 from rfl] at Xn);(try simp only [Nat.reduceMul,Nat.zero_mul,Nat.zero_add,Nat.reduceAdd] at Xn);(try rw [show ((1:Int)).toNat=1 from rfl] at Xa);(try simp only [Nat.reduceMul,Nat.zero_mul,Nat.zero_add,Nat.reduceAdd] at Xa);(try rw [show ((1:Int)).toNat=1 from rfl] at Xm);(try simp only [Nat.reduceMul,Nat.zero_mul,Nat.zero_add,Nat.reduceAdd] at Xm);replace p4:=eq_true p4;replace q4:=eq_true q4;have adx:=ae.mk (show Kd.R tZ 55 Ej w.heap.size (fun _=>True) (.slice (some ⟨Bl,0,none⟩) ig.length rM) ig from (by (with_reducible repeat (first|apply Kd.iy|apply Kd.iw|apply Kd.jc));exact kM.out));obtain ⟨ape,Xr,ab3,Pn,Xl⟩:=Kd.Qn adx.out z55 (1:Int) (by omega) (by have h_:(1:Int) < ((ig.length:Int):Int):=of_decide_eq_true (by first|(with_reducible assumption)|assumption);first|exact h_|(have e_:=(Kd.eG kM.out).1;omega)|simpa using h_);obtain rfl:=BV ab3;have ZR:=Kd.ads adx.out (1:Int) (by omega) (by have h_:(1:Int) < ((ig.length:Int):Int):=of_decide_eq_true (by first|(with_reducible assumption)|assumption);first|exact h_|(have e_:=(Kd.eG kM.out).1;omega)|simpa using h_) (vG:=[.int .u8 6]) (j:=0) Xr Pn (show 1≤5 from by decide) (x':=(⟨6,(aA ig 1).f1,(aA ig 1).f2,(aA ig 1).f3,(aA ig 1).f4⟩:gZ)) (uS _ _ _ (⟨6,(aA ig 1).f1,(aA ig 1).f2,(aA ig 1).f3,(aA ig 1).f4⟩:gZ) ) (fun _ hk=>hk);have GV:=Pn 0 _ rfl;(try simp only [show (tZ).sz=5 from rfl,Nat.mul_one,Nat.add_zero] at GV);(try rw [show ((1:Int)).toNat=1 from rfl] at GV);(try simp only [Nat.reduceMul,Nat.zero_mul,Nat.zero_add,Nat.reduceAdd] at GV);have G6:=Xl 0;(try simp only [show (tZ).sz=5 from rfl,Nat.mul_one,Nat.add_zero] at G6);(try rw [show ((1:Int)).toNat=1 from rfl] at G6);(try simp only [Nat.reduceMul,Nat.zero_mul,Nat.zero_add,Nat.reduceAdd] at G6);clear Xr Pn Xl ab3)|((with_reducible refine He (t:=5) (p:=29) rfl ?_);refine Ep (t:=5) (p:=29) (v:=?akf) (w1:=(Ej.setCell ⟨Bl,5,none⟩ (.int .u8 6))) ?hg ?ho ?hn ?hr ?_;(case ho=>rfl);(case hg=>rfl);(case hn=>rfl);(case hr=>first|(go_simp;done)|(go_simp;rfl));intro QU hw;have hg:Ej.grownBy QU (some Bl):=(by rw [hw];exact ZR.2);have hp_:Kd.R tZ 55 QU w.heap.size (fun _=>True) (.slice (some ⟨Bl,0,none⟩) ig.length rM) Lr:=(by rw [hw,adu.out];exact ZR.1);clear ZR;have dV:=ae.mk (Kd.Ef (v:=(.slice (some ⟨Bl,0,none⟩) ig.length rM)) (by (with_reducible repeat (first|apply Kd.iy|apply Kd.iw|apply Kd.jc));exact mf.out) (Kd.Ee kM.out) (by decide) hg);have dU:=ae.mk (hp_);have dR:=ae.mk (CG (g:=jP) (o:=.cells #[.slice uG y167.length tX,.string (⟨#[48]⟩:ByteArray),.string (⟨#[]⟩:ByteArray),.slice (some ⟨Bl,0,none⟩) ig.length rM] 25 (0,0)) (by (with_reducible repeat (first|refine au ?_ _|refine ay ?_|refine ak ?_ _));exact iV.out) hg (Kd.adt kM.out iV.out (by decide)));have gQ:=ae.mk (Kd.Ef (v:=(.slice (some ⟨Bl,0,none⟩) ig.length rM)) (by (with_reducible repeat (first|apply Kd.iy|apply Kd.iw|apply Kd.jc));exact rV.out) (Kd.Ee kM.out) (by decide) hg);have lQ:=ae.mk (Kd.Ef (v:=(.slice (some ⟨Bl,0,none⟩) ig.length rM)) (by (with_reducible repeat (first|apply Kd.iy|apply Kd.iw|apply Kd.jc));exact AX.out) (Kd.Ee kM.out) (by decide) hg);have mr:=ae.mk ((by rw [hw];exact aj (HB.out) GB4.out:Below w.heap.size w QU));clear mf;clear kM;clear iV;clear rV;clear AX;clear HB;have mf:=dV;have kM:=dU;have iV:=dR;have rV:=gQ;have AX:=lQ;have HB:=mr;clear dV dU dR gQ lQ mr;clear hg hw hp_;have zh:QU.cell? ⟨jP,0,none⟩=some (.slice uG y167.length tX):=(ax iV.out 0).trans rfl;have zg:QU.cell? ⟨jP,1,none⟩=some (.string (⟨#[48]⟩:ByteArray)):=(ax iV.out 1).trans rfl;have zf:QU.cell? ⟨jP,2,none⟩=some (.string (⟨#[]⟩:ByteArray)):=(ax iV.out 2).trans rfl;have yZ:QU.cell? ⟨jP,3,none⟩=some (.slice (some ⟨Bl,0,none⟩) ig.length rM):=(ax iV.out 3).trans rfl;have yT:=aC iV.out 0;have yS:=aC iV.out 1;have yR:=aC iV.out 2;have yQ:=aC iV.out 3)|((with_reducible refine bu (f:=12) rfl ?_);refine dS (some 32) rfl rfl Tryd.func12 (by kernel_rfl) rfl #[.agg #[.slice uG y167.length tX,.string (⟨#[48]⟩:ByteArray),.string (⟨#[]⟩:ByteArray),.slice (some ⟨Bl,0,none⟩) Lr.length rM],.int .i64 9] rfl (by (try simp only [List.map_toArray,List.map_cons,List.map_nil]);first|done|(rw [show Lr.length=ig.length from (Kd.eG kM.out).1.symm] <;> rfl)|rfl|(simp only [List.length_drop,List.length_take];rfl)) ?_;(with_reducible refine (gB.calls k _ _ y167 (⟨#[48]⟩:ByteArray) (⟨#[]⟩:ByteArray) _ _ Lr 9 t183 t186 _ ?cu ?dw ?iM ?iL ?Ew A5.out).mono ?_);(case cu=>repeat (first|exact (Kd.eG mf.out).2.2|(with_reducible refine Kd.bT ?_ _)|(with_reducible refine Kd.bQ ?_ _)|(with_reducible refine Kd.dD ?_)));(case dw=>exact (Kd.eG mf.out).2.1);(case iM=>repeat (first|exact (Kd.eG kM.out).2.2|(with_reducible refine Kd.bT ?_ _)|(with_reducible refine Kd.bQ ?_ _)|(with_reducible refine Kd.dD ?_)));(case iL=>rw [show Lr.length=ig.length from (Kd.eG kM.out).1.symm];exact (Kd.eG kM.out).2.1);(case Ew=>repeat (first|exact (Kd.bK wJ.out HB.out)|(with_reducible refine Kd.bT ?_ _)|(with_reducible refine Kd.bQ ?_ _)|(with_reducible refine Kd.dD ?_)));rintro e w26 ⟨aou,rfl,ho0,hb⟩;refine ⟨_,rfl,?_⟩;have dV:=ae.mk (Kd.ja (by (with_reducible repeat (first|apply Kd.iy|apply Kd.iw|apply Kd.jc));exact mf.out) hb);have dU:=ae.mk (Kd.ja (by (with_reducible repeat (first|apply Kd.iy|apply Kd.iw|apply Kd.jc));exact kM.out) hb);have dR:=ae.mk (Kd.AB (by (with_reducible repeat (first|apply Kd.iy|apply Kd.iw|apply Kd.jc));exact rV.out) (Kd.AL ho0) hb);have gQ:=ae.mk (Kd.AB (by (with_reducible repeat (first|apply Kd.iy|apply Kd.iw|apply Kd.jc));exact AX.out) (Kd.AL ho0) hb);have lQ:=ae.mk (Kd.jh (Kd.Hw (Kd.Hw ho0 (Kd.Nk (by (with_reducible repeat (first|apply Kd.iy|apply Kd.iw|apply Kd.jc));exact rV.out))) (Kd.Nk (by (with_reducible repeat (first|apply Kd.iy|apply Kd.iw|apply Kd.jc));exact AX.out))) (bW (by repeat (first|(with_reducible first|exact HB.out|apply ah|apply af|apply ai|refine aj ?_ yz.out)|exact HB.out))));have mr:=ae.mk (bf (g:=jP) (o:=.cells #[.slice uG y167.length tX,.string (⟨#[48]⟩:ByteArray),.string (⟨#[]⟩:ByteArray),.slice (some ⟨Bl,0,none⟩) ig.length rM] 25 (0,0)) (by (with_reducible repeat (first|refine au ?_ _|refine ay ?_|refine ak ?_ _));exact iV.out) hb);have nJ:=ae.mk (bg (by repeat (first|(with_reducible first|exact HB.out|apply ah|apply af|apply ai|refine aj ?_ yz.out)|exact HB.out)) hb);clear mf;clear kM;clear rV;clear AX;clear iV;clear HB;have mf:=dV;have kM:=dU;have rV:=dR;have AX:=gQ;have anF:=lQ;have iV:=mr;have HB:=nJ;clear dV dU dR gQ lQ mr nJ;(try clear hb);(try clear hb2);(try clear hk);(try clear hi);(try clear ho0);obtain ⟨apA,apd,ak5⟩:=Kd.jr rV.out;subst ak5;have YB:0≤(0:Int):=(by omega);have Yq:0 < (t174.length:Int):=of_decide_eq_true (by first|(with_reducible assumption)|assumption);obtain ⟨anm,e187,I9⟩:=Kd.tu (Kd.eG rV.out).2.2 0 YB Yq;cases e187;have alO:(0 < t174.length)=True:=eq_true (by omega);(try rw [show ((0:Int)).toNat=0 from rfl] at I9);(try rw [Addr.add_zero'] at I9);replace YB:=eq_true YB;replace Yq:=eq_true Yq))
       go_ret
       exact ⟨by first|rfl|(simp [aQ,aN] <;> rfl)|(simp [*,aQ,aN] <;> rfl),by repeat (first|(with_reducible first|exact HB.out|apply ah|apply af|apply ai|refine aj ?_ yz.out)|exact HB.out)⟩
      ·
       exact absurd (ZE CP.out CO.out A2.out) c10
     ·
      exact absurd (Ht CP.out CO.out A1.out).2 c9
    ·
     exact absurd (by rw [(Ht CP.out CO.out A1.out).1];rfl) c8
   ·
    rw [if_neg c7] at H
    exact absurd H (by simp)
  ·
   exact absurd (by rw [(Ht CP.out CO.out A1.out).1];rfl) c6
 ·
  rw [if_neg c3] at H
  exact absurd H (by simp)
def dB.l0:Nat→Int→List ByteArray→Int→Int→List ByteArray→ByteArray→ByteArray→List (gZ)→Option (Bool)
 | 0,_,_,_,_,_,_,_,_=>none
 | k+1,x3,x14,x15,x16,QI,QH,QG,Ij=>if x16 < x15 then (if 0≤x16 then (if x16 < (x14.length:Int) then (dB.l0 k (wrap64 (x3+(wrap64 (((dW ByteArray.empty x14 x16).size:Int)+1)))) x14 x15 (wrap64 (x16+1)) QI QH QG Ij) else (none)) else (none)) else (if x3≤500 then (some (decide ((Ij.length:Int)≤210))) else (some false))
def dB.f (k:Nat) (aY:List ByteArray) (aU:ByteArray) (aV:ByteArray) (aI:List (gZ)):Option (Bool):=dB.l0 k (wrap64 ((aU.size:Int)+(aV.size:Int))) aY (aY.length:Int) 0 aY aU aV aI
theorem dB.gY:∀ k,(∀ y0 y1 y2 y3 y4 y5 y6 y7,dN (dB.l0 k y0 y1 y2 y3 y4 y5 y6 y7) (dB.l0 (k+1) y0 y1 y2 y3 y4 y5 y6 y7))
 | 0=>fun _ _ _ _ _ _ _ _ r h=>by simp [dB.l0] at h
 | k+1=>by
  have lF:=dB.gY k
  ·
   intro y0 y1 y2 y3 y4 y5 y6 y7
   unfold dB.l0
   repeat' with_reducible first|apply lF|exact dN.refl _|exact dN.none _|refine dN.ite ?_ ?_|refine dN.bind ?_ (fun _=>?_)
theorem dB.mono:∀ a0 a1 a2 a3 k,dN (dB.f k a0 a1 a2 a3) (dB.f (k+1) a0 a1 a2 a3):=by
 intro a0 a1 a2 a3 k
 have lF:=dB.gY k
 unfold dB.f
 repeat' with_reducible first|apply lF|exact dN.refl _|exact dN.none _|refine dN.ite ?_ ?_|refine dN.bind ?_ (fun _=>?_)
set_option maxHeartbeats 8000000 in
set_option maxRecDepth 100000 in
theorem dB.calls (k:Nat) (eu:Option Addr) (ed:Nat) (aY:List ByteArray) (aU:ByteArray) (aV:ByteArray) (fV:Option Addr) (eX:Nat) (aI:List (gZ)) (r:Bool) (w:World) (jK:Kd.C Kd.string w eu aY.length aY) (jM:aY.length≤ed) (jJ:Kd.C tZ w fV aI.length aI) (jL:aI.length≤eX) (h:dB.f k aY aU aV aI=some r) :
  Calls Tryd.prog 11 #[.agg #[.slice eu aY.length ed,.string aU,.string aV,.slice fV aI.length eX]] w fun e w'=>e=.returned (.bool r)∧Below w.heap.size w w':=by
 have xM:=Tryd.underlying25
 have iq:=ae.mk jK
 have iC:=ae.mk jM
 clear jK jM
 have jG:=ae.mk jJ
 have jW:=ae.mk jL
 clear jJ jL
 have HB:=ae.mk (Below.refl w.heap.size w)
 have H:(dB.l0 k (wrap64 ((aU.size:Int)+(aV.size:Int))) aY (aY.length:Int) 0 aY aU aV aI)=some r:=h
 clear h
 have H':=ae.mk H
 clear H
 go_enter Tryd.func11,Tryd.ntmps11
 go_wp2_with (first|((with_reducible refine dL (N:=1) rfl ?_);(try (refine kG (by rfl) ?_;dsimp only));refine fF ?hg (N:=1) ?hd (cs:=#[.slice eu aY.length ed,.string aU,.string aV,.slice fV aI.length eX]) (t:=25) ?hr ?_;(case hd=>rfl);(case hg=>rfl);(case hr=>first|(go_simp;done)|(go_simp;rfl));intro vT hg w2 hbox hb;have dV:=ae.mk (bg (by repeat (first|(with_reducible first|exact HB.out|apply ah|apply af|apply ai)|exact HB.out)) hb);have dU:=ae.mk (hbox);have dR:=ae.mk ((by rw [hg];exact (bW (by repeat (first|(with_reducible first|exact HB.out|apply ah|apply af|apply ai)|exact HB.out))):w.heap.size≤vT));have gQ:=dR;clear HB;have HB:=dV;have oO:=dU;have anT:=dR;have Ll:=gQ;clear dV dU dR gQ;clear hb hbox hg;have akO:w2.cell? ⟨vT,0,none⟩=some (.slice eu aY.length ed):=(ax oO.out 0).trans rfl;have akN:w2.cell? ⟨vT,1,none⟩=some (.string aU):=(ax oO.out 1).trans rfl;have akM:w2.cell? ⟨vT,2,none⟩=some (.string aV):=(ax oO.out 2).trans rfl;have akL:w2.cell? ⟨vT,3,none⟩=some (.slice fV aI.length eX):=(ax oO.out 3).trans rfl;have akE:=aC oO.out 0;have akD:=aC oO.out 1;have akC:=aC oO.out 2;have akB:=aC oO.out 3))
 go_loopg [3,16] k (fun kq v3 v16 w'=>∃ (jX:Int) (qG:Int),v3=.int .i64 jX∧v16=.int .i64 qG∧ae (dB.l0 kq jX aY (aY.length:Int) qG aY aU aV aI=some r)∧ae (kq≤k)∧ae (w'.heap[vT]? = some (.cells #[(.slice eu aY.length ed),.string aU,.string aV,(.slice fV aI.length eX)] 25 (0,0)))∧ae (Below w.heap.size w w'))
 case atStart=>exact ⟨(wrap64 ((aU.size:Int)+(aV.size:Int))),(0),(by first|rfl|(simp;done)|(simp [*];done)),(by first|rfl|(simp;done)|(simp [*];done)),H',⟨Nat.le_refl _⟩,⟨by (with_reducible repeat (first|refine au ?_ _|refine ay ?_|refine ak ?_ _));exact oO.out⟩,⟨by repeat (first|(with_reducible first|exact HB.out|apply ah|apply af|apply ai|refine aj ?_ Ll.out)|exact HB.out)⟩⟩
 case round =>
  clear H'
  obtain ⟨jX,qG,rfl,rfl,HA,rW,oO,HB⟩:=hrel
  cases gk with
  | zero=>exact absurd HA.out (by simp [dB.l0])
  | succ k1 =>
   have H:=HA.out
   clear HA
   simp only [dB.l0] at H
   by_cases c4:qG < (aY.length:Int)
   ·
    rw [if_pos c4] at H
    have nM:decide (qG < (aY.length:Int))=true:=decide_eq_true c4
    clear c4
    by_cases c5:0≤qG
    ·
     rw [if_pos c5] at H
     have qO:decide (0≤qG)=true:=decide_eq_true c5
     clear c5
     by_cases c6:qG < (aY.length:Int)
     ·
      rw [if_pos c6] at H
      have nR:decide (qG < (aY.length:Int))=true:=decide_eq_true c6
      clear c6
      have H':=ae.mk H
      clear H
      have Yz:0≤(qG:Int):=of_decide_eq_true (by first|(with_reducible assumption)|assumption)
      have Yo:qG < (aY.length:Int):=of_decide_eq_true (by first|(with_reducible assumption)|assumption)
      obtain ⟨anl,e189,Dp⟩:=Kd.jD iq.out qG Yz Yo
      cases e189
      replace Dp:=(HB.out.cell (World.block_lt_of_cell? w _ Dp)).trans Dp
      replace Yz:=eq_true Yz
      replace Yo:=eq_true Yo
      go_wp2
      go_roundg k1
      case measure=>have:=rW.out;omega
      case rel=>exact ⟨(wrap64 (jX+(wrap64 (((dW ByteArray.empty aY qG).size:Int)+1)))),(wrap64 (qG+1)),(by first|rfl|(simp;done)|(simp [*];done)),(by first|rfl|(simp;done)|(simp [*];done)),H',⟨by have:=rW.out;omega⟩,⟨by (with_reducible repeat (first|refine au ?_ _|refine ay ?_|refine ak ?_ _));exact oO.out⟩,⟨by repeat (first|(with_reducible first|exact HB.out|apply ah|apply af|apply ai|refine aj ?_ Ll.out)|exact HB.out)⟩⟩
     ·
      rw [if_neg c6] at H
      exact absurd H (by simp)
    ·
     rw [if_neg c5] at H
     exact absurd H (by simp)
   ·
    rw [if_neg c4] at H
    have nM:decide (qG < (aY.length:Int))=false:=decide_eq_false c4
    clear c4
    by_cases c7:jX≤500
    ·
     rw [if_pos c7] at H
     have nV:decide (jX≤500)=true:=decide_eq_true c7
     clear c7
     obtain rfl:=Option.some.inj H
     have O4:wr.cell? ⟨vT,0,none⟩=some (.slice eu aY.length ed):=(ax oO.out 0).trans rfl
     have O3:wr.cell? ⟨vT,1,none⟩=some (.string aU):=(ax oO.out 1).trans rfl
     have O1:wr.cell? ⟨vT,2,none⟩=some (.string aV):=(ax oO.out 2).trans rfl
     have O0:wr.cell? ⟨vT,3,none⟩=some (.slice fV aI.length eX):=(ax oO.out 3).trans rfl
     have OT:=aC oO.out 0
     have OQ:=aC oO.out 1
     have OO:=aC oO.out 2
     have OM:=aC oO.out 3
     go_wp2
     go_ret
     exact ⟨by first|rfl|(simp [aQ,aN] <;> rfl)|(simp [*,aQ,aN] <;> rfl),by repeat (first|(with_reducible first|exact HB.out|apply ah|apply af|apply ai|refine aj ?_ Ll.out)|exact HB.out)⟩
    ·
     rw [if_neg c7] at H
     have nV:decide (jX≤500)=false:=decide_eq_false c7
     clear c7
     obtain rfl:=Option.some.inj H
     go_wp2
     go_ret
     exact ⟨by first|rfl|(simp [aQ,aN] <;> rfl)|(simp [*,aQ,aN] <;> rfl),by repeat (first|(with_reducible first|exact HB.out|apply ah|apply af|apply ai|refine aj ?_ Ll.out)|exact HB.out)⟩
def dh.l0:Nat→List Int→List Int→Int→Option (Bool)
 | 0,_,_,_=>none
 | k+1,x0,x1,x5=>if x5 < (x0.length:Int) then (if 0≤x5 then (if x5 < (x1.length:Int) then (if (rd x0 x5)=(rd x1 x5) then (dh.l0 k x0 x1 (wrap64 (x5+1))) else (some false)) else (none)) else (none)) else (some true)
def dh.f (k:Nat) (l0:List Int) (l1:List Int):Option (Bool):=if (l0.length:Int)=(l1.length:Int) then (dh.l0 k l0 l1 0) else (some false)
theorem dh.gY:∀ k,(∀ y0 y1 y2,dN (dh.l0 k y0 y1 y2) (dh.l0 (k+1) y0 y1 y2))
 | 0=>fun _ _ _ r h=>by simp [dh.l0] at h
 | k+1=>by
  have lF:=dh.gY k
  ·
   intro y0 y1 y2
   unfold dh.l0
   repeat' with_reducible first|apply lF|exact dN.refl _|exact dN.none _|refine dN.ite ?_ ?_|refine dN.bind ?_ (fun _=>?_)
theorem dh.mono:∀ a0 a1 k,dN (dh.f k a0 a1) (dh.f (k+1) a0 a1):=by
 intro a0 a1 k
 have lF:=dh.gY k
 unfold dh.f
 repeat' with_reducible first|apply lF|exact dN.refl _|exact dN.none _|refine dN.ite ?_ ?_|refine dN.bind ?_ (fun _=>?_)
set_option maxHeartbeats 8000000 in
set_option maxRecDepth 100000 in
theorem dh.calls (k:Nat) (A0:Option Addr) (c0:Nat) (l0:List Int) (A1:Option Addr) (c1:Nat) (l1:List Int) (r:Bool) (w:World) (hr0:Kd.C (Kd.int .i64) w A0 l0.length l0) (hc0:l0.length≤c0) (hr1:Kd.C (Kd.int .i64) w A1 l1.length l1) (hc1:l1.length≤c1) (h:dh.f k l0 l1=some r) :
  Calls Tryd.prog 13 #[.slice A0 l0.length c0,.slice A1 l1.length c1] w fun e w'=>e=.returned (.bool r)∧aT w w':=by
 have HR0:=ae.mk hr0
 have tY:=ae.mk hc0
 clear hr0 hc0
 have HR1:=ae.mk hr1
 have HC1:=ae.mk hc1
 clear hr1 hc1
 have H:(if (l0.length:Int)=(l1.length:Int) then (dh.l0 k l0 l1 0) else (some false))=some r:=h
 clear h
 by_cases c3:(l0.length:Int)=(l1.length:Int)
 ·
  rw [if_pos c3] at H
  have nN:((l0.length:Int) == (l1.length:Int))=true:=beq_iff_eq.mpr c3
  have yI:((l0.length:Int) != (l1.length:Int))=false:=bne_eq_false_iff_eq.mpr c3
  have alr:(l0.length == l1.length)=true:=by first|simpa using c3|(simp at c3 ⊢;omega)
  clear c3
  have H':=ae.mk H
  clear H
  go_enter Tryd.func13,Tryd.ntmps13
  go_wp2
  repeat (go_quiet (fail);try go_wp2)
  go_loopg [5] k (fun kq v5 w'=>∃ (jd:Int),v5=.int .i64 jd∧ae (dh.l0 kq l0 l1 jd=some r)∧ae (kq≤k)∧aT w w')
  case atStart=>exact ⟨(0),(by first|rfl|(simp;done)|(simp [*];done)),H',⟨Nat.le_refl _⟩,by repeat (first|exact aT.refl _|apply aT.step)⟩
  case round =>
   clear H'
   obtain ⟨jd,rfl,HA,rW,⟨m1,rfl⟩⟩:=hrel
   cases gk with
   | zero=>exact absurd HA.out (by simp [dh.l0])
   | succ k1 =>
    have H:=HA.out
    clear HA
    simp only [dh.l0] at H
    by_cases c4:jd < (l0.length:Int)
    ·
     rw [if_pos c4] at H
     have nM:decide (jd < (l0.length:Int))=true:=decide_eq_true c4
     clear c4
     by_cases c5:0≤jd
     ·
      rw [if_pos c5] at H
      have qO:decide (0≤jd)=true:=decide_eq_true c5
      clear c5
      by_cases c6:jd < (l1.length:Int)
      ·
       rw [if_pos c6] at H
       have nR:decide (jd < (l1.length:Int))=true:=decide_eq_true c6
       clear c6
       by_cases c7:(rd l0 jd)=(rd l1 jd)
       ·
        rw [if_pos c7] at H
        have nV:((rd l0 jd) == (rd l1 jd))=true:=beq_iff_eq.mpr c7
        have xn:((rd l0 jd) != (rd l1 jd))=false:=bne_eq_false_iff_eq.mpr c7
        clear c7
        have H':=ae.mk H
        clear H
        have GH:0≤(jd:Int):=of_decide_eq_true (by first|(with_reducible assumption)|assumption)
        have Gt:jd < (l0.length:Int):=of_decide_eq_true (by first|(with_reducible assumption)|assumption)
        obtain ⟨adk,e190,RN⟩:=Kd.tu HR0.out jd GH Gt
        cases e190
        replace GH:=eq_true GH
        replace Gt:=eq_true Gt
        have GG:0≤(jd:Int):=of_decide_eq_true (by first|(with_reducible assumption)|assumption)
        have Gs:jd < (l1.length:Int):=of_decide_eq_true (by first|(with_reducible assumption)|assumption)
        obtain ⟨adi,Zb,RJ⟩:=Kd.tu HR1.out jd GG Gs
        cases Zb
        replace GG:=eq_true GG
        replace Gs:=eq_true Gs
        go_wp2
        repeat (go_quiet (fail);try go_wp2)
        go_roundg k1
        case measure=>have:=rW.out;omega
        case rel=>exact ⟨(wrap64 (jd+1)),(by first|rfl|(simp;done)|(simp [*];done)),H',⟨by have:=rW.out;omega⟩,by repeat (first|exact aT.refl _|apply aT.step)⟩
       ·
        rw [if_neg c7] at H
        have nV:((rd l0 jd) == (rd l1 jd))=false:=beq_eq_false_iff_ne.mpr c7
        have xn:((rd l0 jd) != (rd l1 jd))=true:=bne_iff_ne.mpr c7
        obtain rfl:=Option.some.inj H
        have GH:0≤(jd:Int):=of_decide_eq_true (by first|(with_reducible assumption)|assumption)
        have Gt:jd < (l0.length:Int):=of_decide_eq_true (by first|(with_reducible assumption)|assumption)
        obtain ⟨adk,e190,RN⟩:=Kd.tu HR0.out jd GH Gt
        cases e190
        replace GH:=eq_true GH
        replace Gt:=eq_true Gt
        have GG:0≤(jd:Int):=of_decide_eq_true (by first|(with_reducible assumption)|assumption)
        have Gs:jd < (l1.length:Int):=of_decide_eq_true (by first|(with_reducible assumption)|assumption)
        obtain ⟨adi,Zb,RJ⟩:=Kd.tu HR1.out jd GG Gs
        cases Zb
        replace GG:=eq_true GG
        replace Gs:=eq_true Gs
        go_wp2
        repeat (go_quiet (fail);try go_wp2)
        go_ret
        exact ⟨by first|rfl|(simp;done)|(simp [*];done),by repeat (first|exact aT.refl _|apply aT.step)⟩
      ·
       rw [if_neg c6] at H
       exact absurd H (by simp)
     ·
      rw [if_neg c5] at H
      exact absurd H (by simp)
    ·
     rw [if_neg c4] at H
     have nM:decide (jd < (l0.length:Int))=false:=decide_eq_false c4
     clear c4
     obtain rfl:=Option.some.inj H
     go_wp2
     repeat (go_quiet (fail);try go_wp2)
     go_ret
     exact ⟨by first|rfl|(simp;done)|(simp [*];done),by repeat (first|exact aT.refl _|apply aT.step)⟩
 ·
  rw [if_neg c3] at H
  have nN:((l0.length:Int) == (l1.length:Int))=false:=beq_eq_false_iff_ne.mpr c3
  have yI:((l0.length:Int) != (l1.length:Int))=true:=bne_iff_ne.mpr c3
  have alr:(l0.length == l1.length)=false:=by first|simpa using c3|(simp at c3 ⊢;omega)
  obtain rfl:=Option.some.inj H
  go_enter Tryd.func13,Tryd.ntmps13
  go_wp2
  repeat (go_quiet (fail);try go_wp2)
  go_ret
  exact ⟨by first|rfl|(simp;done)|(simp [*];done),by repeat (first|exact aT.refl _|apply aT.step)⟩
end Go.Proofs.YtlemecdddhdagaaDoor.P
end
section
namespace Go.Proofs.YtlemecdddhdagaaDoor.P
open Go.RowKit Go.Proofs.ag.bI Go.Proofs.ag.dM Go.Proofs.ag.dZ
theorem WG:Ev (fun k=>gX.f k) true:=Ev.of (k:=40) gX.mono (by kernel_rfl)
theorem aca (t:List ByteArray) (lo gl:ByteArray) (code:List gZ) (ht:t.length≤9223372036854775807):∃ b,Ev (fun k=>dB.f k t lo gl code) b:=by
  have:∀ d i x3,i+d=t.length→∃ b,Ev (fun k=>dB.l0 k x3 t t.length (i:Nat) t lo gl code) b:=by
    intro d
    induction d with
    | zero =>
      intro i x3 hi
      by_cases h:x3≤500
      · refine ⟨_,Ev.step (f:=fun _=>some (decide ((code.length:Int)≤210))) (fun k=>?_) (Ev.now _)⟩
        simp only [dB.l0]
        rw [if_neg (by omega),if_pos h]
      · refine ⟨_,Ev.step (f:=fun _=>some false) (fun k=>?_) (Ev.now _)⟩
        simp only [dB.l0]
        rw [if_neg (by omega),if_neg h]
    | succ d ih =>
      intro i x3 hi
      obtain ⟨b,hb⟩:=ih (i+1) (wrap64 (x3+(wrap64 (((dW ByteArray.empty t i).size:Int)+1)))) (by omega)
      refine ⟨b,Ev.step (fun k=>?_) hb⟩
      simp only [dB.l0]
      rw [if_pos (by omega),if_pos (by omega),if_pos (by omega),wrapN (i:=i) (n:=t.length) (by omega) ht]
  exact this t.length 0 _ (by omega)
theorem zM {t:List ByteArray} (h:jw t=true) (i:Nat) (hi:i < t.length):1≤jl t i∧jl t i≤6:=by
  have h':=h
  unfold jw at h'
  simp only [Bool.and_eq_true,decide_eq_true_eq] at h'
  have h2:=nS.1 h'.1 i hi
  unfold tV at h2
  simp only [Bool.and_eq_true,decide_eq_true_eq] at h2
  unfold jl LY
  rw [h,if_pos (by simp;omega)]
  omega
theorem Eu {t:List ByteArray} (h:jw t=true) (i:Nat):jl t i≤6:=by
  by_cases hi:i < t.length
  · exact (zM h i hi).2
  · unfold jl LY
    rw [if_neg (by simp;omega)]
    decide
theorem yh {t:List ByteArray} {lo gl:ByteArray} (h:headB t lo gl=true):jw t=true∧(∀ j,j < lo.size→0≤kK (bt lo j) t.length)∧(∀ j,j < gl.size→0≤kK (bt gl j) t.length)∧lo.size≤8∧gl.size≤4:=by
  unfold headB qL at h
  simp only [Bool.and_eq_true,decide_eq_true_eq] at h
  obtain ⟨⟨h1,h2⟩,h3,h4⟩:=h
  have hj:∀ j,j < (lo++gl).size→0≤kK (bt (lo++gl) j) t.length:=fun j hj=>of_decide_eq_true (nS.1 h1 j hj)
  have sz:(lo++gl).size=lo.size+gl.size:=by simp
  refine ⟨h2,fun j h=>?_,fun j h=>?_,h3,h4⟩
  · have:=hj j (by omega)
    rw [show bt (lo++gl) (j:Int)=bt lo j from ?_] at this
    · exact this
    · unfold bt
      rw [dif_pos (by rw [Int.toNat_natCast];omega),dif_pos (by rw [Int.toNat_natCast];omega)]
      congr 2
      exact ByteArray.getElem_append_left _
  · have:=hj (lo.size+j) (by omega)
    rw [show bt (lo++gl) ((lo.size+j:Nat):Int)=bt gl j from ?_] at this
    · exact this
    · unfold bt
      rw [dif_pos (by rw [Int.toNat_natCast];omega),dif_pos (by rw [Int.toNat_natCast];omega)]
      congr 2
      have:(lo++gl)[lo.size+j]'(by omega)=gl[lo.size+j - lo.size]'(by omega):=ByteArray.getElem_append_right (by omega)
      show (lo++gl)[lo.size+j]'(by omega)=gl[j]'(by omega)
      rw [this]
      congr 1
      omega
theorem getD_take (l:List gZ) (m i:Nat):(l.take m).getD i z55=if i < m then l.getD i z55 else z55:=by
  rw [List.getD_eq_getElem?_getD,List.getD_eq_getElem?_getD,List.getElem?_take]
  split <;> rfl
theorem QS (i:Nat):(0≤(([]:List gZ).getD i z55).f1∧(([]:List gZ).getD i z55).f1≤255)∧(0≤(([]:List gZ).getD i z55).f2∧(([]:List gZ).getD i z55).f2≤255)∧(0≤(([]:List gZ).getD i z55).f3∧(([]:List gZ).getD i z55).f3≤255):=by
  show (0≤z55.f1∧z55.f1≤255)∧(0≤z55.f2∧z55.f2≤255)∧(0≤z55.f3∧z55.f3≤255)
  decide
theorem Wf.take {code:List gZ} (h:Wf code) (m:Nat):Wf (code.take m):=fun i=>by
  rw [getD_take]
  split
  · exact h i
  · exact QS 0
end Go.Proofs.YtlemecdddhdagaaDoor.P
end
section
namespace Go.Proofs.YtlemecdddhdagaaDoor.P
open Go.RowKit Go.Proofs.ag.bI Go.Proofs.ag.dM Go.Proofs.ag.dZ
structure Fine (t:List ByteArray) (lo gl:ByteArray) (n:Nat) (x:gZ):Prop where
  op:1≤x.f0∧x.f0≤15
  jump:x.f0=3 ∨ x.f0=4→0≤x.f4∧x.f4≤n
  one:x.f0=1 ∨ x.f0=4 ∨ x.f0=14→x.f1 < 8
  add:x.f0=2→x.f1 < 8∧x.f2 < 8∧x.f3 < 8
  new:x.f0=5 ∨ x.f0=6→0≤df t lo x.f1
  move:x.f0=7→0≤df t lo x.f1∧df t lo x.f1=df t lo x.f2
  aaH:x.f0=8→x.f1 < 8∧0≤df t lo x.f2∧0≤x.f4∧x.f4 < jl t (df t lo x.f2)
  Yi:x.f0=9→x.f2 < 8∧0≤df t lo x.f1∧0≤x.f4∧x.f4 < jl t (df t lo x.f1)∧Ei t (df t lo x.f1) x.f4 < 0
  aaG:x.f0=10→0≤df t lo x.f1∧0≤df t lo x.f2∧0≤x.f4∧x.f4 < jl t (df t lo x.f2)∧df t lo x.f1=Ei t (df t lo x.f2) x.f4
  Yh:x.f0=11→0≤df t lo x.f2∧0≤df t lo x.f1∧0≤x.f4∧x.f4 < jl t (df t lo x.f1)∧df t lo x.f2=Ei t (df t lo x.f1) x.f4
  aaI:x.f0=12→0≤df t lo x.f1∧df t lo x.f1=df t gl x.f2
  Yj:x.f0=13→0≤df t lo x.f2∧df t lo x.f2=df t gl x.f1
  same:x.f0=15→x.f1 < 8∧0≤df t lo x.f2∧df t lo x.f2=df t lo x.f3
theorem rC {a b:Int}:oP a b=true ↔ 0≤a∧a=b:=by simp [oP]
theorem I8 {a:Int}:nZ [a]=true ↔ a < 8:=by
  unfold nZ
  rw [nS]
  refine ⟨fun h=>of_decide_eq_true (h 0 (by simp)),fun h j hj=>?_⟩
  obtain rfl:j=0:=by simp at hj;omega
  exact decide_eq_true h
theorem aaN {a b c:Int}:nZ [a,b,c]=true ↔ a < 8∧b < 8∧c < 8:=by
  unfold nZ
  rw [nS]
  refine ⟨fun h=>⟨of_decide_eq_true (h 0 (by simp)),of_decide_eq_true (h 1 (by simp)),of_decide_eq_true (h 2 (by simp))⟩,fun h j hj=>?_⟩
  obtain rfl|rfl|rfl:j=0 ∨ j=1 ∨ j=2:=by simp at hj;omega
  · exact decide_eq_true h.1
  · exact decide_eq_true h.2.1
  · exact decide_eq_true h.2.2
theorem xO {t:List ByteArray} {a n:Int} (h:(ny t a n).2=true ∨ 0≤(ny t a n).1):0≤a∧0≤n∧n < jl t a∧(ny t a n).1=Ei t a n:=by
  unfold ny at h ⊢
  split
  · rename_i hc
    exact ⟨hc.1,hc.2.1,hc.2.2,rfl⟩
  · rename_i hc
    rw [if_neg hc] at h
    simp at h
theorem Wp {t:List ByteArray} {lo gl:ByteArray} {n:Nat} {x:gZ} (h:nX t lo gl n x=none):Fine t lo gl n x:=by
  unfold nX at h
  split at h
  case isFalse=>cases h
  rename_i h1
  split at h
  case isTrue=>cases h
  rename_i h2
  split at h
  case isFalse=>cases h
  rename_i h3
  unfold qK at h1
  split at h1
  case isTrue=>cases h1
  rename_i q1
  split at h1
  case isTrue=>cases h1
  rename_i q2
  clear h h1
  have hk:nK t lo gl x.f0 x.f1 x.f2 x.f3 x.f4=true:=h3
  have hn:∀ {a m:Int},pI t a m=true→0≤a∧0≤m∧m < jl t a∧Ei t a m < 0:=fun {a m} hh=>by
    simp only [pI,Bool.and_eq_true,decide_eq_true_eq] at hh
    obtain ⟨y1,y2,y3,y4⟩:=xO (.inl hh.1)
    exact ⟨y1,y2,y3,y4 ▸ hh.2⟩
  refine ⟨⟨by omega,by omega⟩,fun hj=>?_,fun hj=>?_,fun hj=>?_,fun hj=>?_,fun hj=>?_,fun hj=>?_,fun hj=>?_,fun hj=>?_,fun hj=>?_,fun hj=>?_,fun hj=>?_,fun hj=>?_⟩
  · rcases hj with hj|hj <;> simp [qM,hj] at h2 <;> omega
  · rcases hj with hj|hj|hj <;> simp [nK,lG,hj] at hk <;> exact I8.1 hk
  · simp [nK,lG,hj] at hk
    exact aaN.1 hk
  · rcases hj with hj|hj <;> simp [nK,lG,nG,hj] at hk <;> exact hk
  · simp [nK,lG,nG,pJ,hj] at hk
    exact rC.1 hk
  · simp [nK,lG,nG,pJ,hj] at hk
    obtain ⟨y1,y2,y3,_⟩:=hn hk.2
    exact ⟨I8.1 hk.1,y1,y2,y3⟩
  · simp [nK,lG,nG,pJ,hj] at hk
    exact ⟨I8.1 hk.1,hn hk.2⟩
  · simp [nK,lG,nG,pJ,hj] at hk
    obtain ⟨y0,y⟩:=rC.1 hk
    obtain ⟨z1,z2,z3,z4⟩:=xO (.inr (y ▸ y0))
    exact ⟨y0,z1,z2,z3,y.trans z4⟩
  · simp [nK,lG,nG,pJ,hj] at hk
    obtain ⟨y0,y⟩:=rC.1 hk
    obtain ⟨z1,z2,z3,z4⟩:=xO (.inr (y ▸ y0))
    exact ⟨y0,z1,z2,z3,y.trans z4⟩
  · simp [nK,lG,nG,pJ,hj] at hk
    exact rC.1 hk
  · simp [nK,lG,nG,pJ,hj] at hk
    exact rC.1 hk
  · simp [nK,lG,nG,pJ,hj] at hk
    exact ⟨I8.1 hk.1,rC.1 hk.2⟩
def Bz (ty:List Int) (v τ:Int):Prop:=v=0 ∨ (1≤v∧v≤ty.length∧ty.getD (v - 1).toNat (-1)=τ)
theorem Bz.more {ty:List Int} {v τ σ:Int} (h:Bz ty v τ):Bz (ty++[σ]) v τ:=by
  rcases h with h|⟨h1,h2,h3⟩
  · exact .inl h
  · refine .inr ⟨h1,by simp;omega,?_⟩
    rw [List.getD_eq_getElem?_getD,List.getElem?_append_left (by omega),← List.getD_eq_getElem?_getD]
    exact h3
structure Inv (t:List ByteArray) (lo gl:ByteArray) (n:Nat) (s:St) (ty:List Int):Prop where
  len:ty.length=s.bM.length
  size:∀ j:Nat,j < ty.length→((s.bM.getD j []).length:Int)=jl t (ty.getD j (-1))
  obj:∀ j f:Nat,j < ty.length→0≤Ei t (ty.getD j (-1)) f→Bz ty (rd (s.bM.getD j []) f) (Ei t (ty.getD j (-1)) f)
  p:∀ a:Nat,0≤df t lo a→Bz ty (s.p a) (df t lo a)
  g:∀ a:Nat,0≤df t gl a→Bz ty (s.g a) (df t gl a)
  few:s.bM.length≤n∧s.out.length≤n
section
variable {t:List ByteArray} {lo gl:ByteArray} {n:Nat} {s:St} {ty:List Int}
theorem inv0:Inv t lo gl 0 FV [] :=
  ⟨rfl,fun j hj=>absurd hj (by simp),fun j f hj=>absurd hj (by simp),fun _ _=>.inl rfl,fun _ _=>.inl rfl,Nat.le_refl _,Nat.le_refl _⟩
theorem Inv.as {s':St} (h:Inv t lo gl n s ty) (e1:s'.bM=s.bM) (e2:s'.p=s.p) (e3:s'.g=s.g) (e4:s'.out.length≤n+1):Inv t lo gl (n+1) s' ty:=by
  refine ⟨by rw [e1];exact h.len,by rw [e1];exact h.size,by rw [e1];exact h.obj,by rw [e2];exact h.p,by rw [e3];exact h.g,by rw [e1];have:=h.few.1;omega,e4⟩
theorem Inv.Q5 {s':St} (h:Inv t lo gl n s ty) (a:Nat) (v:Int) (e1:s'.bM=s.bM) (e2:s'.p=upd s.p a v) (e3:s'.g=s.g) (e4:s'.out=s.out) (hv:Bz ty v (df t lo a)):Inv t lo gl (n+1) s' ty:=by
  refine ⟨by rw [e1];exact h.len,by rw [e1];exact h.size,by rw [e1];exact h.obj,fun b hb=>?_,by rw [e3];exact h.g,by rw [e1];have:=h.few.1;omega,by rw [e4];have:=h.few.2;omega⟩
  rw [e2]
  unfold upd
  split
  · rename_i hba
    rw [hba]
    exact hv
  · exact h.p b hb
theorem Inv.akj {s':St} (h:Inv t lo gl n s ty) (a:Nat) (v:Int) (e1:s'.bM=s.bM) (e2:s'.p=s.p) (e3:s'.g=upd s.g a v) (e4:s'.out=s.out) (hv:Bz ty v (df t gl a)):Inv t lo gl (n+1) s' ty:=by
  refine ⟨by rw [e1];exact h.len,by rw [e1];exact h.size,by rw [e1];exact h.obj,by rw [e2];exact h.p,fun b hb=>?_,by rw [e1];have:=h.few.1;omega,by rw [e4];have:=h.few.2;omega⟩
  rw [e3]
  unfold upd
  split
  · rename_i hba
    rw [hba]
    exact hv
  · exact h.g b hb
theorem Inv.aav {s':St} (h:Inv t lo gl n s ty) (o:Nat) (m:Nat) (v:Int) (ho:o < ty.length) (hm:(m:Int) < jl t (ty.getD o (-1))) (e1:s'.bM=s.bM.set o ((s.bM.getD o []).set m v)) (e2:s'.p=s.p) (e3:s'.g=s.g) (e4:s'.out=s.out)
    (hv:0≤Ei t (ty.getD o (-1)) m→Bz ty v (Ei t (ty.getD o (-1)) m)):Inv t lo gl (n+1) s' ty:=by
  have hlen:=h.len
  have hrow:∀ j,s'.bM.getD j []=if j=o then (s.bM.getD o []).set m v else s.bM.getD j []:=fun j=>by
    rw [e1,List.getD_eq_getElem?_getD,List.getElem?_set]
    split
    · rename_i hoj
      rw [if_pos hoj.symm,if_pos (by omega)]
      rfl
    · rename_i hoj
      rw [if_neg (fun he=>hoj he.symm),← List.getD_eq_getElem?_getD]
  refine ⟨by rw [e1,List.length_set];exact h.len,fun j hj=>?_,fun j f hj hf=>?_,by rw [e2];exact h.p,by rw [e3];exact h.g,by rw [e1,List.length_set];have:=h.few.1;omega,by rw [e4];have:=h.few.2;omega⟩
  · rw [hrow]
    split
    · rename_i hjo
      rw [List.length_set,hjo]
      exact h.size o ho
    · exact h.size j hj
  · rw [hrow]
    split
    · rename_i hjo
      rw [hjo] at hf ⊢
      have hs:=h.size o ho
      unfold rd
      rw [Int.toNat_natCast,List.getD_eq_getElem?_getD,List.getElem?_set]
      split
      · rename_i hmf
        rw [← hmf] at hf ⊢
        rw [if_pos (by omega)]
        exact hv hf
      · have:=h.obj o f ho hf
        unfold rd at this
        rw [Int.toNat_natCast,List.getD_eq_getElem?_getD] at this
        exact this
    · exact h.obj j f hj hf
theorem Inv.new {s':St} (h:Inv t lo gl n s ty) (a:Nat) (τ:Int) (hτ:df t lo a=τ) (e1:s'.bM=s.bM++[List.replicate (jl t τ).toNat 0]) (hz:0≤jl t τ) (e2:s'.p=upd s.p a ((s.bM.length:Int)+1)) (e3:s'.g=s.g) (e4:s'.out=s.out):Inv t lo gl (n+1) s' (ty++[τ]):=by
  have hlen:=h.len
  have hl:(ty++[τ]).length=ty.length+1:=by simp
  have hty:∀ j,j < ty.length→(ty++[τ]).getD j (-1)=ty.getD j (-1):=fun j hj=>by
    rw [List.getD_eq_getElem?_getD,List.getElem?_append_left hj,← List.getD_eq_getElem?_getD]
  have aaQ:(ty++[τ]).getD ty.length (-1)=τ:=by
    rw [List.getD_eq_getElem?_getD,List.getElem?_append_right (Nat.le_refl _)]
    simp
  have hob:∀ j,j < ty.length→s'.bM.getD j []=s.bM.getD j []:=fun j hj=>by
    rw [e1,List.getD_eq_getElem?_getD,List.getElem?_append_left (by omega),← List.getD_eq_getElem?_getD]
  have aaR:s'.bM.getD ty.length []=List.replicate (jl t τ).toNat 0:=by
    rw [e1,hlen,List.getD_eq_getElem?_getD,List.getElem?_append_right (Nat.le_refl _)]
    simp
  have hr0:∀ (m:Nat) (i:Int),rd (List.replicate m (0:Int)) i=0:=fun m i=>by
    unfold rd
    rw [List.getD_eq_getElem?_getD,List.getElem?_replicate]
    split <;> rfl
  refine ⟨by rw [e1];simp [hlen],fun j hj=>?_,fun j f hj hf=>?_,fun b hb=>?_,fun b hb=>?_,by rw [e1];have:=h.few.1;simp;omega,by rw [e4];have:=h.few.2;omega⟩
  · by_cases hj2:j < ty.length
    · rw [hty j hj2,hob j hj2]
      exact h.size j hj2
    · obtain rfl:j=ty.length:=by omega
      rw [aaQ,aaR,List.length_replicate]
      omega
  · by_cases hj2:j < ty.length
    · rw [hty j hj2] at hf ⊢
      rw [hob j hj2]
      exact (h.obj j f hj2 hf).more
    · obtain rfl:j=ty.length:=by omega
      rw [aaR,hr0]
      exact .inl rfl
  · rw [e2]
    unfold upd
    split
    · rename_i hba
      rw [hba,hτ]
      refine .inr ⟨by omega,by rw [hl,hlen];omega,?_⟩
      rw [show ((s.bM.length:Int)+1 - 1).toNat=ty.length by rw [hlen];omega]
      exact aaQ
    · exact (h.p b hb).more
  · rw [e3]
    exact (h.g b hb).more
end
end Go.Proofs.YtlemecdddhdagaaDoor.P
end
