/- Parts of the proof of ModelMakes: what the functions that it reaches compute, and plain facts about that. -/
import Derived.Test.YtlemecdddhdagaaDoorXab
import Derived.Test.YtlemecdddhdagaaDoorXag
import Derived.Test.YtlemecdddhdagaaDoorXaj
import Derived.Test.YtlemecdddhdagaaDoorXah
set_option linter.unusedVariables false
set_option linter.unusedSimpArgs false
section
namespace Go.Proofs.YtlemecdddhdagaaDoor.P
open Go.RowKit Go.Proofs.ag.bH Go.Proofs.ag.dM Go.Proofs.ag.dY
attribute [local go_sem] kR kP lU lT jM jL kQ kN
def gI.f (k:Nat) :Option (Bool):=(some (([(⟨#[105]⟩:ByteArray)]:List ByteArray):List ByteArray)).bind fun y167=>((some (([(⟨1,0,0,0,5⟩:gY),(⟨5,0,0,0,0⟩:gY),(⟨9,0,0,0,0⟩:gY),(⟨8,1,0,0,0⟩:gY),(⟨14,1,0,0,0⟩:gY)]:List (gY)):List (gY))).bind fun ig=>((gz.f k y167 (⟨#[48]⟩:ByteArray) (⟨#[]⟩:ByteArray) ig 5).bind fun oH=>((gz.f k y167 (⟨#[48]⟩:ByteArray) (⟨#[]⟩:ByteArray) ig 4).bind fun wZ=>(if 1 < (ig.length:Int) then ((gz.f k y167 (⟨#[48]⟩:ByteArray) (⟨#[]⟩:ByteArray) (ig.set (1:Int).toNat (⟨6,(az ig 1).f1,(az ig 1).f2,(az ig 1).f3,(az ig 1).f4⟩:gY)) 9).bind fun rG=>(if (oH.1.length:Int)=1 then (if 0 < (oH.1.length:Int) then (if (rd oH.1 0)=5 then (if oH.2=0 then (if wZ.2=10 then (some (rG.2 == 9)) else (some false)) else (some false)) else (some false)) else (none)) else (some false))) else (none)))))
theorem O0 {α:Type} {g:Nat→Option α} {a b:α} (hg:∀ k,dK (g k) (g (k+1))) {k k':Nat} (h:g k=some a) (h':g k'=some b):a=b:=by
 obtain ⟨K,hK⟩:=Ev.of hg h
 obtain ⟨K',hK'⟩:=Ev.of hg h'
 exact Option.some.inj ((hK (max K K') (Nat.le_max_left _ _)).symm.trans (hK' _ (Nat.le_max_right _ _)))
theorem GH {k:Nat} {a:List Int} {e:Int} {y:List ByteArray} {z:List (gY)} (hy:y=([(⟨#[105]⟩:ByteArray)]:List ByteArray)) (hz:z=([(⟨1,0,0,0,5⟩:gY),(⟨5,0,0,0,0⟩:gY),(⟨9,0,0,0,0⟩:gY),(⟨8,1,0,0,0⟩:gY),(⟨14,1,0,0,0⟩:gY)]:List (gY))) (h:gz.f k y (⟨#[48]⟩:ByteArray) (⟨#[]⟩:ByteArray) z 5=some (a,e)):a=[5]∧e=0:=by
 subst hy hz
 have F:gz.f 40 ([(⟨#[105]⟩:ByteArray)]:List ByteArray) (⟨#[48]⟩:ByteArray) (⟨#[]⟩:ByteArray) ([(⟨1,0,0,0,5⟩:gY),(⟨5,0,0,0,0⟩:gY),(⟨9,0,0,0,0⟩:gY),(⟨8,1,0,0,0⟩:gY),(⟨14,1,0,0,0⟩:gY)]:List (gY)) 5=some ([5],0):=by kernel_rfl
 have:=O0 (fun q=>gz.mono _ _ _ _ _ q) h F
 exact ⟨congrArg Prod.fst this,congrArg Prod.snd this⟩
theorem YT {k:Nat} {a:List Int} {e:Int} {y:List ByteArray} {z:List (gY)} (hy:y=([(⟨#[105]⟩:ByteArray)]:List ByteArray)) (hz:z=([(⟨1,0,0,0,5⟩:gY),(⟨5,0,0,0,0⟩:gY),(⟨9,0,0,0,0⟩:gY),(⟨8,1,0,0,0⟩:gY),(⟨14,1,0,0,0⟩:gY)]:List (gY))) (h:gz.f k y (⟨#[48]⟩:ByteArray) (⟨#[]⟩:ByteArray) z 4=some (a,e)):e=10:=by
 subst hy hz
 have F:gz.f 40 ([(⟨#[105]⟩:ByteArray)]:List ByteArray) (⟨#[48]⟩:ByteArray) (⟨#[]⟩:ByteArray) ([(⟨1,0,0,0,5⟩:gY),(⟨5,0,0,0,0⟩:gY),(⟨9,0,0,0,0⟩:gY),(⟨8,1,0,0,0⟩:gY),(⟨14,1,0,0,0⟩:gY)]:List (gY)) 4=some ([],10):=by kernel_rfl
 exact congrArg Prod.snd (O0 (fun q=>gz.mono _ _ _ _ _ q) h F)
theorem gI.mono:∀ k,dK (gI.f k ) (gI.f (k+1) ):=by
 intro  k
 unfold gI.f
 repeat' with_reducible first|apply gz.mono|exact dK.refl _|exact dK.none _|refine dK.ite ?_ ?_|refine dK.bind ?_ (fun _=>?_)
set_option maxHeartbeats 8000000 in
set_option maxRecDepth 100000 in
theorem gI.calls (k:Nat)  (r:Bool) (w:World) (kX:Kd.C Kd.string w qo jX.length jX) (h:gI.f k =some r) :
  Calls Tryd.prog 10 #[] w fun e w'=>e=.returned (.bool r)∧Below w.heap.size w w':=by
 have AL:=Tryd.underlying55
 have xA:=Tryd.underlying25
 have wo:=ae.mk kX
 clear kX
 have HB:=ae.mk (Below.refl w.heap.size w)
 have H:((some (([(⟨#[105]⟩:ByteArray)]:List ByteArray):List ByteArray)).bind fun y167=>((some (([(⟨1,0,0,0,5⟩:gY),(⟨5,0,0,0,0⟩:gY),(⟨9,0,0,0,0⟩:gY),(⟨8,1,0,0,0⟩:gY),(⟨14,1,0,0,0⟩:gY)]:List (gY)):List (gY))).bind fun ig=>((gz.f k y167 (⟨#[48]⟩:ByteArray) (⟨#[]⟩:ByteArray) ig 5).bind fun oH=>((gz.f k y167 (⟨#[48]⟩:ByteArray) (⟨#[]⟩:ByteArray) ig 4).bind fun wZ=>(if 1 < (ig.length:Int) then ((gz.f k y167 (⟨#[48]⟩:ByteArray) (⟨#[]⟩:ByteArray) (ig.set (1:Int).toNat (⟨6,(az ig 1).f1,(az ig 1).f2,(az ig 1).f3,(az ig 1).f4⟩:gY)) 9).bind fun rG=>(if (oH.1.length:Int)=1 then (if 0 < (oH.1.length:Int) then (if (rd oH.1 0)=5 then (if oH.2=0 then (if wZ.2=10 then (some (rG.2 == 9)) else (some false)) else (some false)) else (some false)) else (none)) else (some false))) else (none))))))=some r:=h
 clear h
 obtain ⟨y167,hy167⟩:∃ y_:List ByteArray,y_=(([(⟨#[105]⟩:ByteArray)]:List ByteArray)):=⟨_,rfl⟩
 replace H:((some (([(⟨1,0,0,0,5⟩:gY),(⟨5,0,0,0,0⟩:gY),(⟨9,0,0,0,0⟩:gY),(⟨8,1,0,0,0⟩:gY),(⟨14,1,0,0,0⟩:gY)]:List (gY)):List (gY))).bind fun ig=>((gz.f k y167 (⟨#[48]⟩:ByteArray) (⟨#[]⟩:ByteArray) ig 5).bind fun oH=>((gz.f k y167 (⟨#[48]⟩:ByteArray) (⟨#[]⟩:ByteArray) ig 4).bind fun wZ=>(if 1 < (ig.length:Int) then ((gz.f k y167 (⟨#[48]⟩:ByteArray) (⟨#[]⟩:ByteArray) (ig.set (1:Int).toNat (⟨6,(az ig 1).f1,(az ig 1).f2,(az ig 1).f3,(az ig 1).f4⟩:gY)) 9).bind fun rG=>(if (oH.1.length:Int)=1 then (if 0 < (oH.1.length:Int) then (if (rd oH.1 0)=5 then (if oH.2=0 then (if wZ.2=10 then (some (rG.2 == 9)) else (some false)) else (some false)) else (some false)) else (none)) else (some false))) else (none)))))=some r:=by first|(rw [hy167];with_reducible exact H)|(have sS:=(Option.bind_some _ _).symm.trans H;rw [hy167];with_reducible exact sS)|(have sS:=(Option.bind_some _ _).symm.trans H;with_reducible exact sS)|with_reducible exact H|(rw [hy167];exact H)|exact H
 have BP:=ae.mk hy167
 clear hy167
 obtain ⟨ig,En⟩:∃ y_:List (gY),y_=(([(⟨1,0,0,0,5⟩:gY),(⟨5,0,0,0,0⟩:gY),(⟨9,0,0,0,0⟩:gY),(⟨8,1,0,0,0⟩:gY),(⟨14,1,0,0,0⟩:gY)]:List (gY))):=⟨_,rfl⟩
 replace H:((gz.f k y167 (⟨#[48]⟩:ByteArray) (⟨#[]⟩:ByteArray) ig 5).bind fun oH=>((gz.f k y167 (⟨#[48]⟩:ByteArray) (⟨#[]⟩:ByteArray) ig 4).bind fun wZ=>(if 1 < (ig.length:Int) then ((gz.f k y167 (⟨#[48]⟩:ByteArray) (⟨#[]⟩:ByteArray) (ig.set (1:Int).toNat (⟨6,(az ig 1).f1,(az ig 1).f2,(az ig 1).f3,(az ig 1).f4⟩:gY)) 9).bind fun rG=>(if (oH.1.length:Int)=1 then (if 0 < (oH.1.length:Int) then (if (rd oH.1 0)=5 then (if oH.2=0 then (if wZ.2=10 then (some (rG.2 == 9)) else (some false)) else (some false)) else (some false)) else (none)) else (some false))) else (none))))=some r:=by first|(rw [En];with_reducible exact H)|(have sS:=(Option.bind_some _ _).symm.trans H;rw [En];with_reducible exact sS)|(have sS:=(Option.bind_some _ _).symm.trans H;with_reducible exact sS)|with_reducible exact H|(rw [En];exact H)|exact H
 have BO:=ae.mk En
 clear En
 replace H:=Option.bind_eq_some_iff.mp H
 obtain ⟨⟨t174,t177⟩,Xl,H⟩:=H
 replace H:((gz.f k y167 (⟨#[48]⟩:ByteArray) (⟨#[]⟩:ByteArray) ig 4).bind fun wZ=>(if 1 < (ig.length:Int) then ((gz.f k y167 (⟨#[48]⟩:ByteArray) (⟨#[]⟩:ByteArray) (ig.set (1:Int).toNat (⟨6,(az ig 1).f1,(az ig 1).f2,(az ig 1).f3,(az ig 1).f4⟩:gY)) 9).bind fun rG=>(if (t174.length:Int)=1 then (if 0 < (t174.length:Int) then (if (rd t174 0)=5 then (if t177=0 then (if wZ.2=10 then (some (rG.2 == 9)) else (some false)) else (some false)) else (some false)) else (none)) else (some false))) else (none)))=some r:=H
 have A1:=ae.mk Xl
 clear Xl
 replace H:=Option.bind_eq_some_iff.mp H
 obtain ⟨⟨t178,t181⟩,PV,H⟩:=H
 replace H:(if 1 < (ig.length:Int) then ((gz.f k y167 (⟨#[48]⟩:ByteArray) (⟨#[]⟩:ByteArray) (ig.set (1:Int).toNat (⟨6,(az ig 1).f1,(az ig 1).f2,(az ig 1).f3,(az ig 1).f4⟩:gY)) 9).bind fun rG=>(if (t174.length:Int)=1 then (if 0 < (t174.length:Int) then (if (rd t174 0)=5 then (if t177=0 then (if t181=10 then (some (rG.2 == 9)) else (some false)) else (some false)) else (some false)) else (none)) else (some false))) else (none))=some r:=H
 have A2:=ae.mk PV
 clear PV
 by_cases c3:1 < (ig.length:Int)
 ·
  rw [if_pos c3] at H
  have nS:decide (1 < (ig.length:Int))=true:=decide_eq_true c3
  have AV:decide (1 < ig.length)=true:=decide_eq_true (by omega)
  clear c3
  obtain ⟨KG,Em⟩:∃ y_:List (gY),y_=(ig.set (1:Int).toNat (⟨6,(az ig 1).f1,(az ig 1).f2,(az ig 1).f3,(az ig 1).f4⟩:gY)):=⟨_,rfl⟩
  replace H:((gz.f k y167 (⟨#[48]⟩:ByteArray) (⟨#[]⟩:ByteArray) KG 9).bind fun rG=>(if (t174.length:Int)=1 then (if 0 < (t174.length:Int) then (if (rd t174 0)=5 then (if t177=0 then (if t181=10 then (some (rG.2 == 9)) else (some false)) else (some false)) else (some false)) else (none)) else (some false)))=some r:=by first|(rw [Em];with_reducible exact H)|(have sS:=(Option.bind_some _ _).symm.trans H;rw [Em];with_reducible exact sS)|(have sS:=(Option.bind_some _ _).symm.trans H;with_reducible exact sS)|with_reducible exact H|(rw [Em];exact H)|exact H
  have acF:=ae.mk Em
  clear Em
  replace H:=Option.bind_eq_some_iff.mp H
  obtain ⟨⟨t183,t186⟩,A50,H⟩:=H
  replace H:(if (t174.length:Int)=1 then (if 0 < (t174.length:Int) then (if (rd t174 0)=5 then (if t177=0 then (if t181=10 then (some (t186 == 9)) else (some false)) else (some false)) else (some false)) else (none)) else (some false))=some r:=H
  have A5:=ae.mk A50
  clear A50
  by_cases c6:(t174.length:Int)=1
  ·
   rw [if_pos c6] at H
   have nP:((t174.length:Int) == 1)=true:=beq_iff_eq.mpr c6
   have xE:((t174.length:Int) != 1)=false:=bne_eq_false_iff_eq.mpr c6
   clear c6
   by_cases c7:0 < (t174.length:Int)
   ·
    rw [if_pos c7] at H
    have oG:decide (0 < (t174.length:Int))=true:=decide_eq_true c7
    have yu:decide (0 < t174.length)=true:=decide_eq_true (by omega)
    clear c7
    by_cases c8:(rd t174 0)=5
    ·
     rw [if_pos c8] at H
     have oL:((rd t174 0) == 5)=true:=beq_iff_eq.mpr c8
     have yt:((rd t174 0) != 5)=false:=bne_eq_false_iff_eq.mpr c8
     clear c8
     by_cases c9:t177=0
     ·
      rw [if_pos c9] at H
      have DD:(t177 == 0)=true:=beq_iff_eq.mpr c9
      have VI:(t177 != 0)=false:=bne_eq_false_iff_eq.mpr c9
      clear c9
      by_cases c10:t181=10
      ·
       rw [if_pos c10] at H
       have oN:(t181 == 10)=true:=beq_iff_eq.mpr c10
       have J4:(t181 != 10)=false:=bne_eq_false_iff_eq.mpr c10
       clear c10
       obtain rfl:=Option.some.inj H
       go_enter Tryd.func10,Tryd.ntmps10
       go_wp2_with (first|((with_reducible refine dN (N:=8) rfl ?_);refine Kd.uq Kd.string _ 9 ?hg (N:=8) ?hd (xs:=([(⟨#[105]⟩:ByteArray)]:List ByteArray)) (inner:=[.string (⟨#[105]⟩:ByteArray)]) (ok:=fun _=>True) (pq:=fun _=>True) ?hr ?hp (fun _ hk=>hk) trivial (Below.refl _ _) (Nat.le_refl _) (by simp) ?_;(case hd=>rfl);(case hg=>rfl);(case hr=>first|(go_simp;done)|(go_simp;rfl));(case hp=>exact (jg.one (show Kd.M Kd.string _ _ _ (⟨#[105]⟩:ByteArray) [.string (⟨#[105]⟩:ByteArray)] from rfl) (jg.none _ _)));intro v168 w11 NZ hb AP nM;clear AP nM;(first|rw [← BP.out] at NZ|(simp only [Int.reduceToNat] at NZ;rw [← BP.out] at NZ));have dS:=ae.mk (Kd.je NZ (bQ (by repeat (first|(with_reducible first|exact HB.out|apply ah|apply af|apply ai)|exact HB.out))));have dR:=ae.mk (bg (by repeat (first|(with_reducible first|exact HB.out|apply ah|apply af|apply ai)|exact HB.out)) hb);clear HB;have l7:=dS;have HB:=dR;clear dS dR;clear hb NZ)|((with_reducible refine dN (N:=14) rfl ?_);refine Kd.uq tu _ 55 ?hg (N:=14) ?hd (xs:=([(⟨1,0,0,0,5⟩:gY),(⟨5,0,0,0,0⟩:gY),(⟨9,0,0,0,0⟩:gY),(⟨8,1,0,0,0⟩:gY),(⟨14,1,0,0,0⟩:gY)]:List (gY))) (inner:=[.int .u8 1,.int .u8 0,.int .u8 0,.int .u8 0,.int .i64 5,.int .u8 5,.int .u8 0,.int .u8 0,.int .u8 0,.int .i64 0,.int .u8 9,.int .u8 0,.int .u8 0,.int .u8 0,.int .i64 0,.int .u8 8,.int .u8 1,.int .u8 0,.int .u8 0,.int .i64 0,.int .u8 14,.int .u8 1,.int .u8 0,.int .u8 0,.int .i64 0]) (ok:=fun _=>True) (pq:=fun _=>True) ?hr ?hp (fun _ hk=>hk) trivial (Below.refl _ _) (Nat.le_refl _) (by simp) ?_;(case hd=>rfl);(case hg=>rfl);(case hr=>first|(go_simp;done)|(go_simp;rfl));(case hp=>exact (jg.c5 (show Kd.M tu _ _ _ (⟨1,0,0,0,5⟩:gY) [.int .u8 1,.int .u8 0,.int .u8 0,.int .u8 0,.int .i64 5] from (uJ _ _ _ (⟨1,0,0,0,5⟩:gY) )) (jg.c5 (show Kd.M tu _ _ _ (⟨5,0,0,0,0⟩:gY) [.int .u8 5,.int .u8 0,.int .u8 0,.int .u8 0,.int .i64 0] from (uJ _ _ _ (⟨5,0,0,0,0⟩:gY) )) (jg.c5 (show Kd.M tu _ _ _ (⟨9,0,0,0,0⟩:gY) [.int .u8 9,.int .u8 0,.int .u8 0,.int .u8 0,.int .i64 0] from (uJ _ _ _ (⟨9,0,0,0,0⟩:gY) )) (jg.c5 (show Kd.M tu _ _ _ (⟨8,1,0,0,0⟩:gY) [.int .u8 8,.int .u8 1,.int .u8 0,.int .u8 0,.int .i64 0] from (uJ _ _ _ (⟨8,1,0,0,0⟩:gY) )) (jg.c5 (show Kd.M tu _ _ _ (⟨14,1,0,0,0⟩:gY) [.int .u8 14,.int .u8 1,.int .u8 0,.int .u8 0,.int .i64 0] from (uJ _ _ _ (⟨14,1,0,0,0⟩:gY) )) (jg.none _ _)))))));intro v171 Xq NY hb AP nM;clear AP nM;(first|rw [← BO.out] at NY|(simp only [Int.reduceToNat] at NY;rw [← BO.out] at NY));have dS:=ae.mk (Kd.ji (by (with_reducible repeat (first|apply Kd.iy|apply Kd.iw|apply Kd.jb));exact l7.out) hb);have dR:=ae.mk (Kd.je NY (bQ (by repeat (first|(with_reducible first|exact HB.out|apply ah|apply af|apply ai)|exact HB.out))));have dO:=ae.mk (bg (by repeat (first|(with_reducible first|exact HB.out|apply ah|apply af|apply ai)|exact HB.out)) hb);clear l7;clear HB;have l7:=dS;have kJ:=dR;have HB:=dO;clear dS dR dO;clear hb NY;obtain ⟨AZ,rF,akk⟩:=Kd.jy kJ.out;subst akk;obtain ⟨uy,sZ,akj⟩:=Kd.jy l7.out;subst akj)|((with_reducible refine dN (N:=1) rfl ?_);refine fB ?hg (N:=1) ?hd (cs:=#[.slice none 0 0,.string (⟨#[]⟩:ByteArray),.string (⟨#[]⟩:ByteArray),.slice none 0 0]) (t:=25) ?hr ?_;(case hd=>rfl);(case hg=>rfl);(case hr=>first|(go_simp;done)|(go_simp;rfl));intro jI hg w17 hbox hb;have dS:=ae.mk (Kd.ji (by (with_reducible repeat (first|apply Kd.iy|apply Kd.iw|apply Kd.jb));exact l7.out) hb);have dR:=ae.mk (Kd.ji (by (with_reducible repeat (first|apply Kd.iy|apply Kd.iw|apply Kd.jb));exact kJ.out) hb);have dO:=ae.mk (bg (by repeat (first|(with_reducible first|exact HB.out|apply ah|apply af|apply ai)|exact HB.out)) hb);have gQ:=ae.mk (hbox);have lM:=ae.mk ((by rw [hg];exact (bQ (by repeat (first|(with_reducible first|exact HB.out|apply ah|apply af|apply ai)|exact HB.out))):w.heap.size≤jI));have mg:=lM;clear l7;clear kJ;clear HB;have l7:=dS;have kJ:=dR;have HB:=dO;have iV:=gQ;have amV:=lM;have x9:=mg;clear dS dR dO gQ lM mg;clear hb hbox hg;have JM:w17.cell? ⟨jI,0,none⟩=some (.slice none 0 0):=(ax iV.out 0).trans rfl;have JL:w17.cell? ⟨jI,1,none⟩=some (.string (⟨#[]⟩:ByteArray)):=(ax iV.out 1).trans rfl;have JK:w17.cell? ⟨jI,2,none⟩=some (.string (⟨#[]⟩:ByteArray)):=(ax iV.out 2).trans rfl;have JJ:w17.cell? ⟨jI,3,none⟩=some (.slice none 0 0):=(ax iV.out 3).trans rfl;have Jc:=aC iV.out 0;have Jb:=aC iV.out 1;have Ja:=aC iV.out 2;have I9:=aC iV.out 3)|((with_reducible refine bu (f:=12) rfl ?_);refine dQ (some 18) rfl rfl Tryd.func12 (by kernel_rfl) rfl #[.agg #[.slice uy y167.length sZ,.string (⟨#[48]⟩:ByteArray),.string (⟨#[]⟩:ByteArray),.slice AZ ig.length rF],.int .i64 5] rfl (by (try simp only [List.map_toArray,List.map_cons,List.map_nil]);first|done|rfl|(simp only [List.length_drop,List.length_take];rfl)) ?_;(with_reducible refine (gz.calls k _ _ y167 (⟨#[48]⟩:ByteArray) (⟨#[]⟩:ByteArray) _ _ ig 5 t174 t177 _ ?bW ?df ?iM ?iL ?D7 A1.out).mono ?_);(case bW=>refine (Kd.fK (e:=9) (base:=w.heap.size) (ok:=fun k_=>True) (n:=y167.length) (c:=sZ) ?_).2.2;exact (by (with_reducible repeat (first|apply Kd.iy|apply Kd.iw|apply Kd.jb));exact (Kd.jP (Kd.qj (p:=⟨jI,3,none⟩) (Kd.qj (p:=⟨jI,2,none⟩) (Kd.qj (p:=⟨jI,1,none⟩) (Kd.qj (p:=⟨jI,0,none⟩) (Kd.sQ l7.out iV.out (by decide)) (fun _ hk=>hk.2) (.slice uy y167.length sZ)) (fun _ hk=>hk.2) (.string (⟨#[48]⟩:ByteArray))) (fun _ hk=>hk.2) (.string (⟨#[]⟩:ByteArray))) (fun _ hk=>hk.2) (.slice AZ ig.length rF)) (fun _ h_=>h_.1))));(case df=>exact (Kd.fK l7.out).2.1);(case iM=>refine (Kd.fK (e:=55) (base:=w.heap.size) (ok:=fun k_=>True) (n:=ig.length) (c:=rF) ?_).2.2;exact (by (with_reducible repeat (first|apply Kd.iy|apply Kd.iw|apply Kd.jb));exact (Kd.jP (Kd.qj (p:=⟨jI,3,none⟩) (Kd.qj (p:=⟨jI,2,none⟩) (Kd.qj (p:=⟨jI,1,none⟩) (Kd.qj (p:=⟨jI,0,none⟩) (Kd.sQ kJ.out iV.out (by decide)) (fun _ hk=>hk.2) (.slice uy y167.length sZ)) (fun _ hk=>hk.2) (.string (⟨#[48]⟩:ByteArray))) (fun _ hk=>hk.2) (.string (⟨#[]⟩:ByteArray))) (fun _ hk=>hk.2) (.slice AZ ig.length rF)) (fun _ h_=>h_.1))));(case iL=>exact (Kd.fK kJ.out).2.1);(case D7=>exact Kd.bJ wo.out (by repeat (first|(with_reducible first|exact HB.out|apply ah|apply af|apply ai|refine aj ?_ x9.out)|exact HB.out)));rintro e ZA ⟨v175,rfl,ho0,hb⟩;refine ⟨_,rfl,?_⟩;have dS:=ae.mk (Kd.ji (by (with_reducible repeat (first|apply Kd.iy|apply Kd.iw|apply Kd.jb));exact (Kd.jP (Kd.qj (p:=⟨jI,3,none⟩) (Kd.qj (p:=⟨jI,2,none⟩) (Kd.qj (p:=⟨jI,1,none⟩) (Kd.qj (p:=⟨jI,0,none⟩) (Kd.sQ l7.out iV.out (by decide)) (fun _ hk=>hk.2) (.slice uy y167.length sZ)) (fun _ hk=>hk.2) (.string (⟨#[48]⟩:ByteArray))) (fun _ hk=>hk.2) (.string (⟨#[]⟩:ByteArray))) (fun _ hk=>hk.2) (.slice AZ ig.length rF)) (fun _ h_=>h_.1))) hb);have dR:=ae.mk (Kd.ji (by (with_reducible repeat (first|apply Kd.iy|apply Kd.iw|apply Kd.jb));exact (Kd.jP (Kd.qj (p:=⟨jI,3,none⟩) (Kd.qj (p:=⟨jI,2,none⟩) (Kd.qj (p:=⟨jI,1,none⟩) (Kd.qj (p:=⟨jI,0,none⟩) (Kd.sQ kJ.out iV.out (by decide)) (fun _ hk=>hk.2) (.slice uy y167.length sZ)) (fun _ hk=>hk.2) (.string (⟨#[48]⟩:ByteArray))) (fun _ hk=>hk.2) (.string (⟨#[]⟩:ByteArray))) (fun _ hk=>hk.2) (.slice AZ ig.length rF)) (fun _ h_=>h_.1))) hb);have dO:=ae.mk (Kd.je ho0 (bQ (by repeat (first|(with_reducible first|exact HB.out|apply ah|apply af|apply ai|refine aj ?_ x9.out)|exact HB.out))));have gQ:=ae.mk (bf (g:=jI) (o:=.cells #[.slice uy y167.length sZ,.string (⟨#[48]⟩:ByteArray),.string (⟨#[]⟩:ByteArray),.slice AZ ig.length rF] 25 (0,0)) (by (with_reducible repeat (first|refine au ?_ _|refine ay ?_|refine ak ?_ _));refine dL (cs:=#[.slice uy y167.length sZ,.string (⟨#[48]⟩:ByteArray),.string (⟨#[]⟩:ByteArray),.slice none 0 0]) ?_ 3 _ rfl;(with_reducible repeat (first|refine au ?_ _|refine ay ?_|refine ak ?_ _));refine dL (cs:=#[.slice uy y167.length sZ,.string (⟨#[48]⟩:ByteArray),.string (⟨#[]⟩:ByteArray),.slice none 0 0]) ?_ 2 _ rfl;(with_reducible repeat (first|refine au ?_ _|refine ay ?_|refine ak ?_ _));refine dL (cs:=#[.slice uy y167.length sZ,.string (⟨#[]⟩:ByteArray),.string (⟨#[]⟩:ByteArray),.slice none 0 0]) ?_ 1 _ rfl;(with_reducible repeat (first|refine au ?_ _|refine ay ?_|refine ak ?_ _));refine dL (cs:=#[.slice none 0 0,.string (⟨#[]⟩:ByteArray),.string (⟨#[]⟩:ByteArray),.slice none 0 0]) ?_ 0 _ rfl;(with_reducible repeat (first|refine au ?_ _|refine ay ?_|refine ak ?_ _));exact iV.out) hb);have lM:=ae.mk (bg (by repeat (first|(with_reducible first|exact HB.out|apply ah|apply af|apply ai|refine aj ?_ x9.out)|exact HB.out)) hb);clear l7;clear kJ;clear iV;clear HB;have l7:=dS;have kJ:=dR;have rM:=dO;have iV:=gQ;have HB:=lM;clear dS dR dO gQ lM;(try clear hb);(try clear hb2);(try clear hk);(try clear hi);(try clear ho0);have U8:ZA.cell? ⟨jI,0,none⟩=some (.slice uy y167.length sZ):=(ax iV.out 0).trans rfl;have U7:ZA.cell? ⟨jI,1,none⟩=some (.string (⟨#[48]⟩:ByteArray)):=(ax iV.out 1).trans rfl;have U6:ZA.cell? ⟨jI,2,none⟩=some (.string (⟨#[]⟩:ByteArray)):=(ax iV.out 2).trans rfl;have U5:ZA.cell? ⟨jI,3,none⟩=some (.slice AZ ig.length rF):=(ax iV.out 3).trans rfl;have Tn:=aC iV.out 0;have Tm:=aC iV.out 1;have Tj:=aC iV.out 2;have Ti:=aC iV.out 3)|((with_reducible refine bu (f:=12) rfl ?_);refine dQ (some 23) rfl rfl Tryd.func12 (by kernel_rfl) rfl #[.agg #[.slice uy y167.length sZ,.string (⟨#[48]⟩:ByteArray),.string (⟨#[]⟩:ByteArray),.slice AZ ig.length rF],.int .i64 4] rfl (by (try simp only [List.map_toArray,List.map_cons,List.map_nil]);first|done|rfl|(simp only [List.length_drop,List.length_take];rfl)) ?_;(with_reducible refine (gz.calls k _ _ y167 (⟨#[48]⟩:ByteArray) (⟨#[]⟩:ByteArray) _ _ ig 4 t178 t181 _ ?bW ?df ?iM ?iL ?D7 A2.out).mono ?_);(case bW=>repeat (first|exact (Kd.fK l7.out).2.2|(with_reducible refine Kd.bM ?_ _)|(with_reducible refine Kd.bK ?_ _)|(with_reducible refine Kd.dB ?_)));(case df=>exact (Kd.fK l7.out).2.1);(case iM=>repeat (first|exact (Kd.fK kJ.out).2.2|(with_reducible refine Kd.bM ?_ _)|(with_reducible refine Kd.bK ?_ _)|(with_reducible refine Kd.dB ?_)));(case iL=>exact (Kd.fK kJ.out).2.1);(case D7=>repeat (first|exact (Kd.bJ wo.out HB.out)|(with_reducible refine Kd.bM ?_ _)|(with_reducible refine Kd.bK ?_ _)|(with_reducible refine Kd.dB ?_)));rintro e DV ⟨anx,rfl,ho0,hb⟩;refine ⟨_,rfl,?_⟩;have dS:=ae.mk (Kd.ji (by (with_reducible repeat (first|apply Kd.iy|apply Kd.iw|apply Kd.jb));exact l7.out) hb);have dR:=ae.mk (Kd.ji (by (with_reducible repeat (first|apply Kd.iy|apply Kd.iw|apply Kd.jb));exact kJ.out) hb);have dO:=ae.mk (Kd.Ah (by (with_reducible repeat (first|apply Kd.iy|apply Kd.iw|apply Kd.jb));exact rM.out) (Kd.Ai ho0) hb);have gQ:=ae.mk (Kd.je (Kd.GK ho0 (Kd.Me (by (with_reducible repeat (first|apply Kd.iy|apply Kd.iw|apply Kd.jb));exact rM.out))) (bQ (by repeat (first|(with_reducible first|exact HB.out|apply ah|apply af|apply ai|refine aj ?_ x9.out)|exact HB.out))));have lM:=ae.mk (bf (g:=jI) (o:=.cells #[.slice uy y167.length sZ,.string (⟨#[48]⟩:ByteArray),.string (⟨#[]⟩:ByteArray),.slice AZ ig.length rF] 25 (0,0)) (by (with_reducible repeat (first|refine au ?_ _|refine ay ?_|refine ak ?_ _));exact iV.out) hb);have mg:=ae.mk (bg (by repeat (first|(with_reducible first|exact HB.out|apply ah|apply af|apply ai|refine aj ?_ x9.out)|exact HB.out)) hb);clear l7;clear kJ;clear rM;clear iV;clear HB;have l7:=dS;have kJ:=dR;have rM:=dO;have Ak:=gQ;have iV:=lM;have HB:=mg;clear dS dR dO gQ lM mg;(try clear hb);(try clear hb2);(try clear hk);(try clear hi);(try clear ho0);have JI:DV.cell? ⟨jI,0,none⟩=some (.slice uy y167.length sZ):=(ax iV.out 0).trans rfl;have JH:DV.cell? ⟨jI,1,none⟩=some (.string (⟨#[48]⟩:ByteArray)):=(ax iV.out 1).trans rfl;have JG:DV.cell? ⟨jI,2,none⟩=some (.string (⟨#[]⟩:ByteArray)):=(ax iV.out 2).trans rfl;have JF:DV.cell? ⟨jI,3,none⟩=some (.slice AZ ig.length rF):=(ax iV.out 3).trans rfl;have I8:=aC iV.out 0;have I7:=aC iV.out 1;have I5:=aC iV.out 2;have I4:=aC iV.out 3;have p4:0≤(1:Int):=(by omega);have q4:(1:Int) < ((ig.length:Int):Int):=of_decide_eq_true (by first|(with_reducible assumption)|assumption);have qi4:(1 < ig.length)=True:=eq_true (by omega);obtain ⟨AQ,co4,eo4,gb4,gl4,cl4,HG4⟩:=Kd.DN kJ.out (by omega);(first|cases eo4|(injection eo4 with ea_ en_ ec_;(first|subst ea_|(injection ea_ with ea_;subst ea_));subst ec_;clear en_));have GB4:=ae.mk gb4;have GG4:=ae.mk HG4;clear gb4 gl4 HG4;obtain ⟨ce4,ajZ,hM4,Ll,Lj⟩:=Kd.PL kJ.out z55 (1:Int) p4 q4;obtain rfl:=BB hM4;have V8:DV.cell? ⟨AQ,(1:Int).toNat * 5,none⟩=some (.int .u8 ((az ig 1).f0)):=Ll 0 _ rfl;have V7:DV.cell? ⟨AQ,(1:Int).toNat * 5+1,none⟩=some (.int .u8 ((az ig 1).f1)):=Ll 1 _ rfl;have V6:DV.cell? ⟨AQ,(1:Int).toNat * 5+2,none⟩=some (.int .u8 ((az ig 1).f2)):=Ll 2 _ rfl;have V5:DV.cell? ⟨AQ,(1:Int).toNat * 5+3,none⟩=some (.int .u8 ((az ig 1).f3)):=Ll 3 _ rfl;have V4:DV.cell? ⟨AQ,(1:Int).toNat * 5+4,none⟩=some (.int .i64 ((az ig 1).f4)):=Ll 4 _ rfl;have Wu:DV.frozen? ⟨AQ,(1:Int).toNat * 5,none⟩=false:=Lj 0;have Ws:DV.frozen? ⟨AQ,(1:Int).toNat * 5+1,none⟩=false:=Lj 1;have Wq:DV.frozen? ⟨AQ,(1:Int).toNat * 5+2,none⟩=false:=Lj 2;have Wp:DV.frozen? ⟨AQ,(1:Int).toNat * 5+3,none⟩=false:=Lj 3;have Wn:DV.frozen? ⟨AQ,(1:Int).toNat * 5+4,none⟩=false:=Lj 4;clear ajZ Ll Lj hM4;(try rw [show ((1:Int)).toNat=1 from rfl] at V8);(try simp only [Nat.reduceMul,Nat.zero_mul,Nat.zero_add,Nat.reduceAdd] at V8);(try rw [show ((1:Int)).toNat=1 from rfl] at Wu);(try simp only [Nat.reduceMul,Nat.zero_mul,Nat.zero_add,Nat.reduceAdd] at Wu);(try rw [show ((1:Int)).toNat=1 from rfl] at V7);(try simp only [Nat.reduceMul,Nat.zero_mul,Nat.zero_add,Nat.reduceAdd] at V7);(try rw [show ((1:Int)).toNat=1 from rfl] at Ws);(try simp only [Nat.reduceMul,Nat.zero_mul,Nat.zero_add,Nat.reduceAdd] at Ws);(try rw [show ((1:Int)).toNat=1 from rfl] at V6);(try simp only [Nat.reduceMul,Nat.zero_mul,Nat.zero_add,Nat.reduceAdd] at V6);(try rw [show ((1:Int)).toNat=1 from rfl] at Wq);(try simp only [Nat.reduceMul,Nat.zero_mul,Nat.zero_add,Nat.reduceAdd] at Wq);(try rw [show ((1:Int)).toNat=1 from rfl] at V5);(try simp only [Nat.reduceMul,Nat.zero_mul,Nat.zero_add,Nat.reduceAdd] at V5);(try rw [show ((1:Int)).toNat=1 from rfl] at Wp);(try simp only [Nat.reduceMul,Nat.zero_mul,Nat.zero_add,Nat.reduceAdd] at Wp);(try rw [show ((1:Int)).toNat=1 from rfl] at V4);(try simp only [Nat.reduceMul,Nat.zero_mul,Nat.zero_add,Nat.reduceAdd] at V4);(try rw [show ((1:Int)).toNat=1 from rfl] at Wn);(try simp only [Nat.reduceMul,Nat.zero_mul,Nat.zero_add,Nat.reduceAdd] at Wn);replace p4:=eq_true p4;replace q4:=eq_true q4;have acI:=ae.mk (show Kd.R tu 55 DV w.heap.size (fun _=>True) (.slice (some ⟨AQ,0,none⟩) ig.length rF) ig from (by (with_reducible repeat (first|apply Kd.iy|apply Kd.iw|apply Kd.jb));exact kJ.out));obtain ⟨aod,Wv,abg,OD,Wl⟩:=Kd.PL acI.out z55 (1:Int) (by omega) (by have h_:(1:Int) < ((ig.length:Int):Int):=of_decide_eq_true (by first|(with_reducible assumption)|assumption);first|exact h_|(have e_:=(Kd.fK kJ.out).1;omega)|simpa using h_);obtain rfl:=BB abg;have Y7:=Kd.acD acI.out (1:Int) (by omega) (by have h_:(1:Int) < ((ig.length:Int):Int):=of_decide_eq_true (by first|(with_reducible assumption)|assumption);first|exact h_|(have e_:=(Kd.fK kJ.out).1;omega)|simpa using h_) (uZ:=[.int .u8 6]) (j:=0) Wv OD (show 1≤5 from by decide) (x':=(⟨6,(az ig 1).f1,(az ig 1).f2,(az ig 1).f3,(az ig 1).f4⟩:gY)) (uJ _ _ _ (⟨6,(az ig 1).f1,(az ig 1).f2,(az ig 1).f3,(az ig 1).f4⟩:gY) ) (fun _ hk=>hk);have F9:=OD 0 _ rfl;(try simp only [show (tu).sz=5 from rfl,Nat.mul_one,Nat.add_zero] at F9);(try rw [show ((1:Int)).toNat=1 from rfl] at F9);(try simp only [Nat.reduceMul,Nat.zero_mul,Nat.zero_add,Nat.reduceAdd] at F9);have Gj:=Wl 0;(try simp only [show (tu).sz=5 from rfl,Nat.mul_one,Nat.add_zero] at Gj);(try rw [show ((1:Int)).toNat=1 from rfl] at Gj);(try simp only [Nat.reduceMul,Nat.zero_mul,Nat.zero_add,Nat.reduceAdd] at Gj);clear Wv OD Wl abg)|((with_reducible refine Gq (t:=5) (p:=29) rfl ?_);refine DZ (t:=5) (p:=29) (v:=?ajo) (w1:=(DV.setCell ⟨AQ,5,none⟩ (.int .u8 6))) ?hg ?ho ?hn ?hr ?_;(case ho=>rfl);(case hg=>rfl);(case hn=>rfl);(case hr=>first|(go_simp;done)|(go_simp;rfl));intro Qo hw;have hg:DV.grownBy Qo (some AQ):=(by rw [hw];exact Y7.2);have hp_:Kd.R tu 55 Qo w.heap.size (fun _=>True) (.slice (some ⟨AQ,0,none⟩) ig.length rF) KG:=(by rw [hw,acF.out];exact Y7.1);clear Y7;have dS:=ae.mk (Kd.DL (v:=(.slice (some ⟨AQ,0,none⟩) ig.length rF)) (by (with_reducible repeat (first|apply Kd.iy|apply Kd.iw|apply Kd.jb));exact l7.out) (Kd.DK kJ.out) (by decide) hg);have dR:=ae.mk (hp_);have dO:=ae.mk (BN (g:=jI) (o:=.cells #[.slice uy y167.length sZ,.string (⟨#[48]⟩:ByteArray),.string (⟨#[]⟩:ByteArray),.slice (some ⟨AQ,0,none⟩) ig.length rF] 25 (0,0)) (by (with_reducible repeat (first|refine au ?_ _|refine ay ?_|refine ak ?_ _));exact iV.out) hg (Kd.acE kJ.out iV.out (by decide)));have gQ:=ae.mk (Kd.DL (v:=(.slice (some ⟨AQ,0,none⟩) ig.length rF)) (by (with_reducible repeat (first|apply Kd.iy|apply Kd.iw|apply Kd.jb));exact rM.out) (Kd.DK kJ.out) (by decide) hg);have lM:=ae.mk (Kd.DL (v:=(.slice (some ⟨AQ,0,none⟩) ig.length rF)) (by (with_reducible repeat (first|apply Kd.iy|apply Kd.iw|apply Kd.jb));exact Ak.out) (Kd.DK kJ.out) (by decide) hg);have mg:=ae.mk ((by rw [hw];exact aj (HB.out) GB4.out:Below w.heap.size w Qo));clear l7;clear kJ;clear iV;clear rM;clear Ak;clear HB;have l7:=dS;have kJ:=dR;have iV:=dO;have rM:=gQ;have Ak:=lM;have HB:=mg;clear dS dR dO gQ lM mg;clear hg hw hp_;have yQ:Qo.cell? ⟨jI,0,none⟩=some (.slice uy y167.length sZ):=(ax iV.out 0).trans rfl;have yP:Qo.cell? ⟨jI,1,none⟩=some (.string (⟨#[48]⟩:ByteArray)):=(ax iV.out 1).trans rfl;have yO:Qo.cell? ⟨jI,2,none⟩=some (.string (⟨#[]⟩:ByteArray)):=(ax iV.out 2).trans rfl;have yN:Qo.cell? ⟨jI,3,none⟩=some (.slice (some ⟨AQ,0,none⟩) ig.length rF):=(ax iV.out 3).trans rfl;have yI:=aC iV.out 0;have yH:=aC iV.out 1;have yG:=aC iV.out 2;have yF:=aC iV.out 3)|((with_reducible refine bu (f:=12) rfl ?_);refine dQ (some 32) rfl rfl Tryd.func12 (by kernel_rfl) rfl #[.agg #[.slice uy y167.length sZ,.string (⟨#[48]⟩:ByteArray),.string (⟨#[]⟩:ByteArray),.slice (some ⟨AQ,0,none⟩) KG.length rF],.int .i64 9] rfl (by (try simp only [List.map_toArray,List.map_cons,List.map_nil]);first|done|(rw [show KG.length=ig.length from (Kd.fK kJ.out).1.symm] <;> rfl)|rfl|(simp only [List.length_drop,List.length_take];rfl)) ?_;(with_reducible refine (gz.calls k _ _ y167 (⟨#[48]⟩:ByteArray) (⟨#[]⟩:ByteArray) _ _ KG 9 t183 t186 _ ?bW ?df ?iM ?iL ?D7 A5.out).mono ?_);(case bW=>repeat (first|exact (Kd.fK l7.out).2.2|(with_reducible refine Kd.bM ?_ _)|(with_reducible refine Kd.bK ?_ _)|(with_reducible refine Kd.dB ?_)));(case df=>exact (Kd.fK l7.out).2.1);(case iM=>repeat (first|exact (Kd.fK kJ.out).2.2|(with_reducible refine Kd.bM ?_ _)|(with_reducible refine Kd.bK ?_ _)|(with_reducible refine Kd.dB ?_)));(case iL=>rw [show KG.length=ig.length from (Kd.fK kJ.out).1.symm];exact (Kd.fK kJ.out).2.1);(case D7=>repeat (first|exact (Kd.bJ wo.out HB.out)|(with_reducible refine Kd.bM ?_ _)|(with_reducible refine Kd.bK ?_ _)|(with_reducible refine Kd.dB ?_)));rintro e w26 ⟨anw,rfl,ho0,hb⟩;refine ⟨_,rfl,?_⟩;have dS:=ae.mk (Kd.ji (by (with_reducible repeat (first|apply Kd.iy|apply Kd.iw|apply Kd.jb));exact l7.out) hb);have dR:=ae.mk (Kd.ji (by (with_reducible repeat (first|apply Kd.iy|apply Kd.iw|apply Kd.jb));exact kJ.out) hb);have dO:=ae.mk (Kd.Ah (by (with_reducible repeat (first|apply Kd.iy|apply Kd.iw|apply Kd.jb));exact rM.out) (Kd.Ai ho0) hb);have gQ:=ae.mk (Kd.Ah (by (with_reducible repeat (first|apply Kd.iy|apply Kd.iw|apply Kd.jb));exact Ak.out) (Kd.Ai ho0) hb);have lM:=ae.mk (Kd.je (Kd.GK (Kd.GK ho0 (Kd.Me (by (with_reducible repeat (first|apply Kd.iy|apply Kd.iw|apply Kd.jb));exact rM.out))) (Kd.Me (by (with_reducible repeat (first|apply Kd.iy|apply Kd.iw|apply Kd.jb));exact Ak.out))) (bQ (by repeat (first|(with_reducible first|exact HB.out|apply ah|apply af|apply ai|refine aj ?_ x9.out)|exact HB.out))));have mg:=ae.mk (bf (g:=jI) (o:=.cells #[.slice uy y167.length sZ,.string (⟨#[48]⟩:ByteArray),.string (⟨#[]⟩:ByteArray),.slice (some ⟨AQ,0,none⟩) ig.length rF] 25 (0,0)) (by (with_reducible repeat (first|refine au ?_ _|refine ay ?_|refine ak ?_ _));exact iV.out) hb);have nI:=ae.mk (bg (by repeat (first|(with_reducible first|exact HB.out|apply ah|apply af|apply ai|refine aj ?_ x9.out)|exact HB.out)) hb);clear l7;clear kJ;clear rM;clear Ak;clear iV;clear HB;have l7:=dS;have kJ:=dR;have rM:=dO;have Ak:=gQ;have amH:=lM;have iV:=mg;have HB:=nI;clear dS dR dO gQ lM mg nI;(try clear hb);(try clear hb2);(try clear hk);(try clear hi);(try clear ho0);obtain ⟨aoo,aoc,aki⟩:=Kd.jy rM.out;subst aki;have XQ:0≤(0:Int):=(by omega);have XG:0 < (t174.length:Int):=of_decide_eq_true (by first|(with_reducible assumption)|assumption);obtain ⟨amv,e187,Iq⟩:=Kd.Ae (Kd.fK rM.out).2.2 0 XQ XG;cases e187;have akY:(0 < t174.length)=True:=eq_true (by omega);(try rw [show ((0:Int)).toNat=0 from rfl] at Iq);(try rw [Addr.add_zero'] at Iq);replace XQ:=eq_true XQ;replace XG:=eq_true XG))
       go_ret
       exact ⟨by first|rfl|(simp [aQ,aN] <;> rfl)|(simp [*,aQ,aN] <;> rfl),by repeat (first|(with_reducible first|exact HB.out|apply ah|apply af|apply ai|refine aj ?_ x9.out)|exact HB.out)⟩
      ·
       exact absurd (YT BP.out BO.out A2.out) c10
     ·
      exact absurd (GH BP.out BO.out A1.out).2 c9
    ·
     exact absurd (by rw [(GH BP.out BO.out A1.out).1];rfl) c8
   ·
    rw [if_neg c7] at H
    exact absurd H (by simp)
  ·
   exact absurd (by rw [(GH BP.out BO.out A1.out).1];rfl) c6
 ·
  rw [if_neg c3] at H
  exact absurd H (by simp)
def dm.l0:Nat→Int→List ByteArray→Int→Int→List ByteArray→ByteArray→ByteArray→List (gY)→Option (Bool)
 | 0,_,_,_,_,_,_,_,_=>none
 | k+1,x3,x14,x15,x16,Qa,P9,P8,Hg=>if x16 < x15 then (if 0≤x16 then (if x16 < (x14.length:Int) then (dm.l0 k (wrap64 (x3+(wrap64 (((dV ByteArray.empty x14 x16).size:Int)+1)))) x14 x15 (wrap64 (x16+1)) Qa P9 P8 Hg) else (none)) else (none)) else (if x3≤500 then (some (decide ((Hg.length:Int)≤210))) else (some false))
def dm.f (k:Nat) (aY:List ByteArray) (aT:ByteArray) (aU:ByteArray) (aI:List (gY)):Option (Bool):=dm.l0 k (wrap64 ((aT.size:Int)+(aU.size:Int))) aY (aY.length:Int) 0 aY aT aU aI
theorem dm.gZ:∀ k,(∀ y0 y1 y2 y3 y4 y5 y6 y7,dK (dm.l0 k y0 y1 y2 y3 y4 y5 y6 y7) (dm.l0 (k+1) y0 y1 y2 y3 y4 y5 y6 y7))
 | 0=>fun _ _ _ _ _ _ _ _ r h=>by simp [dm.l0] at h
 | k+1=>by
  have lu:=dm.gZ k
  ·
   intro y0 y1 y2 y3 y4 y5 y6 y7
   unfold dm.l0
   repeat' with_reducible first|apply lu|exact dK.refl _|exact dK.none _|refine dK.ite ?_ ?_|refine dK.bind ?_ (fun _=>?_)
theorem dm.mono:∀ a0 a1 a2 a3 k,dK (dm.f k a0 a1 a2 a3) (dm.f (k+1) a0 a1 a2 a3):=by
 intro a0 a1 a2 a3 k
 have lu:=dm.gZ k
 unfold dm.f
 repeat' with_reducible first|apply lu|exact dK.refl _|exact dK.none _|refine dK.ite ?_ ?_|refine dK.bind ?_ (fun _=>?_)
set_option maxHeartbeats 8000000 in
set_option maxRecDepth 100000 in
theorem dm.calls (k:Nat) (dX:Option Addr) (dW:Nat) (aY:List ByteArray) (aT:ByteArray) (aU:ByteArray) (fQ:Option Addr) (eH:Nat) (aI:List (gY)) (r:Bool) (w:World) (jF:Kd.C Kd.string w dX aY.length aY) (jH:aY.length≤dW) (jE:Kd.C tu w fQ aI.length aI) (jG:aI.length≤eH) (h:dm.f k aY aT aU aI=some r) :
  Calls Tryd.prog 11 #[.agg #[.slice dX aY.length dW,.string aT,.string aU,.slice fQ aI.length eH]] w fun e w'=>e=.returned (.bool r)∧Below w.heap.size w w':=by
 have xA:=Tryd.underlying25
 have iq:=ae.mk jF
 have iC:=ae.mk jH
 clear jF jH
 have jB:=ae.mk jE
 have jS:=ae.mk jG
 clear jE jG
 have HB:=ae.mk (Below.refl w.heap.size w)
 have H:(dm.l0 k (wrap64 ((aT.size:Int)+(aU.size:Int))) aY (aY.length:Int) 0 aY aT aU aI)=some r:=h
 clear h
 have H':=ae.mk H
 clear H
 go_enter Tryd.func11,Tryd.ntmps11
 go_wp2_with (first|((with_reducible refine dN (N:=1) rfl ?_);(try (refine mZ (by rfl) ?_;dsimp only));refine fB ?hg (N:=1) ?hd (cs:=#[.slice dX aY.length dW,.string aT,.string aU,.slice fQ aI.length eH]) (t:=25) ?hr ?_;(case hd=>rfl);(case hg=>rfl);(case hr=>first|(go_simp;done)|(go_simp;rfl));intro vH hg w2 hbox hb;have dS:=ae.mk (bg (by repeat (first|(with_reducible first|exact HB.out|apply ah|apply af|apply ai)|exact HB.out)) hb);have dR:=ae.mk (hbox);have dO:=ae.mk ((by rw [hg];exact (bQ (by repeat (first|(with_reducible first|exact HB.out|apply ah|apply af|apply ai)|exact HB.out))):w.heap.size≤vH));have gQ:=dO;clear HB;have HB:=dS;have oI:=dR;have amT:=dO;have KD:=gQ;clear dS dR dO gQ;clear hb hbox hg;have ajX:w2.cell? ⟨vH,0,none⟩=some (.slice dX aY.length dW):=(ax oI.out 0).trans rfl;have ajW:w2.cell? ⟨vH,1,none⟩=some (.string aT):=(ax oI.out 1).trans rfl;have ajV:w2.cell? ⟨vH,2,none⟩=some (.string aU):=(ax oI.out 2).trans rfl;have ajU:w2.cell? ⟨vH,3,none⟩=some (.slice fQ aI.length eH):=(ax oI.out 3).trans rfl;have ajN:=aC oI.out 0;have ajM:=aC oI.out 1;have ajL:=aC oI.out 2;have ajK:=aC oI.out 3))
 go_loopg [3,16] k (fun kq v3 v16 w'=>∃ (jT:Int) (qC:Int),v3=.int .i64 jT∧v16=.int .i64 qC∧ae (dm.l0 kq jT aY (aY.length:Int) qC aY aT aU aI=some r)∧ae (kq≤k)∧ae (w'.heap[vH]? = some (.cells #[(.slice dX aY.length dW),.string aT,.string aU,(.slice fQ aI.length eH)] 25 (0,0)))∧ae (Below w.heap.size w w'))
 case atStart=>exact ⟨(wrap64 ((aT.size:Int)+(aU.size:Int))),(0),(by first|rfl|(simp;done)|(simp [*];done)),(by first|rfl|(simp;done)|(simp [*];done)),H',⟨Nat.le_refl _⟩,⟨by (with_reducible repeat (first|refine au ?_ _|refine ay ?_|refine ak ?_ _));exact oI.out⟩,⟨by repeat (first|(with_reducible first|exact HB.out|apply ah|apply af|apply ai|refine aj ?_ KD.out)|exact HB.out)⟩⟩
 case round =>
  clear H'
  obtain ⟨jT,qC,rfl,rfl,HA,tq,oI,HB⟩:=hrel
  cases gk with
  | zero=>exact absurd HA.out (by simp [dm.l0])
  | succ k1 =>
   have H:=HA.out
   clear HA
   simp only [dm.l0] at H
   by_cases c4:qC < (aY.length:Int)
   ·
    rw [if_pos c4] at H
    have nR:decide (qC < (aY.length:Int))=true:=decide_eq_true c4
    clear c4
    by_cases c5:0≤qC
    ·
     rw [if_pos c5] at H
     have qO:decide (0≤qC)=true:=decide_eq_true c5
     clear c5
     by_cases c6:qC < (aY.length:Int)
     ·
      rw [if_pos c6] at H
      have nP:decide (qC < (aY.length:Int))=true:=decide_eq_true c6
      clear c6
      have H':=ae.mk H
      clear H
      have XO:0≤(qC:Int):=of_decide_eq_true (by first|(with_reducible assumption)|assumption)
      have XE:qC < (aY.length:Int):=of_decide_eq_true (by first|(with_reducible assumption)|assumption)
      obtain ⟨amu,e189,CO⟩:=Kd.kC iq.out qC XO XE
      cases e189
      replace CO:=(HB.out.cell (World.block_lt_of_cell? w _ CO)).trans CO
      replace XO:=eq_true XO
      replace XE:=eq_true XE
      go_wp2
      go_roundg k1
      case measure=>have:=tq.out;omega
      case rel=>exact ⟨(wrap64 (jT+(wrap64 (((dV ByteArray.empty aY qC).size:Int)+1)))),(wrap64 (qC+1)),(by first|rfl|(simp;done)|(simp [*];done)),(by first|rfl|(simp;done)|(simp [*];done)),H',⟨by have:=tq.out;omega⟩,⟨by (with_reducible repeat (first|refine au ?_ _|refine ay ?_|refine ak ?_ _));exact oI.out⟩,⟨by repeat (first|(with_reducible first|exact HB.out|apply ah|apply af|apply ai|refine aj ?_ KD.out)|exact HB.out)⟩⟩
     ·
      rw [if_neg c6] at H
      exact absurd H (by simp)
    ·
     rw [if_neg c5] at H
     exact absurd H (by simp)
   ·
    rw [if_neg c4] at H
    have nR:decide (qC < (aY.length:Int))=false:=decide_eq_false c4
    clear c4
    by_cases c7:jT≤500
    ·
     rw [if_pos c7] at H
     have oG:decide (jT≤500)=true:=decide_eq_true c7
     clear c7
     obtain rfl:=Option.some.inj H
     have Oo:wr.cell? ⟨vH,0,none⟩=some (.slice dX aY.length dW):=(ax oI.out 0).trans rfl
     have Om:wr.cell? ⟨vH,1,none⟩=some (.string aT):=(ax oI.out 1).trans rfl
     have Ol:wr.cell? ⟨vH,2,none⟩=some (.string aU):=(ax oI.out 2).trans rfl
     have Oj:wr.cell? ⟨vH,3,none⟩=some (.slice fQ aI.length eH):=(ax oI.out 3).trans rfl
     have Oa:=aC oI.out 0
     have N9:=aC oI.out 1
     have N8:=aC oI.out 2
     have N7:=aC oI.out 3
     go_wp2
     go_ret
     exact ⟨by first|rfl|(simp [aQ,aN] <;> rfl)|(simp [*,aQ,aN] <;> rfl),by repeat (first|(with_reducible first|exact HB.out|apply ah|apply af|apply ai|refine aj ?_ KD.out)|exact HB.out)⟩
    ·
     rw [if_neg c7] at H
     have oG:decide (jT≤500)=false:=decide_eq_false c7
     clear c7
     obtain rfl:=Option.some.inj H
     go_wp2
     go_ret
     exact ⟨by first|rfl|(simp [aQ,aN] <;> rfl)|(simp [*,aQ,aN] <;> rfl),by repeat (first|(with_reducible first|exact HB.out|apply ah|apply af|apply ai|refine aj ?_ KD.out)|exact HB.out)⟩
def fU.l0:Nat→List Int→List Int→Int→Option (Bool)
 | 0,_,_,_=>none
 | k+1,x0,x1,x5=>if x5 < (x0.length:Int) then (if 0≤x5 then (if x5 < (x1.length:Int) then (if (rd x0 x5)=(rd x1 x5) then (fU.l0 k x0 x1 (wrap64 (x5+1))) else (some false)) else (none)) else (none)) else (some true)
def fU.f (k:Nat) (l0:List Int) (l1:List Int):Option (Bool):=if (l0.length:Int)=(l1.length:Int) then (fU.l0 k l0 l1 0) else (some false)
theorem fU.gZ:∀ k,(∀ y0 y1 y2,dK (fU.l0 k y0 y1 y2) (fU.l0 (k+1) y0 y1 y2))
 | 0=>fun _ _ _ r h=>by simp [fU.l0] at h
 | k+1=>by
  have lu:=fU.gZ k
  ·
   intro y0 y1 y2
   unfold fU.l0
   repeat' with_reducible first|apply lu|exact dK.refl _|exact dK.none _|refine dK.ite ?_ ?_|refine dK.bind ?_ (fun _=>?_)
theorem fU.mono:∀ a0 a1 k,dK (fU.f k a0 a1) (fU.f (k+1) a0 a1):=by
 intro a0 a1 k
 have lu:=fU.gZ k
 unfold fU.f
 repeat' with_reducible first|apply lu|exact dK.refl _|exact dK.none _|refine dK.ite ?_ ?_|refine dK.bind ?_ (fun _=>?_)
end Go.Proofs.YtlemecdddhdagaaDoor.P
end
section
namespace Go.Proofs.YtlemecdddhdagaaDoor.P
open Go.RowKit Go.Proofs.ag.bH Go.Proofs.ag.dM Go.Proofs.ag.dY
theorem VL:Ev (fun k=>gI.f k) true:=Ev.of (k:=40) gI.mono (by kernel_rfl)
theorem abo (t:List ByteArray) (lo gl:ByteArray) (code:List gY) (ht:t.length≤9223372036854775807):∃ b,Ev (fun k=>dm.f k t lo gl code) b:=by
  have:∀ d i x3,i+d=t.length→∃ b,Ev (fun k=>dm.l0 k x3 t t.length (i:Nat) t lo gl code) b:=by
    intro d
    induction d with
    | zero =>
      intro i x3 hi
      by_cases h:x3≤500
      · refine ⟨_,Ev.step (f:=fun _=>some (decide ((code.length:Int)≤210))) (fun k=>?_) (Ev.now _)⟩
        simp only [dm.l0]
        rw [if_neg (by omega),if_pos h]
      · refine ⟨_,Ev.step (f:=fun _=>some false) (fun k=>?_) (Ev.now _)⟩
        simp only [dm.l0]
        rw [if_neg (by omega),if_neg h]
    | succ d ih =>
      intro i x3 hi
      obtain ⟨b,hb⟩:=ih (i+1) (wrap64 (x3+(wrap64 (((dV ByteArray.empty t i).size:Int)+1)))) (by omega)
      refine ⟨b,Ev.step (fun k=>?_) hb⟩
      simp only [dm.l0]
      rw [if_pos (by omega),if_pos (by omega),if_pos (by omega),wrapN (i:=i) (n:=t.length) (by omega) ht]
  exact this t.length 0 _ (by omega)
theorem zt {t:List ByteArray} (h:jK t=true) (i:Nat) (hi:i < t.length):1≤jm t i∧jm t i≤6:=by
  have h':=h
  unfold jK at h'
  simp only [Bool.and_eq_true,decide_eq_true_eq] at h'
  have h2:=nN.1 h'.1 i hi
  unfold sW at h2
  simp only [Bool.and_eq_true,decide_eq_true_eq] at h2
  unfold jm MF
  rw [h,if_pos (by simp;omega)]
  omega
theorem D6 {t:List ByteArray} (h:jK t=true) (i:Nat):jm t i≤6:=by
  by_cases hi:i < t.length
  · exact (zt h i hi).2
  · unfold jm MF
    rw [if_neg (by simp;omega)]
    decide
theorem ED {t:List ByteArray} {lo gl:ByteArray} (h:headB t lo gl=true):jK t=true∧(∀ j,j < lo.size→0≤kS (bt lo j) t.length)∧(∀ j,j < gl.size→0≤kS (bt gl j) t.length)∧lo.size≤8∧gl.size≤4:=by
  unfold headB qJ at h
  simp only [Bool.and_eq_true,decide_eq_true_eq] at h
  obtain ⟨⟨h1,h2⟩,h3,h4⟩:=h
  have hj:∀ j,j < (lo++gl).size→0≤kS (bt (lo++gl) j) t.length:=fun j hj=>of_decide_eq_true (nN.1 h1 j hj)
  have sz:(lo++gl).size=lo.size+gl.size:=by simp
  refine ⟨h2,fun j h=>?_,fun j h=>?_,h3,h4⟩
  · have:=hj j (by omega)
    rw [show bt (lo++gl) (j:Int)=bt lo j from ?_] at this
    · exact this
    · unfold bt
      rw [dif_pos (by rw [Int.toNat_natCast];omega),dif_pos (by rw [Int.toNat_natCast];omega)]
      congr 2
      exact ByteArray.getElem_append_left _
  · have:=hj (lo.size+j) (by omega)
    rw [show bt (lo++gl) ((lo.size+j:Nat):Int)=bt gl j from ?_] at this
    · exact this
    · unfold bt
      rw [dif_pos (by rw [Int.toNat_natCast];omega),dif_pos (by rw [Int.toNat_natCast];omega)]
      congr 2
      have:(lo++gl)[lo.size+j]'(by omega)=gl[lo.size+j - lo.size]'(by omega):=ByteArray.getElem_append_right (by omega)
      show (lo++gl)[lo.size+j]'(by omega)=gl[j]'(by omega)
      rw [this]
      congr 1
      omega
theorem getD_take (l:List gY) (m i:Nat):(l.take m).getD i z55=if i < m then l.getD i z55 else z55:=by
  rw [List.getD_eq_getElem?_getD,List.getD_eq_getElem?_getD,List.getElem?_take]
  split <;> rfl
theorem Qm (i:Nat):(0≤(([]:List gY).getD i z55).f1∧(([]:List gY).getD i z55).f1≤255)∧(0≤(([]:List gY).getD i z55).f2∧(([]:List gY).getD i z55).f2≤255)∧(0≤(([]:List gY).getD i z55).f3∧(([]:List gY).getD i z55).f3≤255):=by
  show (0≤z55.f1∧z55.f1≤255)∧(0≤z55.f2∧z55.f2≤255)∧(0≤z55.f3∧z55.f3≤255)
  decide
theorem Wf.take {code:List gY} (h:Wf code) (m:Nat):Wf (code.take m):=fun i=>by
  rw [getD_take]
  split
  · exact h i
  · exact Qm 0
end Go.Proofs.YtlemecdddhdagaaDoor.P
end
section
namespace Go.Proofs.YtlemecdddhdagaaDoor.P
open Go.RowKit Go.Proofs.ag.bH Go.Proofs.ag.dM Go.Proofs.ag.dY
structure Fine (t:List ByteArray) (lo gl:ByteArray) (n:Nat) (x:gY):Prop where
  op:1≤x.f0∧x.f0≤15
  jump:x.f0=3 ∨ x.f0=4→0≤x.f4∧x.f4≤n
  one:x.f0=1 ∨ x.f0=4 ∨ x.f0=14→x.f1 < 8
  add:x.f0=2→x.f1 < 8∧x.f2 < 8∧x.f3 < 8
  new:x.f0=5 ∨ x.f0=6→0≤dw t lo x.f1
  move:x.f0=7→0≤dw t lo x.f1∧dw t lo x.f1=dw t lo x.f2
  ZT:x.f0=8→x.f1 < 8∧0≤dw t lo x.f2∧0≤x.f4∧x.f4 < jm t (dw t lo x.f2)
  XA:x.f0=9→x.f2 < 8∧0≤dw t lo x.f1∧0≤x.f4∧x.f4 < jm t (dw t lo x.f1)∧DU t (dw t lo x.f1) x.f4 < 0
  ZR:x.f0=10→0≤dw t lo x.f1∧0≤dw t lo x.f2∧0≤x.f4∧x.f4 < jm t (dw t lo x.f2)∧dw t lo x.f1=DU t (dw t lo x.f2) x.f4
  Xz:x.f0=11→0≤dw t lo x.f2∧0≤dw t lo x.f1∧0≤x.f4∧x.f4 < jm t (dw t lo x.f1)∧dw t lo x.f2=DU t (dw t lo x.f1) x.f4
  ZU:x.f0=12→0≤dw t lo x.f1∧dw t lo x.f1=dw t gl x.f2
  XB:x.f0=13→0≤dw t lo x.f2∧dw t lo x.f2=dw t gl x.f1
  same:x.f0=15→x.f1 < 8∧0≤dw t lo x.f2∧dw t lo x.f2=dw t lo x.f3
theorem rq {a b:Int}:oJ a b=true ↔ 0≤a∧a=b:=by simp [oJ]
theorem Ip {a:Int}:nV [a]=true ↔ a < 8:=by
  unfold nV
  rw [nN]
  refine ⟨fun h=>of_decide_eq_true (h 0 (by simp)),fun h j hj=>?_⟩
  obtain rfl:j=0:=by simp at hj;omega
  exact decide_eq_true h
theorem ZZ {a b c:Int}:nV [a,b,c]=true ↔ a < 8∧b < 8∧c < 8:=by
  unfold nV
  rw [nN]
  refine ⟨fun h=>⟨of_decide_eq_true (h 0 (by simp)),of_decide_eq_true (h 1 (by simp)),of_decide_eq_true (h 2 (by simp))⟩,fun h j hj=>?_⟩
  obtain rfl|rfl|rfl:j=0 ∨ j=1 ∨ j=2:=by simp at hj;omega
  · exact decide_eq_true h.1
  · exact decide_eq_true h.2.1
  · exact decide_eq_true h.2.2
theorem xC {t:List ByteArray} {a n:Int} (h:(ng t a n).2=true ∨ 0≤(ng t a n).1):0≤a∧0≤n∧n < jm t a∧(ng t a n).1=DU t a n:=by
  unfold ng at h ⊢
  split
  · rename_i hc
    exact ⟨hc.1,hc.2.1,hc.2.2,rfl⟩
  · rename_i hc
    rw [if_neg hc] at h
    simp at h
theorem VA {t:List ByteArray} {lo gl:ByteArray} {n:Nat} {x:gY} (h:nT t lo gl n x=none):Fine t lo gl n x:=by
  unfold nT at h
  split at h
  case isFalse=>cases h
  rename_i h1
  split at h
  case isTrue=>cases h
  rename_i h2
  split at h
  case isFalse=>cases h
  rename_i h3
  unfold qI at h1
  split at h1
  case isTrue=>cases h1
  rename_i q1
  split at h1
  case isTrue=>cases h1
  rename_i q2
  clear h h1
  have hk:nJ t lo gl x.f0 x.f1 x.f2 x.f3 x.f4=true:=h3
  have hn:∀ {a m:Int},o8 t a m=true→0≤a∧0≤m∧m < jm t a∧DU t a m < 0:=fun {a m} hh=>by
    simp only [o8,Bool.and_eq_true,decide_eq_true_eq] at hh
    obtain ⟨y1,y2,y3,y4⟩:=xC (.inl hh.1)
    exact ⟨y1,y2,y3,y4 ▸ hh.2⟩
  refine ⟨⟨by omega,by omega⟩,fun hj=>?_,fun hj=>?_,fun hj=>?_,fun hj=>?_,fun hj=>?_,fun hj=>?_,fun hj=>?_,fun hj=>?_,fun hj=>?_,fun hj=>?_,fun hj=>?_,fun hj=>?_⟩
  · rcases hj with hj|hj <;> simp [qK,hj] at h2 <;> omega
  · rcases hj with hj|hj|hj <;> simp [nJ,lC,hj] at hk <;> exact Ip.1 hk
  · simp [nJ,lC,hj] at hk
    exact ZZ.1 hk
  · rcases hj with hj|hj <;> simp [nJ,lC,nC,hj] at hk <;> exact hk
  · simp [nJ,lC,nC,o9,hj] at hk
    exact rq.1 hk
  · simp [nJ,lC,nC,o9,hj] at hk
    obtain ⟨y1,y2,y3,_⟩:=hn hk.2
    exact ⟨Ip.1 hk.1,y1,y2,y3⟩
  · simp [nJ,lC,nC,o9,hj] at hk
    exact ⟨Ip.1 hk.1,hn hk.2⟩
  · simp [nJ,lC,nC,o9,hj] at hk
    obtain ⟨y0,y⟩:=rq.1 hk
    obtain ⟨z1,z2,z3,z4⟩:=xC (.inr (y ▸ y0))
    exact ⟨y0,z1,z2,z3,y.trans z4⟩
  · simp [nJ,lC,nC,o9,hj] at hk
    obtain ⟨y0,y⟩:=rq.1 hk
    obtain ⟨z1,z2,z3,z4⟩:=xC (.inr (y ▸ y0))
    exact ⟨y0,z1,z2,z3,y.trans z4⟩
  · simp [nJ,lC,nC,o9,hj] at hk
    exact rq.1 hk
  · simp [nJ,lC,nC,o9,hj] at hk
    exact rq.1 hk
  · simp [nJ,lC,nC,o9,hj] at hk
    exact ⟨Ip.1 hk.1,rq.1 hk.2⟩
def DT (ty:List Int) (v τ:Int):Prop:=v=0 ∨ (1≤v∧v≤ty.length∧ty.getD (v - 1).toNat (-1)=τ)
theorem DT.more {ty:List Int} {v τ σ:Int} (h:DT ty v τ):DT (ty++[σ]) v τ:=by
  rcases h with h|⟨h1,h2,h3⟩
  · exact .inl h
  · refine .inr ⟨h1,by simp;omega,?_⟩
    rw [List.getD_eq_getElem?_getD,List.getElem?_append_left (by omega),← List.getD_eq_getElem?_getD]
    exact h3
structure Inv (t:List ByteArray) (lo gl:ByteArray) (n:Nat) (s:St) (ty:List Int):Prop where
  len:ty.length=s.cZ.length
  size:∀ j:Nat,j < ty.length→((s.cZ.getD j []).length:Int)=jm t (ty.getD j (-1))
  obj:∀ j f:Nat,j < ty.length→0≤DU t (ty.getD j (-1)) f→DT ty (rd (s.cZ.getD j []) f) (DU t (ty.getD j (-1)) f)
  p:∀ a:Nat,0≤dw t lo a→DT ty (s.p a) (dw t lo a)
  g:∀ a:Nat,0≤dw t gl a→DT ty (s.g a) (dw t gl a)
  few:s.cZ.length≤n∧s.out.length≤n
section
variable {t:List ByteArray} {lo gl:ByteArray} {n:Nat} {s:St} {ty:List Int}
theorem inv0:Inv t lo gl 0 P5 [] :=
  ⟨rfl,fun j hj=>absurd hj (by simp),fun j f hj=>absurd hj (by simp),fun _ _=>.inl rfl,fun _ _=>.inl rfl,Nat.le_refl _,Nat.le_refl _⟩
theorem Inv.as {s':St} (h:Inv t lo gl n s ty) (e1:s'.cZ=s.cZ) (e2:s'.p=s.p) (e3:s'.g=s.g) (e4:s'.out.length≤n+1):Inv t lo gl (n+1) s' ty:=by
  refine ⟨by rw [e1];exact h.len,by rw [e1];exact h.size,by rw [e1];exact h.obj,by rw [e2];exact h.p,by rw [e3];exact h.g,by rw [e1];have:=h.few.1;omega,e4⟩
theorem Inv.Qw {s':St} (h:Inv t lo gl n s ty) (a:Nat) (v:Int) (e1:s'.cZ=s.cZ) (e2:s'.p=upd s.p a v) (e3:s'.g=s.g) (e4:s'.out=s.out) (hv:DT ty v (dw t lo a)):Inv t lo gl (n+1) s' ty:=by
  refine ⟨by rw [e1];exact h.len,by rw [e1];exact h.size,by rw [e1];exact h.obj,fun b hb=>?_,by rw [e3];exact h.g,by rw [e1];have:=h.few.1;omega,by rw [e4];have:=h.few.2;omega⟩
  rw [e2]
  unfold upd
  split
  · rename_i hba
    rw [hba]
    exact hv
  · exact h.p b hb
theorem Inv.ajs {s':St} (h:Inv t lo gl n s ty) (a:Nat) (v:Int) (e1:s'.cZ=s.cZ) (e2:s'.p=s.p) (e3:s'.g=upd s.g a v) (e4:s'.out=s.out) (hv:DT ty v (dw t gl a)):Inv t lo gl (n+1) s' ty:=by
  refine ⟨by rw [e1];exact h.len,by rw [e1];exact h.size,by rw [e1];exact h.obj,by rw [e2];exact h.p,fun b hb=>?_,by rw [e1];have:=h.few.1;omega,by rw [e4];have:=h.few.2;omega⟩
  rw [e3]
  unfold upd
  split
  · rename_i hba
    rw [hba]
    exact hv
  · exact h.g b hb
theorem Inv.ZG {s':St} (h:Inv t lo gl n s ty) (o:Nat) (m:Nat) (v:Int) (ho:o < ty.length) (hm:(m:Int) < jm t (ty.getD o (-1))) (e1:s'.cZ=s.cZ.set o ((s.cZ.getD o []).set m v)) (e2:s'.p=s.p) (e3:s'.g=s.g) (e4:s'.out=s.out)
    (hv:0≤DU t (ty.getD o (-1)) m→DT ty v (DU t (ty.getD o (-1)) m)):Inv t lo gl (n+1) s' ty:=by
  have hlen:=h.len
  have hrow:∀ j,s'.cZ.getD j []=if j=o then (s.cZ.getD o []).set m v else s.cZ.getD j []:=fun j=>by
    rw [e1,List.getD_eq_getElem?_getD,List.getElem?_set]
    split
    · rename_i hoj
      rw [if_pos hoj.symm,if_pos (by omega)]
      rfl
    · rename_i hoj
      rw [if_neg (fun he=>hoj he.symm),← List.getD_eq_getElem?_getD]
  refine ⟨by rw [e1,List.length_set];exact h.len,fun j hj=>?_,fun j f hj hf=>?_,by rw [e2];exact h.p,by rw [e3];exact h.g,by rw [e1,List.length_set];have:=h.few.1;omega,by rw [e4];have:=h.few.2;omega⟩
  · rw [hrow]
    split
    · rename_i hjo
      rw [List.length_set,hjo]
      exact h.size o ho
    · exact h.size j hj
  · rw [hrow]
    split
    · rename_i hjo
      rw [hjo] at hf ⊢
      have hs:=h.size o ho
      unfold rd
      rw [Int.toNat_natCast,List.getD_eq_getElem?_getD,List.getElem?_set]
      split
      · rename_i hmf
        rw [← hmf] at hf ⊢
        rw [if_pos (by omega)]
        exact hv hf
      · have:=h.obj o f ho hf
        unfold rd at this
        rw [Int.toNat_natCast,List.getD_eq_getElem?_getD] at this
        exact this
    · exact h.obj j f hj hf
theorem Inv.new {s':St} (h:Inv t lo gl n s ty) (a:Nat) (τ:Int) (hτ:dw t lo a=τ) (e1:s'.cZ=s.cZ++[List.replicate (jm t τ).toNat 0]) (hz:0≤jm t τ) (e2:s'.p=upd s.p a ((s.cZ.length:Int)+1)) (e3:s'.g=s.g) (e4:s'.out=s.out):Inv t lo gl (n+1) s' (ty++[τ]):=by
  have hlen:=h.len
  have hl:(ty++[τ]).length=ty.length+1:=by simp
  have hty:∀ j,j < ty.length→(ty++[τ]).getD j (-1)=ty.getD j (-1):=fun j hj=>by
    rw [List.getD_eq_getElem?_getD,List.getElem?_append_left hj,← List.getD_eq_getElem?_getD]
  have Z7:(ty++[τ]).getD ty.length (-1)=τ:=by
    rw [List.getD_eq_getElem?_getD,List.getElem?_append_right (Nat.le_refl _)]
    simp
  have hob:∀ j,j < ty.length→s'.cZ.getD j []=s.cZ.getD j []:=fun j hj=>by
    rw [e1,List.getD_eq_getElem?_getD,List.getElem?_append_left (by omega),← List.getD_eq_getElem?_getD]
  have Z8:s'.cZ.getD ty.length []=List.replicate (jm t τ).toNat 0:=by
    rw [e1,hlen,List.getD_eq_getElem?_getD,List.getElem?_append_right (Nat.le_refl _)]
    simp
  have hr0:∀ (m:Nat) (i:Int),rd (List.replicate m (0:Int)) i=0:=fun m i=>by
    unfold rd
    rw [List.getD_eq_getElem?_getD,List.getElem?_replicate]
    split <;> rfl
  refine ⟨by rw [e1];simp [hlen],fun j hj=>?_,fun j f hj hf=>?_,fun b hb=>?_,fun b hb=>?_,by rw [e1];have:=h.few.1;simp;omega,by rw [e4];have:=h.few.2;omega⟩
  · by_cases hj2:j < ty.length
    · rw [hty j hj2,hob j hj2]
      exact h.size j hj2
    · obtain rfl:j=ty.length:=by omega
      rw [Z7,Z8,List.length_replicate]
      omega
  · by_cases hj2:j < ty.length
    · rw [hty j hj2] at hf ⊢
      rw [hob j hj2]
      exact (h.obj j f hj2 hf).more
    · obtain rfl:j=ty.length:=by omega
      rw [Z8,hr0]
      exact .inl rfl
  · rw [e2]
    unfold upd
    split
    · rename_i hba
      rw [hba,hτ]
      refine .inr ⟨by omega,by rw [hl,hlen];omega,?_⟩
      rw [show ((s.cZ.length:Int)+1 - 1).toNat=ty.length by rw [hlen];omega]
      exact Z7
    · exact (h.p b hb).more
  · rw [e3]
    exact (h.g b hb).more
end
end Go.Proofs.YtlemecdddhdagaaDoor.P
end
section
namespace Go.Proofs.YtlemecdddhdagaaDoor.P
open Go.RowKit Go.Proofs.ag.bH Go.Proofs.ag.dM Go.Proofs.ag.dY
def Xy (t:List ByteArray) (lo:ByteArray) (a:Int):Option Int:=if 0≤a∧a≤255 then some (jm t (dw t lo a)) else none
section
variable (sz:Int→Option Int) (s:St) (a b c:Nat) (n:Int)
theorem abI:uh sz s 1 a b c n=if a < 8 then some ({ bump s with x:=upd s.x a n },0) else none:=by unfold uh;rfl
theorem abH:uh sz s 2 a b c n=if a < 8∧b < 8∧c < 8 then some ({ bump s with x:=upd s.x a (wrap64 (s.x b+s.x c)) },0) else none:=by unfold uh;rfl
theorem abG:uh sz s 3 a b c n=some ({ bump s with pc:=n },0):=by unfold uh;rfl
theorem abE:uh sz s 4 a b c n=if a < 8 then if s.x a=0 then some ({ bump s with pc:=n },0) else some (bump s,0) else none:=by unfold uh;rfl
theorem abD:uh sz s 5 a b c n=if a < 8 then (sz a).bind fun z=>if 0≤z∧z≤1000000 then some ({ bump s with cZ:=s.cZ++[List.replicate z.toNat 0],p:=upd s.p a ((s.cZ.length:Int)+1) },0) else none else none:=by unfold uh;rfl
theorem abC:uh sz s 6 a b c n=if a < 8 then some ({ bump s with p:=upd s.p a 0 },0) else none:=by unfold uh;rfl
theorem abB:uh sz s 7 a b c n=if a < 8∧b < 8 then some ({ bump s with p:=upd s.p a (s.p b) },0) else none:=by unfold uh;rfl
theorem abA:uh sz s 8 a b c n=if a < 8∧b < 8 then if s.p b=0 then some (bump s,9) else if MB s (s.p b) n then some ({ bump s with x:=upd s.x a (rd (rowOf s (s.p b)) n) },0) else none else none:=by unfold uh;rfl
theorem abz:uh sz s 9 a b c n=if a < 8∧b < 8 then if s.p a=0 then some (bump s,9) else if MB s (s.p a) n then some ({ bump s with cZ:=s.cZ.set (s.p a - 1).toNat ((rowOf s (s.p a)).set n.toNat (s.x b)) },0) else none else none:=by unfold uh;rfl
theorem YB:uh sz s 10 a b c n=if a < 8∧b < 8 then if s.p b=0 then some (bump s,9) else if MB s (s.p b) n then some ({ bump s with p:=upd s.p a (rd (rowOf s (s.p b)) n) },0) else none else none:=by unfold uh;rfl
theorem YA:uh sz s 11 a b c n=if a < 8∧b < 8 then if s.p a=0 then some (bump s,9) else if MB s (s.p a) n then some ({ bump s with cZ:=s.cZ.set (s.p a - 1).toNat ((rowOf s (s.p a)).set n.toNat (s.p b)) },0) else none else none:=by unfold uh;rfl
theorem Yz:uh sz s 12 a b c n=if a < 8∧b < 4 then some ({ bump s with p:=upd s.p a (s.g b) },0) else none:=by unfold uh;rfl
theorem Yy:uh sz s 13 a b c n=if a < 4∧b < 8 then some ({ bump s with g:=upd s.g a (s.p b) },0) else none:=by unfold uh;rfl
theorem Yx:uh sz s 14 a b c n=if a < 8 then some ({ bump s with out:=s.out++[s.x a] },0) else none:=by unfold uh;rfl
theorem Yw:uh sz s 15 a b c n=if a < 8∧b < 8∧c < 8 then some ({ bump s with x:=upd s.x a (if s.p b=s.p c then 1 else 0) },0) else none:=by unfold uh;rfl
end
structure Next (t:List ByteArray) (lo gl:ByteArray) (len n:Nat) (x:gY) (s s':St) (e:Int):Prop where
  code:e=0 ∨ e=9
  bad:e ≠ 0→s'=bump s
  inv:∃ ty',Inv t lo gl (n+1) s' ty'
  pc:e=0→0≤s'.pc∧s'.pc≤len
  steps:s'.steps=wrap64 (s.steps+1)
  out:s'.out=s.out++(if x.f0=14 then [s.x x.f1.toNat] else [])
  cZ:s'.cZ.length=s.cZ.length+(if x.f0=5 then 1 else 0)
theorem NG {t:List ByteArray} {lo:ByteArray} (hl:lo.size≤8) {a:Int} (h:0≤dw t lo a):a < 8∧a < lo.size:=by
  unfold dw at h
  split at h
  · omega
  · omega
theorem YC {sz:Int→Option Int} {s:St} {i:gY} (h1:0≤i.f1) (h2:0≤i.f2) (h3:0≤i.f3) (h4:s.cZ.length≤1000000) (h5:s.out.length≤1000000):MI sz s i=uh sz s i.f0 i.f1.toNat i.f2.toNat i.f3.toNat i.f4:=if_pos ⟨h1,h2,h3,h4,h5⟩
theorem step_ok {t:List ByteArray} {lo gl:ByteArray} {len n:Nat} {s:St} {ty:List Int} {x:gY} (hr:jK t=true) (hlo:lo.size≤8) (hgl:gl.size≤4) (hx:Fine t lo gl len x)
    (w1:0≤x.f1∧x.f1≤255) (w2:0≤x.f2∧x.f2≤255) (w3:0≤x.f3∧x.f3≤255) (hI:Inv t lo gl n s ty) (hn:n≤1000000) (hlen:len≤200) (h0:0≤s.pc) (h1:s.pc < len) :
    ∃ s' e,MI (Xy t lo) s x=some (s',e)∧Next t lo gl len n x s s' e:=by
  have hpc:wrap64 (s.pc+1)=s.pc+1:=by unfold wrap64;omega
  have hb:(bump s).pc=s.pc+1:=hpc
  have hfew:=hI.few
  rw [YC w1.1 w2.1 w3.1 (by omega) (by omega)]
  obtain ⟨op,fa,fb,fc,n4⟩:=x
  obtain ⟨a,rfl⟩:=Int.eq_ofNat_of_zero_le w1.1
  obtain ⟨b,rfl⟩:=Int.eq_ofNat_of_zero_le w2.1
  obtain ⟨c,rfl⟩:=Int.eq_ofNat_of_zero_le w3.1
  simp only at w1 w2 w3 ⊢
  simp only [Int.toNat_natCast]
  have hop:=hx.op
  simp only at hop
  have hsz:∀ τ:Int,0≤jm t τ∧jm t τ≤6:=fun τ=>by
    by_cases hτ:0≤τ
    · obtain ⟨m,rfl⟩:=Int.eq_ofNat_of_zero_le hτ
      have:=D6 hr m
      unfold jm at this ⊢
      omega
    · unfold jm MF
      rw [if_neg (by simp only [decide_eq_false hτ,Bool.false_and,Bool.and_false];decide)]
      exact ⟨by decide,by decide⟩
  have loc:∀ a:Nat,0≤dw t lo a→a < 8:=fun a h=>by have:=(NG hlo h).1;omega
  have glb:∀ a:Nat,0≤dw t gl a→a < 4:=fun a h=>by
    have:((a:Nat):Int) < gl.size:=by
      unfold dw at h
      split at h
      · assumption
      · omega
    omega
  have obj:∀ (b:Nat),0≤dw t lo b→s.p b ≠ 0→1≤s.p b∧s.p b≤s.cZ.length∧((s.p b - 1).toNat < ty.length)∧ty.getD (s.p b - 1).toNat (-1)=dw t lo b∧((rowOf s (s.p b)).length:Int)=jm t (dw t lo b):=fun b hb hne=>by
    rcases hI.p b hb with h|⟨q1,q2,q3⟩
    · exact absurd h hne
    · have hl:=hI.len
      have hlt:(s.p b - 1).toNat < ty.length:=by omega
      have:=hI.size _ hlt
      rw [q3] at this
      exact ⟨q1,by omega,hlt,q3,this⟩
  obtain h|h|h|h|h|h|h|h|h|h|h|h|h|h|h:op=1 ∨ op=2 ∨ op=3 ∨ op=4 ∨ op=5 ∨ op=6 ∨ op=7 ∨ op=8 ∨ op=9 ∨ op=10 ∨ op=11 ∨ op=12 ∨ op=13 ∨ op=14 ∨ op=15:=by omega
  all_goals subst h
  · have q:=hx.one (.inl rfl)
    simp only at q
    rw [abI,if_pos (by omega)]
    exact ⟨_,_,rfl,.inl rfl,fun h=>absurd rfl h,⟨ty,hI.as rfl rfl rfl (by show s.out.length≤_;omega)⟩,fun _=>by show 0≤(bump s).pc∧(bump s).pc≤_;omega,rfl,(List.append_nil _).symm,rfl⟩
  · have q:=hx.add rfl
    simp only at q
    rw [abH,if_pos (by omega)]
    exact ⟨_,_,rfl,.inl rfl,fun h=>absurd rfl h,⟨ty,hI.as rfl rfl rfl (by show s.out.length≤_;omega)⟩,fun _=>by show 0≤(bump s).pc∧(bump s).pc≤_;omega,rfl,(List.append_nil _).symm,rfl⟩
  · have q:=hx.jump (.inl rfl)
    rw [abG]
    exact ⟨_,_,rfl,.inl rfl,fun h=>absurd rfl h,⟨ty,hI.as rfl rfl rfl (by show s.out.length≤_;omega)⟩,fun _=>q,rfl,(List.append_nil _).symm,rfl⟩
  · have q:=hx.jump (.inr rfl)
    have q1:=hx.one (.inr (.inl rfl))
    simp only at q1
    rw [abE,if_pos (by omega)]
    split
    · exact ⟨_,_,rfl,.inl rfl,fun h=>absurd rfl h,⟨ty,hI.as rfl rfl rfl (by show s.out.length≤_;omega)⟩,fun _=>q,rfl,(List.append_nil _).symm,rfl⟩
    · exact ⟨_,_,rfl,.inl rfl,fun h=>absurd rfl h,⟨ty,hI.as rfl rfl rfl (by show s.out.length≤_;omega)⟩,fun _=>by omega,rfl,(List.append_nil _).symm,rfl⟩
  · have q:=hx.new (.inl rfl)
    simp only at q
    have hs:=hsz (dw t lo a)
    rw [abD,if_pos (loc a q),Xy,if_pos ⟨w1.1,w1.2⟩,Option.bind_some,if_pos (by omega)]
    exact ⟨_,_,rfl,.inl rfl,fun h=>absurd rfl h,⟨_,hI.new a _ rfl rfl hs.1 rfl rfl rfl⟩,fun _=>by show 0≤(bump s).pc∧(bump s).pc≤_;omega,rfl,(List.append_nil _).symm,List.length_append⟩
  · have q:=hx.new (.inr rfl)
    simp only at q
    rw [abC,if_pos (loc a q)]
    exact ⟨_,_,rfl,.inl rfl,fun h=>absurd rfl h,⟨ty,hI.Qw a 0 rfl rfl rfl rfl (.inl rfl)⟩,fun _=>by show 0≤(bump s).pc∧(bump s).pc≤_;omega,rfl,(List.append_nil _).symm,rfl⟩
  · obtain ⟨q,q2⟩:=hx.move rfl
    simp only at q q2
    rw [abB,if_pos ⟨loc a q,loc b (q2 ▸ q)⟩]
    exact ⟨_,_,rfl,.inl rfl,fun h=>absurd rfl h,⟨ty,hI.Qw a _ rfl rfl rfl rfl (q2 ▸ hI.p b (q2 ▸ q))⟩,fun _=>by show 0≤(bump s).pc∧(bump s).pc≤_;omega,rfl,(List.append_nil _).symm,rfl⟩
  · obtain ⟨q1,q2,q3,q4⟩:=hx.ZT rfl
    simp only at q1 q2 q3 q4
    rw [abA,if_pos ⟨by omega,loc b q2⟩]
    by_cases hz:s.p b=0
    · rw [if_pos hz]
      exact ⟨_,_,rfl,.inr rfl,fun _=>rfl,⟨ty,hI.as rfl rfl rfl (by show s.out.length≤_;omega)⟩,fun h=>absurd h (by decide),rfl,(List.append_nil _).symm,rfl⟩
    · obtain ⟨y1,y2,y3,y4,y5⟩:=obj b q2 hz
      rw [if_neg hz,if_pos ⟨y1,y2,q3,by omega⟩]
      exact ⟨_,_,rfl,.inl rfl,fun h=>absurd rfl h,⟨ty,hI.as rfl rfl rfl (by show s.out.length≤_;omega)⟩,fun _=>by show 0≤(bump s).pc∧(bump s).pc≤_;omega,rfl,(List.append_nil _).symm,rfl⟩
  · obtain ⟨q1,q2,q3,q4,q5⟩:=hx.XA rfl
    simp only at q1 q2 q3 q4 q5
    obtain ⟨m,rfl⟩:=Int.eq_ofNat_of_zero_le q3
    rw [abz,if_pos ⟨loc a q2,by omega⟩]
    by_cases hz:s.p a=0
    · rw [if_pos hz]
      exact ⟨_,_,rfl,.inr rfl,fun _=>rfl,⟨ty,hI.as rfl rfl rfl (by show s.out.length≤_;omega)⟩,fun h=>absurd h (by decide),rfl,(List.append_nil _).symm,rfl⟩
    · obtain ⟨y1,y2,y3,y4,y5⟩:=obj a q2 hz
      rw [if_neg hz,if_pos ⟨y1,y2,q3,by omega⟩]
      exact ⟨_,_,rfl,.inl rfl,fun h=>absurd rfl h,⟨ty,hI.ZG (s.p a - 1).toNat m _ y3 (by rw [y4];exact q4) rfl rfl rfl rfl (fun h=>by rw [y4] at h;omega)⟩,fun _=>by show 0≤(bump s).pc∧(bump s).pc≤_;omega,rfl,(List.append_nil _).symm,List.length_set⟩
  · obtain ⟨q1,q2,q3,q4,q5⟩:=hx.ZR rfl
    simp only at q1 q2 q3 q4 q5
    obtain ⟨m,rfl⟩:=Int.eq_ofNat_of_zero_le q3
    rw [YB,if_pos ⟨loc a q1,loc b q2⟩]
    by_cases hz:s.p b=0
    · rw [if_pos hz]
      exact ⟨_,_,rfl,.inr rfl,fun _=>rfl,⟨ty,hI.as rfl rfl rfl (by show s.out.length≤_;omega)⟩,fun h=>absurd h (by decide),rfl,(List.append_nil _).symm,rfl⟩
    · obtain ⟨y1,y2,y3,y4,y5⟩:=obj b q2 hz
      rw [if_neg hz,if_pos ⟨y1,y2,q3,by omega⟩]
      have hv:=hI.obj (s.p b - 1).toNat m y3 (by rw [y4];omega)
      rw [y4,← q5] at hv
      exact ⟨_,_,rfl,.inl rfl,fun h=>absurd rfl h,⟨ty,hI.Qw a _ rfl rfl rfl rfl hv⟩,fun _=>by show 0≤(bump s).pc∧(bump s).pc≤_;omega,rfl,(List.append_nil _).symm,rfl⟩
  · obtain ⟨q1,q2,q3,q4,q5⟩:=hx.Xz rfl
    simp only at q1 q2 q3 q4 q5
    obtain ⟨m,rfl⟩:=Int.eq_ofNat_of_zero_le q3
    rw [YA,if_pos ⟨loc a q2,loc b q1⟩]
    by_cases hz:s.p a=0
    · rw [if_pos hz]
      exact ⟨_,_,rfl,.inr rfl,fun _=>rfl,⟨ty,hI.as rfl rfl rfl (by show s.out.length≤_;omega)⟩,fun h=>absurd h (by decide),rfl,(List.append_nil _).symm,rfl⟩
    · obtain ⟨y1,y2,y3,y4,y5⟩:=obj a q2 hz
      rw [if_neg hz,if_pos ⟨y1,y2,q3,by omega⟩]
      exact ⟨_,_,rfl,.inl rfl,fun h=>absurd rfl h,⟨ty,hI.ZG (s.p a - 1).toNat m _ y3 (by rw [y4];exact q4) rfl rfl rfl rfl (fun _=>by rw [y4,← q5];exact hI.p b q1)⟩,fun _=>by show 0≤(bump s).pc∧(bump s).pc≤_;omega,rfl,(List.append_nil _).symm,List.length_set⟩
  · obtain ⟨q1,q2⟩:=hx.ZU rfl
    simp only at q1 q2
    rw [Yz,if_pos ⟨loc a q1,glb b (q2 ▸ q1)⟩]
    exact ⟨_,_,rfl,.inl rfl,fun h=>absurd rfl h,⟨ty,hI.Qw a _ rfl rfl rfl rfl (q2 ▸ hI.g b (q2 ▸ q1))⟩,fun _=>by show 0≤(bump s).pc∧(bump s).pc≤_;omega,rfl,(List.append_nil _).symm,rfl⟩
  · obtain ⟨q1,q2⟩:=hx.XB rfl
    simp only at q1 q2
    rw [Yy,if_pos ⟨glb a (q2 ▸ q1),loc b q1⟩]
    exact ⟨_,_,rfl,.inl rfl,fun h=>absurd rfl h,⟨ty,hI.ajs a _ rfl rfl rfl rfl (q2 ▸ hI.p b q1)⟩,fun _=>by show 0≤(bump s).pc∧(bump s).pc≤_;omega,rfl,(List.append_nil _).symm,rfl⟩
  · have q:=hx.one (.inr (.inr rfl))
    simp only at q
    rw [Yx,if_pos (by omega)]
    exact ⟨_,_,rfl,.inl rfl,fun h=>absurd rfl h,⟨ty,hI.as rfl rfl rfl (by show (s.out++[s.x a]).length≤_;simp;omega)⟩,fun _=>by show 0≤(bump s).pc∧(bump s).pc≤_;omega,rfl,rfl,rfl⟩
  · obtain ⟨q1,q2,q3⟩:=hx.same rfl
    simp only at q1 q2 q3
    rw [Yw,if_pos ⟨by omega,loc b q2,loc c (q3 ▸ q2)⟩]
    exact ⟨_,_,rfl,.inl rfl,fun h=>absurd rfl h,⟨ty,hI.as rfl rfl rfl (by show s.out.length≤_;omega)⟩,fun _=>by show 0≤(bump s).pc∧(bump s).pc≤_;omega,rfl,(List.append_nil _).symm,rfl⟩
end Go.Proofs.YtlemecdddhdagaaDoor.P
end
section
namespace Go.Proofs.YtlemecdddhdagaaDoor.P
open Go.RowKit Go.Proofs.ag.bH Go.Proofs.ag.dM Go.Proofs.ag.dY
structure Ok (t:List ByteArray) (lo gl:ByteArray) (code:List gY):Prop where
  right:jK t=true
  lo8:lo.size≤8
  gl4:gl.size≤4
  len:1≤code.length∧code.length≤200
  fine:∀ j:Nat,j < code.length→Fine t lo gl code.length (code.getD j z55)
  wf:Wf code
theorem ZN {t:List ByteArray} {lo gl:ByteArray} {code:List gY} (h:(oD t lo gl code).2=0) (hw:Wf code):Ok t lo gl code:=by
  obtain ⟨h1,h2,h3⟩:=(LZ t lo gl code).1 h
  obtain ⟨q1,q2,q3,q4,q5⟩:=ED h1
  exact ⟨q1,q4,q5,h2,fun j hj=>VA (h3 j hj),hw⟩
section
variable {t:List ByteArray} {lo gl:ByteArray} {code:List gY}
theorem Ok.step (h:Ok t lo gl code) {n:Nat} {s:St} {ty:List Int} (hI:Inv t lo gl n s ty) (hn:n≤1000000) (h0:0≤s.pc) (h1:s.pc < code.length) :
    ∃ s' e,MI (Xy t lo) s (az code s.pc)=some (s',e)∧Next t lo gl code.length n (az code s.pc) s s' e:=by
  have hw:=h.wf s.pc.toNat
  exact step_ok h.right h.lo8 h.gl4 (h.fine s.pc.toNat (by omega)) hw.1 hw.2.1 hw.2.2 hI hn h.len.2 h0 h1
theorem ZF (ht:t.length≤9223372036854775807):∃ K,∀ k,K≤k→∀ a,dK (Xy t lo a) (MS k t lo gl code a):=by
  have one:∀ a:Nat,a < 256→∃ K,∀ k,K≤k→MS k t lo gl code a=some (jm t (dw t lo a)):=fun a ha =>
    Ev.bind (yD t lo gl code a ht (by omega) (by omega)) (MX t _ ht)
  have many:∀ m:Nat,m≤256→∃ K,∀ k,K≤k→∀ a:Nat,a < m→MS k t lo gl code a=some (jm t (dw t lo a)):=fun m=>by
    induction m with
    | zero=>exact fun _=>⟨0,fun _ _ a ha=>absurd ha (Nat.not_lt_zero a)⟩
    | succ m ih =>
      intro hm
      obtain ⟨K1,h1⟩:=ih (by omega)
      obtain ⟨K2,h2⟩:=one m (by omega)
      refine ⟨max K1 K2,fun k hk a ha=>?_⟩
      by_cases ham:a=m
      · rw [ham]
        exact h2 k (by omega)
      · exact h1 k (by omega) a (by omega)
  obtain ⟨K,hK⟩:=many 256 (Nat.le_refl _)
  refine ⟨K,fun k hk a r hr=>?_⟩
  unfold Xy at hr
  split at hr
  · rename_i ha
    obtain ⟨b,rfl⟩:=Int.eq_ofNat_of_zero_le ha.1
    rw [hK k hk b (by omega)]
    exact hr
  · cases hr
end
end Go.Proofs.YtlemecdddhdagaaDoor.P
end
