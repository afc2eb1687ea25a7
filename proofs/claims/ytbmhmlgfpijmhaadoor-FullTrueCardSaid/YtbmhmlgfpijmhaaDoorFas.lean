/- Parts of the proof of FullTrue: what the functions that it reaches compute, and plain facts about that. -/
import Derived.Test.YtbmhmlgfpijmhaaDoorFab
import Derived.Test.YtbmhmlgfpijmhaaDoorFad
import Derived.Test.YtbmhmlgfpijmhaaDoorFae
import Derived.Test.YtbmhmlgfpijmhaaDoorFal
import Derived.ChangeMaps4
import Derived.Test.YtbmhmlgfpijmhaaDoorFar
import Derived.Test.YtbmhmlgfpijmhaaDoorFah
import Derived.Test.YtbmhmlgfpijmhaaDoorFai
set_option linter.unusedVariables false
set_option linter.unusedSimpArgs false
section
namespace Go.Proofs.YtbmhmlgfpijmhaaDoor.P
open Go.RowKit Go.Proofs.af.bG Go.Proofs.af.dD Go.Proofs.af.dM
attribute [local go_sem] kF kD lK lJ jH jG kE kC
theorem KL {w w1:World} {A:Option Addr} {n:Nat} {xs:List iG} (h:Kd.C k39 w A n xs) (hb:Below w.heap.size w w1) (i:Int) (h0:0≤i) (h1:i < n):∃ ad ,A=some ad∧w1.cell? (ad.add (i.toNat * 5))=some (.int .u8 (aj xs i).f0)∧w1.cell? ⟨(ad.add (i.toNat * 5)).block,(ad.add (i.toNat * 5)).off+1,none⟩=some (.int .u8 (aj xs i).f1)∧w1.cell? ⟨(ad.add (i.toNat * 5)).block,(ad.add (i.toNat * 5)).off+2,none⟩=some (.int .u8 (aj xs i).f2)∧w1.cell? ⟨(ad.add (i.toNat * 5)).block,(ad.add (i.toNat * 5)).off+3,none⟩=some (.int .u8 (aj xs i).f3)∧w1.cell? ⟨(ad.add (i.toNat * 5)).block,(ad.add (i.toNat * 5)).off+4,none⟩=some (.int .i64 (aj xs i).f4):=by
 obtain ⟨ad,e,c0,c1,c2,c3,c4⟩:=vM h i h0 h1
 exact ⟨ad,e,(hb.cell (World.block_lt_of_cell? w _ c0)).trans c0,(hb.cell (World.block_lt_of_cell? w _ c1)).trans c1,(hb.cell (World.block_lt_of_cell? w _ c2)).trans c2,(hb.cell (World.block_lt_of_cell? w _ c3)).trans c3,(hb.cell (World.block_lt_of_cell? w _ c4)).trans c4⟩
abbrev bN:=@au
abbrev bD:=@aC
abbrev bA:=@ak
abbrev eA:=@ay
abbrev eN:=@ai
abbrev eD:=@ax
theorem OL {w:World} {g:Nat} {a0 a1 a2 a3:Value} {t:TypeId} (h:w.heap[g]? = some (.cells #[a0,a1,a2,a3] t (0,0))):w.cell? ⟨g,0,none⟩=some a0∧w.cell? ⟨g,1,none⟩=some a1∧w.cell? ⟨g,2,none⟩=some a2∧w.cell? ⟨g,3,none⟩=some a3∧w.frozen? ⟨g,0,none⟩=false∧w.frozen? ⟨g,1,none⟩=false∧w.frozen? ⟨g,2,none⟩=false∧w.frozen? ⟨g,3,none⟩=false:=⟨(ah h 0).trans rfl,(ah h 1).trans rfl,(ah h 2).trans rfl,(ah h 3).trans rfl,ag h 0,ag h 1,ag h 2,ag h 3⟩
theorem Ut {w:World} {g:Nat} {a0 a1 a2 a3 a4:Value} {t:TypeId} (h:w.heap[g]? = some (.cells #[a0,a1,a2,a3,a4] t (0,0))):w.cell? ⟨g,0,none⟩=some a0∧w.cell? ⟨g,1,none⟩=some a1∧w.cell? ⟨g,2,none⟩=some a2∧w.cell? ⟨g,3,none⟩=some a3∧w.cell? ⟨g,4,none⟩=some a4∧w.frozen? ⟨g,0,none⟩=false∧w.frozen? ⟨g,1,none⟩=false∧w.frozen? ⟨g,2,none⟩=false∧w.frozen? ⟨g,3,none⟩=false∧w.frozen? ⟨g,4,none⟩=false:=⟨(ah h 0).trans rfl,(ah h 1).trans rfl,(ah h 2).trans rfl,(ah h 3).trans rfl,(ah h 4).trans rfl,ag h 0,ag h 1,ag h 2,ag h 3,ag h 4⟩
def iY.f (bC:List ByteArray) (aY:ByteArray) (aZ:ByteArray) (aJ:List (iG)) (a1:Int):Option (Bool):=if a1 < 0 then (some false) else (if a1 ≥ (aJ.length:Int) then (some false) else (if 0≤a1 then (if a1 < (aJ.length:Int) then (if ((aj aJ a1).f0)=5 then (some true) else (if ((aj aJ a1).f0)=3 then (some (decide (((aj aJ a1).f4)≤a1))) else (if ((aj aJ a1).f0)=4 then (some (decide (((aj aJ a1).f4)≤a1))) else (some false)))) else (none)) else (none)))
set_option maxHeartbeats 8000000 in
set_option maxRecDepth 100000 in
theorem iY.calls (eP:Option Addr) (eH:Nat) (bC:List ByteArray) (aY:ByteArray) (aZ:ByteArray) (gy:Option Addr) (fB:Nat) (aJ:List (iG)) (a1:Int) (r:Bool) (w:World) (jV:Kd.C Kd.string w eP bC.length bC) (jX:bC.length≤eH) (jU:Kd.C k39 w gy aJ.length aJ) (jW:aJ.length≤fB) (h:iY.f bC aY aZ aJ a1=some r) :
  Calls Tryd.prog 13 #[.agg #[.slice eP bC.length eH,.string aY,.string aZ,.slice gy aJ.length fB],.int .i64 a1] w fun e w'=>e=.returned (.bool r)∧Below w.heap.size w w':=by
 have yj:=Tryd.underlying25
 have Ai:=Tryd.underlying39
 have ji:=ae.mk jV
 have jr:=ae.mk jX
 clear jV jX
 have jR:=ae.mk jU
 have lD:=ae.mk jW
 clear jU jW
 have HB:=ae.mk (Below.refl w.heap.size w)
 have H:(if a1 < 0 then (some false) else (if a1 ≥ (aJ.length:Int) then (some false) else (if 0≤a1 then (if a1 < (aJ.length:Int) then (if ((aj aJ a1).f0)=5 then (some true) else (if ((aj aJ a1).f0)=3 then (some (decide (((aj aJ a1).f4)≤a1))) else (if ((aj aJ a1).f0)=4 then (some (decide (((aj aJ a1).f4)≤a1))) else (some false)))) else (none)) else (none))))=some r:=h
 clear h
 by_cases c3:a1 < 0
 ·
  rw [if_pos c3] at H
  have oQ:decide (a1 < 0)=true:=decide_eq_true c3
  clear c3
  obtain rfl:=Option.some.inj H
  go_enter Tryd.func13,Tryd.ntmps13
  go_wp2_with (first|((with_reducible refine bI (N:=2) rfl ?_);(try (refine iP (by rfl) ?_;dsimp only));refine dZ ?hg (N:=2) ?hd (cs:=#[.slice eP bC.length eH,.string aY,.string aZ,.slice gy aJ.length fB]) (t:=25) ?hr ?_;(case hd=>rfl);(case hg=>rfl);(case hr=>first|(go_simp;done)|(go_simp;rfl));intro ni hg w4 hbox hb;have eU:=ae.mk (bz (by repeat (first|(with_reducible first|exact HB.out|apply eA|apply eN|apply eD)|exact HB.out)) hb);have eQ:=ae.mk (hbox);have eu:=ae.mk ((by rw [hg];exact (cu (by repeat (first|(with_reducible first|exact HB.out|apply eA|apply eN|apply eD)|exact HB.out))):w.heap.size≤ni));have ig:=eu;clear HB;have HB:=eU;have lW:=eQ;have F5:=eu;have oZ:=ig;clear eU eQ eu ig;clear hb hbox hg))
  go_ret
  exact ⟨by first|rfl|(simp [aT,aQ] <;> rfl)|(simp [*,aT,aQ] <;> rfl),by repeat (first|(with_reducible first|exact HB.out|apply eA|apply eN|apply eD|refine aA ?_ oZ.out)|exact HB.out)⟩
 ·
  rw [if_neg c3] at H
  have oQ:decide (a1 < 0)=false:=decide_eq_false c3
  clear c3
  by_cases c5:a1 ≥ (aJ.length:Int)
  ·
   rw [if_pos c5] at H
   have qB:decide ((aJ.length:Int)≤a1)=true:=decide_eq_true c5
   clear c5
   obtain rfl:=Option.some.inj H
   go_enter Tryd.func13,Tryd.ntmps13
   go_wp2_with (first|((with_reducible refine bI (N:=2) rfl ?_);(try (refine iP (by rfl) ?_;dsimp only));refine dZ ?hg (N:=2) ?hd (cs:=#[.slice eP bC.length eH,.string aY,.string aZ,.slice gy aJ.length fB]) (t:=25) ?hr ?_;(case hd=>rfl);(case hg=>rfl);(case hr=>first|(go_simp;done)|(go_simp;rfl));intro ni hg w6 hbox hb;have eU:=ae.mk (bz (by repeat (first|(with_reducible first|exact HB.out|apply eA|apply eN|apply eD)|exact HB.out)) hb);have eQ:=ae.mk (hbox);have eu:=ae.mk ((by rw [hg];exact (cu (by repeat (first|(with_reducible first|exact HB.out|apply eA|apply eN|apply eD)|exact HB.out))):w.heap.size≤ni));have ig:=eu;clear HB;have HB:=eU;have lW:=eQ;have F5:=eu;have oZ:=ig;clear eU eQ eu ig;clear hb hbox hg;obtain ⟨Xt,Xr,Xq,Xp,Xh,Xg,Xf,Xe⟩:=OL lW.out))
   go_ret
   exact ⟨by first|rfl|(simp [aT,aQ] <;> rfl)|(simp [*,aT,aQ] <;> rfl),by repeat (first|(with_reducible first|exact HB.out|apply eA|apply eN|apply eD|refine aA ?_ oZ.out)|exact HB.out)⟩
  ·
   rw [if_neg c5] at H
   have qB:decide ((aJ.length:Int)≤a1)=false:=decide_eq_false c5
   clear c5
   by_cases c8:0≤a1
   ·
    rw [if_pos c8] at H
    have qU:decide (0≤a1)=true:=decide_eq_true c8
    clear c8
    by_cases c9:a1 < (aJ.length:Int)
    ·
     rw [if_pos c9] at H
     have Fv:decide (a1 < (aJ.length:Int))=true:=decide_eq_true c9
     clear c9
     by_cases c10:((aj aJ a1).f0)=5
     ·
      rw [if_pos c10] at H
      have oU:(((aj aJ a1).f0) == 5)=true:=beq_iff_eq.mpr c10
      have FM:(((aj aJ a1).f0) != 5)=false:=bne_eq_false_iff_eq.mpr c10
      clear c10
      obtain rfl:=Option.some.inj H
      go_enter Tryd.func13,Tryd.ntmps13
      go_wp2_with (first|((with_reducible refine bI (N:=2) rfl ?_);(try (refine iP (by rfl) ?_;dsimp only));refine dZ ?hg (N:=2) ?hd (cs:=#[.slice eP bC.length eH,.string aY,.string aZ,.slice gy aJ.length fB]) (t:=25) ?hr ?_;(case hd=>rfl);(case hg=>rfl);(case hr=>first|(go_simp;done)|(go_simp;rfl));intro ni hg VT hbox hb;have eU:=ae.mk (bz (by repeat (first|(with_reducible first|exact HB.out|apply eA|apply eN|apply eD)|exact HB.out)) hb);have eQ:=ae.mk (hbox);have eu:=ae.mk ((by rw [hg];exact (cu (by repeat (first|(with_reducible first|exact HB.out|apply eA|apply eN|apply eD)|exact HB.out))):w.heap.size≤ni));have ig:=eu;clear HB;have HB:=eU;have lW:=eQ;have F5:=eu;have oZ:=ig;clear eU eQ eu ig;clear hb hbox hg;obtain ⟨D5,DZ,DY,DX,DI,DF,DD,DC⟩:=OL lW.out;have vF:0≤(a1:Int):=of_decide_eq_true (by first|(with_reducible assumption)|assumption);have vC:a1 < (aJ.length:Int):=of_decide_eq_true (by first|(with_reducible assumption)|assumption);obtain ⟨uu,e245,CO,CJ,CG,CE,CB⟩:=KL jR.out HB.out a1 vF vC;cases e245;replace vF:=eq_true vF;replace vC:=eq_true vC)|((with_reducible refine bI (N:=5) rfl ?_);(try (refine iP (by rfl) ?_;dsimp only));refine dZ ?hg (N:=5) ?hd (cs:=#[.int .u8 0,.int .u8 0,.int .u8 0,.int .u8 0,.int .i64 0]) (t:=39) ?hr ?_;(case hd=>rfl);(case hg=>rfl);(case hr=>first|(go_simp;done)|(go_simp;rfl));intro uk hg w13 hbox hb;have eU:=ae.mk (bK (g:=ni) (o:=.cells #[.slice eP bC.length eH,.string aY,.string aZ,.slice (some uu) aJ.length fB] 25 (0,0)) (by (with_reducible repeat first|apply bN|apply bD|apply bA);exact lW.out) hb);have eQ:=ae.mk (bz (by repeat (first|(with_reducible first|exact HB.out|apply eA|apply eN|apply eD|refine aA ?_ oZ.out)|exact HB.out)) hb);have eu:=ae.mk (hbox);have ig:=ae.mk ((by rw [hg];exact (cu (by repeat (first|(with_reducible first|exact HB.out|apply eA|apply eN|apply eD|refine aA ?_ oZ.out)|exact HB.out))):w.heap.size≤uk));have mW:=ig;have mM:=ae.mk ((by rw [hg];exact Nat.ne_of_lt (jJ (g:=ni) (o:=.cells #[.slice eP bC.length eH,.string aY,.string aZ,.slice (some uu) aJ.length fB] 25 (0,0)) (by (with_reducible repeat first|apply bN|apply bD|apply bA);exact lW.out)):ni ≠ uk));have nD:=ae.mk mM.out.symm;clear lW;clear HB;have lW:=eU;have HB:=eQ;have zW:=eu;have Pg:=ig;have zU:=mW;have pM:=mM;have pK:=nD;clear eU eQ eu ig mW mM nD;clear hb hbox hg;have aix:=pK.out;have aid:=pM.out;obtain ⟨TY,TW,TV,TU,TT,Rz,Ry,Rx,Rw,Ru⟩:=Ut zW.out))
      go_ret
      exact ⟨by first|rfl|(simp [aT,aQ] <;> rfl)|(simp [*,aT,aQ] <;> rfl),by repeat (first|(with_reducible first|exact HB.out|apply eA|apply eN|apply eD|refine aA ?_ oZ.out|refine aA ?_ zU.out)|exact HB.out)⟩
     ·
      rw [if_neg c10] at H
      have oU:(((aj aJ a1).f0) == 5)=false:=beq_eq_false_iff_ne.mpr c10
      have FM:(((aj aJ a1).f0) != 5)=true:=bne_iff_ne.mpr c10
      by_cases c16:((aj aJ a1).f0)=3
      ·
       rw [if_pos c16] at H
       have xP:(((aj aJ a1).f0) == 3)=true:=beq_iff_eq.mpr c16
       have KH:(((aj aJ a1).f0) != 3)=false:=bne_eq_false_iff_eq.mpr c16
       clear c16
       obtain rfl:=Option.some.inj H
       go_enter Tryd.func13,Tryd.ntmps13
       go_wp2_with (first|((with_reducible refine bI (N:=2) rfl ?_);(try (refine iP (by rfl) ?_;dsimp only));refine dZ ?hg (N:=2) ?hd (cs:=#[.slice eP bC.length eH,.string aY,.string aZ,.slice gy aJ.length fB]) (t:=25) ?hr ?_;(case hd=>rfl);(case hg=>rfl);(case hr=>first|(go_simp;done)|(go_simp;rfl));intro ni hg w17 hbox hb;have eU:=ae.mk (bz (by repeat (first|(with_reducible first|exact HB.out|apply eA|apply eN|apply eD)|exact HB.out)) hb);have eQ:=ae.mk (hbox);have eu:=ae.mk ((by rw [hg];exact (cu (by repeat (first|(with_reducible first|exact HB.out|apply eA|apply eN|apply eD)|exact HB.out))):w.heap.size≤ni));have ig:=eu;clear HB;have HB:=eU;have lW:=eQ;have F5:=eu;have oZ:=ig;clear eU eQ eu ig;clear hb hbox hg;obtain ⟨TP,TN,TM,TL,Rq,Ro,Rn,Rl⟩:=OL lW.out;have vF:0≤(a1:Int):=of_decide_eq_true (by first|(with_reducible assumption)|assumption);have vC:a1 < (aJ.length:Int):=of_decide_eq_true (by first|(with_reducible assumption)|assumption);obtain ⟨uu,e245,CO,CJ,CG,CE,CB⟩:=KL jR.out HB.out a1 vF vC;cases e245;replace vF:=eq_true vF;replace vC:=eq_true vC)|((with_reducible refine bI (N:=5) rfl ?_);(try (refine iP (by rfl) ?_;dsimp only));refine dZ ?hg (N:=5) ?hd (cs:=#[.int .u8 0,.int .u8 0,.int .u8 0,.int .u8 0,.int .i64 0]) (t:=39) ?hr ?_;(case hd=>rfl);(case hg=>rfl);(case hr=>first|(go_simp;done)|(go_simp;rfl));intro uk hg w19 hbox hb;have eU:=ae.mk (bK (g:=ni) (o:=.cells #[.slice eP bC.length eH,.string aY,.string aZ,.slice (some uu) aJ.length fB] 25 (0,0)) (by (with_reducible repeat first|apply bN|apply bD|apply bA);exact lW.out) hb);have eQ:=ae.mk (bz (by repeat (first|(with_reducible first|exact HB.out|apply eA|apply eN|apply eD|refine aA ?_ oZ.out)|exact HB.out)) hb);have eu:=ae.mk (hbox);have ig:=ae.mk ((by rw [hg];exact (cu (by repeat (first|(with_reducible first|exact HB.out|apply eA|apply eN|apply eD|refine aA ?_ oZ.out)|exact HB.out))):w.heap.size≤uk));have mW:=ig;have mM:=ae.mk ((by rw [hg];exact Nat.ne_of_lt (jJ (g:=ni) (o:=.cells #[.slice eP bC.length eH,.string aY,.string aZ,.slice (some uu) aJ.length fB] 25 (0,0)) (by (with_reducible repeat first|apply bN|apply bD|apply bA);exact lW.out)):ni ≠ uk));have nD:=ae.mk mM.out.symm;clear lW;clear HB;have lW:=eU;have HB:=eQ;have zW:=eu;have Pg:=ig;have zU:=mW;have pM:=mM;have pK:=nD;clear eU eQ eu ig mW mM nD;clear hb hbox hg;have Zm:=pK.out;have Zc:=pM.out;obtain ⟨DW,DV,DU,DT,TK,Dz,Dy,Dx,Dw,Rk⟩:=Ut zW.out))
       go_ret
       exact ⟨by first|rfl|(simp [aT,aQ] <;> rfl)|(simp [*,aT,aQ] <;> rfl),by repeat (first|(with_reducible first|exact HB.out|apply eA|apply eN|apply eD|refine aA ?_ oZ.out|refine aA ?_ zU.out)|exact HB.out)⟩
      ·
       rw [if_neg c16] at H
       have xP:(((aj aJ a1).f0) == 3)=false:=beq_eq_false_iff_ne.mpr c16
       have KH:(((aj aJ a1).f0) != 3)=true:=bne_iff_ne.mpr c16
       by_cases G7:((aj aJ a1).f0)=4
       ·
        rw [if_pos G7] at H
        have OE:(((aj aJ a1).f0) == 4)=true:=beq_iff_eq.mpr G7
        have OD:(((aj aJ a1).f0) != 4)=false:=bne_eq_false_iff_eq.mpr G7
        clear G7
        obtain rfl:=Option.some.inj H
        go_enter Tryd.func13,Tryd.ntmps13
        go_wp2_with (first|((with_reducible refine bI (N:=2) rfl ?_);(try (refine iP (by rfl) ?_;dsimp only));refine dZ ?hg (N:=2) ?hd (cs:=#[.slice eP bC.length eH,.string aY,.string aZ,.slice gy aJ.length fB]) (t:=25) ?hr ?_;(case hd=>rfl);(case hg=>rfl);(case hr=>first|(go_simp;done)|(go_simp;rfl));intro ni hg vT hbox hb;have eU:=ae.mk (bz (by repeat (first|(with_reducible first|exact HB.out|apply eA|apply eN|apply eD)|exact HB.out)) hb);have eQ:=ae.mk (hbox);have eu:=ae.mk ((by rw [hg];exact (cu (by repeat (first|(with_reducible first|exact HB.out|apply eA|apply eN|apply eD)|exact HB.out))):w.heap.size≤ni));have ig:=eu;clear HB;have HB:=eU;have lW:=eQ;have F5:=eu;have oZ:=ig;clear eU eQ eu ig;clear hb hbox hg;obtain ⟨Ku,Kt,Kr,Kq,Ju,Jt,Js,Jr⟩:=OL lW.out;have vF:0≤(a1:Int):=of_decide_eq_true (by first|(with_reducible assumption)|assumption);have vC:a1 < (aJ.length:Int):=of_decide_eq_true (by first|(with_reducible assumption)|assumption);obtain ⟨uu,e245,CO,CJ,CG,CE,CB⟩:=KL jR.out HB.out a1 vF vC;cases e245;replace vF:=eq_true vF;replace vC:=eq_true vC)|((with_reducible refine bI (N:=5) rfl ?_);(try (refine iP (by rfl) ?_;dsimp only));refine dZ ?hg (N:=5) ?hd (cs:=#[.int .u8 0,.int .u8 0,.int .u8 0,.int .u8 0,.int .i64 0]) (t:=39) ?hr ?_;(case hd=>rfl);(case hg=>rfl);(case hr=>first|(go_simp;done)|(go_simp;rfl));intro uk hg xC hbox hb;have eU:=ae.mk (bK (g:=ni) (o:=.cells #[.slice eP bC.length eH,.string aY,.string aZ,.slice (some uu) aJ.length fB] 25 (0,0)) (by (with_reducible repeat first|apply bN|apply bD|apply bA);exact lW.out) hb);have eQ:=ae.mk (bz (by repeat (first|(with_reducible first|exact HB.out|apply eA|apply eN|apply eD|refine aA ?_ oZ.out)|exact HB.out)) hb);have eu:=ae.mk (hbox);have ig:=ae.mk ((by rw [hg];exact (cu (by repeat (first|(with_reducible first|exact HB.out|apply eA|apply eN|apply eD|refine aA ?_ oZ.out)|exact HB.out))):w.heap.size≤uk));have mW:=ig;have mM:=ae.mk ((by rw [hg];exact Nat.ne_of_lt (jJ (g:=ni) (o:=.cells #[.slice eP bC.length eH,.string aY,.string aZ,.slice (some uu) aJ.length fB] 25 (0,0)) (by (with_reducible repeat first|apply bN|apply bD|apply bA);exact lW.out)):ni ≠ uk));have nD:=ae.mk mM.out.symm;clear lW;clear HB;have lW:=eU;have HB:=eQ;have zW:=eu;have Pg:=ig;have zU:=mW;have pM:=mM;have pK:=nD;clear eU eQ eu ig mW mM nD;clear hb hbox hg;have Zk:=pK.out;have Za:=pM.out;obtain ⟨TE,TD,TC,TA,Tz,Q9,Q8,Q7,Q5,Q4⟩:=Ut zW.out))
        go_ret
        exact ⟨by first|rfl|(simp [aT,aQ] <;> rfl)|(simp [*,aT,aQ] <;> rfl),by repeat (first|(with_reducible first|exact HB.out|apply eA|apply eN|apply eD|refine aA ?_ oZ.out|refine aA ?_ zU.out)|exact HB.out)⟩
       ·
        rw [if_neg G7] at H
        have OE:(((aj aJ a1).f0) == 4)=false:=beq_eq_false_iff_ne.mpr G7
        have OD:(((aj aJ a1).f0) != 4)=true:=bne_iff_ne.mpr G7
        obtain rfl:=Option.some.inj H
        go_enter Tryd.func13,Tryd.ntmps13
        go_wp2_with (first|((with_reducible refine bI (N:=2) rfl ?_);(try (refine iP (by rfl) ?_;dsimp only));refine dZ ?hg (N:=2) ?hd (cs:=#[.slice eP bC.length eH,.string aY,.string aZ,.slice gy aJ.length fB]) (t:=25) ?hr ?_;(case hd=>rfl);(case hg=>rfl);(case hr=>first|(go_simp;done)|(go_simp;rfl));intro ni hg w28 hbox hb;have eU:=ae.mk (bz (by repeat (first|(with_reducible first|exact HB.out|apply eA|apply eN|apply eD)|exact HB.out)) hb);have eQ:=ae.mk (hbox);have eu:=ae.mk ((by rw [hg];exact (cu (by repeat (first|(with_reducible first|exact HB.out|apply eA|apply eN|apply eD)|exact HB.out))):w.heap.size≤ni));have ig:=eu;clear HB;have HB:=eU;have lW:=eQ;have F5:=eu;have oZ:=ig;clear eU eQ eu ig;clear hb hbox hg;obtain ⟨Tu,Tt,Tq,Tn,QZ,QY,QX,QW⟩:=OL lW.out;have vF:0≤(a1:Int):=of_decide_eq_true (by first|(with_reducible assumption)|assumption);have vC:a1 < (aJ.length:Int):=of_decide_eq_true (by first|(with_reducible assumption)|assumption);obtain ⟨uu,e245,CO,CJ,CG,CE,CB⟩:=KL jR.out HB.out a1 vF vC;cases e245;replace vF:=eq_true vF;replace vC:=eq_true vC)|((with_reducible refine bI (N:=5) rfl ?_);(try (refine iP (by rfl) ?_;dsimp only));refine dZ ?hg (N:=5) ?hd (cs:=#[.int .u8 0,.int .u8 0,.int .u8 0,.int .u8 0,.int .i64 0]) (t:=39) ?hr ?_;(case hd=>rfl);(case hg=>rfl);(case hr=>first|(go_simp;done)|(go_simp;rfl));intro uk hg VS hbox hb;have eU:=ae.mk (bK (g:=ni) (o:=.cells #[.slice eP bC.length eH,.string aY,.string aZ,.slice (some uu) aJ.length fB] 25 (0,0)) (by (with_reducible repeat first|apply bN|apply bD|apply bA);exact lW.out) hb);have eQ:=ae.mk (bz (by repeat (first|(with_reducible first|exact HB.out|apply eA|apply eN|apply eD|refine aA ?_ oZ.out)|exact HB.out)) hb);have eu:=ae.mk (hbox);have ig:=ae.mk ((by rw [hg];exact (cu (by repeat (first|(with_reducible first|exact HB.out|apply eA|apply eN|apply eD|refine aA ?_ oZ.out)|exact HB.out))):w.heap.size≤uk));have mW:=ig;have mM:=ae.mk ((by rw [hg];exact Nat.ne_of_lt (jJ (g:=ni) (o:=.cells #[.slice eP bC.length eH,.string aY,.string aZ,.slice (some uu) aJ.length fB] 25 (0,0)) (by (with_reducible repeat first|apply bN|apply bD|apply bA);exact lW.out)):ni ≠ uk));have nD:=ae.mk mM.out.symm;clear lW;clear HB;have lW:=eU;have HB:=eQ;have zW:=eu;have Pg:=ig;have zU:=mW;have pM:=mM;have pK:=nD;clear eU eQ eu ig mW mM nD;clear hb hbox hg;have UW:=pK.out;have UT:=pM.out;obtain ⟨JY,JX,JW,JV,Tm,Jh,Jg,Jf,Je,QV⟩:=Ut zW.out))
        go_ret
        exact ⟨by first|rfl|(simp [aT,aQ] <;> rfl)|(simp [*,aT,aQ] <;> rfl),by repeat (first|(with_reducible first|exact HB.out|apply eA|apply eN|apply eD|refine aA ?_ oZ.out|refine aA ?_ zU.out)|exact HB.out)⟩
    ·
     rw [if_neg c9] at H
     exact absurd H (by simp)
   ·
    rw [if_neg c8] at H
    exact absurd H (by simp)
def eX.j0:Nat→Int→Bool→List ByteArray→ByteArray→ByteArray→List (iG)→Option (Bool)
 | 0,_,_,_,_,_,_=>none
 | k+1,x5,x32,oJ,oI,oH,jK=>if x32=true then (if 0≤x5 then (if x5 < (jK.length:Int) then (if ((aj jK x5).f0)=5 then (if (wrap64 (x5+1)) < (jK.length:Int) then (some true) else ((aN.f k oJ oI oH jK x5).bind fun af7=>(some (af7 == (-1))))) else ((aN.f k oJ oI oH jK x5).bind fun af6=>(if af6=(-1) then (if (wrap64 (x5+1)) < (jK.length:Int) then (some true) else ((aN.f k oJ oI oH jK x5).bind fun af5=>(some (af5 == (-1))))) else (some false)))) else (none)) else (none)) else (if 0≤(wrap64 (x5+1)) then (if (wrap64 (x5+1)) < (jK.length:Int) then ((iY.f oJ oI oH jK (wrap64 (x5+1))).bind fun af4=>(if af4=true then ((fP.f k oJ oI oH jK x5).bind fun af2=>(some (!af2))) else (if ((aj jK (wrap64 (x5+1))).f0)=8 then ((fP.f k oJ oI oH jK x5).bind fun af1=>(some (!af1))) else (if ((aj jK (wrap64 (x5+1))).f0)=10 then ((fP.f k oJ oI oH jK x5).bind fun af0=>(some (!af0))) else (if ((aj jK (wrap64 (x5+1))).f0)=12 then ((fP.f k oJ oI oH jK x5).bind fun afZ=>(some (!afZ))) else (if ((aj jK (wrap64 (x5+1))).f0)=13 then ((fP.f k oJ oI oH jK x5).bind fun afY=>(some (!afY))) else (if ((aj jK (wrap64 (x5+1))).f0)=3 then ((fP.f k oJ oI oH jK x5).bind fun afX=>(some (!afX))) else (if ((aj jK (wrap64 (x5+1))).f0)=4 then ((fP.f k oJ oI oH jK x5).bind fun afW=>(some (!afW))) else (some true))))))))) else (none)) else (none))
def eX.f (k:Nat) (bC:List ByteArray) (aY:ByteArray) (aZ:ByteArray) (aJ:List (iG)) (a1:Int):Option (Bool):=(di.f k).bind fun t248=>(if t248=true then ((dF.f k bC aY aZ aJ).bind fun t249=>(if t249=true then (if (aJ.length:Int)=0 then (none) else (if 0≤(Int.tmod (wrap64 (a1)) (aJ.length:Int)) then (if (Int.tmod (wrap64 (a1)) (aJ.length:Int)) < (aJ.length:Int) then (if ((aj aJ (Int.tmod (wrap64 (a1)) (aJ.length:Int))).f0)=5 then (eX.j0 k (Int.tmod (wrap64 (a1)) (aJ.length:Int)) (decide ((wrap64 ((Int.tmod (wrap64 (a1)) (aJ.length:Int))+1)) ≥ (aJ.length:Int))) bC aY aZ aJ) else (eX.j0 k (Int.tmod (wrap64 (a1)) (aJ.length:Int)) true bC aY aZ aJ)) else (none)) else (none))) else (some true))) else (some false))
theorem eX.iq:∀ k,(∀ y0 y1 y2 y3 y4 y5,dN (eX.j0 k y0 y1 y2 y3 y4 y5) (eX.j0 (k+1) y0 y1 y2 y3 y4 y5))
 | 0=>fun _ _ _ _ _ _ r h=>by simp [eX.j0] at h
 | k+1=>by
  have kZ:=eX.iq k
  ·
   intro y0 y1 y2 y3 y4 y5
   unfold eX.j0
   repeat' with_reducible first|apply kZ|apply fP.mono|apply aN.mono|apply dF.mono|apply di.mono|exact dN.refl _|exact dN.none _|refine dN.ite ?_ ?_|refine dN.bind ?_ (fun _=>?_)
theorem eX.mono:∀ a0 a1 a2 a3 a4 k,dN (eX.f k a0 a1 a2 a3 a4) (eX.f (k+1) a0 a1 a2 a3 a4):=by
 intro a0 a1 a2 a3 a4 k
 have kZ:=eX.iq k
 unfold eX.f
 repeat' with_reducible first|apply kZ|apply fP.mono|apply aN.mono|apply dF.mono|apply di.mono|exact dN.refl _|exact dN.none _|refine dN.ite ?_ ?_|refine dN.bind ?_ (fun _=>?_)
end Go.Proofs.YtbmhmlgfpijmhaaDoor.P
end
section
namespace Go.Proofs.YtbmhmlgfpijmhaaDoor.P
open Go.RowKit Go.MapKept Go.MapFrom Go.Proofs.af.bG Go.Proofs.af.dD Go.Proofs.af.dM
def ql (W:List Int) (n:Int):List Int:=if n ∈ W then W else W++[n]
def oO:Nat→List Int→List MapEntry
  | _,[]=>[]
  | i,n :: r=>⟨.int .i64 n,.bool true,i⟩ :: oO (i+1) r
def uy (w:World) (b:Nat) (W:List Int):Prop:=w.heap[b]? = some (.map (oO 0 W).toArray W.length)
theorem xN:∀ (W:List Int) (i:Nat),(oO i W).length=W.length
  | [],_=>rfl
  | n :: r,i=>by rw [oO,List.length_cons,List.length_cons,xN r]
theorem Bo (n:Int):∀ (W:List Int) (i:Nat),oO i (W++[n])=oO i W++[⟨.int .i64 n,.bool true,i+W.length⟩]
  | [],i=>rfl
  | m :: r,i=>by rw [List.cons_append,oO,oO,Bo n r,List.cons_append,List.length_cons,show i+1+r.length=i+(r.length+1) from by omega]
theorem Fe (n:Int):∀ (W:List Int) (i j:Nat),n ∉ W→Instr.findNow (.int .i64) (.int .i64 n) (oO i W) j=some none
  | [],_,_,_=>rfl
  | m :: r,i,j,h=>by
    have hm:n ≠ m:=fun e=>h (by rw [e];exact List.mem_cons_self ..)
    have ih:=Fe n r (i+1) (j+1) (fun hx=>h (List.mem_cons_of_mem _ hx))
    rw [oO]
    unfold Instr.findNow
    have e:Instr.sameNow (.int .i64) (.int .i64 n) (.int .i64 m)=some false:=by
      show (if IntKind.i64=IntKind.i64 then some (n == m) else none)=some false
      rw [if_pos rfl]
      simpa using hm
    simp only [e]
    exact ih
theorem KD (n:Int):∀ (W:List Int) (i j:Nat),n ∈ W→∃ m,Instr.findNow (.int .i64) (.int .i64 n) (oO i W) j=some (some (j+m,.bool true))∧(oO i W)[m]? = some ⟨.int .i64 n,.bool true,i+m⟩
  | [],_,_,h=>by cases h
  | m :: r,i,j,h=>by
    rw [oO]
    unfold Instr.findNow
    by_cases hm:n=m
    · subst hm
      have e:Instr.sameNow (.int .i64) (.int .i64 n) (.int .i64 n)=some true:=by
        show (if IntKind.i64=IntKind.i64 then some (n == n) else none)=some true
        rw [if_pos rfl]
        simp
      simp only [e]
      exact ⟨0,rfl,rfl⟩
    · have e:Instr.sameNow (.int .i64) (.int .i64 n) (.int .i64 m)=some false:=by
        show (if IntKind.i64=IntKind.i64 then some (n == m) else none)=some false
        rw [if_pos rfl]
        simpa using hm
      have hr:n ∈ r:=by
        rcases List.mem_cons.1 h with h|h
        · exact absurd h hm
        · exact h
      obtain ⟨q,h1,h2⟩:=KD n r (i+1) (j+1) hr
      simp only [e]
      refine ⟨q+1,?_,?_⟩
      · rw [h1,show j+1+q=j+(q+1) from by omega]
      · rw [List.getElem?_cons_succ,h2,show i+1+q=i+(q+1) from by omega]
def nH (w:World) (b:Nat) (o:Obj):World:={ w with heap:=w.heap.setIfInBounds b o }
theorem EK {α:Type} (a:Array α) (m:Nat) (f:α→α) (x:α) (h:a[m]? = some x) (hf:f x=x):a.modify m f=a:=by
  apply Array.ext_getElem?
  intro i
  rw [Array.getElem?_modify]
  by_cases e:m=i
  · subst e
    rw [if_pos rfl,h]
    simp [hf]
  · rw [if_neg e]
theorem Qg (w:World) (b:Nat) (W:List Int) (n:Int) (hm:uy w b W) :
    (Instr.mapUpdate 37 (.map (some b)) (.int .i64 n) (.bool true)).run Tryd.prog w=.ok () (nH w b (.map (oO 0 (ql W n)).toArray (ql W n).length)):=by
  have hm':w.heap[b]? = some (.map (oO 0 W).toArray W.length):=hm
  have hu:Tryd.prog.underlying 37=some (.map 2 4):=by kernel_rfl
  have hk:Tryd.prog.underlying 2=some (.int .i64):=by kernel_rfl
  have hkey:IsKey (.int .i64) (.int .i64 n):=rfl
  by_cases h:n ∈ W
  · obtain ⟨m,h1,h2⟩:=KD n W 0 0 h
    have h1':Instr.findNow (.int .i64) (.int .i64 n) ((oO 0 W).toArray).toList 0=some (some (m,.bool true)):=by
      rw [Nat.zero_add] at h1
      exact h1
    have h3:((oO 0 W).toArray)[m]? = some ⟨.int .i64 n,.bool true,0+m⟩:=by rw [List.getElem?_toArray];exact h2
    have h4:((oO 0 W).toArray).modify m (fun e=>{ e with key:=.int .i64 n,val:=.bool true })=(oO 0 W).toArray:=EK _ m _ _ h3 rfl
    have e:ql W n=W:=if_pos h
    have h5:(Instr.keyThatStays (.int .i64 n) (.int .i64 n)).run Tryd.prog w=.ok (.int .i64 n) w:=by
      simp [Instr.keyThatStays,Instr.sameBits]
    rw [e]
    have h6:(((oO 0 W).toArray)[m]?.map (·.key)).getD (.int .i64 n)=.int .i64 n:=by rw [h3];rfl
    simp [Instr.mapUpdate,run_underlying hu,MapKept.run_getObj_map hm',run_checkKey hk hkey,run_findKey hk h1',Result.andThen,h2,Instr.keyThatStays,Instr.sameBits,MapKept.run_setObj_map _ hm',nH,-List.modify_toArray]
    rw [h4]
  · have h1:Instr.findNow (.int .i64) (.int .i64 n) ((oO 0 W).toArray).toList 0=some none:=Fe n W 0 0 h
    have e:ql W n=W++[n]:=if_neg h
    have h2:((oO 0 W).toArray).push ⟨.int .i64 n,.bool true,W.length⟩=(oO 0 (W++[n])).toArray:=by
      rw [Bo,Nat.zero_add,List.push_toArray]
    rw [e]
    simp [Instr.mapUpdate,run_underlying hu,MapKept.run_getObj_map hm',run_checkKey hk hkey,run_findKey hk h1,MapKept.run_setObj_map _ hm',Result.andThen,h2,nH]
theorem Cf (w:World) (b:Nat) (W:List Int) (hm:uy w b W) (ty:TypeId):(Builtin.len_ #[37] ty #[.map (some b)]).run Tryd.prog w=.ok (.int .i64 W.length) w:=by
  have hm':w.heap[b]? = some (.map (oO 0 W).toArray W.length):=hm
  have hu:Tryd.prog.underlying 37=some (.map 2 4):=by kernel_rfl
  simp [Builtin.len_,run_underlying hu,MapKept.run_getObj_map hm',goInt,Result.andThen,xN]
theorem KZ {w:World} {b:Nat} {o o':Obj} (h:w.heap[b]? = some o):(nH w b o').heap[b]? = some o':=by
  have:=(Array.getElem?_eq_some_iff.1 h).1
  simp [nH,this]
theorem vw {w:World} {b:Nat} {o':Obj} (j:Nat) (h:j ≠ b):(nH w b o').heap[j]? = w.heap[j]?:=by simp [nH,Ne.symm h]
theorem BR {B b:Nat} {w0 w:World} {o':Obj} (hb:Below B w0 w) (hBb:B≤b):Below B w0 (nH w b o') :=
  ⟨hb.os,hb.tape,hb.output,by simp [nH];exact hb.size,fun k hk=>(vw k (by omega)).trans (hb.block k hk)⟩
theorem uy.lt {w:World} {b:Nat} {W:List Int} (h:uy w b W):b < w.heap.size:=(Array.getElem?_eq_some_iff.1 h).1
theorem uy.of {w w1:World} {b:Nat} {W:List Int} (h:uy w b W) (e:w1.heap[b]? = w.heap[b]?):uy w1 b W:=e.trans h
theorem uy.below {w w1:World} {b:Nat} {W:List Int} (h:uy w b W) (hb:Below w.heap.size w w1):uy w1 b W:=h.of (hb.block b h.lt)
theorem uy.new (w:World):uy (w.alloc (.map #[] 0)) w.heap.size []:=heap_alloc_new w _
theorem Keep.setObj {w:World} {b:Nat} {W:List Int} (h:uy w b W) (o:Obj):Keep w (nH w b o):=fun k hk=>vw k (fun e=>by
  subst e
  obtain ⟨c,t,fr,h1,_⟩:=hk
  have q:=h.symm.trans h1
  cases q)
section
variable (k:Nat) (t:List ByteArray) (lo gl:ByteArray) (code:List iG)
structure ahs (s:St) (x:iG) (fr last a:Int) (W:List Int) (Oh ry:Int) (W1:List Int):Prop where
  safe:iY.f t lo gl code s.pc=some false
  n5:x.f0 ≠ 5
  ops:x.f0 ≠ 8∧x.f0 ≠ 10∧x.f0 ≠ 12∧x.f0 ≠ 13
  pc:fr < s.pc∧s.pc≤last
  sta:(x.f0=9 ∨ x.f0=11)→x.f1=a
  wr:W1=if (x.f0=9 ∨ x.f0=11)∧x.f1=a then ql W x.f4 else W
  fr:Oh=wrap64 (fr+1)
  at_:s.pc=last→ry=-1∧∃ τ,bM.f k t lo gl code a=some τ∧dn.f k t τ=some (W1.length:Int)
  on:s.pc ≠ last→ry=last∧Oh=s.pc
structure aht (s:St) (x:iG) (fr last a:Int) (W:List Int) (Oh ry a1:Int) (W1:List Int):Prop where
  new:x.f0=5→Oh=s.pc∧aN.f k t lo gl code s.pc=some ry∧a1=x.f1∧W1=[]
  not:x.f0 ≠ 5→Oh=fr∧ry=last∧a1=a∧W1=W
def FV (step:St→Option (St × Bool × Int)):Nat→St→Int→Int→Int→List Int→Prop
  | 0,_,_,_,_,_=>True
  | n+1,s,fr,last,a,W=>(code.length:Int)≤s.pc ∨ (0≤s.pc∧s.pc < code.length∧∃ (Oh ry:Int) (W1:List Int) (Pz last2 a2:Int) (W2:List Int) (s':St) (d:Bool) (e:Int),
      (if 0≤last then ahs k t lo gl code s (aj code s.pc) fr last a W Oh ry W1 else Oh=fr∧ry=last∧W1=W) ∧
      aht k t lo gl code s (aj code s.pc) Oh ry a W1 Pz last2 a2 W2∧step s=some (s',d,e)∧(d=true ∨ e ≠ 0→e=0 ∨ last2 < 0)∧(d=false∧e=0→FV step n s' Pz last2 a2 W2))
def fullTrue.ok (many:Nat):Prop:=di.f k=some true∧∃ so,dF.f k t lo gl code=some so∧(so=true→FV k t lo gl code (uO k t lo gl code) many Yn (-1) (-1) 0 [])
end
end Go.Proofs.YtbmhmlgfpijmhaaDoor.P
end
section
section
namespace Go.Proofs.YtbmhmlgfpijmhaaDoor.P
open Go.RowKit Go.Proofs.af.bG Go.Proofs.af.dD Go.Proofs.af.dM
section
variable {t:List ByteArray} {lo gl:ByteArray} {code:List iG}
theorem MO (ht:t.length≤9223372036854775807) (hts:∀ i:Int,(dV ByteArray.empty t i).size≤9223372036854775807):∃ K,∀ k,K≤k→∀ a,dN (UI t lo a) (PZ k t lo gl code a):=by
  have one:∀ a:Nat,a < 256→∃ K,∀ k,K≤k→PZ k t lo gl code a=some (jm t (df t lo a)):=fun a ha =>
    Ev.bind (wB t ht hts lo gl code a (by omega) (by omega)) (Iw t ht hts _)
  have many:∀ m:Nat,m≤256→∃ K,∀ k,K≤k→∀ a:Nat,a < m→PZ k t lo gl code a=some (jm t (df t lo a)):=fun m=>by
    induction m with
    | zero=>exact fun _=>⟨0,fun _ _ a ha=>absurd ha (Nat.not_lt_zero a)⟩
    | succ m ih =>
      intro hm
      obtain ⟨K1,h1⟩:=ih (by omega)
      obtain ⟨K2,h2⟩:=one m (by omega)
      refine ⟨max K1 K2,fun k hk a ha=>?_⟩
      by_cases ham:a=m
      · rw [ham]
        exact h2 k (by omega)
      · exact h1 k (by omega) a (by omega)
  obtain ⟨K,hK⟩:=many 256 (Nat.le_refl _)
  refine ⟨K,fun k hk a=>?_⟩
  unfold UI
  by_cases ha:0≤a∧a≤255
  · obtain ⟨m,rfl⟩:=Int.eq_ofNat_of_zero_le ha.1
    rw [if_pos ha,hK k hk m (by omega)]
    exact dN.refl _
  · rw [if_neg ha]
    exact dN.none _
theorem KU (ht:t.length≤9223372036854775807) (hts:∀ i:Int,(dV ByteArray.empty t i).size≤9223372036854775807) (hs:lo.size+gl.size≤9223372036854775807) (hc:code.length≤9223372036854775807) (hw:Wf6 code) (hwn:WfN code):∃ K,∀ k,K≤k→∀ s,dN (step0 t lo gl code s) (uO k t lo gl code s):=by
  obtain ⟨K1,h1⟩:=Fq t lo gl code ht hts hc hw hwn (by omega) (by omega)
  obtain ⟨K2,h2⟩:=MO (t:=t) (lo:=lo) (gl:=gl) (code:=code) ht hts
  refine ⟨max K1 K2,fun k hk s=>?_⟩
  unfold step0 uO
  by_cases hsm:vN s
  case neg =>
    rw [if_neg hsm]
    exact dN.none _
  rw [if_pos hsm,if_pos hsm]
  have e1:az.f k t lo gl code=some (qP t lo gl code):=h1 k (by omega)
  rw [e1]
  exact Gp (h2 k (by omega)) _ s
end
end Go.Proofs.YtbmhmlgfpijmhaaDoor.P
end
end
section
namespace Go.Proofs.YtbmhmlgfpijmhaaDoor.P
open Go.RowKit Go.Proofs.af.bG Go.Proofs.af.dD Go.Proofs.af.dM
attribute [local go_sem] kF kD lK lJ jH jG kE kC
mutual
def aU.l0:Nat→Int→Int→Int→Int→Int→List ByteArray→ByteArray→ByteArray→List (iG)→Option (Bool)
 | 0,_,_,_,_,_,_,_,_,_=>none
 | k+1,x5,x6,x7,x8,x9,lI,lY,lX,iM=>if x9≤x6 then (if 0≤x9 then (if x9 < (iM.length:Int) then (if ((aj iM x9).f0)=9 then (aU.j1 k x5 x6 x7 x8 x9 ((aj iM x9).f0) (((aj iM x9).f0) == 9) lI lY lX iM ((aj iM x9).f0) ((aj iM x9).f1) ((aj iM x9).f2) ((aj iM x9).f3) ((aj iM x9).f4)) else (aU.j1 k x5 x6 x7 x8 x9 ((aj iM x9).f0) (((aj iM x9).f0) == 11) lI lY lX iM ((aj iM x9).f0) ((aj iM x9).f1) ((aj iM x9).f2) ((aj iM x9).f3) ((aj iM x9).f4))) else (none)) else (none)) else ((bM.f k lI lY lX iM x7).bind fun t239=>((dn.f k lI t239).bind fun t240=>(if x8 ≥ t240 then (if 0≤x5 then (if x5 < (iM.length:Int) then (some (((aj iM x5).f0) == 5)) else (none)) else (none)) else (some false))))
def aU.j1:Nat→Int→Int→Int→Int→Int→Int→Bool→List ByteArray→ByteArray→ByteArray→List (iG)→Int→Int→Int→Int→Int→Option (Bool)
 | 0,_,_,_,_,_,_,_,_,_,_,_,_,_,_,_,_=>none
 | k+1,x5,x6,x7,x8,x9,nM,zZ,lI,lY,lX,iM,qY,pO,qX,qW,qV=>if zZ=true then (if pO=x7 then (aU.l0 k x5 x6 x7 (wrap64 (x8+1)) (wrap64 (x9+1)) lI lY lX iM) else (some false)) else (if nM=1 then (aU.j2 k x5 x6 x7 x8 x9 nM (nM == 1) lI lY lX iM qY pO qX qW qV) else (if nM=2 then (aU.j2 k x5 x6 x7 x8 x9 nM (nM == 2) lI lY lX iM qY pO qX qW qV) else (if nM=14 then (aU.j2 k x5 x6 x7 x8 x9 nM (nM == 14) lI lY lX iM qY pO qX qW qV) else (aU.j2 k x5 x6 x7 x8 x9 nM (nM == 15) lI lY lX iM qY pO qX qW qV))))
def aU.j2:Nat→Int→Int→Int→Int→Int→Int→Bool→List ByteArray→ByteArray→ByteArray→List (iG)→Int→Int→Int→Int→Int→Option (Bool)
 | 0,_,_,_,_,_,_,_,_,_,_,_,_,_,_,_,_=>none
 | k+1,x5,x6,x7,x8,x9,nM,x56,lI,lY,lX,iM,qY,pO,qX,qW,qV=>if x56=true then (aU.l0 k x5 x6 x7 x8 (wrap64 (x9+1)) lI lY lX iM) else (if nM=6 then (aU.j3 k x5 x6 x7 x8 x9 (nM == 6) lI lY lX iM qY pO qX qW qV) else (aU.j3 k x5 x6 x7 x8 x9 (nM == 7) lI lY lX iM qY pO qX qW qV))
def aU.j3:Nat→Int→Int→Int→Int→Int→Bool→List ByteArray→ByteArray→ByteArray→List (iG)→Int→Int→Int→Int→Int→Option (Bool)
 | 0,_,_,_,_,_,_,_,_,_,_,_,_,_,_,_=>none
 | k+1,x5,x6,x7,x8,x9,x61,lI,lY,lX,iM,qY,pO,qX,qW,qV=>if x61=true then (if pO=x7 then (some false) else (aU.l0 k x5 x6 x7 x8 (wrap64 (x9+1)) lI lY lX iM)) else (some false)
end
def aU.f (k:Nat) (bC:List ByteArray) (aY:ByteArray) (aZ:ByteArray) (aJ:List (iG)) (a1:Int):Option (Bool):=(di.f k).bind fun t235=>(if t235=true then ((dF.f k bC aY aZ aJ).bind fun t236=>(if t236=true then (if (aJ.length:Int)=0 then (none) else ((aN.f k bC aY aZ aJ (Int.tmod (wrap64 (a1)) (aJ.length:Int))).bind fun t237=>(if t237 < 0 then (some true) else (if 0≤(Int.tmod (wrap64 (a1)) (aJ.length:Int)) then (if (Int.tmod (wrap64 (a1)) (aJ.length:Int)) < (aJ.length:Int) then (aU.l0 k (Int.tmod (wrap64 (a1)) (aJ.length:Int)) t237 ((aj aJ (Int.tmod (wrap64 (a1)) (aJ.length:Int))).f1) 0 (wrap64 ((Int.tmod (wrap64 (a1)) (aJ.length:Int))+1)) bC aY aZ aJ) else (none)) else (none))))) else (some true))) else (some false))
theorem aU.iq:∀ k,(∀ y0 y1 y2 y3 y4 y5 y6 y7 y8,dN (aU.l0 k y0 y1 y2 y3 y4 y5 y6 y7 y8) (aU.l0 (k+1) y0 y1 y2 y3 y4 y5 y6 y7 y8))∧(∀ y0 y1 y2 y3 y4 y5 y6 y7 y8 y9 su vg uZ y13 BG VN,dN (aU.j1 k y0 y1 y2 y3 y4 y5 y6 y7 y8 y9 su vg uZ y13 BG VN) (aU.j1 (k+1) y0 y1 y2 y3 y4 y5 y6 y7 y8 y9 su vg uZ y13 BG VN))∧(∀ y0 y1 y2 y3 y4 y5 y6 y7 y8 y9 su vg uZ y13 BG VN,dN (aU.j2 k y0 y1 y2 y3 y4 y5 y6 y7 y8 y9 su vg uZ y13 BG VN) (aU.j2 (k+1) y0 y1 y2 y3 y4 y5 y6 y7 y8 y9 su vg uZ y13 BG VN))∧(∀ y0 y1 y2 y3 y4 y5 y6 y7 y8 y9 su vg uZ y13 BG,dN (aU.j3 k y0 y1 y2 y3 y4 y5 y6 y7 y8 y9 su vg uZ y13 BG) (aU.j3 (k+1) y0 y1 y2 y3 y4 y5 y6 y7 y8 y9 su vg uZ y13 BG))
 | 0=>⟨fun _ _ _ _ _ _ _ _ _ r h=>by simp [aU.l0] at h,fun _ _ _ _ _ _ _ _ _ _ _ _ _ _ _ _ r h=>by simp [aU.j1] at h,fun _ _ _ _ _ _ _ _ _ _ _ _ _ _ _ _ r h=>by simp [aU.j2] at h,fun _ _ _ _ _ _ _ _ _ _ _ _ _ _ _ r h=>by simp [aU.j3] at h⟩
 | k+1=>by
  obtain ⟨kZ,ih1,ih2,ih3⟩:=aU.iq k
  refine ⟨?_,?_,?_,?_⟩
  ·
   intro y0 y1 y2 y3 y4 y5 y6 y7 y8
   unfold aU.l0
   repeat' with_reducible first|apply kZ|apply ih1|apply ih2|apply ih3|apply aN.mono|apply dF.mono|apply di.mono|apply dn.mono|apply bM.mono|exact dN.refl _|exact dN.none _|refine dN.ite ?_ ?_|refine dN.bind ?_ (fun _=>?_)
  ·
   intro y0 y1 y2 y3 y4 y5 y6 y7 y8 y9 su vg uZ y13 BG VN
   unfold aU.j1
   repeat' with_reducible first|apply kZ|apply ih1|apply ih2|apply ih3|apply aN.mono|apply dF.mono|apply di.mono|apply dn.mono|apply bM.mono|exact dN.refl _|exact dN.none _|refine dN.ite ?_ ?_|refine dN.bind ?_ (fun _=>?_)
  ·
   intro y0 y1 y2 y3 y4 y5 y6 y7 y8 y9 su vg uZ y13 BG VN
   unfold aU.j2
   repeat' with_reducible first|apply kZ|apply ih1|apply ih2|apply ih3|apply aN.mono|apply dF.mono|apply di.mono|apply dn.mono|apply bM.mono|exact dN.refl _|exact dN.none _|refine dN.ite ?_ ?_|refine dN.bind ?_ (fun _=>?_)
  ·
   intro y0 y1 y2 y3 y4 y5 y6 y7 y8 y9 su vg uZ y13 BG
   unfold aU.j3
   repeat' with_reducible first|apply kZ|apply ih1|apply ih2|apply ih3|apply aN.mono|apply dF.mono|apply di.mono|apply dn.mono|apply bM.mono|exact dN.refl _|exact dN.none _|refine dN.ite ?_ ?_|refine dN.bind ?_ (fun _=>?_)
theorem aU.mono:∀ a0 a1 a2 a3 a4 k,dN (aU.f k a0 a1 a2 a3 a4) (aU.f (k+1) a0 a1 a2 a3 a4):=by
 intro a0 a1 a2 a3 a4 k
 obtain ⟨kZ,ih1,ih2,ih3⟩:=aU.iq k
 unfold aU.f
 repeat' with_reducible first|apply kZ|apply ih1|apply ih2|apply ih3|apply aN.mono|apply dF.mono|apply di.mono|apply dn.mono|apply bM.mono|exact dN.refl _|exact dN.none _|refine dN.ite ?_ ?_|refine dN.bind ?_ (fun _=>?_)
end Go.Proofs.YtbmhmlgfpijmhaaDoor.P
end
section
namespace Go.Proofs.YtbmhmlgfpijmhaaDoor.P
open Go.RowKit Go.Proofs.af.bG Go.Proofs.af.dD Go.Proofs.af.dM
def pc (h:Nat):Nat:=((List.range 6).filter fun n=>h.testBit n).length
theorem YJ:∀ h:Fin 64,∀ n:Fin 6,pc (h.val ||| 2 ^ n.val)≤pc h.val+1:=by decide +kernel
theorem EG:∀ s:Fin 7,pc (2 ^ s.val - 1)=s.val:=by decide +kernel
def L6 (h w:Nat):Prop:=pc h≤w
theorem L6.or {h w n:Nat} (hp:L6 h w) (hh:h < 64) (hn:n < 6):L6 (h ||| 2 ^ n) (w+1):=Nat.le_trans (YJ ⟨h,hh⟩ ⟨n,hn⟩) (Nat.succ_le_succ hp)
theorem L6.whole {s w:Nat} (hs:s≤6) (hp:L6 (2 ^ s - 1) w):s≤w:=by
  have:=EG ⟨s,Nat.lt_succ_of_le hs⟩
  unfold L6 at hp
  dsimp only at this
  rwa [this] at hp
theorem sV {a:Int} {whole:Nat} {y:List iG}:∀ (d i had j:Nat),o7 a whole y d i had=some j→i≤j∧j < i+d
  | 0,_,_,_,h=>by cases h
  | d+1,i,had,j,h=>by
    unfold o7 at h
    cases hc:cls a (y.getD i z39) with
    | none=>rw [hc] at h;cases h
    | some w =>
      rw [hc] at h
      cases w with
      | none =>
        have:=sV d (i+1) had j h
        omega
      | some n =>
        dsimp only at h
        by_cases hw:had ||| 2 ^ n=whole
        · rw [if_pos hw] at h
          obtain rfl:=Option.some.inj h
          omega
        · rw [if_neg hw] at h
          have:=sV d (i+1) _ j h
          omega
end Go.Proofs.YtbmhmlgfpijmhaaDoor.P
end
section
namespace Go.Proofs.YtbmhmlgfpijmhaaDoor.P
open Go.RowKit Go.Proofs.af.bG Go.Proofs.af.dD Go.Proofs.af.dM
attribute [local go_sem] kF kD lK lJ jH jG kE kC
mutual
def cZ.j0:Nat→Int→Int→Bool→List ByteArray→ByteArray→ByteArray→List (iG)→Option (Bool)
 | 0,_,_,_,_,_,_,_=>none
 | k+1,x5,x6,x39,PK,PI,PH,Hy=>if x39=true then (some false) else (if 0≤(wrap64 (x6+1)) then (if (wrap64 (x6+1))≤(Hy.length:Int) then ((some (Hy.take ((wrap64 (x6+1)):Int).toNat:List (iG))).bind fun VM=>(cZ.l0 k x5 x6 VM (VM.length:Int) 0 PK PI PH VM)) else (none)) else (none))
def cZ.l0:Nat→Int→Int→List (iG)→Int→Int→List ByteArray→ByteArray→ByteArray→List (iG)→Option (Bool)
 | 0,_,_,_,_,_,_,_,_,_=>none
 | k+1,x5,x6,oC,x49,Yf,Hw,Hu,Ht,Hr=>if Yf < x49 then (if 0≤Yf then (if Yf < (oC.length:Int) then (if ((aj oC Yf).f0)=3 then (some true) else (if ((aj oC Yf).f0)=4 then (some true) else (cZ.l0 k x5 x6 oC x49 (wrap64 (Yf+1)) Hw Hu Ht Hr))) else (none)) else (none)) else ((aN.f k Hw Hu Ht Hr x5).bind fun afS=>(some (afS == x6)))
end
def cZ.f (k:Nat) (bC:List ByteArray) (aY:ByteArray) (aZ:ByteArray) (aJ:List (iG)) (a1:Int):Option (Bool):=(di.f k).bind fun afV=>(if afV=true then ((dF.f k bC aY aZ aJ).bind fun afU=>(if afU=true then (if (aJ.length:Int)=0 then (none) else ((aN.f k bC aY aZ aJ (Int.tmod (wrap64 (a1)) (aJ.length:Int))).bind fun MN=>(if MN < 0 then ((fP.f k bC aY aZ aJ (Int.tmod (wrap64 (a1)) (aJ.length:Int))).bind fun afT=>(some (!afT))) else (if MN≤(Int.tmod (wrap64 (a1)) (aJ.length:Int)) then (cZ.j0 k (Int.tmod (wrap64 (a1)) (aJ.length:Int)) MN true bC aY aZ aJ) else (cZ.j0 k (Int.tmod (wrap64 (a1)) (aJ.length:Int)) MN (decide (MN ≥ (aJ.length:Int))) bC aY aZ aJ))))) else (some true))) else (some false))
theorem cZ.iq:∀ k,(∀ y0 y1 y2 y3 y4 y5 y6,dN (cZ.j0 k y0 y1 y2 y3 y4 y5 y6) (cZ.j0 (k+1) y0 y1 y2 y3 y4 y5 y6))∧(∀ y0 y1 y2 y3 y4 y5 y6 y7 y8,dN (cZ.l0 k y0 y1 y2 y3 y4 y5 y6 y7 y8) (cZ.l0 (k+1) y0 y1 y2 y3 y4 y5 y6 y7 y8))
 | 0=>⟨fun _ _ _ _ _ _ _ r h=>by simp [cZ.j0] at h,fun _ _ _ _ _ _ _ _ _ r h=>by simp [cZ.l0] at h⟩
 | k+1=>by
  obtain ⟨kZ,ih1⟩:=cZ.iq k
  refine ⟨?_,?_⟩
  ·
   intro y0 y1 y2 y3 y4 y5 y6
   unfold cZ.j0
   repeat' with_reducible first|apply kZ|apply ih1|apply fP.mono|apply aN.mono|apply dF.mono|apply di.mono|exact dN.refl _|exact dN.none _|refine dN.ite ?_ ?_|refine dN.bind ?_ (fun _=>?_)
  ·
   intro y0 y1 y2 y3 y4 y5 y6 y7 y8
   unfold cZ.l0
   repeat' with_reducible first|apply kZ|apply ih1|apply fP.mono|apply aN.mono|apply dF.mono|apply di.mono|exact dN.refl _|exact dN.none _|refine dN.ite ?_ ?_|refine dN.bind ?_ (fun _=>?_)
theorem cZ.mono:∀ a0 a1 a2 a3 a4 k,dN (cZ.f k a0 a1 a2 a3 a4) (cZ.f (k+1) a0 a1 a2 a3 a4):=by
 intro a0 a1 a2 a3 a4 k
 obtain ⟨kZ,ih1⟩:=cZ.iq k
 unfold cZ.f
 repeat' with_reducible first|apply kZ|apply ih1|apply fP.mono|apply aN.mono|apply dF.mono|apply di.mono|exact dN.refl _|exact dN.none _|refine dN.ite ?_ ?_|refine dN.bind ?_ (fun _=>?_)
end Go.Proofs.YtbmhmlgfpijmhaaDoor.P
end
section
namespace Go.Proofs.YtbmhmlgfpijmhaaDoor.P
open Go.RowKit Go.Proofs.af.bG Go.Proofs.af.dD Go.Proofs.af.dM
theorem BV {a:Int} {whole:Nat} {y:List iG}:∀ (d i had j:Nat),o7 a whole y d i had=some j→i≤j∧j < i+d ∧
    ∀ (y':List iG) (d':Nat),(∀ m,m≤j→y'.getD m z39=y.getD m z39)→j < i+d'→o7 a whole y' d' i had=some j
  | 0,_,_,_,h=>by cases h
  | d+1,i,had,j,h=>by
    unfold o7 at h
    cases hc:cls a (y.getD i z39) with
    | none=>rw [hc] at h;cases h
    | some w =>
      rw [hc] at h
      cases w with
      | none =>
        obtain ⟨h1,h2,h3⟩:=BV d (i+1) had j h
        refine ⟨by omega,by omega,fun y' d' hy hd=>?_⟩
        obtain ⟨e,rfl⟩:∃ e,d'=e+1:=⟨d' - 1,by omega⟩
        unfold o7
        rw [hy i (by omega),hc]
        exact h3 y' e hy (by omega)
      | some n =>
        dsimp only at h
        by_cases hw:had ||| 2 ^ n=whole
        · rw [if_pos hw] at h
          obtain rfl:=Option.some.inj h
          refine ⟨by omega,by omega,fun y' d' hy hd=>?_⟩
          obtain ⟨e,rfl⟩:∃ e,d'=e+1:=⟨d' - 1,by omega⟩
          unfold o7
          rw [hy i (by omega),hc]
          exact if_pos hw
        · rw [if_neg hw] at h
          obtain ⟨h1,h2,h3⟩:=BV d (i+1) _ j h
          refine ⟨by omega,by omega,fun y' d' hy hd=>?_⟩
          obtain ⟨e,rfl⟩:∃ e,d'=e+1:=⟨d' - 1,by omega⟩
          unfold o7
          rw [hy i (by omega),hc]
          dsimp only
          rw [if_neg hw]
          exact h3 y' e hy (by omega)
theorem GL {t:List ByteArray} {lo:ByteArray} {code:List iG} {q:Nat} (h:¬ uT t lo code q < 0):∃ j,(code.getD q z39).f0=5∧uT t lo code q=((q+1+j:Nat):Int) ∧
    o7 (code.getD q z39).f1 (sS t lo (code.getD q z39).f1) (code.drop (q+1)) (code.length - (q+1)) 0 0=some j∧q+1+j < code.length:=by
  unfold uT at h ⊢
  by_cases h5:(code.getD q z39).f0=5
  · rw [if_pos h5] at h ⊢
    cases hr:o7 (code.getD q z39).f1 (sS t lo (code.getD q z39).f1) (code.drop (q+1)) (code.length - (q+1)) 0 0 with
    | none=>rw [hr] at h;exact absurd (by decide:(-1:Int) < 0) h
    | some j =>
      have:=BV _ _ _ _ hr
      exact ⟨j,h5,rfl,rfl,by omega⟩
  · rw [if_neg h5] at h
    exact absurd (by decide:(-1:Int) < 0) h
end Go.Proofs.YtbmhmlgfpijmhaaDoor.P
end
section
namespace Go.Proofs.YtbmhmlgfpijmhaaDoor.P
open Go.RowKit Go.Proofs.af.bG Go.Proofs.af.dD Go.Proofs.af.dM
theorem Wq:∀ h:Fin 64,∀ n:Fin 6,h.val.testBit n.val=false→pc (h.val ||| 2 ^ n.val)=pc h.val+1:=by decide +kernel
theorem WM:∀ h:Fin 64,∀ n:Fin 6,h.val.testBit n.val=true→h.val ||| 2 ^ n.val=h.val:=by decide +kernel
theorem XQ:∀ h:Fin 64,∀ n m:Fin 6,(h.val ||| 2 ^ n.val).testBit m.val=(h.val.testBit m.val || n.val == m.val):=by decide +kernel
theorem YL:∀ h:Fin 64,∀ n:Fin 6,(h.val ||| 2 ^ n.val) < 64:=by decide +kernel
structure OX (h:Nat) (W:List Int):Prop where
  lt:h < 64
  len:W.length=pc h
  mem:∀ m:Nat,m < 6→(h.testBit m=true ↔ (m:Int) ∈ W)
theorem OX.ins {h:Nat} {W:List Int} (k:OX h W) {n:Nat} (hn:n < 6):OX (h ||| 2 ^ n) (ql W (n:Int)):=by
  have e1:=k.mem n hn
  refine ⟨YL ⟨h,k.lt⟩ ⟨n,hn⟩,?_,fun m hm=>?_⟩
  · unfold ql
    by_cases hb:h.testBit n=true
    · rw [if_pos (e1.1 hb),k.len,WM ⟨h,k.lt⟩ ⟨n,hn⟩ hb]
    · have hf:h.testBit n=false:=by simpa using hb
      rw [if_neg (fun q=>hb (e1.2 q)),List.length_append,k.len,Wq ⟨h,k.lt⟩ ⟨n,hn⟩ hf]
      rfl
  · have e2:=XQ ⟨h,k.lt⟩ ⟨n,hn⟩ ⟨m,hm⟩
    simp only at e2
    rw [e2,Bool.or_eq_true,beq_iff_eq,k.mem m hm]
    unfold ql
    split
    · rename_i hx
      refine ⟨fun q=>?_,fun q=>Or.inl q⟩
      rcases q with q|q
      · exact q
      · rw [← q];exact hx
    · rw [List.mem_append,List.mem_singleton]
      refine ⟨fun q=>?_,fun q=>?_⟩
      · rcases q with q|q
        · exact Or.inl q
        · exact Or.inr (by omega)
      · rcases q with q|q
        · exact Or.inl q
        · exact Or.inr (by omega)
theorem ag1:OX 0 []:=⟨by decide,by decide,fun m _=>by simp⟩
section
variable {sz:Int→Option Int} {s s':St} {e:Int} {a b c:Nat} {n:Int} {op:Int}
theorem quiet_step (ho:op=1 ∨ op=2 ∨ op=14 ∨ op=15 ∨ op=6 ∨ op=7) (h:qJ sz s op a b c n=some (s',e)):e=0∧s'.pc=wrap64 (s.pc+1)∧∀ m,((op=6 ∨ op=7)→m ≠ a)→s'.p m=s.p m:=by
  rcases ho with rfl|rfl|rfl|rfl|rfl|rfl
  · rw [Vm] at h
    split at h
    · obtain ⟨rfl,rfl⟩:=Prod.mk.inj (Option.some.inj h);exact ⟨rfl,rfl,fun _ _=>rfl⟩
    · cases h
  · rw [Vl] at h
    split at h
    · obtain ⟨rfl,rfl⟩:=Prod.mk.inj (Option.some.inj h);exact ⟨rfl,rfl,fun _ _=>rfl⟩
    · cases h
  · rw [Oo] at h
    split at h
    · obtain ⟨rfl,rfl⟩:=Prod.mk.inj (Option.some.inj h);exact ⟨rfl,rfl,fun _ _=>rfl⟩
    · cases h
  · rw [Om] at h
    split at h
    · obtain ⟨rfl,rfl⟩:=Prod.mk.inj (Option.some.inj h);exact ⟨rfl,rfl,fun _ _=>rfl⟩
    · cases h
  · rw [Vj] at h
    split at h
    · obtain ⟨rfl,rfl⟩:=Prod.mk.inj (Option.some.inj h)
      exact ⟨rfl,rfl,fun m hm=>if_neg (hm (Or.inl rfl))⟩
    · cases h
  · rw [Vh] at h
    split at h
    · obtain ⟨rfl,rfl⟩:=Prod.mk.inj (Option.some.inj h)
      exact ⟨rfl,rfl,fun m hm=>if_neg (hm (Or.inr rfl))⟩
    · cases h
theorem Gn (ho:op=9 ∨ op=11) (hp:s.p a ≠ 0) (h:qJ sz s op a b c n=some (s',e)):e=0∧s'.pc=wrap64 (s.pc+1)∧s'.p=s.p:=by
  rcases ho with rfl|rfl
  · rw [Vg] at h
    split at h
    · split at h
      · obtain ⟨rfl,rfl⟩:=Prod.mk.inj (Option.some.inj h);exact ⟨rfl,rfl,rfl⟩
      · cases h
    · cases h
  · rw [Oq] at h
    split at h
    · split at h
      · obtain ⟨rfl,rfl⟩:=Prod.mk.inj (Option.some.inj h);exact ⟨rfl,rfl,rfl⟩
      · cases h
    · cases h
theorem Np (h:qJ sz s 5 a b c n=some (s',e)):e=0∧s'.pc=wrap64 (s.pc+1)∧s'.p a=(s.bH.length:Int)+1:=by
  rw [Vk] at h
  split at h
  · obtain ⟨z,_,h⟩:=Option.bind_eq_some_iff.1 h
    split at h
    · obtain ⟨rfl,rfl⟩:=Prod.mk.inj (Option.some.inj h)
      exact ⟨rfl,rfl,if_pos rfl⟩
    · cases h
  · cases h
end
section
variable {t:List ByteArray} {lo gl:ByteArray} {code:List iG}
theorem BU {s:St} (h0:0≤s.pc) (h1:s.pc < code.length) (h5:(aj code s.pc).f0 ≠ 5) (h3:(aj code s.pc).f0 ≠ 3) (h4:(aj code s.pc).f0 ≠ 4):iY.f t lo gl code s.pc=some false:=by
  unfold iY.f
  rw [if_neg (by omega),if_neg (by omega),if_pos (by omega),if_pos (by omega),if_neg h5,if_neg h3,if_neg h4]
def J (t:List ByteArray) (lo:ByteArray) (code:List iG) (s:St) (fr last a:Int) (W:List Int):Prop :=
  last < 0 ∨ ∃ q j i had:Nat,a=(code.getD q z39).f1∧last=((q+1+j:Nat):Int)∧q+1+j < code.length∧fr=((q+i:Nat):Int)∧s.pc=((q+1+i:Nat):Int)∧OX had W ∧
    o7 a (sS t lo a) (code.drop (q+1)) (code.length - (q+1) - i) i had=some j∧s.p a.toNat ≠ 0
theorem Eu (h:Ok t lo gl code) (hwf:Wf code) (hk0:(qP t lo gl code).2=0) (k:Nat) (hstep:∀ s,dN (step0 t lo gl code s) (uO k t lo gl code s)) (hlast:∀ q:Nat,q < code.length→aN.f k t lo gl code (q:Int)=some (uT t lo code q))
    (hsz:∀ a,dN (UI t lo a) (PZ k t lo gl code a)):∀ (n:Nat) (s:St) (cnt:Nat) (ty:List Int) (fr last a:Int) (W:List Int),Inv t lo gl cnt s ty→cnt+n≤900000→0≤s.pc→s.pc≤code.length→J t lo code s fr last a W →
    FV k t lo gl code (uO k t lo gl code) n s fr last a W
  | 0,_,_,_,_,_,_,_,_,_,_,_,_=>trivial
  | n+1,s,cnt,ty,fr,last,a,W,hI,hn,h0,h1,hJ=>by
    by_cases hlt:s.pc < code.length
    case neg=>exact Or.inl (by omega)
    right
    refine ⟨h0,hlt,?_⟩
    have aky:=h.len
    obtain ⟨s',e,hd,hN⟩:=h.step hI (by omega) h0 hlt
    have hst:=KW hk0 (hI.small h.right (by omega)) h0 hlt hd
    obtain ⟨ty',hI'⟩:=hN.inv
    have hwu:=hwf s.pc.toNat
    obtain ⟨p,hp⟩:=Int.eq_ofNat_of_zero_le h0
    have hpn:s.pc.toNat=p:=by omega
    have hx:aj code s.pc=code.getD p z39:=by rw [hp];rfl
    have hpl:p < code.length:=by omega
    have ihn:=fun (s':St) ty' fr last a W hI' h0' h1' hJ'=>Eu h hwf hk0 k hstep hlast hsz n s' (cnt+1) ty' fr last a W hI' (by omega) h0' h1' hJ'
    rw [hpn] at hwu
    have hwx:=h.wf p
    have hd2:=hd
    rw [hx] at hd2
    rw [Ot hwx.1.1 hwx.2.1.1 hwx.2.2.1 (by have:=hI.few.1;omega) (by have:=hI.few.2;omega)] at hd2
    clear hd hwx
    rw [hx] at hN ⊢
    generalize hxe:code.getD p z39=x at hd2 hN hwu hx ⊢
    have fin:∀ (Pz last2 a2:Int) (W2:List Int),(e ≠ 0→last2 < 0)→(e=0→J t lo code s' Pz last2 a2 W2) →
        ∃ (s1:St) (d:Bool) (e1:Int),uO k t lo gl code s=some (s1,d,e1)∧(d=true ∨ e1 ≠ 0→e1=0 ∨ last2 < 0)∧(d=false∧e1=0→FV k t lo gl code (uO k t lo gl code) n s1 Pz last2 a2 W2):=by
      intro Pz last2 a2 W2 hl hj
      by_cases he:e=0
      · rw [if_pos he] at hst
        exact ⟨s',false,0,hstep s _ hst,fun _=>Or.inl rfl,fun _=>ihn s' ty' Pz last2 a2 W2 hI' (hN.pc he).1 (hN.pc he).2 (hj he)⟩
      · rw [if_neg he] at hst
        exact ⟨s,false,e,hstep s _ hst,fun _=>Or.inr (hl he),fun q=>absurd q.2 he⟩
    rcases hJ with hneg|⟨q,j,i,had,ha,hla,hqj,hfr,hpc,hH,hrun,hpa⟩
    · by_cases h5:x.f0=5
      · have hs5:=hd2
        rw [h5] at hs5
        obtain ⟨f1,f2,f3⟩:=Np hs5
        obtain ⟨s1,d,e1,g1,g2,g3⟩:=fin s.pc (uT t lo code p) x.f1 [] (fun q=>absurd f1 q) (fun _=>by
          by_cases hL:uT t lo code p < 0
          · exact Or.inl hL
          · obtain ⟨j,_,l2,l3,l4⟩:=GL hL
            rw [hxe] at l3
            exact Or.inr ⟨p,j,0,0,by rw [hxe],l2,l4,by rw [hp];rfl,by rw [f2,hp];unfold wrap64;omega,ag1,l3,by rw [f3];omega⟩)
        refine ⟨fr,last,W,s.pc,uT t lo code p,x.f1,[],s1,d,e1,?_,⟨fun _=>⟨rfl,by rw [hp];exact hlast p hpl,rfl,rfl⟩,fun q=>absurd h5 q⟩,g1,g2,g3⟩
        rw [if_neg (by omega)]
        exact ⟨rfl,rfl,rfl⟩
      · obtain ⟨s1,d,e1,g1,g2,g3⟩:=fin fr last a W (fun _=>hneg) (fun _=>Or.inl hneg)
        refine ⟨fr,last,W,fr,last,a,W,s1,d,e1,?_,⟨fun q=>absurd q h5,fun _=>⟨rfl,rfl,rfl,rfl⟩⟩,g1,g2,g3⟩
        rw [if_neg (by omega)]
        exact ⟨rfl,rfl,rfl⟩
    · have hpe:p=q+1+i:=by omega
      have hxy:(code.drop (q+1)).getD i z39=x:=by rw [getD_drop,← hpe,hxe]
      obtain ⟨d,hd1⟩:∃ d,code.length - (q+1) - i=d+1:=⟨code.length - (q+1) - i - 1,by omega⟩
      have Zt:code.length - (q+1) - (i+1)=d:=by omega
      rw [hd1] at hrun
      unfold o7 at hrun
      rw [hxy] at hrun
      have hwrap:wrap64 (fr+1)=((q+(i+1):Nat):Int):=by rw [hfr];unfold wrap64;omega
      have NG:wrap64 (s.pc+1)=((q+1+(i+1):Nat):Int):=by rw [hpc];unfold wrap64;omega
      cases hcl:cls a x with
      | none=>rw [hcl] at hrun;cases hrun
      | some w =>
        rw [hcl] at hrun
        cases w with
        | none =>
          dsimp only at hrun
          have hr:=sV _ _ _ _ hrun
          have hop:(x.f0=1 ∨ x.f0=2 ∨ x.f0=14 ∨ x.f0=15 ∨ x.f0=6 ∨ x.f0=7)∧((x.f0=6 ∨ x.f0=7)→x.f1 ≠ a):=by
            unfold cls at hcl
            split at hcl
            · rename_i h4
              exact ⟨by omega,fun q=>by omega⟩
            · split at hcl
              · rename_i h67
                split at hcl
                · cases hcl
                · rename_i hne
                  exact ⟨by omega,fun _=>hne⟩
              · split at hcl
                · split at hcl <;> cases hcl
                · cases hcl
          obtain ⟨f1,f2,f3⟩:=quiet_step hop.1 hd2
          have h9:¬ ((x.f0=9 ∨ x.f0=11)∧x.f1=a):=fun q=>by have:=hop.1;have:=q.1;omega
          have hua:0≤a:=by rw [ha];exact (hwf q).2.1.1
          have f3a:=f3 a.toNat (fun q hq=>hop.2 q (by have:=hwu.2.1.1;omega))
          obtain ⟨s1,dd,e1,g1,g2,g3⟩:=fin (wrap64 (fr+1)) last a W (fun q=>absurd f1 q) (fun _=>Or.inr ⟨q,j,i+1,had,ha,hla,hqj,hwrap,by rw [f2];exact NG,hH,by rw [Zt];exact hrun,by rw [f3a];exact hpa⟩)
          refine ⟨wrap64 (fr+1),last,W,wrap64 (fr+1),last,a,W,s1,dd,e1,?_,⟨fun q=>by have:=hop.1;omega,fun _=>⟨rfl,rfl,rfl,rfl⟩⟩,g1,g2,g3⟩
          rw [if_pos (by omega)]
          exact ⟨BU h0 hlt (by rw [hx];have:=hop.1;omega) (by rw [hx];have:=hop.1;omega) (by rw [hx];have:=hop.1;omega),by have:=hop.1;omega,by have:=hop.1;omega,by omega,(fun q=>by have:=hop.1;omega),(if_neg h9).symm,rfl,fun q=>by omega,fun _=>⟨rfl,by rw [hwrap,hpc];omega⟩⟩
        | some m =>
          dsimp only at hrun
          obtain ⟨c1,c2,c3,c4⟩:=LP hcl
          have hua:0≤a:=by rw [ha];exact (hwf q).2.1.1
          have agm:a≤255:=by rw [ha];exact (hwf q).2.1.2
          obtain ⟨f1,f2,f3⟩:=Gn c4 (by rw [c3];exact hpa) hd2
          have hW:ql W x.f4=if (x.f0=9 ∨ x.f0=11)∧x.f1=a then ql W x.f4 else W:=(if_pos ⟨c4,c3⟩).symm
          have hH':=hH.ins c1
          rw [← c2] at hH'
          by_cases hwh:had ||| 2 ^ m=sS t lo a
          · rw [if_pos hwh] at hrun
            obtain rfl:=Option.some.inj hrun
            obtain ⟨s1,dd,e1,g1,g2,g3⟩:=fin (wrap64 (fr+1)) (-1) a (ql W x.f4) (fun q=>absurd f1 q) (fun _=>Or.inl (by decide))
            have hsz1:PZ k t lo gl code a=some (jm t (df t lo a)):=hsz a _ (if_pos ⟨hua,agm⟩)
            obtain ⟨τ,t1,t2⟩:=Option.bind_eq_some_iff.1 hsz1
            have hrg:=tZ t (df t lo a)
            have hlen:((ql W x.f4).length:Int)=jm t (df t lo a):=by
              rw [hH'.len,hwh]
              unfold sS
              have:=EG ⟨(jm t (df t lo a)).toNat,by omega⟩
              simp only at this
              rw [this]
              omega
            refine ⟨wrap64 (fr+1),-1,ql W x.f4,wrap64 (fr+1),-1,a,ql W x.f4,s1,dd,e1,?_,⟨fun q=>by omega,fun _=>⟨rfl,rfl,rfl,rfl⟩⟩,g1,g2,g3⟩
            rw [if_pos (by omega)]
            exact ⟨BU h0 hlt (by rw [hx];omega) (by rw [hx];omega) (by rw [hx];omega),by omega,by omega,by omega,(fun _=>c3),hW,rfl,fun _=>⟨rfl,τ,t1,by rw [t2,hlen]⟩,fun q=>by omega⟩
          · rw [if_neg hwh] at hrun
            have hr:=sV _ _ _ _ hrun
            obtain ⟨s1,dd,e1,g1,g2,g3⟩:=fin (wrap64 (fr+1)) last a (ql W x.f4) (fun q=>absurd f1 q) (fun _=>Or.inr ⟨q,j,i+1,had ||| 2 ^ m,ha,hla,hqj,hwrap,by rw [f2];exact NG,hH',by rw [Zt];exact hrun,by rw [f3];exact hpa⟩)
            refine ⟨wrap64 (fr+1),last,ql W x.f4,wrap64 (fr+1),last,a,ql W x.f4,s1,dd,e1,?_,⟨fun q=>by omega,fun _=>⟨rfl,rfl,rfl,rfl⟩⟩,g1,g2,g3⟩
            rw [if_pos (by omega)]
            exact ⟨BU h0 hlt (by rw [hx];omega) (by rw [hx];omega) (by rw [hx];omega),by omega,by omega,by omega,(fun _=>c3),hW,rfl,fun q=>by omega,fun _=>⟨rfl,by rw [hwrap,hpc];omega⟩⟩
theorem EO (ht:t.length≤9223372036854775807) (hn:code.length≤9223372036854775807) (hw:Wf code):∀ m:Nat,m≤code.length→∃ K,∀ k,K≤k→∀ q:Nat,q < m→aN.f k t lo gl code (q:Int)=some (uT t lo code q)
  | 0,_=>⟨0,fun _ _ q hq=>absurd hq (Nat.not_lt_zero q)⟩
  | m+1,hm=>by
    obtain ⟨K1,h1⟩:=EO ht hn hw m (by omega)
    obtain ⟨K2,h2⟩:=WT t lo gl code m (by omega) ht hn hw
    refine ⟨max K1 K2,fun k hk q hq=>?_⟩
    by_cases e:q=m
    · rw [e]
      exact h2 k (by omega)
    · exact h1 k (by omega) q (by omega)
end
theorem Am (t:List ByteArray) (lo gl:ByteArray) (code:List iG) (many:Nat) (ht:t.length≤9223372036854775807) (hts:∀ i:Int,(dV ByteArray.empty t i).size≤9223372036854775807) (hs:lo.size+gl.size≤9223372036854775807) (hc:code.length≤9223372036854775807) (hw:Wf code) (hm:many≤255) :
    ∃ k,fullTrue.ok k t lo gl code many:=by
  have hw6:Wf6 code:=fun i=>⟨(hw i).2.1,(hw i).2.2.1,(hw i).2.2.2.1⟩
  have hwn:WfN code:=fun i=>(hw i).2.2.2.2
  obtain ⟨few,⟨K1,h1⟩,_⟩:=Ui t lo gl code ht
  obtain ⟨K2,h2⟩:=Uu
  obtain ⟨K3,h3⟩:=Fq t lo gl code ht hts hc hw6 hwn (by omega) (by omega)
  obtain ⟨K4,h4⟩:=KU (t:=t) (lo:=lo) (gl:=gl) (code:=code) ht hts hs hc hw6 hwn
  obtain ⟨K5,h5⟩:=EO (t:=t) (lo:=lo) (gl:=gl) (code:=code) ht hc hw code.length (Nat.le_refl _)
  obtain ⟨K6,h6⟩:=MO (t:=t) (lo:=lo) (gl:=gl) (code:=code) ht hts
  obtain ⟨k,hk⟩:∃ k,k=K1+K2+K3+K4+K5+K6:=⟨_,rfl⟩
  refine ⟨k,h2 k (by omega),?_⟩
  unfold dF.f
  have e1:bV.f k t lo gl code=some few:=h1 k (by omega)
  have e3:az.f k t lo gl code=some (qP t lo gl code):=h3 k (by omega)
  rw [e1,Option.bind_some]
  by_cases hf:few=true
  case neg=>exact ⟨false,if_neg hf,fun q=>by cases q⟩
  rw [if_pos hf]
  by_cases h60:(code.length:Int) > 60
  case pos=>exact ⟨false,if_pos h60,fun q=>by cases q⟩
  rw [if_neg h60,e3,Option.bind_some]
  refine ⟨_,rfl,fun q=>?_⟩
  have hok:(qP t lo gl code).2=0:=by simpa using q
  exact Eu (YN hok hw6) hw hok k (h4 k (by omega)) (h5 k (by omega)) (h6 k (by omega)) many Yn 0 [] (-1) (-1) 0 [] inv0 (by omega) (Int.le_refl _) (by show (0:Int)≤_;omega) (Or.inl (by decide))
end Go.Proofs.YtbmhmlgfpijmhaaDoor.P
end
