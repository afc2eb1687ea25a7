/- Parts of the proof of FullTrue: what the functions that it reaches compute, and plain facts about that. -/
import Derived.Test.YtbmhmlgfpijmhaaDoorFab
import Derived.Test.YtbmhmlgfpijmhaaDoorFad
import Derived.Laws.StructEq
import Derived.Test.YtbmhmlgfpijmhaaDoorFaa
set_option linter.unusedVariables false
set_option linter.unusedSimpArgs false
section
namespace Go.Proofs.YtbmhmlgfpijmhaaDoor.P
open Go.RowKit Go.Proofs.af.bG Go.Proofs.af.dD Go.Proofs.af.dM
attribute [local go_sem] kF kD lK lJ jH jG kE kC
def fP.f (k:Nat) (bC:List ByteArray) (aY:ByteArray) (aZ:ByteArray) (aJ:List (iG)) (a1:Int):Option (Bool):=(aN.f k bC aY aZ aJ a1).bind fun t123=>(some (decide (t123 ≥ 0)))
theorem fP.mono:∀ a0 a1 a2 a3 a4 k,dN (fP.f k a0 a1 a2 a3 a4) (fP.f (k+1) a0 a1 a2 a3 a4):=by
 intro a0 a1 a2 a3 a4 k
 unfold fP.f
 repeat' with_reducible first|apply aN.mono|exact dN.refl _|exact dN.none _|refine dN.ite ?_ ?_|refine dN.bind ?_ (fun _=>?_)
set_option maxHeartbeats 8000000 in
set_option maxRecDepth 100000 in
theorem fP.calls (k:Nat) (eP:Option Addr) (eH:Nat) (bC:List ByteArray) (aY:ByteArray) (aZ:ByteArray) (gy:Option Addr) (fB:Nat) (aJ:List (iG)) (a1:Int) (r:Bool) (w:World) (jV:Kd.C Kd.string w eP bC.length bC) (jX:bC.length≤eH) (jU:Kd.C k39 w gy aJ.length aJ) (jW:aJ.length≤fB) (h:fP.f k bC aY aZ aJ a1=some r) :
  Calls Tryd.prog 12 #[.agg #[.slice eP bC.length eH,.string aY,.string aZ,.slice gy aJ.length fB],.int .i64 a1] w fun e w'=>e=.returned (.bool r)∧Below w.heap.size w w':=by
 have yj:=Tryd.underlying25
 have ji:=ae.mk jV
 have jr:=ae.mk jX
 clear jV jX
 have jR:=ae.mk jU
 have lD:=ae.mk jW
 clear jU jW
 have HB:=ae.mk (Below.refl w.heap.size w)
 have H:((aN.f k bC aY aZ aJ a1).bind fun t123=>(some (decide (t123 ≥ 0))))=some r:=h
 clear h
 replace H:=Option.bind_eq_some_iff.mp H
 obtain ⟨t123,wW,H⟩:=H
 replace H:(some (decide (t123 ≥ 0)))=some r:=H
 have A3:=ae.mk wW
 clear wW
 obtain rfl:=Option.some.inj H
 go_enter Tryd.func12,Tryd.ntmps12
 go_wp2_with (first|((with_reducible refine bI (N:=2) rfl ?_);refine dZ ?hg (N:=2) ?hd (cs:=#[.slice eP bC.length eH,.string aY,.string aZ,.slice gy aJ.length fB]) (t:=25) ?hr ?_;(case hd=>rfl);(case hg=>rfl);(case hr=>first|(go_simp;done)|(go_simp;rfl));intro Bj hg w4 hbox hb;have eU:=ae.mk (bz (by repeat (first|(with_reducible first|exact HB.out|apply ay|apply ai|apply ax)|exact HB.out)) hb);have eQ:=ae.mk (hbox);have eu:=ae.mk ((by rw [hg];exact (cu (by repeat (first|(with_reducible first|exact HB.out|apply ay|apply ai|apply ax)|exact HB.out))):w.heap.size≤Bj));have ig:=eu;clear HB;have HB:=eU;have uA:=eQ;have ajC:=eu;have VH:=ig;clear eU eQ eu ig;clear hb hbox hg;have zH:w4.cell? ⟨Bj,0,none⟩=some (.slice eP bC.length eH):=(ah uA.out 0).trans rfl;have zG:w4.cell? ⟨Bj,1,none⟩=some (.string aY):=(ah uA.out 1).trans rfl;have zF:w4.cell? ⟨Bj,2,none⟩=some (.string aZ):=(ah uA.out 2).trans rfl;have zD:w4.cell? ⟨Bj,3,none⟩=some (.slice gy aJ.length fB):=(ah uA.out 3).trans rfl;have zC:=ag uA.out 0;have zB:=ag uA.out 1;have zA:=ag uA.out 2;have zy:=ag uA.out 3)|((with_reducible refine bT (f:=11) rfl ?_);refine gp (some 7) rfl rfl Tryd.func11 (by kernel_rfl) rfl #[.agg #[.slice eP bC.length eH,.string aY,.string aZ,.slice gy aJ.length fB],.int .i64 a1] rfl (by (try simp only [List.map_toArray,List.map_cons,List.map_nil]);first|done|rfl|(simp only [List.length_drop,List.length_take];rfl)) ?_;(with_reducible refine (aN.calls k _ _ bC aY aZ _ _ aJ a1 t123 _ ?dR ?dU ?jq ?jo A3.out).mono ?_);(case dR=>repeat (first|exact (Kd.bW ji.out HB.out)|(with_reducible refine Kd.dA ?_ _)|(with_reducible refine Kd.dL ?_ _)|(with_reducible refine Kd.dW ?_)));(case dU=>exact jr.out);(case jq=>repeat (first|exact (Kd.bW jR.out HB.out)|(with_reducible refine Kd.dA ?_ _)|(with_reducible refine Kd.dL ?_ _)|(with_reducible refine Kd.dW ?_)));(case jo=>exact lD.out);rintro e w6 ⟨rfl,hb⟩;refine ⟨_,rfl,?_⟩;have eU:=ae.mk (bK (g:=Bj) (o:=.cells #[.slice eP bC.length eH,.string aY,.string aZ,.slice gy aJ.length fB] 25 (0,0)) (by (with_reducible repeat (first|refine au ?_ _|refine aC ?_|refine ak ?_ _));exact uA.out) hb);have eQ:=ae.mk (bz (by repeat (first|(with_reducible first|exact HB.out|apply ay|apply ai|apply ax|refine aA ?_ VH.out)|exact HB.out)) hb);clear uA;clear HB;have uA:=eU;have HB:=eQ;clear eU eQ;(try clear hb);(try clear hb2);(try clear hk);(try clear hi)))
 go_ret
 exact ⟨by first|rfl|(simp [aT,aQ] <;> rfl)|(simp [*,aT,aQ] <;> rfl),by repeat (first|(with_reducible first|exact HB.out|apply ay|apply ai|apply ax|refine aA ?_ VH.out)|exact HB.out)⟩
def di.f (k:Nat) :Option (Bool):=(some (([(⟨#[105,48]⟩:ByteArray)]:List ByteArray):List ByteArray)).bind fun jg=>((some (([(⟨5,0,0,0,0⟩:iG),(⟨9,0,0,0,0⟩:iG),(⟨6,1,0,0,0⟩:iG),(⟨11,0,1,0,1⟩:iG),(⟨5,0,0,0,0⟩:iG)]:List (iG)):List (iG))).bind fun jl=>((aN.f k jg (⟨#[48,48]⟩:ByteArray) (⟨#[]⟩:ByteArray) jl 0).bind fun t131=>(if t131=3 then ((fP.f k jg (⟨#[48,48]⟩:ByteArray) (⟨#[]⟩:ByteArray) jl 0).bind fun t132=>(if t132=true then ((aN.f k jg (⟨#[48,48]⟩:ByteArray) (⟨#[]⟩:ByteArray) jl 4).bind fun t133=>(if t133=(-1) then ((fP.f k jg (⟨#[48,48]⟩:ByteArray) (⟨#[]⟩:ByteArray) jl 4).bind fun t134=>(if t134=true then (some false) else ((aN.f k jg (⟨#[48,48]⟩:ByteArray) (⟨#[]⟩:ByteArray) jl 1).bind fun t135=>(some (t135 == (-1)))))) else (some false))) else (some false))) else (some false))))
theorem Ea {α:Type} {g:Nat→Option α} {a b:α} (hg:∀ k,dN (g k) (g (k+1))) {k k':Nat} (h:g k=some a) (h':g k'=some b):a=b:=by
 obtain ⟨K,hK⟩:=Ev.of hg h
 obtain ⟨K',hK'⟩:=Ev.of hg h'
 exact Option.some.inj ((hK (max K K') (Nat.le_max_left _ _)).symm.trans (hK' _ (Nat.le_max_right _ _)))
theorem di.mono:∀ k,dN (di.f k ) (di.f (k+1) ):=by
 intro  k
 unfold di.f
 repeat' with_reducible first|apply fP.mono|apply aN.mono|exact dN.refl _|exact dN.none _|refine dN.ite ?_ ?_|refine dN.bind ?_ (fun _=>?_)
set_option maxHeartbeats 8000000 in
set_option maxRecDepth 100000 in
theorem di.calls (k:Nat)  (r:Bool) (w:World) (h:di.f k =some r) :
  Calls Tryd.prog 8 #[] w fun e w'=>e=.returned (.bool r)∧Below w.heap.size w w':=by
 have Ai:=Tryd.underlying39
 have yj:=Tryd.underlying25
 have HB:=ae.mk (Below.refl w.heap.size w)
 have H:((some (([(⟨#[105,48]⟩:ByteArray)]:List ByteArray):List ByteArray)).bind fun jg=>((some (([(⟨5,0,0,0,0⟩:iG),(⟨9,0,0,0,0⟩:iG),(⟨6,1,0,0,0⟩:iG),(⟨11,0,1,0,1⟩:iG),(⟨5,0,0,0,0⟩:iG)]:List (iG)):List (iG))).bind fun jl=>((aN.f k jg (⟨#[48,48]⟩:ByteArray) (⟨#[]⟩:ByteArray) jl 0).bind fun t131=>(if t131=3 then ((fP.f k jg (⟨#[48,48]⟩:ByteArray) (⟨#[]⟩:ByteArray) jl 0).bind fun t132=>(if t132=true then ((aN.f k jg (⟨#[48,48]⟩:ByteArray) (⟨#[]⟩:ByteArray) jl 4).bind fun t133=>(if t133=(-1) then ((fP.f k jg (⟨#[48,48]⟩:ByteArray) (⟨#[]⟩:ByteArray) jl 4).bind fun t134=>(if t134=true then (some false) else ((aN.f k jg (⟨#[48,48]⟩:ByteArray) (⟨#[]⟩:ByteArray) jl 1).bind fun t135=>(some (t135 == (-1)))))) else (some false))) else (some false))) else (some false)))))=some r:=h
 clear h
 obtain ⟨jg,ET⟩:∃ y_:List ByteArray,y_=(([(⟨#[105,48]⟩:ByteArray)]:List ByteArray)):=⟨_,rfl⟩
 replace H:((some (([(⟨5,0,0,0,0⟩:iG),(⟨9,0,0,0,0⟩:iG),(⟨6,1,0,0,0⟩:iG),(⟨11,0,1,0,1⟩:iG),(⟨5,0,0,0,0⟩:iG)]:List (iG)):List (iG))).bind fun jl=>((aN.f k jg (⟨#[48,48]⟩:ByteArray) (⟨#[]⟩:ByteArray) jl 0).bind fun t131=>(if t131=3 then ((fP.f k jg (⟨#[48,48]⟩:ByteArray) (⟨#[]⟩:ByteArray) jl 0).bind fun t132=>(if t132=true then ((aN.f k jg (⟨#[48,48]⟩:ByteArray) (⟨#[]⟩:ByteArray) jl 4).bind fun t133=>(if t133=(-1) then ((fP.f k jg (⟨#[48,48]⟩:ByteArray) (⟨#[]⟩:ByteArray) jl 4).bind fun t134=>(if t134=true then (some false) else ((aN.f k jg (⟨#[48,48]⟩:ByteArray) (⟨#[]⟩:ByteArray) jl 1).bind fun t135=>(some (t135 == (-1)))))) else (some false))) else (some false))) else (some false))))=some r:=by first|(rw [ET];with_reducible exact H)|(have Eo:=(Option.bind_some _ _).symm.trans H;rw [ET];with_reducible exact Eo)|(have Eo:=(Option.bind_some _ _).symm.trans H;with_reducible exact Eo)|with_reducible exact H|(rw [ET];exact H)|exact H
 have BC:=ae.mk ET
 clear ET
 obtain ⟨jl,ES⟩:∃ y_:List (iG),y_=(([(⟨5,0,0,0,0⟩:iG),(⟨9,0,0,0,0⟩:iG),(⟨6,1,0,0,0⟩:iG),(⟨11,0,1,0,1⟩:iG),(⟨5,0,0,0,0⟩:iG)]:List (iG))):=⟨_,rfl⟩
 replace H:((aN.f k jg (⟨#[48,48]⟩:ByteArray) (⟨#[]⟩:ByteArray) jl 0).bind fun t131=>(if t131=3 then ((fP.f k jg (⟨#[48,48]⟩:ByteArray) (⟨#[]⟩:ByteArray) jl 0).bind fun t132=>(if t132=true then ((aN.f k jg (⟨#[48,48]⟩:ByteArray) (⟨#[]⟩:ByteArray) jl 4).bind fun t133=>(if t133=(-1) then ((fP.f k jg (⟨#[48,48]⟩:ByteArray) (⟨#[]⟩:ByteArray) jl 4).bind fun t134=>(if t134=true then (some false) else ((aN.f k jg (⟨#[48,48]⟩:ByteArray) (⟨#[]⟩:ByteArray) jl 1).bind fun t135=>(some (t135 == (-1)))))) else (some false))) else (some false))) else (some false)))=some r:=by first|(rw [ES];with_reducible exact H)|(have Eo:=(Option.bind_some _ _).symm.trans H;rw [ES];with_reducible exact Eo)|(have Eo:=(Option.bind_some _ _).symm.trans H;with_reducible exact Eo)|with_reducible exact H|(rw [ES];exact H)|exact H
 have BB:=ae.mk ES
 clear ES
 replace H:=Option.bind_eq_some_iff.mp H
 obtain ⟨t131,Yv,H⟩:=H
 replace H:(if t131=3 then ((fP.f k jg (⟨#[48,48]⟩:ByteArray) (⟨#[]⟩:ByteArray) jl 0).bind fun t132=>(if t132=true then ((aN.f k jg (⟨#[48,48]⟩:ByteArray) (⟨#[]⟩:ByteArray) jl 4).bind fun t133=>(if t133=(-1) then ((fP.f k jg (⟨#[48,48]⟩:ByteArray) (⟨#[]⟩:ByteArray) jl 4).bind fun t134=>(if t134=true then (some false) else ((aN.f k jg (⟨#[48,48]⟩:ByteArray) (⟨#[]⟩:ByteArray) jl 1).bind fun t135=>(some (t135 == (-1)))))) else (some false))) else (some false))) else (some false))=some r:=H
 have A1:=ae.mk Yv
 clear Yv
 have F1:aN.f 40 jg (⟨#[48,48]⟩:ByteArray) (⟨#[]⟩:ByteArray) jl 0=some 3:=by
  rw [BC.out,BB.out]
  kernel_rfl
 have F2:fP.f 40 jg (⟨#[48,48]⟩:ByteArray) (⟨#[]⟩:ByteArray) jl 0=some true:=by
  rw [BC.out,BB.out]
  kernel_rfl
 have F3:aN.f 40 jg (⟨#[48,48]⟩:ByteArray) (⟨#[]⟩:ByteArray) jl 4=some (-1):=by
  rw [BC.out,BB.out]
  kernel_rfl
 have F4:fP.f 40 jg (⟨#[48,48]⟩:ByteArray) (⟨#[]⟩:ByteArray) jl 4=some false:=by
  rw [BC.out,BB.out]
  kernel_rfl
 by_cases c2:t131=3
 ·
  rw [if_pos c2] at H
  have FC:(t131 == 3)=true:=beq_iff_eq.mpr c2
  have Uo:(t131 != 3)=false:=bne_eq_false_iff_eq.mpr c2
  clear c2
  replace H:=Option.bind_eq_some_iff.mp H
  obtain ⟨t132,wW,H⟩:=H
  replace H:(if t132=true then ((aN.f k jg (⟨#[48,48]⟩:ByteArray) (⟨#[]⟩:ByteArray) jl 4).bind fun t133=>(if t133=(-1) then ((fP.f k jg (⟨#[48,48]⟩:ByteArray) (⟨#[]⟩:ByteArray) jl 4).bind fun t134=>(if t134=true then (some false) else ((aN.f k jg (⟨#[48,48]⟩:ByteArray) (⟨#[]⟩:ByteArray) jl 1).bind fun t135=>(some (t135 == (-1)))))) else (some false))) else (some false))=some r:=H
  have A3:=ae.mk wW
  clear wW
  by_cases c4:t132=true
  ·
   subst c4
   have H1:((aN.f k jg (⟨#[48,48]⟩:ByteArray) (⟨#[]⟩:ByteArray) jl 4).bind fun t133=>(if t133=(-1) then ((fP.f k jg (⟨#[48,48]⟩:ByteArray) (⟨#[]⟩:ByteArray) jl 4).bind fun t134=>(if t134=true then (some false) else ((aN.f k jg (⟨#[48,48]⟩:ByteArray) (⟨#[]⟩:ByteArray) jl 1).bind fun t135=>(some (t135 == (-1)))))) else (some false)))=some r:=by rw [if_pos rfl] at H;exact H
   clear H
   have H:=H1
   clear H1
   replace H:=Option.bind_eq_some_iff.mp H
   obtain ⟨t133,A50,H⟩:=H
   replace H:(if t133=(-1) then ((fP.f k jg (⟨#[48,48]⟩:ByteArray) (⟨#[]⟩:ByteArray) jl 4).bind fun t134=>(if t134=true then (some false) else ((aN.f k jg (⟨#[48,48]⟩:ByteArray) (⟨#[]⟩:ByteArray) jl 1).bind fun t135=>(some (t135 == (-1)))))) else (some false))=some r:=H
   have A5:=ae.mk A50
   clear A50
   by_cases c6:t133=(-1)
   ·
    rw [if_pos c6] at H
    have oP:(t133 == (-1))=true:=beq_iff_eq.mpr c6
    have xw:(t133 != (-1))=false:=bne_eq_false_iff_eq.mpr c6
    clear c6
    replace H:=Option.bind_eq_some_iff.mp H
    obtain ⟨t134,VK,H⟩:=H
    replace H:(if t134=true then (some false) else ((aN.f k jg (⟨#[48,48]⟩:ByteArray) (⟨#[]⟩:ByteArray) jl 1).bind fun t135=>(some (t135 == (-1)))))=some r:=H
    have A7:=ae.mk VK
    clear VK
    by_cases c8:t134=true
    ·
     subst c8
     exact absurd (Ea (fun q=>fP.mono jg (⟨#[48,48]⟩:ByteArray) (⟨#[]⟩:ByteArray) jl 4 q) A7.out F4) (by decide)
    ·
     replace c8:=Bool.eq_false_iff.mpr c8
     subst c8
     have H1:((aN.f k jg (⟨#[48,48]⟩:ByteArray) (⟨#[]⟩:ByteArray) jl 1).bind fun t135=>(some (t135 == (-1))))=some r:=by rw [if_neg (show ¬ (false=true) by decide)] at H;exact H
     clear H
     have H:=H1
     clear H1
     replace H:=Option.bind_eq_some_iff.mp H
     obtain ⟨t135,aa9,H⟩:=H
     replace H:(some (t135 == (-1)))=some r:=H
     have A24:=ae.mk aa9
     clear aa9
     obtain rfl:=Option.some.inj H
     go_enter Tryd.func8,Tryd.ntmps8
     go_wp2_with (first|((with_reducible refine bI (N:=2) rfl ?_);refine Kd.KN Kd.string _ 9 ?hg (N:=2) ?hd (xs:=([(⟨#[105,48]⟩:ByteArray)]:List ByteArray)) (inner:=[.string (⟨#[105,48]⟩:ByteArray)]) (ok:=fun _=>True) (vG:=fun _=>True) ?hr ?hp (fun _ hk=>hk) trivial (Below.refl _ _) (Nat.le_refl _) (by simp) ?_;(case hd=>rfl);(case hg=>rfl);(case hr=>first|(go_simp;done)|(go_simp;rfl));(case hp=>exact (lF.one (show Kd.M Kd.string _ _ _ (⟨#[105,48]⟩:ByteArray) [.string (⟨#[105,48]⟩:ByteArray)] from rfl) (lF.none _ _)));intro aj2 xC NK hb Zr EX;clear Zr EX;(first|rw [← BC.out] at NK|(simp only [Int.reduceToNat] at NK;rw [← BC.out] at NK));have eU:=ae.mk (Kd.tq NK (cu (by repeat (first|(with_reducible first|exact HB.out|apply ay|apply ai|apply ax)|exact HB.out))));have eQ:=ae.mk (bz (by repeat (first|(with_reducible first|exact HB.out|apply ay|apply ai|apply ax)|exact HB.out)) hb);clear HB;have kQ:=eU;have HB:=eQ;clear eU eQ;clear hb NK)|((with_reducible refine bI (N:=8) rfl ?_);refine Kd.KN k39 _ 39 ?hg (N:=8) ?hd (xs:=([(⟨5,0,0,0,0⟩:iG),(⟨9,0,0,0,0⟩:iG),(⟨6,1,0,0,0⟩:iG),(⟨11,0,1,0,1⟩:iG),(⟨5,0,0,0,0⟩:iG)]:List (iG))) (inner:=[.int .u8 5,.int .u8 0,.int .u8 0,.int .u8 0,.int .i64 0,.int .u8 9,.int .u8 0,.int .u8 0,.int .u8 0,.int .i64 0,.int .u8 6,.int .u8 1,.int .u8 0,.int .u8 0,.int .i64 0,.int .u8 11,.int .u8 0,.int .u8 1,.int .u8 0,.int .i64 1,.int .u8 5,.int .u8 0,.int .u8 0,.int .u8 0,.int .i64 0]) (ok:=fun _=>True) (vG:=fun _=>True) ?hr ?hp (fun _ hk=>hk) trivial (Below.refl _ _) (Nat.le_refl _) (by simp) ?_;(case hd=>rfl);(case hg=>rfl);(case hr=>first|(go_simp;done)|(go_simp;rfl));(case hp=>exact (lF.c5 (show Kd.M k39 _ _ _ (⟨5,0,0,0,0⟩:iG) [.int .u8 5,.int .u8 0,.int .u8 0,.int .u8 0,.int .i64 0] from (wC _ _ _ (⟨5,0,0,0,0⟩:iG) )) (lF.c5 (show Kd.M k39 _ _ _ (⟨9,0,0,0,0⟩:iG) [.int .u8 9,.int .u8 0,.int .u8 0,.int .u8 0,.int .i64 0] from (wC _ _ _ (⟨9,0,0,0,0⟩:iG) )) (lF.c5 (show Kd.M k39 _ _ _ (⟨6,1,0,0,0⟩:iG) [.int .u8 6,.int .u8 1,.int .u8 0,.int .u8 0,.int .i64 0] from (wC _ _ _ (⟨6,1,0,0,0⟩:iG) )) (lF.c5 (show Kd.M k39 _ _ _ (⟨11,0,1,0,1⟩:iG) [.int .u8 11,.int .u8 0,.int .u8 1,.int .u8 0,.int .i64 1] from (wC _ _ _ (⟨11,0,1,0,1⟩:iG) )) (lF.c5 (show Kd.M k39 _ _ _ (⟨5,0,0,0,0⟩:iG) [.int .u8 5,.int .u8 0,.int .u8 0,.int .u8 0,.int .i64 0] from (wC _ _ _ (⟨5,0,0,0,0⟩:iG) )) (lF.none _ _)))))));intro aj1 w27 NJ hb Zr EX;clear Zr EX;(first|rw [← BB.out] at NJ|(simp only [Int.reduceToNat] at NJ;rw [← BB.out] at NJ));have eU:=ae.mk (Kd.jL (by (with_reducible repeat (first|apply Kd.jA|apply Kd.jy|apply Kd.jZ));exact kQ.out) hb);have eQ:=ae.mk (Kd.tq NJ (cu (by repeat (first|(with_reducible first|exact HB.out|apply ay|apply ai|apply ax)|exact HB.out))));have eu:=ae.mk (bz (by repeat (first|(with_reducible first|exact HB.out|apply ay|apply ai|apply ax)|exact HB.out)) hb);clear kQ;clear HB;have kQ:=eU;have lC:=eQ;have HB:=eu;clear eU eQ eu;clear hb NJ;obtain ⟨wV,vK,aha⟩:=Kd.sZ lC.out;subst aha;obtain ⟨uB,tK,ag9⟩:=Kd.sZ kQ.out;subst ag9)|((with_reducible refine bI (N:=1) rfl ?_);refine dZ ?hg (N:=1) ?hd (cs:=#[.slice none 0 0,.string (⟨#[]⟩:ByteArray),.string (⟨#[]⟩:ByteArray),.slice none 0 0]) (t:=25) ?hr ?_;(case hd=>rfl);(case hg=>rfl);(case hr=>first|(go_simp;done)|(go_simp;rfl));intro jB hg w31 hbox hb;have eU:=ae.mk (Kd.jL (by (with_reducible repeat (first|apply Kd.jA|apply Kd.jy|apply Kd.jZ));exact kQ.out) hb);have eQ:=ae.mk (Kd.jL (by (with_reducible repeat (first|apply Kd.jA|apply Kd.jy|apply Kd.jZ));exact lC.out) hb);have eu:=ae.mk (bz (by repeat (first|(with_reducible first|exact HB.out|apply ay|apply ai|apply ax)|exact HB.out)) hb);have ig:=ae.mk (hbox);have mW:=ae.mk ((by rw [hg];exact (cu (by repeat (first|(with_reducible first|exact HB.out|apply ay|apply ai|apply ax)|exact HB.out))):w.heap.size≤jB));have mM:=mW;clear kQ;clear lC;clear HB;have kQ:=eU;have lC:=eQ;have HB:=eu;have iJ:=ig;have ajB:=mW;have BF:=mM;clear eU eQ eu ig mW mM;clear hb hbox hg;have JY:w31.cell? ⟨jB,0,none⟩=some (.slice none 0 0):=(ah iJ.out 0).trans rfl;have JX:w31.cell? ⟨jB,1,none⟩=some (.string (⟨#[]⟩:ByteArray)):=(ah iJ.out 1).trans rfl;have JW:w31.cell? ⟨jB,2,none⟩=some (.string (⟨#[]⟩:ByteArray)):=(ah iJ.out 2).trans rfl;have JV:w31.cell? ⟨jB,3,none⟩=some (.slice none 0 0):=(ah iJ.out 3).trans rfl;have Jh:=ag iJ.out 0;have Jg:=ag iJ.out 1;have Jf:=ag iJ.out 2;have Je:=ag iJ.out 3)|((with_reducible refine bT (f:=11) rfl ?_);refine gp (some 11) rfl rfl Tryd.func11 (by kernel_rfl) rfl #[.agg #[.slice uB jg.length tK,.string (⟨#[48,48]⟩:ByteArray),.string (⟨#[]⟩:ByteArray),.slice wV jl.length vK],.int .i64 0] rfl (by (try simp only [List.map_toArray,List.map_cons,List.map_nil]);first|done|rfl|(simp only [List.length_drop,List.length_take];rfl)) ?_;(with_reducible refine (aN.calls k _ _ jg (⟨#[48,48]⟩:ByteArray) (⟨#[]⟩:ByteArray) _ _ jl 0 t131 _ ?dR ?dU ?jq ?jo A1.out).mono ?_);(case dR=>refine (Kd.gz (e:=9) (base:=w.heap.size) (ok:=fun k_=>True) (n:=jg.length) (c:=tK) ?_).2.2;exact (by (with_reducible repeat (first|apply Kd.jA|apply Kd.jy|apply Kd.jZ));exact (Kd.qR (Kd.qG (p:=⟨jB,3,none⟩) (Kd.qG (p:=⟨jB,2,none⟩) (Kd.qG (p:=⟨jB,1,none⟩) (Kd.qG (p:=⟨jB,0,none⟩) (Kd.uM kQ.out iJ.out (by decide)) (fun _ hk=>hk.2) (.slice uB jg.length tK)) (fun _ hk=>hk.2) (.string (⟨#[48,48]⟩:ByteArray))) (fun _ hk=>hk.2) (.string (⟨#[]⟩:ByteArray))) (fun _ hk=>hk.2) (.slice wV jl.length vK)) (fun _ h_=>h_.1))));(case dU=>exact (Kd.gz kQ.out).2.1);(case jq=>refine (Kd.gz (e:=39) (base:=w.heap.size) (ok:=fun k_=>True) (n:=jl.length) (c:=vK) ?_).2.2;exact (by (with_reducible repeat (first|apply Kd.jA|apply Kd.jy|apply Kd.jZ));exact (Kd.qR (Kd.qG (p:=⟨jB,3,none⟩) (Kd.qG (p:=⟨jB,2,none⟩) (Kd.qG (p:=⟨jB,1,none⟩) (Kd.qG (p:=⟨jB,0,none⟩) (Kd.uM lC.out iJ.out (by decide)) (fun _ hk=>hk.2) (.slice uB jg.length tK)) (fun _ hk=>hk.2) (.string (⟨#[48,48]⟩:ByteArray))) (fun _ hk=>hk.2) (.string (⟨#[]⟩:ByteArray))) (fun _ hk=>hk.2) (.slice wV jl.length vK)) (fun _ h_=>h_.1))));(case jo=>exact (Kd.gz lC.out).2.1);rintro e w33 ⟨rfl,hb⟩;refine ⟨_,rfl,?_⟩;have eU:=ae.mk (Kd.jL (by (with_reducible repeat (first|apply Kd.jA|apply Kd.jy|apply Kd.jZ));exact (Kd.qR (Kd.qG (p:=⟨jB,3,none⟩) (Kd.qG (p:=⟨jB,2,none⟩) (Kd.qG (p:=⟨jB,1,none⟩) (Kd.qG (p:=⟨jB,0,none⟩) (Kd.uM kQ.out iJ.out (by decide)) (fun _ hk=>hk.2) (.slice uB jg.length tK)) (fun _ hk=>hk.2) (.string (⟨#[48,48]⟩:ByteArray))) (fun _ hk=>hk.2) (.string (⟨#[]⟩:ByteArray))) (fun _ hk=>hk.2) (.slice wV jl.length vK)) (fun _ h_=>h_.1))) hb);have eQ:=ae.mk (Kd.jL (by (with_reducible repeat (first|apply Kd.jA|apply Kd.jy|apply Kd.jZ));exact (Kd.qR (Kd.qG (p:=⟨jB,3,none⟩) (Kd.qG (p:=⟨jB,2,none⟩) (Kd.qG (p:=⟨jB,1,none⟩) (Kd.qG (p:=⟨jB,0,none⟩) (Kd.uM lC.out iJ.out (by decide)) (fun _ hk=>hk.2) (.slice uB jg.length tK)) (fun _ hk=>hk.2) (.string (⟨#[48,48]⟩:ByteArray))) (fun _ hk=>hk.2) (.string (⟨#[]⟩:ByteArray))) (fun _ hk=>hk.2) (.slice wV jl.length vK)) (fun _ h_=>h_.1))) hb);have eu:=ae.mk (bK (g:=jB) (o:=.cells #[.slice uB jg.length tK,.string (⟨#[48,48]⟩:ByteArray),.string (⟨#[]⟩:ByteArray),.slice wV jl.length vK] 25 (0,0)) (by (with_reducible repeat (first|refine au ?_ _|refine aC ?_|refine ak ?_ _));refine dw (cs:=#[.slice uB jg.length tK,.string (⟨#[48,48]⟩:ByteArray),.string (⟨#[]⟩:ByteArray),.slice none 0 0]) ?_ 3 _ rfl;(with_reducible repeat (first|refine au ?_ _|refine aC ?_|refine ak ?_ _));refine dw (cs:=#[.slice uB jg.length tK,.string (⟨#[48,48]⟩:ByteArray),.string (⟨#[]⟩:ByteArray),.slice none 0 0]) ?_ 2 _ rfl;(with_reducible repeat (first|refine au ?_ _|refine aC ?_|refine ak ?_ _));refine dw (cs:=#[.slice uB jg.length tK,.string (⟨#[]⟩:ByteArray),.string (⟨#[]⟩:ByteArray),.slice none 0 0]) ?_ 1 _ rfl;(with_reducible repeat (first|refine au ?_ _|refine aC ?_|refine ak ?_ _));refine dw (cs:=#[.slice none 0 0,.string (⟨#[]⟩:ByteArray),.string (⟨#[]⟩:ByteArray),.slice none 0 0]) ?_ 0 _ rfl;(with_reducible repeat (first|refine au ?_ _|refine aC ?_|refine ak ?_ _));exact iJ.out) hb);have ig:=ae.mk (bz (by repeat (first|(with_reducible first|exact HB.out|apply ay|apply ai|apply ax|refine aA ?_ BF.out)|exact HB.out)) hb);clear kQ;clear lC;clear iJ;clear HB;have kQ:=eU;have lC:=eQ;have iJ:=eu;have HB:=ig;clear eU eQ eu ig;(try clear hb);(try clear hb2);(try clear hk);(try clear hi);have ae4:w33.cell? ⟨jB,0,none⟩=some (.slice uB jg.length tK):=(ah iJ.out 0).trans rfl;have ae3:w33.cell? ⟨jB,1,none⟩=some (.string (⟨#[48,48]⟩:ByteArray)):=(ah iJ.out 1).trans rfl;have ae2:w33.cell? ⟨jB,2,none⟩=some (.string (⟨#[]⟩:ByteArray)):=(ah iJ.out 2).trans rfl;have ae1:w33.cell? ⟨jB,3,none⟩=some (.slice wV jl.length vK):=(ah iJ.out 3).trans rfl;have adA:=ag iJ.out 0;have adz:=ag iJ.out 1;have ady:=ag iJ.out 2;have adx:=ag iJ.out 3)|(go_at_call 12;(with_reducible refine (fP.calls k _ _ jg (⟨#[48,48]⟩:ByteArray) (⟨#[]⟩:ByteArray) _ _ jl 0 true _ ?dR ?dU ?jq ?jo A3.out).mono ?_);(case dR=>repeat (first|exact (Kd.gz kQ.out).2.2|(with_reducible refine Kd.dA ?_ _)|(with_reducible refine Kd.dL ?_ _)|(with_reducible refine Kd.dW ?_)));(case dU=>exact (Kd.gz kQ.out).2.1);(case jq=>repeat (first|exact (Kd.gz lC.out).2.2|(with_reducible refine Kd.dA ?_ _)|(with_reducible refine Kd.dL ?_ _)|(with_reducible refine Kd.dW ?_)));(case jo=>exact (Kd.gz lC.out).2.1);rintro e w35 ⟨rfl,hb⟩;have eU:=ae.mk (Kd.jL (by (with_reducible repeat (first|apply Kd.jA|apply Kd.jy|apply Kd.jZ));exact kQ.out) hb);have eQ:=ae.mk (Kd.jL (by (with_reducible repeat (first|apply Kd.jA|apply Kd.jy|apply Kd.jZ));exact lC.out) hb);have eu:=ae.mk (bK (g:=jB) (o:=.cells #[.slice uB jg.length tK,.string (⟨#[48,48]⟩:ByteArray),.string (⟨#[]⟩:ByteArray),.slice wV jl.length vK] 25 (0,0)) (by (with_reducible repeat (first|refine au ?_ _|refine aC ?_|refine ak ?_ _));exact iJ.out) hb);have ig:=ae.mk (bz (by repeat (first|(with_reducible first|exact HB.out|apply ay|apply ai|apply ax|refine aA ?_ BF.out)|exact HB.out)) hb);clear kQ;clear lC;clear iJ;clear HB;have kQ:=eU;have lC:=eQ;have iJ:=eu;have HB:=ig;clear eU eQ eu ig;(try clear hb);(try clear hb2);(try clear hk);(try clear hi);have Ti:w35.cell? ⟨jB,0,none⟩=some (.slice uB jg.length tK):=(ah iJ.out 0).trans rfl;have Tf:w35.cell? ⟨jB,1,none⟩=some (.string (⟨#[48,48]⟩:ByteArray)):=(ah iJ.out 1).trans rfl;have Td:w35.cell? ⟨jB,2,none⟩=some (.string (⟨#[]⟩:ByteArray)):=(ah iJ.out 2).trans rfl;have Tc:w35.cell? ⟨jB,3,none⟩=some (.slice wV jl.length vK):=(ah iJ.out 3).trans rfl;have QT:=ag iJ.out 0;have QS:=ag iJ.out 1;have QR:=ag iJ.out 2;have QQ:=ag iJ.out 3)|(go_at_call 11;(with_reducible refine (aN.calls k _ _ jg (⟨#[48,48]⟩:ByteArray) (⟨#[]⟩:ByteArray) _ _ jl 4 t133 _ ?dR ?dU ?jq ?jo A5.out).mono ?_);(case dR=>repeat (first|exact (Kd.gz kQ.out).2.2|(with_reducible refine Kd.dA ?_ _)|(with_reducible refine Kd.dL ?_ _)|(with_reducible refine Kd.dW ?_)));(case dU=>exact (Kd.gz kQ.out).2.1);(case jq=>repeat (first|exact (Kd.gz lC.out).2.2|(with_reducible refine Kd.dA ?_ _)|(with_reducible refine Kd.dL ?_ _)|(with_reducible refine Kd.dW ?_)));(case jo=>exact (Kd.gz lC.out).2.1);rintro e VR ⟨rfl,hb⟩;have eU:=ae.mk (Kd.jL (by (with_reducible repeat (first|apply Kd.jA|apply Kd.jy|apply Kd.jZ));exact kQ.out) hb);have eQ:=ae.mk (Kd.jL (by (with_reducible repeat (first|apply Kd.jA|apply Kd.jy|apply Kd.jZ));exact lC.out) hb);have eu:=ae.mk (bK (g:=jB) (o:=.cells #[.slice uB jg.length tK,.string (⟨#[48,48]⟩:ByteArray),.string (⟨#[]⟩:ByteArray),.slice wV jl.length vK] 25 (0,0)) (by (with_reducible repeat (first|refine au ?_ _|refine aC ?_|refine ak ?_ _));exact iJ.out) hb);have ig:=ae.mk (bz (by repeat (first|(with_reducible first|exact HB.out|apply ay|apply ai|apply ax|refine aA ?_ BF.out)|exact HB.out)) hb);clear kQ;clear lC;clear iJ;clear HB;have kQ:=eU;have lC:=eQ;have iJ:=eu;have HB:=ig;clear eU eQ eu ig;(try clear hb);(try clear hb2);(try clear hk);(try clear hi);have aeZ:VR.cell? ⟨jB,0,none⟩=some (.slice uB jg.length tK):=(ah iJ.out 0).trans rfl;have aeY:VR.cell? ⟨jB,1,none⟩=some (.string (⟨#[48,48]⟩:ByteArray)):=(ah iJ.out 1).trans rfl;have aeX:VR.cell? ⟨jB,2,none⟩=some (.string (⟨#[]⟩:ByteArray)):=(ah iJ.out 2).trans rfl;have aeW:VR.cell? ⟨jB,3,none⟩=some (.slice wV jl.length vK):=(ah iJ.out 3).trans rfl;have adv:=ag iJ.out 0;have adu:=ag iJ.out 1;have adt:=ag iJ.out 2;have ads:=ag iJ.out 3)|(go_at_call 12;(with_reducible refine (fP.calls k _ _ jg (⟨#[48,48]⟩:ByteArray) (⟨#[]⟩:ByteArray) _ _ jl 4 false _ ?dR ?dU ?jq ?jo A7.out).mono ?_);(case dR=>repeat (first|exact (Kd.gz kQ.out).2.2|(with_reducible refine Kd.dA ?_ _)|(with_reducible refine Kd.dL ?_ _)|(with_reducible refine Kd.dW ?_)));(case dU=>exact (Kd.gz kQ.out).2.1);(case jq=>repeat (first|exact (Kd.gz lC.out).2.2|(with_reducible refine Kd.dA ?_ _)|(with_reducible refine Kd.dL ?_ _)|(with_reducible refine Kd.dW ?_)));(case jo=>exact (Kd.gz lC.out).2.1);rintro e yz ⟨rfl,hb⟩;have eU:=ae.mk (Kd.jL (by (with_reducible repeat (first|apply Kd.jA|apply Kd.jy|apply Kd.jZ));exact kQ.out) hb);have eQ:=ae.mk (Kd.jL (by (with_reducible repeat (first|apply Kd.jA|apply Kd.jy|apply Kd.jZ));exact lC.out) hb);have eu:=ae.mk (bK (g:=jB) (o:=.cells #[.slice uB jg.length tK,.string (⟨#[48,48]⟩:ByteArray),.string (⟨#[]⟩:ByteArray),.slice wV jl.length vK] 25 (0,0)) (by (with_reducible repeat (first|refine au ?_ _|refine aC ?_|refine ak ?_ _));exact iJ.out) hb);have ig:=ae.mk (bz (by repeat (first|(with_reducible first|exact HB.out|apply ay|apply ai|apply ax|refine aA ?_ BF.out)|exact HB.out)) hb);clear kQ;clear lC;clear iJ;clear HB;have kQ:=eU;have lC:=eQ;have iJ:=eu;have HB:=ig;clear eU eQ eu ig;(try clear hb);(try clear hb2);(try clear hk);(try clear hi);have S9:yz.cell? ⟨jB,0,none⟩=some (.slice uB jg.length tK):=(ah iJ.out 0).trans rfl;have SY:yz.cell? ⟨jB,1,none⟩=some (.string (⟨#[48,48]⟩:ByteArray)):=(ah iJ.out 1).trans rfl;have SX:yz.cell? ⟨jB,2,none⟩=some (.string (⟨#[]⟩:ByteArray)):=(ah iJ.out 2).trans rfl;have SV:yz.cell? ⟨jB,3,none⟩=some (.slice wV jl.length vK):=(ah iJ.out 3).trans rfl;have QP:=ag iJ.out 0;have QO:=ag iJ.out 1;have QN:=ag iJ.out 2;have QM:=ag iJ.out 3)|(go_at_call 11;(with_reducible refine (aN.calls k _ _ jg (⟨#[48,48]⟩:ByteArray) (⟨#[]⟩:ByteArray) _ _ jl 1 t135 _ ?dR ?dU ?jq ?jo A24.out).mono ?_);(case dR=>repeat (first|exact (Kd.gz kQ.out).2.2|(with_reducible refine Kd.dA ?_ _)|(with_reducible refine Kd.dL ?_ _)|(with_reducible refine Kd.dW ?_)));(case dU=>exact (Kd.gz kQ.out).2.1);(case jq=>repeat (first|exact (Kd.gz lC.out).2.2|(with_reducible refine Kd.dA ?_ _)|(with_reducible refine Kd.dL ?_ _)|(with_reducible refine Kd.dW ?_)));(case jo=>exact (Kd.gz lC.out).2.1);rintro e w41 ⟨rfl,hb⟩;have eU:=ae.mk (Kd.jL (by (with_reducible repeat (first|apply Kd.jA|apply Kd.jy|apply Kd.jZ));exact kQ.out) hb);have eQ:=ae.mk (Kd.jL (by (with_reducible repeat (first|apply Kd.jA|apply Kd.jy|apply Kd.jZ));exact lC.out) hb);have eu:=ae.mk (bK (g:=jB) (o:=.cells #[.slice uB jg.length tK,.string (⟨#[48,48]⟩:ByteArray),.string (⟨#[]⟩:ByteArray),.slice wV jl.length vK] 25 (0,0)) (by (with_reducible repeat (first|refine au ?_ _|refine aC ?_|refine ak ?_ _));exact iJ.out) hb);have ig:=ae.mk (bz (by repeat (first|(with_reducible first|exact HB.out|apply ay|apply ai|apply ax|refine aA ?_ BF.out)|exact HB.out)) hb);clear kQ;clear lC;clear iJ;clear HB;have kQ:=eU;have lC:=eQ;have iJ:=eu;have HB:=ig;clear eU eQ eu ig;(try clear hb);(try clear hb2);(try clear hk);(try clear hi)))
     go_ret
     exact ⟨by first|rfl|(simp [aT,aQ] <;> rfl)|(simp [*,aT,aQ] <;> rfl),by repeat (first|(with_reducible first|exact HB.out|apply ay|apply ai|apply ax|refine aA ?_ BF.out)|exact HB.out)⟩
   ·
    exact absurd (Ea (fun q=>aN.mono jg (⟨#[48,48]⟩:ByteArray) (⟨#[]⟩:ByteArray) jl 4 q) A5.out F3) c6
  ·
   replace c4:=Bool.eq_false_iff.mpr c4
   subst c4
   exact absurd (Ea (fun q=>fP.mono jg (⟨#[48,48]⟩:ByteArray) (⟨#[]⟩:ByteArray) jl 0 q) A3.out F2) (by decide)
 ·
  exact absurd (Ea (fun q=>aN.mono jg (⟨#[48,48]⟩:ByteArray) (⟨#[]⟩:ByteArray) jl 0 q) A1.out F1) c2
def bV.l0:Nat→Int→List ByteArray→Int→Int→List ByteArray→ByteArray→ByteArray→List (iG)→Option (Bool)
 | 0,_,_,_,_,_,_,_,_=>none
 | k+1,x3,x14,x15,x16,PS,PR,PQ,Io=>if x16 < x15 then (if 0≤x16 then (if x16 < (x14.length:Int) then (bV.l0 k (wrap64 (x3+(wrap64 (((dV ByteArray.empty x14 x16).size:Int)+1)))) x14 x15 (wrap64 (x16+1)) PS PR PQ Io) else (none)) else (none)) else (if x3≤500 then (some (decide ((Io.length:Int)≤210))) else (some false))
def bV.f (k:Nat) (bC:List ByteArray) (aY:ByteArray) (aZ:ByteArray) (aJ:List (iG)):Option (Bool):=bV.l0 k (wrap64 ((aY.size:Int)+(aZ.size:Int))) bC (bC.length:Int) 0 bC aY aZ aJ
theorem bV.iq:∀ k,(∀ y0 y1 y2 y3 y4 y5 y6 y7,dN (bV.l0 k y0 y1 y2 y3 y4 y5 y6 y7) (bV.l0 (k+1) y0 y1 y2 y3 y4 y5 y6 y7))
 | 0=>fun _ _ _ _ _ _ _ _ r h=>by simp [bV.l0] at h
 | k+1=>by
  have kZ:=bV.iq k
  ·
   intro y0 y1 y2 y3 y4 y5 y6 y7
   unfold bV.l0
   repeat' with_reducible first|apply kZ|exact dN.refl _|exact dN.none _|refine dN.ite ?_ ?_|refine dN.bind ?_ (fun _=>?_)
theorem bV.mono:∀ a0 a1 a2 a3 k,dN (bV.f k a0 a1 a2 a3) (bV.f (k+1) a0 a1 a2 a3):=by
 intro a0 a1 a2 a3 k
 have kZ:=bV.iq k
 unfold bV.f
 repeat' with_reducible first|apply kZ|exact dN.refl _|exact dN.none _|refine dN.ite ?_ ?_|refine dN.bind ?_ (fun _=>?_)
set_option maxHeartbeats 8000000 in
set_option maxRecDepth 100000 in
theorem bV.calls (k:Nat) (eP:Option Addr) (eH:Nat) (bC:List ByteArray) (aY:ByteArray) (aZ:ByteArray) (gy:Option Addr) (fB:Nat) (aJ:List (iG)) (r:Bool) (w:World) (jV:Kd.C Kd.string w eP bC.length bC) (jX:bC.length≤eH) (jU:Kd.C k39 w gy aJ.length aJ) (jW:aJ.length≤fB) (h:bV.f k bC aY aZ aJ=some r) :
  Calls Tryd.prog 17 #[.agg #[.slice eP bC.length eH,.string aY,.string aZ,.slice gy aJ.length fB]] w fun e w'=>e=.returned (.bool r)∧Below w.heap.size w w':=by
 have yj:=Tryd.underlying25
 have ji:=ae.mk jV
 have jr:=ae.mk jX
 clear jV jX
 have jR:=ae.mk jU
 have lD:=ae.mk jW
 clear jU jW
 have HB:=ae.mk (Below.refl w.heap.size w)
 have H:(bV.l0 k (wrap64 ((aY.size:Int)+(aZ.size:Int))) bC (bC.length:Int) 0 bC aY aZ aJ)=some r:=h
 clear h
 have H':=ae.mk H
 clear H
 go_enter Tryd.func17,Tryd.ntmps17
 go_wp2_with (first|((with_reducible refine bI (N:=1) rfl ?_);(try (refine iP (by rfl) ?_;dsimp only));refine dZ ?hg (N:=1) ?hd (cs:=#[.slice eP bC.length eH,.string aY,.string aZ,.slice gy aJ.length fB]) (t:=25) ?hr ?_;(case hd=>rfl);(case hg=>rfl);(case hr=>first|(go_simp;done)|(go_simp;rfl));intro uV hg w2 hbox hb;have eU:=ae.mk (bz (by repeat (first|(with_reducible first|exact HB.out|apply ay|apply ai|apply ax)|exact HB.out)) hb);have eQ:=ae.mk (hbox);have eu:=ae.mk ((by rw [hg];exact (cu (by repeat (first|(with_reducible first|exact HB.out|apply ay|apply ai|apply ax)|exact HB.out))):w.heap.size≤uV));have ig:=eu;clear HB;have HB:=eU;have o6:=eQ;have ajA:=eu;have KQ:=ig;clear eU eQ eu ig;clear hb hbox hg;have agT:w2.cell? ⟨uV,0,none⟩=some (.slice eP bC.length eH):=(ah o6.out 0).trans rfl;have agS:w2.cell? ⟨uV,1,none⟩=some (.string aY):=(ah o6.out 1).trans rfl;have agR:w2.cell? ⟨uV,2,none⟩=some (.string aZ):=(ah o6.out 2).trans rfl;have agQ:w2.cell? ⟨uV,3,none⟩=some (.slice gy aJ.length fB):=(ah o6.out 3).trans rfl;have agJ:=ag o6.out 0;have agI:=ag o6.out 1;have agH:=ag o6.out 2;have agG:=ag o6.out 3))
 go_loopg [3,16] k (fun kq v3 v16 w'=>∃ (jS:Int) (qL:Int),v3=.int .i64 jS∧v16=.int .i64 qL∧ae (bV.l0 kq jS bC (bC.length:Int) qL bC aY aZ aJ=some r)∧ae (kq≤k)∧ae (w'.heap[uV]? = some (.cells #[(.slice eP bC.length eH),.string aY,.string aZ,(.slice gy aJ.length fB)] 25 (0,0)))∧ae (Below w.heap.size w w'))
 case atStart=>exact ⟨(wrap64 ((aY.size:Int)+(aZ.size:Int))),(0),(by first|rfl|(simp;done)|(simp [*];done)),(by first|rfl|(simp;done)|(simp [*];done)),H',⟨Nat.le_refl _⟩,⟨by (with_reducible repeat (first|refine au ?_ _|refine aC ?_|refine ak ?_ _));exact o6.out⟩,⟨by repeat (first|(with_reducible first|exact HB.out|apply ay|apply ai|apply ax|refine aA ?_ KQ.out)|exact HB.out)⟩⟩
 case round =>
  clear H'
  obtain ⟨jS,qL,rfl,rfl,HA,rD,o6,HB⟩:=hrel
  cases gk with
  | zero=>exact absurd HA.out (by simp [bV.l0])
  | succ k1 =>
   have H:=HA.out
   clear HA
   simp only [bV.l0] at H
   by_cases c4:qL < (bC.length:Int)
   ·
    rw [if_pos c4] at H
    have oG:decide (qL < (bC.length:Int))=true:=decide_eq_true c4
    clear c4
    by_cases c5:0≤qL
    ·
     rw [if_pos c5] at H
     have qB:decide (0≤qL)=true:=decide_eq_true c5
     clear c5
     by_cases c6:qL < (bC.length:Int)
     ·
      rw [if_pos c6] at H
      have oP:decide (qL < (bC.length:Int))=true:=decide_eq_true c6
      clear c6
      have H':=ae.mk H
      clear H
      have WA:0≤(qL:Int):=of_decide_eq_true (by first|(with_reducible assumption)|assumption)
      have Wh:qL < (bC.length:Int):=of_decide_eq_true (by first|(with_reducible assumption)|assumption)
      obtain ⟨ai2,e137,CW⟩:=Kd.kU ji.out qL WA Wh
      cases e137
      replace CW:=(HB.out.cell (World.block_lt_of_cell? w _ CW)).trans CW
      replace WA:=eq_true WA
      replace Wh:=eq_true Wh
      go_wp2
      go_roundg k1
      case measure=>have:=rD.out;omega
      case rel=>exact ⟨(wrap64 (jS+(wrap64 (((dV ByteArray.empty bC qL).size:Int)+1)))),(wrap64 (qL+1)),(by first|rfl|(simp;done)|(simp [*];done)),(by first|rfl|(simp;done)|(simp [*];done)),H',⟨by have:=rD.out;omega⟩,⟨by (with_reducible repeat (first|refine au ?_ _|refine aC ?_|refine ak ?_ _));exact o6.out⟩,⟨by repeat (first|(with_reducible first|exact HB.out|apply ay|apply ai|apply ax|refine aA ?_ KQ.out)|exact HB.out)⟩⟩
     ·
      rw [if_neg c6] at H
      exact absurd H (by simp)
    ·
     rw [if_neg c5] at H
     exact absurd H (by simp)
   ·
    rw [if_neg c4] at H
    have oG:decide (qL < (bC.length:Int))=false:=decide_eq_false c4
    clear c4
    by_cases c7:jS≤500
    ·
     rw [if_pos c7] at H
     have pJ:decide (jS≤500)=true:=decide_eq_true c7
     clear c7
     obtain rfl:=Option.some.inj H
     have G5:wr.cell? ⟨uV,0,none⟩=some (.slice eP bC.length eH):=(ah o6.out 0).trans rfl
     have GZ:wr.cell? ⟨uV,1,none⟩=some (.string aY):=(ah o6.out 1).trans rfl
     have GY:wr.cell? ⟨uV,2,none⟩=some (.string aZ):=(ah o6.out 2).trans rfl
     have GX:wr.cell? ⟨uV,3,none⟩=some (.slice gy aJ.length fB):=(ah o6.out 3).trans rfl
     have GV:=ag o6.out 0
     have GU:=ag o6.out 1
     have GR:=ag o6.out 2
     have GN:=ag o6.out 3
     go_wp2
     go_ret
     exact ⟨by first|rfl|(simp [aT,aQ] <;> rfl)|(simp [*,aT,aQ] <;> rfl),by repeat (first|(with_reducible first|exact HB.out|apply ay|apply ai|apply ax|refine aA ?_ KQ.out)|exact HB.out)⟩
    ·
     rw [if_neg c7] at H
     have pJ:decide (jS≤500)=false:=decide_eq_false c7
     clear c7
     obtain rfl:=Option.some.inj H
     go_wp2
     go_ret
     exact ⟨by first|rfl|(simp [aT,aQ] <;> rfl)|(simp [*,aT,aQ] <;> rfl),by repeat (first|(with_reducible first|exact HB.out|apply ay|apply ai|apply ax|refine aA ?_ KQ.out)|exact HB.out)⟩
def ed.f (a0:Int) (a1:Int):Option (Int):=if a0 < 48 then (some (-1)) else (if ((a0 - 48) % 256) ≥ a1 then (some (-1)) else (some ((a0 - 48) % 256)))
set_option maxHeartbeats 8000000 in
set_option maxRecDepth 100000 in
theorem ed.calls (a0:Int) (a1:Int) (r:Int) (w:World) (h:ed.f a0 a1=some r) :
  Calls Tryd.prog 35 #[.int .u8 a0,.int .i64 a1] w fun e w'=>e=.returned (.int .i64 r)∧aV w w':=by
 have H:(if a0 < 48 then (some (-1)) else (if ((a0 - 48) % 256) ≥ a1 then (some (-1)) else (some ((a0 - 48) % 256))))=some r:=h
 clear h
 by_cases c3:a0 < 48
 ·
  rw [if_pos c3] at H
  have oQ:decide (a0 < 48)=true:=decide_eq_true c3
  clear c3
  obtain rfl:=Option.some.inj H
  go_enter Tryd.func35,Tryd.ntmps35
  go_wp2
  go_ret
  exact ⟨by first|rfl|(simp;done)|(simp [*];done),by repeat (first|exact aV.refl _|apply aV.step)⟩
 ·
  rw [if_neg c3] at H
  have oQ:decide (a0 < 48)=false:=decide_eq_false c3
  clear c3
  by_cases c4:((a0 - 48) % 256) ≥ a1
  ·
   rw [if_pos c4] at H
   have oG:decide (a1≤((a0 - 48) % 256))=true:=decide_eq_true c4
   clear c4
   obtain rfl:=Option.some.inj H
   go_enter Tryd.func35,Tryd.ntmps35
   go_wp2
   go_ret
   exact ⟨by first|rfl|(simp;done)|(simp [*];done),by repeat (first|exact aV.refl _|apply aV.step)⟩
  ·
   rw [if_neg c4] at H
   have oG:decide (a1≤((a0 - 48) % 256))=false:=decide_eq_false c4
   clear c4
   obtain rfl:=Option.some.inj H
   go_enter Tryd.func35,Tryd.ntmps35
   go_wp2
   go_ret
   exact ⟨by first|rfl|(simp;done)|(simp [*];done),by repeat (first|exact aV.refl _|apply aV.step)⟩
mutual
def aK.l0:Nat→List ByteArray→Int→Option (Bool)
 | 0,_,_=>none
 | k+1,x0,x3=>if x3 < (x0.length:Int) then (if 0≤x3 then (aK.l1 k x0 x3 (dV ByteArray.empty x0 x3) 0) else (none)) else (if (x0.length:Int) ≥ 1 then (some (decide ((x0.length:Int)≤8))) else (some false))
def aK.l1:Nat→List ByteArray→Int→ByteArray→Int→Option (Bool)
 | 0,_,_,_,_=>none
 | k+1,x0,x3,x4,x5=>if x5 < (x4.size:Int) then (if 0≤x5 then (if (bt x4 x5)=105 then (aK.l1 k x0 x3 x4 (wrap64 (x5+1))) else ((ed.f (bt x4 x5) (x0.length:Int)).bind fun t139=>(if t139 < 0 then (some false) else (aK.l1 k x0 x3 x4 (wrap64 (x5+1)))))) else (none)) else (if (x4.size:Int) < 1 then (some false) else (if (x4.size:Int) > 6 then (some false) else (aK.l0 k x0 (wrap64 (x3+1)))))
end
def aK.f (k:Nat) (l0:List ByteArray):Option (Bool):=aK.l0 k l0 0
theorem aK.iq:∀ k,(∀ y0 y1,dN (aK.l0 k y0 y1) (aK.l0 (k+1) y0 y1))∧(∀ y0 y1 y2 y3,dN (aK.l1 k y0 y1 y2 y3) (aK.l1 (k+1) y0 y1 y2 y3))
 | 0=>⟨fun _ _ r h=>by simp [aK.l0] at h,fun _ _ _ _ r h=>by simp [aK.l1] at h⟩
 | k+1=>by
  obtain ⟨kZ,ih1⟩:=aK.iq k
  refine ⟨?_,?_⟩
  ·
   intro y0 y1
   unfold aK.l0
   repeat' with_reducible first|apply kZ|apply ih1|exact dN.refl _|exact dN.none _|refine dN.ite ?_ ?_|refine dN.bind ?_ (fun _=>?_)
  ·
   intro y0 y1 y2 y3
   unfold aK.l1
   repeat' with_reducible first|apply kZ|apply ih1|exact dN.refl _|exact dN.none _|refine dN.ite ?_ ?_|refine dN.bind ?_ (fun _=>?_)
theorem aK.mono:∀ a0 k,dN (aK.f k a0) (aK.f (k+1) a0):=by
 intro a0 k
 obtain ⟨kZ,ih1⟩:=aK.iq k
 unfold aK.f
 repeat' with_reducible first|apply kZ|apply ih1|exact dN.refl _|exact dN.none _|refine dN.ite ?_ ?_|refine dN.bind ?_ (fun _=>?_)
set_option maxHeartbeats 8000000 in
set_option maxRecDepth 100000 in
theorem aK.calls (k:Nat) (A0:Option Addr) (c0:Nat) (l0:List ByteArray) (r:Bool) (w:World) (hr0:Kd.C Kd.string w A0 l0.length l0) (hc0:l0.length≤c0) (h:aK.f k l0=some r) :
  Calls Tryd.prog 33 #[.slice A0 l0.length c0] w fun e w'=>e=.returned (.bool r)∧aV w w':=by
 have HR0:=ae.mk hr0
 have vS:=ae.mk hc0
 clear hr0 hc0
 have H:(aK.l0 k l0 0)=some r:=h
 clear h
 have H':=ae.mk H
 clear H
 go_enter Tryd.func33,Tryd.ntmps33
 go_wp2
 go_loopg [3] k (fun kq v3 w'=>∃ (jS:Int),v3=.int .i64 jS∧ae (aK.l0 kq l0 jS=some r)∧ae (kq≤k)∧aV w w')
 case atStart=>exact ⟨(0),(by first|rfl|(simp;done)|(simp [*];done)),H',⟨Nat.le_refl _⟩,by repeat (first|exact aV.refl _|apply aV.step)⟩
 case round =>
  clear H'
  obtain ⟨jS,rfl,HA,rD,⟨m1,rfl⟩⟩:=hrel
  cases gk with
  | zero=>exact absurd HA.out (by simp [aK.l0])
  | succ k1 =>
   have H:=HA.out
   clear HA
   simp only [aK.l0] at H
   by_cases c2:jS < (l0.length:Int)
   ·
    rw [if_pos c2] at H
    have FC:decide (jS < (l0.length:Int))=true:=decide_eq_true c2
    clear c2
    by_cases c3:0≤jS
    ·
     rw [if_pos c3] at H
     have oQ:decide (0≤jS)=true:=decide_eq_true c3
     clear c3
     have H':=ae.mk H
     clear H
     have Wy:0≤(jS:Int):=of_decide_eq_true (by first|(with_reducible assumption)|assumption)
     have We:jS < (l0.length:Int):=of_decide_eq_true (by first|(with_reducible assumption)|assumption)
     obtain ⟨ai1,e138,abr⟩:=Kd.kU HR0.out jS Wy We
     cases e138
     replace Wy:=eq_true Wy
     replace We:=eq_true We
     go_wp2
     go_loopg [5] k1 (fun kq v5 w'=>∃ (nK:Int),v5=.int .i64 nK∧ae (aK.l1 kq l0 jS (dV ByteArray.empty l0 jS) nK=some r)∧ae (kq≤k1)∧aV w w')
     case atStart=>exact ⟨(0),(by first|rfl|(simp;done)|(simp [*];done)),H',⟨Nat.le_refl _⟩,by repeat (first|exact aV.refl _|apply aV.step)⟩
     case round =>
      clear H'
      obtain ⟨nK,rfl,HA,rJ,⟨m2,rfl⟩⟩:=hrel
      cases gk with
      | zero=>exact absurd HA.out (by simp [aK.l1])
      | succ k2 =>
       have H:=HA.out
       clear HA
       simp only [aK.l1] at H
       by_cases c4:nK < ((dV ByteArray.empty l0 jS).size:Int)
       ·
        rw [if_pos c4] at H
        have oG:decide (nK < ((dV ByteArray.empty l0 jS).size:Int))=true:=decide_eq_true c4
        clear c4
        by_cases c5:0≤nK
        ·
         rw [if_pos c5] at H
         have qB:decide (0≤nK)=true:=decide_eq_true c5
         clear c5
         by_cases c7:(bt (dV ByteArray.empty l0 jS) nK)=105
         ·
          rw [if_pos c7] at H
          have pJ:((bt (dV ByteArray.empty l0 jS) nK) == 105)=true:=beq_iff_eq.mpr c7
          have zL:((bt (dV ByteArray.empty l0 jS) nK) != 105)=false:=bne_eq_false_iff_eq.mpr c7
          clear c7
          have H':=ae.mk H
          clear H
          have p6:0≤(nK:Int):=of_decide_eq_true (by first|(with_reducible assumption)|assumption)
          have q6:nK < ((dV ByteArray.empty l0 jS).size:Int):=of_decide_eq_true (by first|(with_reducible assumption)|assumption)
          have hx6:=kP (dV ByteArray.empty l0 jS) nK
          replace p6:=eq_true p6
          replace q6:=eq_true q6
          go_wp2
          go_roundg k2
          case measure=>have:=rD.out;have:=rJ.out;omega
          case rel=>exact ⟨(wrap64 (nK+1)),(by first|rfl|(simp;done)|(simp [*];done)),H',⟨by have:=rD.out;have:=rJ.out;omega⟩,by repeat (first|exact aV.refl _|apply aV.step)⟩
         ·
          rw [if_neg c7] at H
          have pJ:((bt (dV ByteArray.empty l0 jS) nK) == 105)=false:=beq_eq_false_iff_ne.mpr c7
          have zL:((bt (dV ByteArray.empty l0 jS) nK) != 105)=true:=bne_iff_ne.mpr c7
          replace H:=Option.bind_eq_some_iff.mp H
          obtain ⟨t139,KR,H⟩:=H
          replace H:(if t139 < 0 then (some false) else (aK.l1 k2 l0 jS (dV ByteArray.empty l0 jS) (wrap64 (nK+1))))=some r:=H
          have A9:=ae.mk KR
          clear KR
          by_cases c10:t139 < 0
          ·
           rw [if_pos c10] at H
           have oU:decide (t139 < 0)=true:=decide_eq_true c10
           clear c10
           obtain rfl:=Option.some.inj H
           have p6:0≤(nK:Int):=of_decide_eq_true (by first|(with_reducible assumption)|assumption)
           have q6:nK < ((dV ByteArray.empty l0 jS).size:Int):=of_decide_eq_true (by first|(with_reducible assumption)|assumption)
           have hx6:=kP (dV ByteArray.empty l0 jS) nK
           replace p6:=eq_true p6
           replace q6:=eq_true q6
           have p8:0≤(nK:Int):=of_decide_eq_true (by first|(with_reducible assumption)|assumption)
           have q8:nK < ((dV ByteArray.empty l0 jS).size:Int):=of_decide_eq_true (by first|(with_reducible assumption)|assumption)
           have hx8:=kP (dV ByteArray.empty l0 jS) nK
           replace p8:=eq_true p8
           replace q8:=eq_true q8
           go_wp2_with (first|(go_at_call 35;(with_reducible refine (ed.calls (bt (dV ByteArray.empty l0 jS) nK) (l0.length:Int) t139 _ A9.out).mono ?_);rintro e w' ⟨rfl,⟨nd,rfl⟩⟩))
           go_ret
           exact ⟨by first|rfl|(simp;done)|(simp [*];done),by repeat (first|exact aV.refl _|apply aV.step)⟩
          ·
           rw [if_neg c10] at H
           have oU:decide (t139 < 0)=false:=decide_eq_false c10
           clear c10
           have H':=ae.mk H
           clear H
           have p6:0≤(nK:Int):=of_decide_eq_true (by first|(with_reducible assumption)|assumption)
           have q6:nK < ((dV ByteArray.empty l0 jS).size:Int):=of_decide_eq_true (by first|(with_reducible assumption)|assumption)
           have hx6:=kP (dV ByteArray.empty l0 jS) nK
           replace p6:=eq_true p6
           replace q6:=eq_true q6
           have p8:0≤(nK:Int):=of_decide_eq_true (by first|(with_reducible assumption)|assumption)
           have q8:nK < ((dV ByteArray.empty l0 jS).size:Int):=of_decide_eq_true (by first|(with_reducible assumption)|assumption)
           have hx8:=kP (dV ByteArray.empty l0 jS) nK
           replace p8:=eq_true p8
           replace q8:=eq_true q8
           go_wp2_with (first|(go_at_call 35;(with_reducible refine (ed.calls (bt (dV ByteArray.empty l0 jS) nK) (l0.length:Int) t139 _ A9.out).mono ?_);rintro e w' ⟨rfl,⟨nd,rfl⟩⟩))
           go_roundg k2
           case measure=>have:=rD.out;have:=rJ.out;omega
           case rel=>exact ⟨(wrap64 (nK+1)),(by first|rfl|(simp;done)|(simp [*];done)),H',⟨by have:=rD.out;have:=rJ.out;omega⟩,by repeat (first|exact aV.refl _|apply aV.step)⟩
        ·
         rw [if_neg c5] at H
         exact absurd H (by simp)
       ·
        rw [if_neg c4] at H
        have oG:decide (nK < ((dV ByteArray.empty l0 jS).size:Int))=false:=decide_eq_false c4
        clear c4
        by_cases c11:((dV ByteArray.empty l0 jS).size:Int) < 1
        ·
         rw [if_pos c11] at H
         have uo:decide (((dV ByteArray.empty l0 jS).size:Int) < 1)=true:=decide_eq_true c11
         have Bz:decide ((dV ByteArray.empty l0 jS).size < 1)=true:=decide_eq_true (by omega)
         clear c11
         obtain rfl:=Option.some.inj H
         go_wp2
         go_ret
         exact ⟨by first|rfl|(simp;done)|(simp [*];done),by repeat (first|exact aV.refl _|apply aV.step)⟩
        ·
         rw [if_neg c11] at H
         have uo:decide (((dV ByteArray.empty l0 jS).size:Int) < 1)=false:=decide_eq_false c11
         have Bz:decide ((dV ByteArray.empty l0 jS).size < 1)=false:=decide_eq_false (by omega)
         clear c11
         by_cases c12:((dV ByteArray.empty l0 jS).size:Int) > 6
         ·
          rw [if_pos c12] at H
          have um:decide (6 < ((dV ByteArray.empty l0 jS).size:Int))=true:=decide_eq_true c12
          have OH:decide (6 < (dV ByteArray.empty l0 jS).size)=true:=decide_eq_true (by omega)
          clear c12
          obtain rfl:=Option.some.inj H
          go_wp2
          go_ret
          exact ⟨by first|rfl|(simp;done)|(simp [*];done),by repeat (first|exact aV.refl _|apply aV.step)⟩
         ·
          rw [if_neg c12] at H
          have um:decide (6 < ((dV ByteArray.empty l0 jS).size:Int))=false:=decide_eq_false c12
          have OH:decide (6 < (dV ByteArray.empty l0 jS).size)=false:=decide_eq_false (by omega)
          clear c12
          have H':=ae.mk H
          clear H
          go_wp2
          go_roundg k2
          case measure=>have:=rD.out;have:=rJ.out;omega
          case rel=>exact ⟨(wrap64 (jS+1)),(by first|rfl|(simp;done)|(simp [*];done)),H',⟨by have:=rD.out;have:=rJ.out;omega⟩,by repeat (first|exact aV.refl _|apply aV.step)⟩
    ·
     rw [if_neg c3] at H
     exact absurd H (by simp)
   ·
    rw [if_neg c2] at H
    have FC:decide (jS < (l0.length:Int))=false:=decide_eq_false c2
    clear c2
    by_cases c13:(l0.length:Int) ≥ 1
    ·
     rw [if_pos c13] at H
     have pg:decide (1≤(l0.length:Int))=true:=decide_eq_true c13
     have FI:decide (1≤l0.length)=true:=decide_eq_true (by omega)
     clear c13
     obtain rfl:=Option.some.inj H
     go_wp2
     go_ret
     exact ⟨by first|rfl|(simp;done)|(simp [*];done),by repeat (first|exact aV.refl _|apply aV.step)⟩
    ·
     rw [if_neg c13] at H
     have pg:decide (1≤(l0.length:Int))=false:=decide_eq_false c13
     have FI:decide (1≤l0.length)=false:=decide_eq_false (by omega)
     clear c13
     obtain rfl:=Option.some.inj H
     go_wp2
     go_ret
     exact ⟨by first|rfl|(simp;done)|(simp [*];done),by repeat (first|exact aV.refl _|apply aV.step)⟩
def aW.l0:Nat→List ByteArray→ByteArray→Int→Option (Bool)
 | 0,_,_,_=>none
 | k+1,x0,x1,x5=>if x5 < (x1.size:Int) then (if 0≤x5 then ((ed.f (bt x1 x5) (x0.length:Int)).bind fun t140=>(if t140 < 0 then (some false) else (aW.l0 k x0 x1 (wrap64 (x5+1))))) else (none)) else ((aK.f k x0).bind fun t141=>(some t141))
def aW.f (k:Nat) (l0:List ByteArray) (a1:ByteArray):Option (Bool):=aW.l0 k l0 a1 0
theorem aW.iq:∀ k,(∀ y0 y1 y2,dN (aW.l0 k y0 y1 y2) (aW.l0 (k+1) y0 y1 y2))
 | 0=>fun _ _ _ r h=>by simp [aW.l0] at h
 | k+1=>by
  have kZ:=aW.iq k
  ·
   intro y0 y1 y2
   unfold aW.l0
   repeat' with_reducible first|apply kZ|apply aK.mono|exact dN.refl _|exact dN.none _|refine dN.ite ?_ ?_|refine dN.bind ?_ (fun _=>?_)
theorem aW.mono:∀ a0 a1 k,dN (aW.f k a0 a1) (aW.f (k+1) a0 a1):=by
 intro a0 a1 k
 have kZ:=aW.iq k
 unfold aW.f
 repeat' with_reducible first|apply kZ|apply aK.mono|exact dN.refl _|exact dN.none _|refine dN.ite ?_ ?_|refine dN.bind ?_ (fun _=>?_)
set_option maxHeartbeats 8000000 in
set_option maxRecDepth 100000 in
theorem aW.calls (k:Nat) (A0:Option Addr) (c0:Nat) (l0:List ByteArray) (a1:ByteArray) (r:Bool) (w:World) (hr0:Kd.C Kd.string w A0 l0.length l0) (hc0:l0.length≤c0) (h:aW.f k l0 a1=some r) :
  Calls Tryd.prog 27 #[.slice A0 l0.length c0,.string a1] w fun e w'=>e=.returned (.bool r)∧aV w w':=by
 have HR0:=ae.mk hr0
 have vS:=ae.mk hc0
 clear hr0 hc0
 have H:(aW.l0 k l0 a1 0)=some r:=h
 clear h
 have H':=ae.mk H
 clear H
 go_enter Tryd.func27,Tryd.ntmps27
 go_wp2
 go_loopg [5] k (fun kq v5 w'=>∃ (mY:Int),v5=.int .i64 mY∧ae (aW.l0 kq l0 a1 mY=some r)∧ae (kq≤k)∧aV w w')
 case atStart=>exact ⟨(0),(by first|rfl|(simp;done)|(simp [*];done)),H',⟨Nat.le_refl _⟩,by repeat (first|exact aV.refl _|apply aV.step)⟩
 case round =>
  clear H'
  obtain ⟨mY,rfl,HA,rD,⟨m1,rfl⟩⟩:=hrel
  cases gk with
  | zero=>exact absurd HA.out (by simp [aW.l0])
  | succ k1 =>
   have H:=HA.out
   clear HA
   simp only [aW.l0] at H
   by_cases c3:mY < (a1.size:Int)
   ·
    rw [if_pos c3] at H
    have oQ:decide (mY < (a1.size:Int))=true:=decide_eq_true c3
    clear c3
    by_cases c4:0≤mY
    ·
     rw [if_pos c4] at H
     have oG:decide (0≤mY)=true:=decide_eq_true c4
     clear c4
     replace H:=Option.bind_eq_some_iff.mp H
     obtain ⟨t140,Pm,H⟩:=H
     replace H:(if t140 < 0 then (some false) else (aW.l0 k1 l0 a1 (wrap64 (mY+1))))=some r:=H
     have A6:=ae.mk Pm
     clear Pm
     by_cases c7:t140 < 0
     ·
      rw [if_pos c7] at H
      have pJ:decide (t140 < 0)=true:=decide_eq_true c7
      clear c7
      obtain rfl:=Option.some.inj H
      have p5:0≤(mY:Int):=of_decide_eq_true (by first|(with_reducible assumption)|assumption)
      have q5:mY < (a1.size:Int):=of_decide_eq_true (by first|(with_reducible assumption)|assumption)
      have hx5:=kP a1 mY
      replace p5:=eq_true p5
      replace q5:=eq_true q5
      go_wp2_with (first|((with_reducible refine bT (f:=35) rfl ?_);refine gp (some 17) rfl rfl Tryd.func35 (by kernel_rfl) rfl #[.int .u8 (bt a1 mY),.int .i64 (l0.length:Int)] rfl (by (try simp only [List.map_toArray,List.map_cons,List.map_nil]);first|done|rfl|(simp only [List.length_drop,List.length_take];rfl)) ?_;(with_reducible refine (ed.calls (bt a1 mY) (l0.length:Int) t140 _ A6.out).mono ?_);rintro e w' ⟨rfl,⟨nd,rfl⟩⟩;refine ⟨_,rfl,?_⟩))
      go_ret
      exact ⟨by first|rfl|(simp;done)|(simp [*];done),by repeat (first|exact aV.refl _|apply aV.step)⟩
     ·
      rw [if_neg c7] at H
      have pJ:decide (t140 < 0)=false:=decide_eq_false c7
      clear c7
      have H':=ae.mk H
      clear H
      have p5:0≤(mY:Int):=of_decide_eq_true (by first|(with_reducible assumption)|assumption)
      have q5:mY < (a1.size:Int):=of_decide_eq_true (by first|(with_reducible assumption)|assumption)
      have hx5:=kP a1 mY
      replace p5:=eq_true p5
      replace q5:=eq_true q5
      go_wp2_with (first|((with_reducible refine bT (f:=35) rfl ?_);refine gp (some 17) rfl rfl Tryd.func35 (by kernel_rfl) rfl #[.int .u8 (bt a1 mY),.int .i64 (l0.length:Int)] rfl (by (try simp only [List.map_toArray,List.map_cons,List.map_nil]);first|done|rfl|(simp only [List.length_drop,List.length_take];rfl)) ?_;(with_reducible refine (ed.calls (bt a1 mY) (l0.length:Int) t140 _ A6.out).mono ?_);rintro e w' ⟨rfl,⟨nd,rfl⟩⟩;refine ⟨_,rfl,?_⟩))
      go_roundg k1
      case measure=>have:=rD.out;omega
      case rel=>exact ⟨(wrap64 (mY+1)),(by first|rfl|(simp;done)|(simp [*];done)),H',⟨by have:=rD.out;omega⟩,by repeat (first|exact aV.refl _|apply aV.step)⟩
    ·
     rw [if_neg c4] at H
     exact absurd H (by simp)
   ·
    rw [if_neg c3] at H
    have oQ:decide (mY < (a1.size:Int))=false:=decide_eq_false c3
    clear c3
    replace H:=Option.bind_eq_some_iff.mp H
    obtain ⟨t141,A80,H⟩:=H
    replace H:(some t141)=some r:=H
    have A8:=ae.mk A80
    clear A80
    obtain rfl:=Option.some.inj H
    go_wp2_with (first|((with_reducible refine bT (f:=33) rfl ?_);refine gp (some 20) rfl rfl Tryd.func33 (by kernel_rfl) rfl #[.slice A0 l0.length c0] rfl (by (try simp only [List.map_toArray,List.map_cons,List.map_nil]);first|done|rfl|(simp only [List.length_drop,List.length_take];rfl)) ?_;(with_reducible refine (aK.calls k1 _ _ l0 t141 _ ?dR ?dU A8.out).mono ?_);(case dR=>repeat (first|exact HR0.out|(with_reducible refine Kd.dA ?_ _)|(with_reducible refine Kd.dL ?_ _)|(with_reducible refine Kd.dW ?_)));(case dU=>exact vS.out);rintro e w' ⟨rfl,⟨nd,rfl⟩⟩;refine ⟨_,rfl,?_⟩))
    go_ret
    exact ⟨by first|rfl|(simp;done)|(simp [*];done),by repeat (first|exact aV.refl _|apply aV.step)⟩
def jC.f (a0:Int):Option (ByteArray × ByteArray):=if a0=11 then (some ((⟨#[115,116,111,114,101,112]⟩:ByteArray),(⟨#[97,110,98]⟩:ByteArray))) else (if a0=12 then (some ((⟨#[108,111,97,100,103]⟩:ByteArray),(⟨#[97,98]⟩:ByteArray))) else (if a0=13 then (some ((⟨#[115,116,111,114,101,103]⟩:ByteArray),(⟨#[97,98]⟩:ByteArray))) else (if a0=14 then (some ((⟨#[112,114,105,110,116]⟩:ByteArray),(⟨#[97]⟩:ByteArray))) else (if a0=15 then (some ((⟨#[115,97,109,101]⟩:ByteArray),(⟨#[97,98,99]⟩:ByteArray))) else (some ((⟨#[]⟩:ByteArray),(⟨#[]⟩:ByteArray)))))))
set_option maxHeartbeats 8000000 in
set_option maxRecDepth 100000 in
theorem jC.calls (a0:Int) (r1:ByteArray) (r2:ByteArray) (w:World) (h:jC.f a0=some (r1,r2)) :
  Calls Tryd.prog 45 #[.int .u8 a0] w fun e w'=>e=.returned (.tuple #[.string r1,.string r2])∧aV w w':=by
 have H:(if a0=11 then (some ((⟨#[115,116,111,114,101,112]⟩:ByteArray),(⟨#[97,110,98]⟩:ByteArray))) else (if a0=12 then (some ((⟨#[108,111,97,100,103]⟩:ByteArray),(⟨#[97,98]⟩:ByteArray))) else (if a0=13 then (some ((⟨#[115,116,111,114,101,103]⟩:ByteArray),(⟨#[97,98]⟩:ByteArray))) else (if a0=14 then (some ((⟨#[112,114,105,110,116]⟩:ByteArray),(⟨#[97]⟩:ByteArray))) else (if a0=15 then (some ((⟨#[115,97,109,101]⟩:ByteArray),(⟨#[97,98,99]⟩:ByteArray))) else (some ((⟨#[]⟩:ByteArray),(⟨#[]⟩:ByteArray))))))))=some (r1,r2):=h
 clear h
 by_cases c2:a0=11
 ·
  rw [if_pos c2] at H
  have FC:(a0 == 11)=true:=beq_iff_eq.mpr c2
  have Uo:(a0 != 11)=false:=bne_eq_false_iff_eq.mpr c2
  clear c2
  simp only [Option.some.injEq,Prod.mk.injEq] at H
  obtain ⟨rfl,rfl⟩:=H
  go_enter Tryd.func45,Tryd.ntmps45
  go_wp2
  go_ret2
  exact ⟨by first|rfl|(simp;done)|(simp [*];done),by repeat (first|exact aV.refl _|apply aV.step)⟩
 ·
  rw [if_neg c2] at H
  have FC:(a0 == 11)=false:=beq_eq_false_iff_ne.mpr c2
  have Uo:(a0 != 11)=true:=bne_iff_ne.mpr c2
  by_cases c3:a0=12
  ·
   rw [if_pos c3] at H
   have oQ:(a0 == 12)=true:=beq_iff_eq.mpr c3
   have Ef:(a0 != 12)=false:=bne_eq_false_iff_eq.mpr c3
   clear c3
   simp only [Option.some.injEq,Prod.mk.injEq] at H
   obtain ⟨rfl,rfl⟩:=H
   go_enter Tryd.func45,Tryd.ntmps45
   go_wp2
   go_ret2
   exact ⟨by first|rfl|(simp;done)|(simp [*];done),by repeat (first|exact aV.refl _|apply aV.step)⟩
  ·
   rw [if_neg c3] at H
   have oQ:(a0 == 12)=false:=beq_eq_false_iff_ne.mpr c3
   have Ef:(a0 != 12)=true:=bne_iff_ne.mpr c3
   by_cases c4:a0=13
   ·
    rw [if_pos c4] at H
    have oG:(a0 == 13)=true:=beq_iff_eq.mpr c4
    have Ee:(a0 != 13)=false:=bne_eq_false_iff_eq.mpr c4
    clear c4
    simp only [Option.some.injEq,Prod.mk.injEq] at H
    obtain ⟨rfl,rfl⟩:=H
    go_enter Tryd.func45,Tryd.ntmps45
    go_wp2
    go_ret2
    exact ⟨by first|rfl|(simp;done)|(simp [*];done),by repeat (first|exact aV.refl _|apply aV.step)⟩
   ·
    rw [if_neg c4] at H
    have oG:(a0 == 13)=false:=beq_eq_false_iff_ne.mpr c4
    have Ee:(a0 != 13)=true:=bne_iff_ne.mpr c4
    by_cases c5:a0=14
    ·
     rw [if_pos c5] at H
     have qB:(a0 == 14)=true:=beq_iff_eq.mpr c5
     have Oy:(a0 != 14)=false:=bne_eq_false_iff_eq.mpr c5
     clear c5
     simp only [Option.some.injEq,Prod.mk.injEq] at H
     obtain ⟨rfl,rfl⟩:=H
     go_enter Tryd.func45,Tryd.ntmps45
     go_wp2
     go_ret2
     exact ⟨by first|rfl|(simp;done)|(simp [*];done),by repeat (first|exact aV.refl _|apply aV.step)⟩
    ·
     rw [if_neg c5] at H
     have qB:(a0 == 14)=false:=beq_eq_false_iff_ne.mpr c5
     have Oy:(a0 != 14)=true:=bne_iff_ne.mpr c5
     by_cases c6:a0=15
     ·
      rw [if_pos c6] at H
      have oP:(a0 == 15)=true:=beq_iff_eq.mpr c6
      have xw:(a0 != 15)=false:=bne_eq_false_iff_eq.mpr c6
      clear c6
      simp only [Option.some.injEq,Prod.mk.injEq] at H
      obtain ⟨rfl,rfl⟩:=H
      go_enter Tryd.func45,Tryd.ntmps45
      go_wp2
      go_ret2
      exact ⟨by first|rfl|(simp;done)|(simp [*];done),by repeat (first|exact aV.refl _|apply aV.step)⟩
     ·
      rw [if_neg c6] at H
      have oP:(a0 == 15)=false:=beq_eq_false_iff_ne.mpr c6
      have xw:(a0 != 15)=true:=bne_iff_ne.mpr c6
      simp only [Option.some.injEq,Prod.mk.injEq] at H
      obtain ⟨rfl,rfl⟩:=H
      go_enter Tryd.func45,Tryd.ntmps45
      go_wp2
      go_ret2
      exact ⟨by first|rfl|(simp;done)|(simp [*];done),by repeat (first|exact aV.refl _|apply aV.step)⟩
end Go.Proofs.YtbmhmlgfpijmhaaDoor.P
end
section
namespace Go.Proofs.af.bG
open Go.RowKit
section
variable {P:Program} {d:Nat} {xs ys:Array Value} {f:Field} {fs:List Field} {a b:Value} {r s:Bool} {w:World}
theorem Oi (hn:(f.name == "_")=false) (ha:(part f.type xs f.offset).run P w=.ok a w) (hb:(part f.type ys f.offset).run P w=.ok b w) (he:(Op.equalIn d f.type a b).run P w=.ok r w):(Op.eqFields d xs ys [f]).run P w=.ok r w:=by
  have hn':f.name ≠ "_":=by simpa using hn
  simp only [Op.eqFields,if_pos hn',Sem.run_bind,ha,hb,he,Result.andThen_ok]
  cases r <;> simp
theorem wL (hn:(f.name == "_")=false) (ha:(part f.type xs f.offset).run P w=.ok a w) (hb:(part f.type ys f.offset).run P w=.ok b w) (he:(Op.equalIn d f.type a b).run P w=.ok r w) (hr:(Op.eqFields d xs ys fs).run P w=.ok s w):(Op.eqFields d xs ys (f :: fs)).run P w=.ok (r && s) w:=by
  have hn':f.name ≠ "_":=by simpa using hn
  rw [Op.eqFields]
  simp only [if_pos hn',Sem.run_bind,ha,hb,he,Result.andThen_ok]
  cases r
  · simp
  · simpa using hr
theorem XC {t:TypeId} {fs:Array Field} (hu:P.underlying t=some (.struct fs)) (hp:P.stoodInHeld t=false) (h:(Op.eqFields d xs ys fs.toList).run P w=.ok r w):(Op.equalIn (d+1) t (.agg xs) (.agg ys)).run P w=.ok r w:=by
  have hf:P.fieldsOf t=fs:=by simp [Program.fieldsOf,hu]
  rw [run_equalIn_struct (P:=P) w d t xs ys (by rw [hf];exact hu) hp,hf]
  exact h
end
end Go.Proofs.af.bG
end
section
namespace Go.Proofs.YtbmhmlgfpijmhaaDoor.P
open Go.RowKit Go.Proofs.af.bG Go.Proofs.af.dD Go.Proofs.af.dM
attribute [local go_sem] kF kD lK lJ jH jG kE kC
theorem ZH (d:Nat) (w:World) (x0 y0:Int) (x1 y1:Int) (x2 y2:Int) (x3 y3:Int) (x4 y4:Int) :
  (Op.equalIn (d+2) 39 (.agg #[.int .u8 x0,.int .u8 x1,.int .u8 x2,.int .u8 x3,.int .i64 x4]) (.agg #[.int .u8 y0,.int .u8 y1,.int .u8 y2,.int .u8 y3,.int .i64 y4])).run Tryd.prog w=.ok (x0 == y0 && (x1 == y1 && (x2 == y2 && (x3 == y3 && (x4 == y4))))) w:=by
 refine XC Tryd.underlying39 (by kernel_rfl) ?_
 refine wL (by rfl) (by go_simp;rfl) (by go_simp;rfl) (by go_simp) ?_
 refine wL (by rfl) (by go_simp;rfl) (by go_simp;rfl) (by go_simp) ?_
 refine wL (by rfl) (by go_simp;rfl) (by go_simp;rfl) (by go_simp) ?_
 refine wL (by rfl) (by go_simp;rfl) (by go_simp;rfl) (by go_simp) ?_
 exact Oi (by rfl) (by go_simp;rfl) (by go_simp;rfl) (by go_simp)
end Go.Proofs.YtbmhmlgfpijmhaaDoor.P
end
