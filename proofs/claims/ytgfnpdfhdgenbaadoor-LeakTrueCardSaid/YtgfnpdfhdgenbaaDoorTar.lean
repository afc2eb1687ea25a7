/- Parts of the proof of LeakTrue: what the functions that it reaches compute, and plain facts about that. -/
import Derived.Test.YtgfnpdfhdgenbaaDoorTab
import Derived.Test.YtgfnpdfhdgenbaaDoorTac
import Derived.Test.YtgfnpdfhdgenbaaDoorTai
import Derived.Test.YtgfnpdfhdgenbaaDoorTap
import Derived.Test.YtgfnpdfhdgenbaaDoorTaq
import Derived.Test.YtgfnpdfhdgenbaaDoorTaj
import Derived.Test.YtgfnpdfhdgenbaaDoorTao
set_option linter.unusedVariables false
set_option linter.unusedSimpArgs false
section
namespace Go.Proofs.YtgfnpdfhdgenbaaDoor.P
open Go.RowKit Go.Proofs.ae.bf Go.Proofs.ae.bY Go.Proofs.ae.cZ
attribute [local go_sem] kU kS mF mD jR jQ kT kR
def fQ.f (k:Nat) :Option (Bool):=(some (([(⟨#[105,48]⟩:ByteArray)]:List ByteArray):List ByteArray)).bind fun lg=>((some (([(⟨5,0,0,0,0⟩:gY),(⟨7,1,0,0,0⟩:gY),(⟨5,2,0,0,0⟩:gY),(⟨11,2,1,0,1⟩:gY)]:List (gY)):List (gY))).bind fun lH=>((gJ.f k lg (⟨#[48,48,48]⟩:ByteArray) (⟨#[]⟩:ByteArray) lH).bind fun t216=>((bH.f k lg (⟨#[48,48,48]⟩:ByteArray) (⟨#[]⟩:ByteArray) lH 0).bind fun t219=>(if t219=true then ((bH.f k lg (⟨#[48,48,48]⟩:ByteArray) (⟨#[]⟩:ByteArray) lH 2).bind fun t220=>(if t220=true then (some false) else (if (t216.length:Int)=3 then (if 1 < (t216.length:Int) then (if ((eQ t216 1).length:Int)=5 then (if 0 < ((eQ t216 1).length:Int) then (if eG false (eQ t216 1) 0=true then (if 2 < ((eQ t216 1).length:Int) then (some (!(eG false (eQ t216 1) 2))) else (none)) else (some false)) else (none)) else (some false)) else (none)) else (some false)))) else (some false)))))
theorem H5 {α:Type} {g:Nat→Option α} {a b:α} (hg:∀ k,eu (g k) (g (k+1))) {k k':Nat} (h:g k=some a) (h':g k'=some b):a=b:=by
 obtain ⟨K,hK⟩:=Ev.of hg h
 obtain ⟨K',hK'⟩:=Ev.of hg h'
 exact Option.some.inj ((hK (max K K') (Nat.le_max_left _ _)).symm.trans (hK' _ (Nat.le_max_right _ _)))
theorem fQ.mono:∀ k,eu (fQ.f k ) (fQ.f (k+1) ):=by
 intro  k
 unfold fQ.f
 repeat' with_reducible first|apply bH.mono|apply gJ.mono|exact eu.refl _|exact eu.none _|refine eu.ite ?_ ?_|refine eu.bind ?_ (fun _=>?_)
set_option maxHeartbeats 8000000 in
set_option maxRecDepth 100000 in
theorem fQ.calls (k:Nat)  (r:Bool) (w:World) (h:fQ.f k =some r) :
  Calls Tryd.prog 7 #[] w fun e w'=>e=.returned (.bool r)∧Below w.heap.size w w':=by
 have zl:=Tryd.underlying45
 have Ad:=Tryd.underlying25
 have HB:=af.mk (Below.refl w.heap.size w)
 have H:((some (([(⟨#[105,48]⟩:ByteArray)]:List ByteArray):List ByteArray)).bind fun lg=>((some (([(⟨5,0,0,0,0⟩:gY),(⟨7,1,0,0,0⟩:gY),(⟨5,2,0,0,0⟩:gY),(⟨11,2,1,0,1⟩:gY)]:List (gY)):List (gY))).bind fun lH=>((gJ.f k lg (⟨#[48,48,48]⟩:ByteArray) (⟨#[]⟩:ByteArray) lH).bind fun t216=>((bH.f k lg (⟨#[48,48,48]⟩:ByteArray) (⟨#[]⟩:ByteArray) lH 0).bind fun t219=>(if t219=true then ((bH.f k lg (⟨#[48,48,48]⟩:ByteArray) (⟨#[]⟩:ByteArray) lH 2).bind fun t220=>(if t220=true then (some false) else (if (t216.length:Int)=3 then (if 1 < (t216.length:Int) then (if ((eQ t216 1).length:Int)=5 then (if 0 < ((eQ t216 1).length:Int) then (if eG false (eQ t216 1) 0=true then (if 2 < ((eQ t216 1).length:Int) then (some (!(eG false (eQ t216 1) 2))) else (none)) else (some false)) else (none)) else (some false)) else (none)) else (some false)))) else (some false))))))=some r:=h
 clear h
 obtain ⟨lg,ED⟩:∃ y_:List ByteArray,y_=(([(⟨#[105,48]⟩:ByteArray)]:List ByteArray)):=⟨_,rfl⟩
 replace H:((some (([(⟨5,0,0,0,0⟩:gY),(⟨7,1,0,0,0⟩:gY),(⟨5,2,0,0,0⟩:gY),(⟨11,2,1,0,1⟩:gY)]:List (gY)):List (gY))).bind fun lH=>((gJ.f k lg (⟨#[48,48,48]⟩:ByteArray) (⟨#[]⟩:ByteArray) lH).bind fun t216=>((bH.f k lg (⟨#[48,48,48]⟩:ByteArray) (⟨#[]⟩:ByteArray) lH 0).bind fun t219=>(if t219=true then ((bH.f k lg (⟨#[48,48,48]⟩:ByteArray) (⟨#[]⟩:ByteArray) lH 2).bind fun t220=>(if t220=true then (some false) else (if (t216.length:Int)=3 then (if 1 < (t216.length:Int) then (if ((eQ t216 1).length:Int)=5 then (if 0 < ((eQ t216 1).length:Int) then (if eG false (eQ t216 1) 0=true then (if 2 < ((eQ t216 1).length:Int) then (some (!(eG false (eQ t216 1) 2))) else (none)) else (some false)) else (none)) else (some false)) else (none)) else (some false)))) else (some false)))))=some r:=by first|(rw [ED];with_reducible exact H)|(have Il:=(Option.bind_some _ _).symm.trans H;rw [ED];with_reducible exact Il)|(have Il:=(Option.bind_some _ _).symm.trans H;with_reducible exact Il)|with_reducible exact H|(rw [ED];exact H)|exact H
 have Fv:=af.mk ED
 clear ED
 obtain ⟨lH,EC⟩:∃ y_:List (gY),y_=(([(⟨5,0,0,0,0⟩:gY),(⟨7,1,0,0,0⟩:gY),(⟨5,2,0,0,0⟩:gY),(⟨11,2,1,0,1⟩:gY)]:List (gY))):=⟨_,rfl⟩
 replace H:((gJ.f k lg (⟨#[48,48,48]⟩:ByteArray) (⟨#[]⟩:ByteArray) lH).bind fun t216=>((bH.f k lg (⟨#[48,48,48]⟩:ByteArray) (⟨#[]⟩:ByteArray) lH 0).bind fun t219=>(if t219=true then ((bH.f k lg (⟨#[48,48,48]⟩:ByteArray) (⟨#[]⟩:ByteArray) lH 2).bind fun t220=>(if t220=true then (some false) else (if (t216.length:Int)=3 then (if 1 < (t216.length:Int) then (if ((eQ t216 1).length:Int)=5 then (if 0 < ((eQ t216 1).length:Int) then (if eG false (eQ t216 1) 0=true then (if 2 < ((eQ t216 1).length:Int) then (some (!(eG false (eQ t216 1) 2))) else (none)) else (some false)) else (none)) else (some false)) else (none)) else (some false)))) else (some false))))=some r:=by first|(rw [EC];with_reducible exact H)|(have Il:=(Option.bind_some _ _).symm.trans H;rw [EC];with_reducible exact Il)|(have Il:=(Option.bind_some _ _).symm.trans H;with_reducible exact Il)|with_reducible exact H|(rw [EC];exact H)|exact H
 have Fq:=af.mk EC
 clear EC
 replace H:=Option.bind_eq_some_iff.mp H
 obtain ⟨t216,Yr,H⟩:=H
 replace H:((bH.f k lg (⟨#[48,48,48]⟩:ByteArray) (⟨#[]⟩:ByteArray) lH 0).bind fun t219=>(if t219=true then ((bH.f k lg (⟨#[48,48,48]⟩:ByteArray) (⟨#[]⟩:ByteArray) lH 2).bind fun t220=>(if t220=true then (some false) else (if (t216.length:Int)=3 then (if 1 < (t216.length:Int) then (if ((eQ t216 1).length:Int)=5 then (if 0 < ((eQ t216 1).length:Int) then (if eG false (eQ t216 1) 0=true then (if 2 < ((eQ t216 1).length:Int) then (some (!(eG false (eQ t216 1) 2))) else (none)) else (some false)) else (none)) else (some false)) else (none)) else (some false)))) else (some false)))=some r:=H
 have A1:=af.mk Yr
 clear Yr
 replace H:=Option.bind_eq_some_iff.mp H
 obtain ⟨t219,KR,H⟩:=H
 replace H:(if t219=true then ((bH.f k lg (⟨#[48,48,48]⟩:ByteArray) (⟨#[]⟩:ByteArray) lH 2).bind fun t220=>(if t220=true then (some false) else (if (t216.length:Int)=3 then (if 1 < (t216.length:Int) then (if ((eQ t216 1).length:Int)=5 then (if 0 < ((eQ t216 1).length:Int) then (if eG false (eQ t216 1) 0=true then (if 2 < ((eQ t216 1).length:Int) then (some (!(eG false (eQ t216 1) 2))) else (none)) else (some false)) else (none)) else (some false)) else (none)) else (some false)))) else (some false))=some r:=H
 have A2:=af.mk KR
 clear KR
 have FM:gJ.f 40 lg (⟨#[48,48,48]⟩:ByteArray) (⟨#[]⟩:ByteArray) lH=some [[true,false,false,false,false],[true,false,false,false,false],[false,false,true,false,false]]:=by
  rw [Fv.out,Fq.out]
  kernel_rfl
 have F1:bH.f 40 lg (⟨#[48,48,48]⟩:ByteArray) (⟨#[]⟩:ByteArray) lH 0=some true:=by
  rw [Fv.out,Fq.out]
  kernel_rfl
 have F2:bH.f 40 lg (⟨#[48,48,48]⟩:ByteArray) (⟨#[]⟩:ByteArray) lH 2=some false:=by
  rw [Fv.out,Fq.out]
  kernel_rfl
 have E:=H5 (fun q=>gJ.mono lg (⟨#[48,48,48]⟩:ByteArray) (⟨#[]⟩:ByteArray) lH q) A1.out FM
 clear FM
 by_cases c3:t219=true
 ·
  subst c3
  have H1:((bH.f k lg (⟨#[48,48,48]⟩:ByteArray) (⟨#[]⟩:ByteArray) lH 2).bind fun t220=>(if t220=true then (some false) else (if (t216.length:Int)=3 then (if 1 < (t216.length:Int) then (if ((eQ t216 1).length:Int)=5 then (if 0 < ((eQ t216 1).length:Int) then (if eG false (eQ t216 1) 0=true then (if 2 < ((eQ t216 1).length:Int) then (some (!(eG false (eQ t216 1) 2))) else (none)) else (some false)) else (none)) else (some false)) else (none)) else (some false))))=some r:=by rw [if_pos rfl] at H;exact H
  clear H
  have H:=H1
  clear H1
  replace H:=Option.bind_eq_some_iff.mp H
  obtain ⟨t220,FQ,H⟩:=H
  replace H:(if t220=true then (some false) else (if (t216.length:Int)=3 then (if 1 < (t216.length:Int) then (if ((eQ t216 1).length:Int)=5 then (if 0 < ((eQ t216 1).length:Int) then (if eG false (eQ t216 1) 0=true then (if 2 < ((eQ t216 1).length:Int) then (some (!(eG false (eQ t216 1) 2))) else (none)) else (some false)) else (none)) else (some false)) else (none)) else (some false)))=some r:=H
  have A4:=af.mk FQ
  clear FQ
  by_cases c5:t220=true
  ·
   subst c5;exact absurd (H5 (fun q=>bH.mono lg (⟨#[48,48,48]⟩:ByteArray) (⟨#[]⟩:ByteArray) lH 2 q) A4.out F2) (by decide)
  ·
   replace c5:=Bool.eq_false_iff.mpr c5
   subst c5
   have H1:(if (t216.length:Int)=3 then (if 1 < (t216.length:Int) then (if ((eQ t216 1).length:Int)=5 then (if 0 < ((eQ t216 1).length:Int) then (if eG false (eQ t216 1) 0=true then (if 2 < ((eQ t216 1).length:Int) then (some (!(eG false (eQ t216 1) 2))) else (none)) else (some false)) else (none)) else (some false)) else (none)) else (some false))=some r:=by rw [if_neg (show ¬ (false=true) by decide)] at H;exact H
   clear H
   have H:=H1
   clear H1
   by_cases c19:(t216.length:Int)=3
   ·
    rw [if_pos c19] at H
    have zF:((t216.length:Int) == 3)=true:=beq_iff_eq.mpr c19
    have Vp:((t216.length:Int) != 3)=false:=bne_eq_false_iff_eq.mpr c19
    clear c19
    by_cases c20:1 < (t216.length:Int)
    ·
     rw [if_pos c20] at H
     have KE:decide (1 < (t216.length:Int))=true:=decide_eq_true c20
     have Vo:decide (1 < t216.length)=true:=decide_eq_true (by omega)
     clear c20
     by_cases c21:((eQ t216 1).length:Int)=5
     ·
      rw [if_pos c21] at H
      have Vm:(((eQ t216 1).length:Int) == 5)=true:=beq_iff_eq.mpr c21
      have akx:(((eQ t216 1).length:Int) != 5)=false:=bne_eq_false_iff_eq.mpr c21
      clear c21
      by_cases Bo:0 < ((eQ t216 1).length:Int)
      ·
       rw [if_pos Bo] at H
       have Vl:decide (0 < ((eQ t216 1).length:Int))=true:=decide_eq_true Bo
       have Vk:decide (0 < (eQ t216 1).length)=true:=decide_eq_true (by omega)
       clear Bo
       obtain ⟨ZO,N7⟩:∃ b_:Bool,b_=(eG false (eQ t216 1) 0):=⟨_,rfl⟩
       replace H:(if ZO=true then (if 2 < ((eQ t216 1).length:Int) then (some (!(eG false (eQ t216 1) 2))) else (none)) else (some false))=some r:=by rw [← N7] at H;exact H
       have OX:=af.mk N7
       clear N7
       by_cases c24:ZO=true
       ·
        subst c24
        have H1:(if 2 < ((eQ t216 1).length:Int) then (some (!(eG false (eQ t216 1) 2))) else (none))=some r:=by rw [if_pos rfl] at H;exact H
        clear H
        have H:=H1
        clear H1
        by_cases c25:2 < ((eQ t216 1).length:Int)
        ·
         rw [if_pos c25] at H
         have Vj:decide (2 < ((eQ t216 1).length:Int))=true:=decide_eq_true c25
         have akw:decide (2 < (eQ t216 1).length)=true:=decide_eq_true (by omega)
         clear c25
         obtain rfl:=Option.some.inj H
         go_enter Tryd.func7,Tryd.ntmps7
         go_wp2_with (first|((with_reducible refine bD (N:=3) rfl ?_);(try (refine iw (by rfl) ?_;dsimp only));refine Kd.KI Kd.string _ 9 ?hg (N:=3) ?hd (xs:=([(⟨#[105,48]⟩:ByteArray)]:List ByteArray)) (inner:=[.string (⟨#[105,48]⟩:ByteArray)]) (ok:=fun _=>True) (uN:=fun _=>True) ?hr ?hp (fun _ hk=>hk) trivial (Below.refl _ _) (Nat.le_refl _) (by simp) ?_;(case hd=>rfl);(case hg=>rfl);(case hr=>first|(go_simp;done)|(go_simp;rfl));(case hp=>exact (kK.one (show Kd.M Kd.string _ _ _ (⟨#[105,48]⟩:ByteArray) [.string (⟨#[105,48]⟩:ByteArray)] from rfl) (kK.none _ _)));intro v210 Yv NL hb Y6 EH;clear Y6 EH;(first|rw [← Fv.out] at NL|(simp only [Int.reduceToNat] at NL;rw [← Fv.out] at NL));have dW:=af.mk (Kd.qG NL (df (by repeat (first|(with_reducible first|exact HB.out|apply aj|apply ag|apply ak)|exact HB.out))));have dV:=af.mk (bC (by repeat (first|(with_reducible first|exact HB.out|apply aj|apply ag|apply ak)|exact HB.out)) hb);clear HB;have mJ:=dW;have HB:=dV;clear dW dV;clear hb NL)|((with_reducible refine bD (N:=8) rfl ?_);(try (refine iw (by rfl) ?_;dsimp only));refine Kd.KI uU _ 45 ?hg (N:=8) ?hd (xs:=([(⟨5,0,0,0,0⟩:gY),(⟨7,1,0,0,0⟩:gY),(⟨5,2,0,0,0⟩:gY),(⟨11,2,1,0,1⟩:gY)]:List (gY))) (inner:=[.int .u8 5,.int .u8 0,.int .u8 0,.int .u8 0,.int .i64 0,.int .u8 7,.int .u8 1,.int .u8 0,.int .u8 0,.int .i64 0,.int .u8 5,.int .u8 2,.int .u8 0,.int .u8 0,.int .i64 0,.int .u8 11,.int .u8 2,.int .u8 1,.int .u8 0,.int .i64 1]) (ok:=fun _=>True) (uN:=fun _=>True) ?hr ?hp (fun _ hk=>hk) trivial (Below.refl _ _) (Nat.le_refl _) (by simp) ?_;(case hd=>rfl);(case hg=>rfl);(case hr=>first|(go_simp;done)|(go_simp;rfl));(case hp=>exact (kK.c5 (show Kd.M uU _ _ _ (⟨5,0,0,0,0⟩:gY) [.int .u8 5,.int .u8 0,.int .u8 0,.int .u8 0,.int .i64 0] from (xY _ _ _ (⟨5,0,0,0,0⟩:gY) )) (kK.c5 (show Kd.M uU _ _ _ (⟨7,1,0,0,0⟩:gY) [.int .u8 7,.int .u8 1,.int .u8 0,.int .u8 0,.int .i64 0] from (xY _ _ _ (⟨7,1,0,0,0⟩:gY) )) (kK.c5 (show Kd.M uU _ _ _ (⟨5,2,0,0,0⟩:gY) [.int .u8 5,.int .u8 2,.int .u8 0,.int .u8 0,.int .i64 0] from (xY _ _ _ (⟨5,2,0,0,0⟩:gY) )) (kK.c5 (show Kd.M uU _ _ _ (⟨11,2,1,0,1⟩:gY) [.int .u8 11,.int .u8 2,.int .u8 1,.int .u8 0,.int .i64 1] from (xY _ _ _ (⟨11,2,1,0,1⟩:gY) )) (kK.none _ _))))));intro alG w28 NK hb Y6 EH;clear Y6 EH;(first|rw [← Fq.out] at NK|(simp only [Int.reduceToNat] at NK;rw [← Fq.out] at NK));have dW:=af.mk (Kd.jF (by (with_reducible repeat (first|apply Kd.jD|apply Kd.jC|apply Kd.ku));exact mJ.out) hb);have dV:=af.mk (Kd.qG NK (df (by repeat (first|(with_reducible first|exact HB.out|apply aj|apply ag|apply ak)|exact HB.out))));have dQ:=af.mk (bC (by repeat (first|(with_reducible first|exact HB.out|apply aj|apply ag|apply ak)|exact HB.out)) hb);clear mJ;clear HB;have mJ:=dW;have og:=dV;have HB:=dQ;clear dW dV dQ;clear hb NK;obtain ⟨Ea,Ah,ahy⟩:=Kd.oV og.out;subst ahy;obtain ⟨xM,wV,ahx⟩:=Kd.oV mJ.out;subst ahx)|((with_reducible refine bD (N:=1) rfl ?_);(try (refine iw (by rfl) ?_;dsimp only));refine ed ?hg (N:=1) ?hd (cs:=#[.slice none 0 0,.string (⟨#[]⟩:ByteArray),.string (⟨#[]⟩:ByteArray),.slice none 0 0]) (t:=25) ?hr ?_;(case hd=>rfl);(case hg=>rfl);(case hr=>first|(go_simp;done)|(go_simp;rfl));intro ni hg w32 hbox hb;have dW:=af.mk (Kd.jF (by (with_reducible repeat (first|apply Kd.jD|apply Kd.jC|apply Kd.ku));exact mJ.out) hb);have dV:=af.mk (Kd.jF (by (with_reducible repeat (first|apply Kd.jD|apply Kd.jC|apply Kd.ku));exact og.out) hb);have dQ:=af.mk (bC (by repeat (first|(with_reducible first|exact HB.out|apply aj|apply ag|apply ak)|exact HB.out)) hb);have gK:=af.mk (hbox);have jT:=af.mk ((by rw [hg];exact (df (by repeat (first|(with_reducible first|exact HB.out|apply aj|apply ag|apply ak)|exact HB.out))):w.heap.size≤ni));have lL:=jT;clear mJ;clear og;clear HB;have mJ:=dW;have og:=dV;have HB:=dQ;have qc:=gK;have ak1:=jT;have FD:=lL;clear dW dV dQ gK jT lL;clear hb hbox hg;obtain ⟨J4,J3,JZ,JY,Jz,Jy,Jw,Jv⟩:=lZ qc.out)|((with_reducible refine bV (f:=8) rfl ?_);refine fU (some 11) rfl rfl Tryd.func8 (by kernel_rfl) rfl #[.agg #[.slice xM lg.length wV,.string (⟨#[48,48,48]⟩:ByteArray),.string (⟨#[]⟩:ByteArray),.slice Ea lH.length Ah]] rfl (by (try simp only [List.map_toArray,List.map_cons,List.map_nil]);first|done|rfl|(simp only [List.length_drop,List.length_take];rfl)) ?_;(with_reducible refine (gJ.calls k _ _ lg (⟨#[48,48,48]⟩:ByteArray) (⟨#[]⟩:ByteArray) _ _ lH t216 _ ?dX ?fB ?jr ?jq A1.out).mono ?_);(case dX=>refine (Kd.gp (e:=9) (base:=w.heap.size) (ok:=fun k_=>True) (n:=lg.length) (c:=wV) ?_).2.2;exact (by (with_reducible repeat (first|apply Kd.jD|apply Kd.jC|apply Kd.ku));exact (Kd.mg (Kd.pz (p:=⟨ni,3,none⟩) (Kd.pz (p:=⟨ni,2,none⟩) (Kd.pz (p:=⟨ni,1,none⟩) (Kd.pz (p:=⟨ni,0,none⟩) (Kd.oU mJ.out qc.out (by decide)) (fun _ hk=>hk.2) (.slice xM lg.length wV)) (fun _ hk=>hk.2) (.string (⟨#[48,48,48]⟩:ByteArray))) (fun _ hk=>hk.2) (.string (⟨#[]⟩:ByteArray))) (fun _ hk=>hk.2) (.slice Ea lH.length Ah)) (fun _ h_=>h_.1))));(case fB=>exact (Kd.gp mJ.out).2.1);(case jr=>refine (Kd.gp (e:=45) (base:=w.heap.size) (ok:=fun k_=>True) (n:=lH.length) (c:=Ah) ?_).2.2;exact (by (with_reducible repeat (first|apply Kd.jD|apply Kd.jC|apply Kd.ku));exact (Kd.mg (Kd.pz (p:=⟨ni,3,none⟩) (Kd.pz (p:=⟨ni,2,none⟩) (Kd.pz (p:=⟨ni,1,none⟩) (Kd.pz (p:=⟨ni,0,none⟩) (Kd.oU og.out qc.out (by decide)) (fun _ hk=>hk.2) (.slice xM lg.length wV)) (fun _ hk=>hk.2) (.string (⟨#[48,48,48]⟩:ByteArray))) (fun _ hk=>hk.2) (.string (⟨#[]⟩:ByteArray))) (fun _ hk=>hk.2) (.slice Ea lH.length Ah)) (fun _ h_=>h_.1))));(case jq=>exact (Kd.gp og.out).2.1);rintro e w34 ⟨alF,rfl,ho0,hb⟩;refine ⟨_,rfl,?_⟩;have dW:=af.mk (Kd.jF (by (with_reducible repeat (first|apply Kd.jD|apply Kd.jC|apply Kd.ku));exact (Kd.mg (Kd.pz (p:=⟨ni,3,none⟩) (Kd.pz (p:=⟨ni,2,none⟩) (Kd.pz (p:=⟨ni,1,none⟩) (Kd.pz (p:=⟨ni,0,none⟩) (Kd.oU mJ.out qc.out (by decide)) (fun _ hk=>hk.2) (.slice xM lg.length wV)) (fun _ hk=>hk.2) (.string (⟨#[48,48,48]⟩:ByteArray))) (fun _ hk=>hk.2) (.string (⟨#[]⟩:ByteArray))) (fun _ hk=>hk.2) (.slice Ea lH.length Ah)) (fun _ h_=>h_.1))) hb);have dV:=af.mk (Kd.jF (by (with_reducible repeat (first|apply Kd.jD|apply Kd.jC|apply Kd.ku));exact (Kd.mg (Kd.pz (p:=⟨ni,3,none⟩) (Kd.pz (p:=⟨ni,2,none⟩) (Kd.pz (p:=⟨ni,1,none⟩) (Kd.pz (p:=⟨ni,0,none⟩) (Kd.oU og.out qc.out (by decide)) (fun _ hk=>hk.2) (.slice xM lg.length wV)) (fun _ hk=>hk.2) (.string (⟨#[48,48,48]⟩:ByteArray))) (fun _ hk=>hk.2) (.string (⟨#[]⟩:ByteArray))) (fun _ hk=>hk.2) (.slice Ea lH.length Ah)) (fun _ h_=>h_.1))) hb);have dQ:=af.mk (Kd.KG ho0 (df (by repeat (first|(with_reducible first|exact HB.out|apply aj|apply ag|apply ak|refine ay ?_ FD.out)|exact HB.out))));have gK:=af.mk (bJ (g:=ni) (o:=.cells #[.slice xM lg.length wV,.string (⟨#[48,48,48]⟩:ByteArray),.string (⟨#[]⟩:ByteArray),.slice Ea lH.length Ah] 25 (0,0)) (by (with_reducible repeat (first|refine ai ?_ _|refine ax ?_|refine ah ?_ _));refine dh (cs:=#[.slice xM lg.length wV,.string (⟨#[48,48,48]⟩:ByteArray),.string (⟨#[]⟩:ByteArray),.slice none 0 0]) ?_ 3 _ rfl;(with_reducible repeat (first|refine ai ?_ _|refine ax ?_|refine ah ?_ _));refine dh (cs:=#[.slice xM lg.length wV,.string (⟨#[48,48,48]⟩:ByteArray),.string (⟨#[]⟩:ByteArray),.slice none 0 0]) ?_ 2 _ rfl;(with_reducible repeat (first|refine ai ?_ _|refine ax ?_|refine ah ?_ _));refine dh (cs:=#[.slice xM lg.length wV,.string (⟨#[]⟩:ByteArray),.string (⟨#[]⟩:ByteArray),.slice none 0 0]) ?_ 1 _ rfl;(with_reducible repeat (first|refine ai ?_ _|refine ax ?_|refine ah ?_ _));refine dh (cs:=#[.slice none 0 0,.string (⟨#[]⟩:ByteArray),.string (⟨#[]⟩:ByteArray),.slice none 0 0]) ?_ 0 _ rfl;(with_reducible repeat (first|refine ai ?_ _|refine ax ?_|refine ah ?_ _));exact qc.out) hb);have jT:=af.mk (bC (by repeat (first|(with_reducible first|exact HB.out|apply aj|apply ag|apply ak|refine ay ?_ FD.out)|exact HB.out)) hb);clear mJ;clear og;clear qc;clear HB;have mJ:=dW;have og:=dV;have pY:=dQ;have qc:=gK;have HB:=jT;clear dW dV dQ gK jT;(try clear hb);(try clear hb2);(try clear hk);(try clear hi);(try clear ho0);obtain ⟨Dt,Dq,Dp,Dn,CY,CX,CW,CV⟩:=lZ qc.out)|((with_reducible refine bV (f:=10) rfl ?_);refine fU (some 13) rfl rfl Tryd.func10 (by kernel_rfl) rfl #[.agg #[.slice xM lg.length wV,.string (⟨#[48,48,48]⟩:ByteArray),.string (⟨#[]⟩:ByteArray),.slice Ea lH.length Ah],.int .i64 0] rfl (by (try simp only [List.map_toArray,List.map_cons,List.map_nil]);first|done|rfl|(simp only [List.length_drop,List.length_take];rfl)) ?_;(with_reducible refine (bH.calls k _ _ lg (⟨#[48,48,48]⟩:ByteArray) (⟨#[]⟩:ByteArray) _ _ lH 0 true _ ?dX ?fB ?jr ?jq A2.out).mono ?_);(case dX=>repeat (first|exact (Kd.gp mJ.out).2.2|(with_reducible refine Kd.dG ?_ _)|(with_reducible refine Kd.dH ?_ _)|(with_reducible refine Kd.dS ?_)));(case fB=>exact (Kd.gp mJ.out).2.1);(case jr=>repeat (first|exact (Kd.gp og.out).2.2|(with_reducible refine Kd.dG ?_ _)|(with_reducible refine Kd.dH ?_ _)|(with_reducible refine Kd.dS ?_)));(case jq=>exact (Kd.gp og.out).2.1);rintro e w36 ⟨rfl,hb⟩;refine ⟨_,rfl,?_⟩;have dW:=af.mk (Kd.jF (by (with_reducible repeat (first|apply Kd.jD|apply Kd.jC|apply Kd.ku));exact mJ.out) hb);have dV:=af.mk (Kd.jF (by (with_reducible repeat (first|apply Kd.jD|apply Kd.jC|apply Kd.ku));exact og.out) hb);have dQ:=af.mk (Kd.mX (by (with_reducible repeat (first|apply Kd.jJ|apply Kd.jI|apply Kd.lC));exact pY.out) hb);have gK:=af.mk (bJ (g:=ni) (o:=.cells #[.slice xM lg.length wV,.string (⟨#[48,48,48]⟩:ByteArray),.string (⟨#[]⟩:ByteArray),.slice Ea lH.length Ah] 25 (0,0)) (by (with_reducible repeat (first|refine ai ?_ _|refine ax ?_|refine ah ?_ _));exact qc.out) hb);have jT:=af.mk (bC (by repeat (first|(with_reducible first|exact HB.out|apply aj|apply ag|apply ak|refine ay ?_ FD.out)|exact HB.out)) hb);clear mJ;clear og;clear pY;clear qc;clear HB;have mJ:=dW;have og:=dV;have pY:=dQ;have qc:=gK;have HB:=jT;clear dW dV dQ gK jT;(try clear hb);(try clear hb2);(try clear hk);(try clear hi);obtain ⟨SY,SX,SV,SS,Q7,Q5,Q4,Q3⟩:=lZ qc.out)|(go_at_call 10;(with_reducible refine (bH.calls k _ _ lg (⟨#[48,48,48]⟩:ByteArray) (⟨#[]⟩:ByteArray) _ _ lH 2 false _ ?dX ?fB ?jr ?jq A4.out).mono ?_);(case dX=>repeat (first|exact (Kd.gp mJ.out).2.2|(with_reducible refine Kd.dG ?_ _)|(with_reducible refine Kd.dH ?_ _)|(with_reducible refine Kd.dS ?_)));(case fB=>exact (Kd.gp mJ.out).2.1);(case jr=>repeat (first|exact (Kd.gp og.out).2.2|(with_reducible refine Kd.dG ?_ _)|(with_reducible refine Kd.dH ?_ _)|(with_reducible refine Kd.dS ?_)));(case jq=>exact (Kd.gp og.out).2.1);rintro e w38 ⟨rfl,hb⟩;have dW:=af.mk (Kd.jF (by (with_reducible repeat (first|apply Kd.jD|apply Kd.jC|apply Kd.ku));exact mJ.out) hb);have dV:=af.mk (Kd.jF (by (with_reducible repeat (first|apply Kd.jD|apply Kd.jC|apply Kd.ku));exact og.out) hb);have dQ:=af.mk (Kd.mX (by (with_reducible repeat (first|apply Kd.jJ|apply Kd.jI|apply Kd.lC));exact pY.out) hb);have gK:=af.mk (bJ (g:=ni) (o:=.cells #[.slice xM lg.length wV,.string (⟨#[48,48,48]⟩:ByteArray),.string (⟨#[]⟩:ByteArray),.slice Ea lH.length Ah] 25 (0,0)) (by (with_reducible repeat (first|refine ai ?_ _|refine ax ?_|refine ah ?_ _));exact qc.out) hb);have jT:=af.mk (bC (by repeat (first|(with_reducible first|exact HB.out|apply aj|apply ag|apply ak|refine ay ?_ FD.out)|exact HB.out)) hb);clear mJ;clear og;clear pY;clear qc;clear HB;have mJ:=dW;have og:=dV;have pY:=dQ;have qc:=gK;have HB:=jT;clear dW dV dQ gK jT;(try clear hb);(try clear hb2);(try clear hk);(try clear hi);obtain ⟨anD,amE,ahu⟩:=Kd.rY pY.out;subst ahu;have Qm:0≤(1:Int):=(by omega);have Qh:1 < (t216.length:Int):=of_decide_eq_true (by first|(with_reducible assumption)|assumption);obtain ⟨Vs,aij,ahN,e221,vw,Ji,Jl⟩:=zJ (Kd.kE pY.out).2.2 1 Qm Qh;cases e221;obtain ⟨akh,Xo,Xt,NY⟩:=Kd.zK pY.out [] 1 Qm (by first|exact Qh|exact of_decide_eq_true (by first|(with_reducible assumption)|assumption)|(have e_:=(Kd.kE pY.out).1;omega));obtain ⟨aa4,rfl,DK⟩:=Xt;have vF:=NY 0 _ rfl;rw [Nat.add_zero,show ((Kd.slice 4 Kd.bool)).sz=1 from rfl,Nat.mul_one] at vF;replace vF:=Option.some.inj (vF.symm.trans vw);rw [vF] at DK;have agy:=af.mk (show Kd.R Kd.bool 4 _ _ _ _ (eQ t216 1) from DK);clear vF DK;clear NY Xo;(try simp only [show (1:Int).toNat=1 from rfl,Nat.reduceMul,Nat.reduceEqDiff,Go.Addr.add,↓reduceIte] at vw);have aiS:(1 < t216.length)=True:=eq_true (by omega);(try rw [show ((1:Int)).toNat=1 from rfl] at vw);have agu:=af.mk Jl;have agB:=af.mk Ji;clear Jl Ji;replace Qm:=eq_true Qm;replace Qh:=eq_true Qh;have Ql:0≤(1:Int):=(by omega);have Qg:1 < (t216.length:Int):=of_decide_eq_true (by first|(with_reducible assumption)|assumption);obtain ⟨ZV,aii,ahM,e222,x9,Jh,Jk⟩:=zJ (Kd.kE pY.out).2.2 1 Ql Qg;obtain rfl:Vs=ZV:=(by injection e222);obtain ⟨akg,Xn,Xr,NW⟩:=Kd.zK pY.out [] 1 Ql (by first|exact Qg|exact of_decide_eq_true (by first|(with_reducible assumption)|assumption)|(have e_:=(Kd.kE pY.out).1;omega));obtain ⟨aa2,rfl,DJ⟩:=Xr;have vC:=NW 0 _ rfl;rw [Nat.add_zero,show ((Kd.slice 4 Kd.bool)).sz=1 from rfl,Nat.mul_one] at vC;replace vC:=Option.some.inj (vC.symm.trans x9);rw [vC] at DJ;have agx:=af.mk (show Kd.R Kd.bool 4 _ _ _ _ (eQ t216 1) from DJ);clear vC DJ;clear NW Xn;(try simp only [show (1:Int).toNat=1 from rfl,Nat.reduceMul,Nat.reduceEqDiff,Go.Addr.add,↓reduceIte] at x9);have aiR:(1 < t216.length)=True:=eq_true (by omega);(try rw [show ((1:Int)).toNat=1 from rfl] at x9);have KN:=af.mk Jk;have agA:=af.mk Jh;clear Jk Jh;replace Ql:=eq_true Ql;replace Qg:=eq_true Qg;have Xv:=Option.some.inj (vw.symm.trans x9);injection Xv with Xv en_ ec_;subst Xv;subst ec_;clear en_;have Wj:0≤(0:Int):=(by omega);have V5:0 < ((eQ t216 1).length:Int):=of_decide_eq_true (by first|(with_reducible assumption)|assumption);obtain ⟨akA,e223,Ci⟩:=Kd.um (by repeat (first|(with_reducible exact KN.out)|(with_reducible refine Kd.dG ?_ _)|(with_reducible refine Kd.dH ?_ _)|(with_reducible refine Kd.dS ?_)|exact KN.out)) 0 Wj V5;(try rw [← OX.out] at Ci);cases e223;have aiQ:(0 < (eQ t216 1).length)=True:=eq_true (by omega);(try rw [show ((0:Int)).toNat=0 from rfl] at Ci);(try rw [Addr.add_zero'] at Ci);replace Wj:=eq_true Wj;replace V5:=eq_true V5;have Qk:0≤(1:Int):=(by omega);have Qe:1 < (t216.length:Int):=of_decide_eq_true (by first|(with_reducible assumption)|assumption);obtain ⟨ZU,aih,ahL,e224,xZ,Jg,Jj⟩:=zJ (Kd.kE pY.out).2.2 1 Qk Qe;obtain rfl:Vs=ZU:=(by injection e224);obtain ⟨akf,Xm,Xq,NV⟩:=Kd.zK pY.out [] 1 Qk (by first|exact Qe|exact of_decide_eq_true (by first|(with_reducible assumption)|assumption)|(have e_:=(Kd.kE pY.out).1;omega));obtain ⟨aa0,rfl,DI⟩:=Xq;have vz:=NV 0 _ rfl;rw [Nat.add_zero,show ((Kd.slice 4 Kd.bool)).sz=1 from rfl,Nat.mul_one] at vz;replace vz:=Option.some.inj (vz.symm.trans xZ);rw [vz] at DI;have agw:=af.mk (show Kd.R Kd.bool 4 _ _ _ _ (eQ t216 1) from DI);clear vz DI;clear NV Xm;(try simp only [show (1:Int).toNat=1 from rfl,Nat.reduceMul,Nat.reduceEqDiff,Go.Addr.add,↓reduceIte] at xZ);have aiP:(1 < t216.length)=True:=eq_true (by omega);(try rw [show ((1:Int)).toNat=1 from rfl] at xZ);have KL:=af.mk Jj;have agz:=af.mk Jg;clear Jj Jg;replace Qk:=eq_true Qk;replace Qe:=eq_true Qe;have Xv:=Option.some.inj (vw.symm.trans xZ);injection Xv with Xv en_ ec_;subst Xv;subst ec_;clear en_;have Wi:0≤(2:Int):=(by omega);have V4:2 < ((eQ t216 1).length:Int):=of_decide_eq_true (by first|(with_reducible assumption)|assumption);obtain ⟨akz,ahF,Cf⟩:=Kd.um (by repeat (first|(with_reducible exact KL.out)|(with_reducible refine Kd.dG ?_ _)|(with_reducible refine Kd.dH ?_ _)|(with_reducible refine Kd.dS ?_)|exact KL.out)) 2 Wi V4;(try rw [← OX.out] at Cf);cases ahF;(try simp only [show (2:Int).toNat=2 from rfl,Nat.reduceMul,Nat.reduceEqDiff,Go.Addr.add,↓reduceIte] at Cf);have aiO:(2 < (eQ t216 1).length)=True:=eq_true (by omega);(try rw [show ((2:Int)).toNat=2 from rfl] at Cf);replace Wi:=eq_true Wi;replace V4:=eq_true V4))
         go_ret
         exact ⟨by first|rfl|(simp [aU,aT] <;> rfl)|(simp [*,aU,aT] <;> rfl),by repeat (first|(with_reducible first|exact HB.out|apply aj|apply ag|apply ak|refine ay ?_ FD.out)|exact HB.out)⟩
        ·
         rw [if_neg c25] at H
         exact absurd H (by simp)
       ·
        exact absurd (by rw [OX.out,E];decide) c24
      ·
       rw [if_neg Bo] at H
       exact absurd H (by simp)
     ·
      exact absurd (by rw [E];decide) c21
    ·
     rw [if_neg c20] at H
     exact absurd H (by simp)
   ·
    exact absurd (by rw [E];decide) c19
 ·
  exact absurd (H5 (fun q=>bH.mono lg (⟨#[48,48,48]⟩:ByteArray) (⟨#[]⟩:ByteArray) lH 0 q) A2.out F1) c3
end Go.Proofs.YtgfnpdfhdgenbaaDoor.P
end
section
namespace Go.Proofs.YtgfnpdfhdgenbaaDoor.P
open Go.RowKit Go.Proofs.ae.bf Go.Proofs.ae.bY Go.Proofs.ae.cZ
theorem Tot.exact {α:Type} {P:α→Prop} {g:Nat→Option α} {r:α} (h:Ev g r) (hp:P r):Tot P g:=⟨r,h,hp⟩
section
variable (t:List ByteArray) (lo gl:ByteArray) (code:List gY) (ht:t.length≤Mx) (hs:∀ i:Int,(eG ByteArray.empty t i).size≤Mx)
include ht hs
end
end Go.Proofs.YtgfnpdfhdgenbaaDoor.P
end
section
namespace Go.Proofs.YtgfnpdfhdgenbaaDoor.P
open Go.RowKit Go.Proofs.ae.bf Go.Proofs.ae.bY Go.Proofs.ae.cZ
def cntF (f:Nat→Bool):Nat→Nat
  | 0=>0
  | n+1=>cntF f n+(if f n then 0 else 1)
theorem KD {f g:Nat→Bool}:∀ n,(∀ i,i < n→f i=true→g i=true)→cntF g n≤cntF f n
  | 0,_=>Nat.le_refl _
  | n+1,h=>by
    have ih:=KD n fun i hi=>h i (Nat.lt_succ_of_lt hi)
    have:=h n (Nat.lt_succ_self n)
    unfold cntF
    cases hf:f n <;> cases hg:g n <;> simp_all <;> omega
theorem DR {f g:Nat→Bool}:∀ n,(∀ i,i < n→f i=true→g i=true)→(∃ i,i < n∧f i=false∧g i=true)→cntF g n < cntF f n
  | 0,_,⟨i,hi,_⟩=>absurd hi (Nat.not_lt_zero _)
  | n+1,h,⟨i,hi,hf,hg⟩=>by
    unfold cntF
    rcases Nat.lt_succ_iff_lt_or_eq.1 hi with hlt|rfl
    · have ih:=DR n (fun i hi=>h i (Nat.lt_succ_of_lt hi)) ⟨i,hlt,hf,hg⟩
      have:=h n (Nat.lt_succ_self n)
      cases hf2:f n <;> cases hg2:g n <;> simp_all <;> omega
    · have:=KD i fun j hj=>h j (Nat.lt_succ_of_lt hj)
      rw [hf,hg]
      simp only [if_true,Bool.false_eq_true,if_false]
      omega
def zC (m:Nat) (X:Tb) (i:Nat):Bool:=X (i / m) (i % m)
theorem yG {m a j:Nat} (X:Tb) (hj:j < m):zC m X (a * m+j)=X a j:=by
  unfold zC
  rw [Nat.mul_comm,Nat.mul_add_div (by omega),Nat.div_eq_of_lt hj,Nat.mul_add_mod,Nat.mod_eq_of_lt hj,Nat.add_zero]
def MH (X Y:Tb):Prop:=∀ a j,X a j=true→Y a j=true
theorem MH.refl (X:Tb):MH X X:=fun _ _ h=>h
theorem MH.trans {X Y Z:Tb} (h:MH X Y) (k:MH Y Z):MH X Z:=fun a j hx=>k a j (h a j hx)
theorem merge_le (X:Tb) (a b:Nat):MH X (sZ X a b):=fun a' j h=>by unfold sZ;rw [h];rfl
theorem Qs (X:Tb) (a k:Nat):MH X (uB X a k):=fun a' j h=>by unfold uB;rw [h,Bool.or_true]
theorem qP (n m:Nat):∀ (l:List gY) (b:Bool) (X:Tb),MH X (kM n m l b X).2
  | [],_,X=>MH.refl X
  | x :: l,b,X=>by
    rw [kM]
    split
    · exact (merge_le X _ _).trans (qP n m l _ _)
    · exact qP n m l b X
theorem rM (n m:Nat):∀ (l:List gY) (b:Bool) (X:Tb),(∀ x ∈ l,0≤x.f1)→(kM n m l b X).1=true→b=true ∨ ∃ a j,a < n∧j < m∧X a j=false∧(kM n m l b X).2 a j=true
  | [],b,X,_,h=>.inl h
  | x :: l,b,X,hx,h=>by
    rw [kM] at h ⊢
    by_cases hc:x.f0=7∧x.f1 < (n:Int)∧x.f2 < (n:Int)
    · rw [if_pos hc] at h ⊢
      rcases rM n m l _ _ (fun y hy=>hx y (List.mem_cons_of_mem _ hy)) h with h1|⟨a,j,ha,hj,h1,h2⟩
      · rcases Bool.or_eq_true_iff.1 h1 with h1|h1
        · unfold uZ at h1
          obtain ⟨j,hj,h1⟩:=List.any_eq_true.1 h1
          have hj:=List.mem_range.1 hj
          simp only [Bool.and_eq_true,Bool.not_eq_true'] at h1
          refine .inr ⟨x.f1.toNat,j,?_,hj,h1.2,?_⟩
          · have:=hx x List.mem_cons_self
            omega
          · refine qP n m l _ _ _ _ ?_
            unfold sZ
            rw [h1.1,h1.2]
            simp
        · exact .inl h1
      · refine .inr ⟨a,j,ha,hj,?_,h2⟩
        cases hX:X a j
        · rfl
        · rw [merge_le X _ _ a j hX] at h1
          cases h1
    · rw [if_neg hc] at h ⊢
      exact rM n m l b X (fun y hy=>hx y (List.mem_cons_of_mem _ hy)) h
theorem F5 (n m:Nat) (code:List gY) (hx:∀ x ∈ code,0≤x.f1):∀ (d:Nat) (X:Tb),cntF (zC m X) (n * m)≤d→∃ Y,Ev (fun k=>iJ n m code k X) Y∧∃ k,iJ n m code k X=some Y:=by
  intro d
  induction d with
  | zero =>
    intro X h
    have hb:(kM n m code false X).1=false:=by
      cases hb:(kM n m code false X).1
      · rfl
      · rcases rM n m code false X hx hb with h1|⟨a,j,ha,hj,h1,h2⟩
        · cases h1
        · have hl:a * m+j < n * m:=Nat.lt_of_lt_of_le (Nat.add_lt_add_left hj _) (by rw [← Nat.succ_mul];exact Nat.mul_le_mul_right _ ha)
          have:=DR (f:=zC m X) (g:=zC m (kM n m code false X).2) (n * m) (fun i _ hi=>qP n m code false X _ _ hi) ⟨a * m+j,hl,by rw [yG X hj];exact h1,by rw [yG _ hj];exact h2⟩
          omega
    refine ⟨(kM n m code false X).2,Ev.step (f:=fun _=>some _) (fun k=>?_) (Ev.now _),1,?_⟩ <;> rw [iJ,if_neg (by rw [hb];decide)]
  | succ d ih =>
    intro X h
    cases hb:(kM n m code false X).1
    · refine ⟨(kM n m code false X).2,Ev.step (f:=fun _=>some _) (fun k=>?_) (Ev.now _),1,?_⟩ <;> rw [iJ,if_neg (by rw [hb];decide)]
    · rcases rM n m code false X hx hb with h1|⟨a,j,ha,hj,h1,h2⟩
      · cases h1
      · have hl:a * m+j < n * m:=Nat.lt_of_lt_of_le (Nat.add_lt_add_left hj _) (by rw [← Nat.succ_mul];exact Nat.mul_le_mul_right _ ha)
        have:=DR (f:=zC m X) (g:=zC m (kM n m code false X).2) (n * m) (fun i _ hi=>qP n m code false X _ _ hi) ⟨a * m+j,hl,by rw [yG X hj];exact h1,by rw [yG _ hj];exact h2⟩
        obtain ⟨Y,hY,k,hk⟩:=ih (kM n m code false X).2 (by omega)
        refine ⟨Y,Ev.step (f:=fun k=>iJ n m code k (kM n m code false X).2) (fun k=>?_) hY,k+1,?_⟩
        · rw [iJ,if_pos hb]
        · rw [iJ,if_pos hb]
          exact hk
theorem xh (n m:Nat) (code:List gY) (I:Tb→Prop) (hI:∀ X,I X→I (kM n m code false X).2):∀ (k:Nat) (X Y:Tb),I X→iJ n m code k X=some Y→I Y
  | 0,_,_,_,h=>by rw [iJ] at h;cases h
  | k+1,X,Y,hX,h=>by
    rw [iJ] at h
    split at h
    · exact xh n m code I hI k _ Y (hI X hX) h
    · rw [← Option.some.inj h]
      exact hI X hX
theorem zi (n:Nat):∀ (l:List gY) (i:Nat) (X:Tb),MH X (su n l i X)
  | [],_,X=>MH.refl X
  | x :: l,i,X=>by
    rw [su]
    split
    · exact (Qs X _ _).trans (zi n l _ _)
    · exact zi n l _ _
theorem Be (n:Nat):∀ (l:List gY) (i:Nat) (X:Tb) (j:Nat) (x:gY),l[j]? = some x→x.f0=5→x.f1 < (n:Int)→su n l i X x.f1.toNat (i+j)=true
  | [],_,_,_,_,h,_,_=>by simp at h
  | y :: l,i,X,0,x,h,h5,hf=>by
    obtain rfl:y=x:=by simpa using h
    rw [su,if_pos ⟨h5,hf⟩]
    refine zi n l _ _ _ _ ?_
    unfold uB
    simp
  | y :: l,i,X,j+1,x,h,h5,hf=>by
    rw [su,show i+(j+1)=i+1+j from by omega]
    exact Be n l (i+1) _ j x (by simpa using h) h5 hf
end Go.Proofs.YtgfnpdfhdgenbaaDoor.P
end
section
namespace Go.Proofs.YtgfnpdfhdgenbaaDoor.P
open Go.RowKit Go.Proofs.ae.bf Go.Proofs.ae.bY Go.Proofs.ae.cZ
def D5 (lo:ByteArray) (code:List gY) (X:Tb):Prop :=
  ∀ j,j < code.length→(code.getD j z45).f0=5→(code.getD j z45).f1 < (lo.size:Int)→X (code.getD j z45).f1.toNat j=true
theorem Qo {code:List gY} (hw:Wf code):code.all UI=true:=by
  rw [List.all_eq_true]
  intro x hx
  obtain ⟨i,hi⟩:=List.getElem?_of_mem hx
  have:=hw i
  rw [List.getD_eq_getElem?_getD,hi] at this
  have h1:=this.2.1
  have h2:=this.2.2.1
  unfold U8 at h1 h2
  unfold UI
  simp only [Option.getD_some] at h1 h2
  simp only [Bool.and_eq_true,decide_eq_true_eq]
  exact ⟨⟨⟨h1.1,h1.2⟩,h2.1⟩,h2.2⟩
theorem KA {code:List gY} {j:Nat} {x:gY} (h:code[j]? = some x):code.getD j z45=x∧j < code.length:=by
  rw [List.getD_eq_getElem?_getD,h]
  exact ⟨rfl,(List.getElem?_eq_some_iff.1 h).1⟩
theorem VS {code:List gY} (hw:Wf code) {x:gY} (hx:x ∈ code):WfI x:=by
  obtain ⟨i,hi⟩:=List.getElem?_of_mem hx
  rw [← (KA hi).1]
  exact hw i
theorem Qr (t:List ByteArray) (lo gl:ByteArray) (code:List gY) (h8:lo.size≤8) (hl:code.length≤60) (hw:Wf code) :
    ∃ Y,Ev (fun k=>gJ.f k t lo gl code) (qN lo.size (code.length+1) Y)∧∃ k,iJ lo.size (code.length+1) code k (su lo.size code 0 fun _ _=>false)=some Y:=by
  obtain ⟨Y,hY,hk⟩:=F5 lo.size (code.length+1) code (fun x hx=>(VS hw hx).2.1.1) _ (su lo.size code 0 fun _ _=>false) (Nat.le_refl _)
  refine ⟨Y,?_,hk⟩
  unfold gJ.f
  refine Ev.congr (fun k=>if_pos ⟨h8,by omega,Qo hw⟩) ?_
  exact Ev.bind hY (Ev.now _)
theorem Qq (lo:ByteArray) (code:List gY) (Y:Tb) (hk:∃ k,iJ lo.size (code.length+1) code k (su lo.size code 0 fun _ _=>false)=some Y):D5 lo code Y:=by
  obtain ⟨k,hk⟩:=hk
  intro j hj h5 hf
  refine xh lo.size (code.length+1) code (fun X=>X (code.getD j z45).f1.toNat j=true) (fun X hX=>qP _ _ _ _ _ _ _ hX) k _ Y ?_ hk
  have e:code[j]? = some (code.getD j z45):=by rw [List.getD_eq_getElem?_getD,List.getElem?_eq_getElem hj];rfl
  have:=Be lo.size code 0 (fun _ _=>false) j _ e h5 hf
  rwa [Nat.zero_add] at this
theorem MQ (n m:Nat) (X:Tb):(qN n m X).length=n:=by simp [qN]
theorem yM {n m:Nat} (X:Tb) {a:Nat} (h:a < n):eQ (qN n m X) (a:Nat)=uK m (X a):=by
  unfold eQ
  rw [List.getD_eq_getElem?_getD,Int.toNat_natCast]
  simp [qN,h]
theorem Ej (m:Nat) (f:Nat→Bool):(uK m f).length=m:=by simp [uK]
theorem xR {m:Nat} (f:Nat→Bool) {j:Nat} (h:j < m):eG false (uK m f) (j:Nat)=f j:=by
  unfold eG
  rw [List.getD_eq_getElem?_getD,Int.toNat_natCast]
  simp [uK,h]
end Go.Proofs.YtgfnpdfhdgenbaaDoor.P
end
section
namespace Go.Proofs.YtgfnpdfhdgenbaaDoor.P
open Go.RowKit Go.Proofs.ae.bf Go.Proofs.ae.bY Go.Proofs.ae.cZ
def jV (made:List Int) (lk:Int→Bool) (o:Int):Bool:=decide (0 < o∧o≤made.length) && !lk (rd made (o - 1))
section
variable (k:Nat) (t:List ByteArray) (lo gl:ByteArray) (code:List gY) (lk:Int→Bool) (Y:Tb)
structure Z8 (s:St) (made types:List Int):Prop where
  lks:∀ q:Nat,q < made.length→bH.f k t lo gl code (rd made q)=some (lk (rd made q))
  loc:∀ a:Nat,a < lo.size→jV made lk (s.p a)=true→0≤rd made (s.p a - 1)∧rd made (s.p a - 1) < code.length+1∧Y a (rd made (s.p a - 1)).toNat=true
  TP:∀ j:Nat,j < 4→jV made lk (s.g j)=false
  Pz:∀ q:Nat,q < s.aK.length→q < types.length→∀ f:Nat,f < (s.aK.getD q []).length→∃ r,dJ.f k t (rd types q) f=some r∧(0≤r→jV made lk (rd (s.aK.getD q []) f)=false)
  few:s.aK.length≤300∧∀ q:Nat,q < s.aK.length→(s.aK.getD q []).length≤6
  agK:types.length=s.aK.length
structure X5 (s:St):Prop where
  pc:0≤s.pc∧s.pc < code.length
  a:0≤(aC code s.pc).f1∧(aC code s.pc).f1 < lo.size
  dig:48≤bt lo (aC code s.pc).f1
def Fz (step:St→Option (St × Bool × Int)):Nat→St→List Int→List Int→Prop
  | 0,_,_,_=>True
  | n+1,s,made,types=>Z8 k t lo gl code lk Y s made types∧∃ (s':St) (d:Bool) (e:Int),step s=some (s',d,e)∧(d=false∧e=0→s'.aK.length≤300 ∧
      (if s.aK.length < s'.aK.length then X5 lo code s∧Fz step n s' (made++[s.pc]) (types++[bt lo (aC code s.pc).f1 - 48]) else Fz step n s' made types))
def leakTrue.ok (many:Nat):Prop:=fQ.f k=some true∧∃ so,gq.f k t lo gl code=some so ∧
    (so=true→lo.size≤8∧code.length≤60∧∃ Y,gJ.f k t lo gl code=some (qN lo.size (code.length+1) Y)∧∃ lk,Fz k t lo gl code lk Y (xe k t lo gl code) many Vw [] [])
end
end Go.Proofs.YtgfnpdfhdgenbaaDoor.P
end
section
section
namespace Go.Proofs.YtgfnpdfhdgenbaaDoor.P
open Go.RowKit Go.Proofs.ae.bf Go.Proofs.ae.bY Go.Proofs.ae.cZ
section
variable {t:List ByteArray} {lo gl:ByteArray} {code:List gY}
theorem VX (ht:t.length≤9223372036854775807) (hts:∀ i:Int,(eG ByteArray.empty t i).size≤9223372036854775807):∃ K,∀ k,K≤k→∀ a,eu (P9 t lo a) (VY k t lo gl code a):=by
  have one:∀ a:Nat,a < 256→∃ K,∀ k,K≤k→VY k t lo gl code a=some (iH t (bP t lo a)):=fun a ha =>
    Ev.bind (vg t ht hts lo gl code a (by omega) (by omega)) (I4 t ht hts _)
  have many:∀ m:Nat,m≤256→∃ K,∀ k,K≤k→∀ a:Nat,a < m→VY k t lo gl code a=some (iH t (bP t lo a)):=fun m=>by
    induction m with
    | zero=>exact fun _=>⟨0,fun _ _ a ha=>absurd ha (Nat.not_lt_zero a)⟩
    | succ m ih =>
      intro hm
      obtain ⟨K1,h1⟩:=ih (by omega)
      obtain ⟨K2,h2⟩:=one m (by omega)
      refine ⟨max K1 K2,fun k hk a ha=>?_⟩
      by_cases ham:a=m
      · rw [ham]
        exact h2 k (by omega)
      · exact h1 k (by omega) a (by omega)
  obtain ⟨K,hK⟩:=many 256 (Nat.le_refl _)
  refine ⟨K,fun k hk a=>?_⟩
  unfold P9
  by_cases ha:0≤a∧a≤255
  · obtain ⟨m,rfl⟩:=Int.eq_ofNat_of_zero_le ha.1
    rw [if_pos ha,hK k hk m (by omega)]
    exact eu.refl _
  · rw [if_neg ha]
    exact eu.none _
theorem KU (ht:t.length≤9223372036854775807) (hts:∀ i:Int,(eG ByteArray.empty t i).size≤9223372036854775807) (hs:lo.size+gl.size≤9223372036854775807) (hc:code.length≤9223372036854775807) (hw:Z7 code) (hwn:WfN code):∃ K,∀ k,K≤k→∀ s,eu (step0 t lo gl code s) (xe k t lo gl code s):=by
  obtain ⟨K1,h1⟩:=ER t lo gl code ht hts hc hw hwn (by omega) (by omega)
  obtain ⟨K2,h2⟩:=VX (t:=t) (lo:=lo) (gl:=gl) (code:=code) ht hts
  refine ⟨max K1 K2,fun k hk s=>?_⟩
  unfold step0 xe
  by_cases hsm:tV s
  case neg =>
    rw [if_neg hsm]
    exact eu.none _
  rw [if_pos hsm,if_pos hsm]
  have e1:au.f k t lo gl code=some (nX t lo gl code):=h1 k (by omega)
  rw [e1]
  exact FY (h2 k (by omega)) _ s
end
end Go.Proofs.YtgfnpdfhdgenbaaDoor.P
end
end
section
namespace Go.Proofs.YtgfnpdfhdgenbaaDoor.P
open Go.RowKit Go.Proofs.ae.bf Go.Proofs.ae.bY Go.Proofs.ae.cZ
def hits (n:Nat) (Y:Tb) (q:Nat) (x:gY):Bool:=(x.f0 == 11 || x.f0 == 13) && (decide (x.f2 < (n:Int)) && Y x.f2.toNat q)
def badL (n:Nat) (Y:Tb) (code:List gY) (q j:Nat):Option Bool:=if hits n Y q (code.getD j z45)=true then some true else none
theorem Qu (t:List ByteArray) (lo gl:ByteArray) (code:List gY) (Y:Tb) (hn:code.length≤Mx) (hw:Wf code) (hY:Ev (fun k=>gJ.f k t lo gl code) (qN lo.size (code.length+1) Y)) (q:Nat) (hq:q < code.length) :
    Ev (fun k=>bH.f k t lo gl code (q:Nat)) (scan (badL lo.size Y code q) false code.length 0):=by
  refine Ev.congr (f:=fun k=>bH.j0 k (q:Nat) false t lo gl code) (fun k=>?_) ?_
  · unfold bH.f
    rw [if_neg (by omega),decide_eq_false (by omega)]
  refine Ev.step (f:=fun k=>(gJ.f k t lo gl code).bind fun T=>bH.l0 k (q:Nat) T code (code.length:Int) 0) (fun k=>?_) ?_
  · simp only [bH.j0]
    rw [if_neg (by decide)]
  refine Ev.bind hY ?_
  have hTl:((qN lo.size (code.length+1) Y).length:Int)=(lo.size:Int):=by rw [MQ]
  have hrow:∀ a:Nat,a < lo.size→eQ (qN lo.size (code.length+1) Y) (a:Nat)=uK (code.length+1) (Y a):=fun a ha=>yM Y ha
  generalize qN lo.size (code.length+1) Y=T at hTl hrow ⊢
  refine oM (g:=fun k j=>bH.l0 k (q:Nat) T code (code.length:Int) (j:Nat)) (badL lo.size Y code q) code.length false (fun j hj hb r hr=>?_) (fun j hj b hb=>?_) (fun _=>?_) code.length 0 (by omega) (fun j hj=>by omega)
  · have nx:Ev (fun k=>bH.l0 k (q:Nat) T code (code.length:Int) (wrap64 ((j:Int)+1))) r:=by
      rw [wrapN (i:=j) (n:=code.length) hj hn]
      exact hr
    refine Ev.step (fun k=>by simp only [bH.l0];rfl) ?_
    refine Ev.congr (fun k=>(if_pos (by omega)).trans ((if_pos (by omega)).trans (if_pos (by omega)))) ?_
    rw [UG]
    have hx:=hw j
    have hb':hits lo.size Y q (code.getD j z45)=false:=by
      unfold badL at hb
      cases hh:hits lo.size Y q (code.getD j z45)
      · rfl
      · rw [hh,if_pos rfl] at hb
        cases hb
    clear hb
    generalize code.getD j z45=x at hx hb' ⊢
    have e1:wrap64 x.f2=x.f2:=by
      have:=hx.2.2.1
      unfold U8 at this
      unfold wrap64
      omega
    have body:x.f0=11 ∨ x.f0=13→Ev (fun k=>if wrap64 x.f2 < (T.length:Int) then (if 0≤x.f2 then (if x.f2 < (T.length:Int) then (if (0:Int)≤((q:Nat):Int) then (if ((q:Nat):Int) < ((eQ T x.f2).length:Int) then (if eG false (eQ T x.f2) ((q:Nat):Int)=true then (some true) else (bH.l0 k (q:Nat) T code (code.length:Int) (wrap64 ((j:Int)+1)))) else none) else none) else none) else none) else (bH.l0 k (q:Nat) T code (code.length:Int) (wrap64 ((j:Int)+1)))) r:=by
      intro h
      rw [e1,hTl]
      by_cases hf:x.f2 < (lo.size:Int)
      · obtain ⟨c,hc⟩:=Int.eq_ofNat_of_zero_le hx.2.2.1.1
        have hcl:c < lo.size:=by rw [hc] at hf;exact Int.ofNat_lt.1 hf
        have y0:Y c q=false:=by
          unfold hits at hb'
          rw [hc,Int.toNat_natCast,decide_eq_true (Int.ofNat_lt.2 hcl),Bool.true_and] at hb'
          rcases h with h|h <;> rw [h] at hb' <;> exact hb'
        rw [hc,hrow c hcl,Ej,xR _ (by omega),y0]
        exact Ev.congr (fun k=>(if_pos (Int.ofNat_lt.2 hcl)).trans ((if_pos (Int.natCast_nonneg c)).trans ((if_pos (Int.ofNat_lt.2 hcl)).trans ((if_pos (Int.natCast_nonneg q)).trans ((if_pos (by omega)).trans (if_neg (by decide))))))) nx
      · exact Ev.congr (fun k=>if_neg hf) nx
    by_cases h11:x.f0=11
    · exact Ev.congr (fun k=>if_pos h11) (body (.inl h11))
    · refine Ev.congr (fun k=>if_neg h11) ?_
      by_cases h13:x.f0=13
      · exact Ev.congr (fun k=>if_pos h13) (body (.inr h13))
      · exact Ev.congr (fun k=>if_neg h13) nx
  · refine Ev.step (fun k=>by simp only [bH.l0];rfl) ?_
    refine Ev.congr (fun k=>(if_pos (by omega)).trans ((if_pos (by omega)).trans (if_pos (by omega)))) ?_
    rw [UG]
    have hx:=hw j
    have hb':hits lo.size Y q (code.getD j z45)=true∧b=true:=by
      unfold badL at hb
      cases hh:hits lo.size Y q (code.getD j z45)
      · rw [hh,if_neg (by decide)] at hb
        cases hb
      · rw [hh,if_pos rfl] at hb
        exact ⟨rfl,(Option.some.inj hb).symm⟩
    obtain ⟨hb',rfl⟩:=hb'
    clear hb
    generalize code.getD j z45=x at hx hb' ⊢
    have e1:wrap64 x.f2=x.f2:=by
      have:=hx.2.2.1
      unfold U8 at this
      unfold wrap64
      omega
    unfold hits at hb'
    simp only [Bool.and_eq_true,Bool.or_eq_true,beq_iff_eq,decide_eq_true_eq] at hb'
    obtain ⟨h,hf,y0⟩:=hb'
    obtain ⟨c,hc⟩:=Int.eq_ofNat_of_zero_le hx.2.2.1.1
    have hcl:c < lo.size:=by rw [hc] at hf;exact Int.ofNat_lt.1 hf
    rw [hc,Int.toNat_natCast] at y0
    rw [e1,hTl,hc,hrow c hcl,Ej,xR _ (by omega),y0]
    have body:∀ k,(if ((c:Nat):Int) < (lo.size:Int) then (if (0:Int)≤((c:Nat):Int) then (if ((c:Nat):Int) < (lo.size:Int) then (if (0:Int)≤((q:Nat):Int) then (if ((q:Nat):Int) < ((code.length+1:Nat):Int) then (if true=true then (some true) else (bH.l0 k (q:Nat) T code (code.length:Int) (wrap64 ((j:Int)+1)))) else none) else none) else none) else none) else (bH.l0 k (q:Nat) T code (code.length:Int) (wrap64 ((j:Int)+1))))=some true:=fun k=>(if_pos (Int.ofNat_lt.2 hcl)).trans ((if_pos (Int.natCast_nonneg c)).trans ((if_pos (Int.ofNat_lt.2 hcl)).trans ((if_pos (Int.natCast_nonneg q)).trans ((if_pos (by omega)).trans (if_pos rfl)))))
    rcases h with h|h
    · exact Ev.congr (f:=fun _=>some true) (fun k=>(if_pos h).trans (body k)) (Ev.now _)
    · exact Ev.congr (f:=fun _=>some true) (fun k=>(if_neg (by omega)).trans ((if_pos h).trans (body k))) (Ev.now _)
  · refine Ev.step (f:=fun _=>some false) (fun k=>?_) (Ev.now _)
    simp only [bH.l0]
    rw [if_neg (by omega)]
theorem GG {n:Nat} {Y:Tb} {code:List gY} {q:Nat} {j:Nat} (hj:j < code.length) (h:hits n Y q (code.getD j z45)=true):scan (badL n Y code q) false code.length 0=true:=by
  rcases rJ (bad:=badL n Y code q) (fin:=false) code.length 0 with ⟨_,h2⟩|⟨i,b,_,_,hb,h2,_⟩
  · have:=h2 j (Nat.zero_le _) (by omega)
    unfold badL at this
    rw [h,if_pos rfl] at this
    cases this
  · rw [h2]
    unfold badL at hb
    split at hb
    · exact (Option.some.inj hb).symm
    · cases hb
end Go.Proofs.YtgfnpdfhdgenbaaDoor.P
end
section
namespace Go.Proofs.YtgfnpdfhdgenbaaDoor.P
open Go.RowKit Go.Proofs.ae.bf Go.Proofs.ae.bY Go.Proofs.ae.cZ
theorem Ue:Ev (fun k=>fQ.f k) true:=Ev.of (k:=40) fQ.mono (by kernel_rfl)
end Go.Proofs.YtgfnpdfhdgenbaaDoor.P
end
section
namespace Go.Proofs.YtgfnpdfhdgenbaaDoor.P
open Go.RowKit Go.Proofs.ae.bf Go.Proofs.ae.bY Go.Proofs.ae.cZ
theorem sW (n m:Nat):∀ (l:List gY) (b:Bool) (X:Tb),(kM n m l b X).1=false→b=false∧(∀ a j,j < m→(kM n m l b X).2 a j=X a j)∧∀ x ∈ l,x.f0=7→x.f1 < (n:Int)→x.f2 < (n:Int)→∀ j,j < m→X x.f2.toNat j=true→X x.f1.toNat j=true
  | [],b,X,h=>⟨h,fun _ _ _=>rfl,fun x hx=>by cases hx⟩
  | x :: l,b,X,h=>by
    rw [kM] at h ⊢
    by_cases hc:x.f0=7∧x.f1 < (n:Int)∧x.f2 < (n:Int)
    · rw [if_pos hc] at h ⊢
      obtain ⟨h1,h2,h3⟩:=sW n m l _ _ h
      obtain ⟨hm,hb⟩:=Bool.or_eq_false_iff.1 h1
      have cl:∀ j,j < m→X x.f2.toNat j=true→X x.f1.toNat j=true:=by
        intro j hj hx
        unfold uZ at hm
        have:=List.any_eq_false.1 hm j (List.mem_range.2 hj)
        rw [hx] at this
        simpa using this
      have me:∀ a j,j < m→sZ X x.f1.toNat x.f2.toNat a j=X a j:=by
        intro a j hj
        unfold sZ
        by_cases ha:a=x.f1.toNat
        · subst ha
          cases hx:X x.f2.toNat j
          · simp
          · rw [cl j hj hx];rfl
        · have:(a == x.f1.toNat)=false:=beq_eq_false_iff_ne.2 ha
          rw [this,Bool.false_and,Bool.or_false]
      refine ⟨hb,fun a j hj=>(h2 a j hj).trans (me a j hj),fun y hy h7 ya yb j hj hyj=>?_⟩
      rcases List.mem_cons.1 hy with rfl|hy
      · exact cl j hj hyj
      · have:=h3 y hy h7 ya yb j hj (by rw [me _ j hj];exact hyj)
        rw [me _ j hj] at this
        exact this
    · rw [if_neg hc] at h ⊢
      obtain ⟨h1,h2,h3⟩:=sW n m l b X h
      refine ⟨h1,h2,fun y hy h7 ya yb=>?_⟩
      rcases List.mem_cons.1 hy with rfl|hy
      · exact absurd ⟨h7,ya,yb⟩ hc
      · exact h3 y hy h7 ya yb
def Closed (n m:Nat) (code:List gY) (Y:Tb):Prop:=∀ x ∈ code,x.f0=7→x.f1 < (n:Int)→x.f2 < (n:Int)→∀ j,j < m→Y x.f2.toNat j=true→Y x.f1.toNat j=true
theorem uy (n m:Nat) (code:List gY):∀ (k:Nat) (X Y:Tb),iJ n m code k X=some Y→Closed n m code Y
  | 0,_,_,h=>by rw [iJ] at h;cases h
  | k+1,X,Y,h=>by
    rw [iJ] at h
    split at h
    · exact uy n m code k _ Y h
    · rename_i hb
      have hb:(kM n m code false X).1=false:=by simpa using hb
      obtain ⟨_,h2,h3⟩:=sW n m code false X hb
      obtain rfl:=Option.some.inj h
      intro x hx h7 ya yb j hj hyj
      rw [h2 _ j hj] at hyj ⊢
      exact h3 x hx h7 ya yb j hj hyj
theorem qV (made:List Int) (lk:Int→Bool):jV made lk 0=false:=by
  unfold jV
  rw [decide_eq_false (by omega),Bool.false_and]
theorem xU {made:List Int} {m:Int} {i:Int} (h0:0≤i) (h:i < made.length):rd (made++[m]) i=rd made i:=by
  unfold rd
  rw [List.getD_eq_getElem?_getD,List.getElem?_append_left (by omega),← List.getD_eq_getElem?_getD]
theorem BM (made:List Int) (m:Int):rd (made++[m]) (made.length:Int)=m:=by
  unfold rd
  rw [List.getD_eq_getElem?_getD,Int.toNat_natCast,List.getElem?_append_right (Nat.le_refl _)]
  simp
theorem wQ {made:List Int} {m:Int} {lk:Int→Bool} {o:Int} (h:o≤made.length):jV (made++[m]) lk o=jV made lk o:=by
  unfold jV
  by_cases h0:0 < o
  · rw [decide_eq_true (show 0 < o∧o≤((made++[m]).length:Int) from ⟨h0,by simp;omega⟩),decide_eq_true (show 0 < o∧o≤(made.length:Int) from ⟨h0,h⟩),xU (by omega) (by omega)]
  · rw [decide_eq_false (fun q=>h0 q.1),decide_eq_false (fun q=>h0 q.1),Bool.false_and,Bool.false_and]
theorem Gh {ty:List Int} {v τ:Int} (h:Aj ty v τ):v≤ty.length:=by
  rcases h with h|h
  · omega
  · exact h.2.1
structure Ak (t:List ByteArray) (lo gl:ByteArray) (code:List gY) (lk:Int→Bool) (Y:Tb) (s:St) (ty made:List Int):Prop where
  len:made.length=s.aK.length
  place:∀ q:Nat,q < made.length→0≤rd made q∧rd made q < code.length
  loc:∀ a:Nat,a < lo.size→jV made lk (s.p a)=true→Y a (rd made (s.p a - 1)).toNat=true
  LC:∀ a:Nat,bP t lo a < 0→s.p a=0
  TP:∀ j:Nat,jV made lk (s.g j)=false
  LQ:∀ j:Nat,bP t gl j < 0→s.g j=0
  Pz:∀ q:Nat,q < s.aK.length→∀ f:Nat,0≤AQ t (ty.getD q (-1)) f→jV made lk (rd (s.aK.getD q []) f)=false
theorem agP (t:List ByteArray) (lo gl:ByteArray) (code:List gY) (lk:Int→Bool) (Y:Tb):Ak t lo gl code lk Y Vw [] [] :=
  ⟨rfl,(fun q hq=>absurd hq (Nat.not_lt_zero q)),(fun a _ h=>by rw [show Vw.p a=0 from rfl,qV] at h;cases h),(fun _ _=>rfl),(fun j=>qV _ _),(fun _ _=>rfl),(fun q hq=>absurd hq (Nat.not_lt_zero q))⟩
section
variable {t:List ByteArray} {lo gl:ByteArray} {code:List gY} {lk:Int→Bool} {Y:Tb} {s s':St} {ty made:List Int}
theorem Ak.as (h:Ak t lo gl code lk Y s ty made) (e1:s'.aK=s.aK) (e2:s'.p=s.p) (e3:s'.g=s.g):Ak t lo gl code lk Y s' ty made :=
  ⟨by rw [e1];exact h.len,h.place,by rw [e2];exact h.loc,by rw [e2];exact h.LC,by rw [e3];exact h.TP,by rw [e3];exact h.LQ,by rw [e1];exact h.Pz⟩
theorem Ak.wK (h:Ak t lo gl code lk Y s ty made) (a:Nat) (v:Int) (ha:0≤bP t lo a) (hv:a < lo.size→jV made lk v=true→Y a (rd made (v - 1)).toNat=true) (e1:s'.aK=s.aK) (e2:s'.p=upd s.p a v) (e3:s'.g=s.g):Ak t lo gl code lk Y s' ty made:=by
  refine ⟨by rw [e1];exact h.len,h.place,fun b hb hk=>?_,fun b hb=>?_,by rw [e3];exact h.TP,by rw [e3];exact h.LQ,by rw [e1];exact h.Pz⟩
  · rw [e2] at hk ⊢
    unfold upd at hk ⊢
    split at hk
    · rename_i e
      rw [if_pos e] at *
      subst e
      exact hv hb hk
    · rename_i e
      rw [if_neg e]
      exact h.loc b hb hk
  · rw [e2]
    unfold upd
    split
    · rename_i e
      subst e
      omega
    · exact h.LC b hb
theorem Ak.Qb (h:Ak t lo gl code lk Y s ty made) (a:Nat) (v:Int) (ha:0≤bP t gl a) (hv:jV made lk v=false) (e1:s'.aK=s.aK) (e2:s'.p=s.p) (e3:s'.g=upd s.g a v):Ak t lo gl code lk Y s' ty made:=by
  refine ⟨by rw [e1];exact h.len,h.place,by rw [e2];exact h.loc,by rw [e2];exact h.LC,fun b=>?_,fun b hb=>?_,by rw [e1];exact h.Pz⟩
  · rw [e3]
    unfold upd
    split
    · exact hv
    · exact h.TP b
  · rw [e3]
    unfold upd
    split
    · rename_i e
      subst e
      omega
    · exact h.LQ b hb
theorem Ak.FZ (h:Ak t lo gl code lk Y s ty made) (o m:Nat) (v:Int) (ho:o < s.aK.length) (hv:0≤AQ t (ty.getD o (-1)) m→jV made lk v=false) (e1:s'.aK=s.aK.set o ((s.aK.getD o []).set m v)) (e2:s'.p=s.p) (e3:s'.g=s.g):Ak t lo gl code lk Y s' ty made:=by
  have hrow:∀ j,s'.aK.getD j []=if j=o then (s.aK.getD o []).set m v else s.aK.getD j []:=fun j=>by
    rw [e1,List.getD_eq_getElem?_getD,List.getElem?_set]
    split
    · rename_i hoj
      rw [if_pos hoj.symm]
      rfl
    · rename_i hoj
      rw [if_neg (fun he=>hoj he.symm),← List.getD_eq_getElem?_getD]
  refine ⟨by rw [e1,List.length_set];exact h.len,h.place,by rw [e2];exact h.loc,by rw [e2];exact h.LC,by rw [e3];exact h.TP,by rw [e3];exact h.LQ,fun q hq f hf=>?_⟩
  rw [e1,List.length_set] at hq
  rw [hrow]
  split
  · rename_i e
    subst e
    unfold rd
    rw [Int.toNat_natCast,List.getD_eq_getElem?_getD,List.getElem?_set]
    split
    · rename_i e
      subst e
      split
      · exact hv hf
      · exact qV _ _
    · have:=h.Pz q hq f hf
      unfold rd at this
      rw [Int.toNat_natCast,List.getD_eq_getElem?_getD] at this
      exact this
  · exact h.Pz q hq f hf
theorem Ak.new {n:Nat} (h:Ak t lo gl code lk Y s ty made) (hI:Inv t lo gl n s ty) (a:Nat) (z:Nat) (τ:Int) (ha:0≤bP t lo a) (hpc:0≤s.pc∧s.pc < code.length) (hY:Y a s.pc.toNat=true) (e1:s'.aK=s.aK++[List.replicate z 0]) (e2:s'.p=upd s.p a ((s.aK.length:Int)+1)) (e3:s'.g=s.g) :
    Ak t lo gl code lk Y s' (ty++[τ]) (made++[s.pc]):=by
  have hl:=h.len
  have hty:=hI.len
  have hr0:∀ (m:Nat) (i:Int),rd (List.replicate m (0:Int)) i=0:=fun m i=>by
    unfold rd
    rw [List.getD_eq_getElem?_getD,List.getElem?_replicate]
    split <;> rfl
  refine ⟨by rw [e1];simp [hl],fun q hq=>?_,fun b hb hk=>?_,fun b hb=>?_,fun j=>?_,by rw [e3];exact h.LQ,fun q hq f hf=>?_⟩
  · by_cases hq2:q < made.length
    · rw [xU (by omega) (by omega)]
      exact h.place q hq2
    · obtain rfl:q=made.length:=by simp at hq;omega
      rw [BM]
      exact hpc
  · rw [e2] at hk ⊢
    unfold upd at hk ⊢
    by_cases e:b=a
    · rw [if_pos e]
      subst e
      rw [show (s.aK.length:Int)+1 - 1=(made.length:Int) by omega,BM]
      exact hY
    · rw [if_neg e] at hk ⊢
      have hle:s.p b≤made.length:=by
        by_cases hz:bP t lo b < 0
        · rw [h.LC b hz];omega
        · have:=Gh (hI.p b (by omega));omega
      rw [wQ hle] at hk
      have hpos:0 < s.p b:=by
        unfold jV at hk
        simp only [Bool.and_eq_true,decide_eq_true_eq] at hk
        exact hk.1.1
      rw [xU (by omega) (by omega)]
      exact h.loc b hb hk
  · rw [e2]
    unfold upd
    split
    · rename_i e
      subst e
      omega
    · exact h.LC b hb
  · rw [e3]
    have hle:s.g j≤made.length:=by
      by_cases hz:bP t gl j < 0
      · rw [h.LQ j hz];omega
      · have:=Gh (hI.g j (by omega));omega
    rw [wQ hle]
    exact h.TP j
  · rw [e1,List.length_append] at hq
    by_cases hq2:q < s.aK.length
    · have hob:s'.aK.getD q []=s.aK.getD q []:=by rw [e1,List.getD_eq_getElem?_getD,List.getElem?_append_left hq2,← List.getD_eq_getElem?_getD]
      have htq:(ty++[τ]).getD q (-1)=ty.getD q (-1):=by rw [List.getD_eq_getElem?_getD,List.getElem?_append_left (by omega),← List.getD_eq_getElem?_getD]
      rw [htq] at hf
      rw [hob]
      have hle:rd (s.aK.getD q []) f≤made.length:=by
        have:=Gh (hI.obj q f (by omega) hf)
        omega
      rw [wQ hle]
      exact h.Pz q hq2 f hf
    · have hq3:q=s.aK.length:=by simp at hq;omega
      have hob:s'.aK.getD q []=List.replicate z 0:=by
        rw [e1,hq3,List.getD_eq_getElem?_getD,List.getElem?_append_right (Nat.le_refl _)]
        simp
      rw [hob,hr0]
      exact qV _ _
theorem Nz {sz:Int→Option Int} {x:gY} {e:Int} {n p:Nat} {a b c:Nat} {nn:Int} (hlo:lo.size≤8) (hx:Fine t lo gl code.length x) (hxm:x ∈ code) (hxp:code.getD p z45=x) (hp:s.pc=p) (hpl:p < code.length) (ea:x.f1=a) (eb:x.f2=b) (ec:x.f3=c) (en:x.f4=nn)
    (hI:Inv t lo gl n s ty) (h:Ak t lo gl code lk Y s ty made) (hnews:D5 lo code Y) (hcl:Closed lo.size (code.length+1) code Y) (hlk:∀ q:Nat,q < code.length→(∃ y ∈ code,(y.f0=11 ∨ y.f0=13)∧0≤y.f2∧y.f2 < lo.size∧Y y.f2.toNat q=true)→lk q=true)
    (hd:qw sz s x.f0 a b c nn=some (s',e)) :
    (s'.aK.length=s.aK.length∧Ak t lo gl code lk Y s' ty made) ∨ (x.f0=5∧s'.aK.length=s.aK.length+1∧∀ τ,Ak t lo gl code lk Y s' (ty++[τ]) (made++[s.pc])):=by
  have E8:Ak t lo gl code lk Y (bump s) ty made:=h.as rfl rfl rfl
  have stored:(x.f0=11 ∨ x.f0=13)→0≤bP t lo x.f2→jV made lk (s.p b)=false:=by
    intro ho hnb
    rw [← Bool.not_eq_true]
    intro hk
    obtain ⟨_,hb2⟩:=qR hlo hnb
    have hbl:b < lo.size:=by omega
    have hy:=h.loc b hbl hk
    have hk2:=hk
    unfold jV at hk2
    simp only [Bool.and_eq_true,decide_eq_true_eq,Bool.not_eq_true'] at hk2
    obtain ⟨⟨k1,k2⟩,k3⟩:=hk2
    obtain ⟨i,hi⟩:=Int.eq_ofNat_of_zero_le (show 0≤s.p b - 1 by omega)
    have hpl:=h.place i (by omega)
    rw [← hi] at hpl
    obtain ⟨q,hq⟩:=Int.eq_ofNat_of_zero_le hpl.1
    have:=hlk q (by omega) ⟨x,hxm,ho,by omega,by omega,by rw [eb,Int.toNat_natCast];rw [hq] at hy;exact hy⟩
    rw [hq] at k3
    rw [this] at k3
    cases k3
  have nz:∀ {v:Int},jV made lk v=false→a < lo.size→jV made lk v=true→Y a (rd made (v - 1)).toNat=true:=fun h1 _ h2=>by rw [h1] at h2;cases h2
  have ho:=hx.op
  have hop:x.f0=1 ∨ x.f0=2 ∨ x.f0=3 ∨ x.f0=4 ∨ x.f0=5 ∨ x.f0=6 ∨ x.f0=7 ∨ x.f0=8 ∨ x.f0=9 ∨ x.f0=10 ∨ x.f0=11 ∨ x.f0=12 ∨ x.f0=13 ∨ x.f0=14 ∨ x.f0=15:=by omega
  have Oa:∀ (w:Nat) (m:Int),0≤bP t lo w→s.p w ≠ 0→0≤m→m < iH t (bP t lo w)→∃ o m':Nat,(s.p w - 1).toNat=o∧o < s.aK.length∧ty.getD o (-1)=bP t lo w∧m=m'∧rowOf s (s.p w)=s.aK.getD o []:=by
    intro w m hw hne h0 h1
    rcases hI.p w hw with h2|⟨h2,h3,h4⟩
    · exact absurd h2 hne
    · have:=hI.len
      obtain ⟨m',rfl⟩:=Int.eq_ofNat_of_zero_le h0
      exact ⟨(s.p w - 1).toNat,m',rfl,by omega,h4,rfl,rfl⟩
  rcases hop with o|o|o|o|o|o|o|o|o|o|o|o|o|o|o
  · rw [o,Ov] at hd
    split at hd
    · obtain ⟨rfl,rfl⟩:=Prod.mk.inj (Option.some.inj hd);exact Or.inl ⟨rfl,h.as rfl rfl rfl⟩
    · cases hd
  · rw [o,Ou] at hd
    split at hd
    · obtain ⟨rfl,rfl⟩:=Prod.mk.inj (Option.some.inj hd);exact Or.inl ⟨rfl,h.as rfl rfl rfl⟩
    · cases hd
  · rw [o,Ot] at hd
    obtain ⟨rfl,rfl⟩:=Prod.mk.inj (Option.some.inj hd)
    exact Or.inl ⟨rfl,h.as rfl rfl rfl⟩
  · rw [o,Oq] at hd
    split at hd
    · split at hd
      · obtain ⟨rfl,rfl⟩:=Prod.mk.inj (Option.some.inj hd);exact Or.inl ⟨rfl,h.as rfl rfl rfl⟩
      · obtain ⟨rfl,rfl⟩:=Prod.mk.inj (Option.some.inj hd);exact Or.inl ⟨rfl,E8⟩
    · cases hd
  · have hna:=hx.new (Or.inl o)
    rw [ea] at hna
    obtain ⟨_,hal⟩:=qR hlo hna
    rw [o,Ol] at hd
    split at hd
    · obtain ⟨z,_,hd⟩:=Option.bind_eq_some_iff.1 hd
      split at hd
      · obtain ⟨rfl,rfl⟩:=Prod.mk.inj (Option.some.inj hd)
        right
        refine ⟨o,by show (s.aK++_).length=_;simp,fun τ=>h.new hI a z.toNat τ hna ⟨by omega,by omega⟩ ?_ rfl rfl rfl⟩
        have:=hnews p hpl (by rw [hxp];exact o) (by rw [hxp,ea];omega)
        rw [hxp,ea,Int.toNat_natCast] at this
        rw [hp,Int.toNat_natCast]
        exact this
      · cases hd
    · cases hd
  · have hna:=hx.new (Or.inr o)
    rw [ea] at hna
    rw [o,Oj] at hd
    split at hd
    · obtain ⟨rfl,rfl⟩:=Prod.mk.inj (Option.some.inj hd)
      exact Or.inl ⟨rfl,h.wK a 0 hna (nz (qV _ _)) rfl rfl rfl⟩
    · cases hd
  · obtain ⟨hna,hnb⟩:=hx.move o
    have agW:0≤bP t lo x.f2:=by omega
    obtain ⟨_,hbl⟩:=qR hlo agW
    obtain ⟨_,hal⟩:=qR hlo hna
    rw [ea] at hna
    rw [o,Oi] at hd
    split at hd
    · obtain ⟨rfl,rfl⟩:=Prod.mk.inj (Option.some.inj hd)
      refine Or.inl ⟨rfl,h.wK a (s.p b) hna (fun ha hk=>?_) rfl rfl rfl⟩
      have hy:=h.loc b (by omega) hk
      have hk2:=hk
      unfold jV at hk2
      simp only [Bool.and_eq_true,decide_eq_true_eq] at hk2
      obtain ⟨i,hi⟩:=Int.eq_ofNat_of_zero_le (show 0≤s.p b - 1 by omega)
      have hpl:=h.place i (by omega)
      rw [← hi] at hpl
      have:=hcl x hxm o (by omega) (by omega) (rd made (s.p b - 1)).toNat (by omega) (by rw [eb,Int.toNat_natCast];exact hy)
      rw [ea,Int.toNat_natCast] at this
      exact this
    · cases hd
  · rw [o,Oh] at hd
    split at hd
    · split at hd
      · obtain ⟨rfl,rfl⟩:=Prod.mk.inj (Option.some.inj hd);exact Or.inl ⟨rfl,E8⟩
      · split at hd
        · obtain ⟨rfl,rfl⟩:=Prod.mk.inj (Option.some.inj hd);exact Or.inl ⟨rfl,h.as rfl rfl rfl⟩
        · cases hd
    · cases hd
  · obtain ⟨_,hna,h0,h1,h2⟩:=hx.FW o
    rw [ea] at hna h1 h2
    rw [en] at h0 h1 h2
    rw [o,Og] at hd
    split at hd
    · split at hd
      · obtain ⟨rfl,rfl⟩:=Prod.mk.inj (Option.some.inj hd);exact Or.inl ⟨rfl,E8⟩
      · rename_i hne
        split at hd
        · obtain ⟨rfl,rfl⟩:=Prod.mk.inj (Option.some.inj hd)
          obtain ⟨q,m,q1,q2,q3,q4,q5⟩:=Oa a nn hna hne h0 h1
          refine Or.inl ⟨by show (s.aK.set _ _).length=_;simp,h.FZ q m (s.x b) q2 (fun q6=>?_) (by show s.aK.set _ _=_;rw [q1,q5,q4];rfl) rfl rfl⟩
          rw [q3,← q4] at q6
          omega
        · cases hd
    · cases hd
  · obtain ⟨hna,hnb,h0,h1,h2⟩:=hx.Nw o
    rw [ea] at hna h2
    rw [eb] at hnb h1 h2
    rw [en] at h0 h1 h2
    rw [o,Ib] at hd
    split at hd
    · split at hd
      · obtain ⟨rfl,rfl⟩:=Prod.mk.inj (Option.some.inj hd);exact Or.inl ⟨rfl,E8⟩
      · rename_i hne
        split at hd
        · obtain ⟨rfl,rfl⟩:=Prod.mk.inj (Option.some.inj hd)
          obtain ⟨q,m,q1,q2,q3,q4,q5⟩:=Oa b nn hnb hne h0 h1
          refine Or.inl ⟨rfl,h.wK a _ hna (nz ?_) rfl rfl rfl⟩
          rw [q5,q4]
          exact h.Pz q q2 m (by rw [q3,← q4];omega)
        · cases hd
    · cases hd
  · obtain ⟨hnb,hna,h0,h1,h2⟩:=hx.FV o
    have hst:=stored (Or.inl o) hnb
    rw [ea] at hna h1 h2
    rw [en] at h0 h1 h2
    rw [o,Ia] at hd
    split at hd
    · split at hd
      · obtain ⟨rfl,rfl⟩:=Prod.mk.inj (Option.some.inj hd);exact Or.inl ⟨rfl,E8⟩
      · rename_i hne
        split at hd
        · obtain ⟨rfl,rfl⟩:=Prod.mk.inj (Option.some.inj hd)
          obtain ⟨q,m,q1,q2,q3,q4,q5⟩:=Oa a nn hna hne h0 h1
          exact Or.inl ⟨by show (s.aK.set _ _).length=_;simp,h.FZ q m (s.p b) q2 (fun _=>hst) (by show s.aK.set _ _=_;rw [q1,q5,q4];rfl) rfl rfl⟩
        · cases hd
    · cases hd
  · obtain ⟨hna,hnb⟩:=hx.Ny o
    rw [ea] at hna
    rw [o,H9] at hd
    split at hd
    · obtain ⟨rfl,rfl⟩:=Prod.mk.inj (Option.some.inj hd)
      exact Or.inl ⟨rfl,h.wK a _ hna (nz (h.TP b)) rfl rfl rfl⟩
    · cases hd
  · obtain ⟨hnb,hna⟩:=hx.FX o
    have hst:=stored (Or.inr o) hnb
    have agX:0≤bP t gl a:=by rw [← ea,← hna];exact hnb
    rw [o,H8] at hd
    split at hd
    · obtain ⟨rfl,rfl⟩:=Prod.mk.inj (Option.some.inj hd)
      exact Or.inl ⟨rfl,h.Qb a _ agX hst rfl rfl rfl⟩
    · cases hd
  · rw [o,H7] at hd
    split at hd
    · obtain ⟨rfl,rfl⟩:=Prod.mk.inj (Option.some.inj hd);exact Or.inl ⟨rfl,h.as rfl rfl rfl⟩
    · cases hd
  · rw [o,H6] at hd
    split at hd
    · obtain ⟨rfl,rfl⟩:=Prod.mk.inj (Option.some.inj hd);exact Or.inl ⟨rfl,h.as rfl rfl rfl⟩
    · cases hd
end
end Go.Proofs.YtgfnpdfhdgenbaaDoor.P
end
