/- Parts of the proof of CodePrints: what the functions that it reaches compute, and plain facts about that. -/
import Derived.Test.YtkclndkbccbhaaaGreatDoorUac
import Derived.Test.YtkclndkbccbhaaaGreatDoorUad
import Derived.Test.YtkclndkbccbhaaaGreatDoorUaf
import Derived.Test.YtkclndkbccbhaaaGreatDoorUag
import Derived.Test.YtkclndkbccbhaaaGreatDoorUaj
import Derived.Test.YtkclndkbccbhaaaGreatDoorUak
set_option linter.unusedVariables false
set_option linter.unusedSimpArgs false
section
namespace Go.Proofs.YtkclndkbccbhaaaGreatDoor.P
open Go.RowKit Go.Proofs.ag.bJ Go.Proofs.ag.eX Go.Proofs.ag.gp
attribute [local go_sem] kM kK lT lS jE jD kL kJ
attribute [local go_sem high] Qp
def dU.f (k:Nat) :Option (Bool):=(iw.f k (⟨#[116,121,112,101,32,105,10,108,111,99,97,108,115,32,48,10,103,108,111,98,97,108,115,32,45,10,110,101,119,32,48,10,115,116,111,114,101,105,32,48,32,48,32,51,10]⟩:ByteArray)).bind fun jP=>((bI.f k jP.1 jP.2.1 jP.2.2.1 jP.2.2.2.1).bind fun zt=>((iw.f k (⟨#[108,111,99,97,108,115,32,48,10]⟩:ByteArray)).bind fun wu=>(if jP.2.2.2.2.2=0 then (if jP.2.2.2.2.1=0 then (if (jP.2.2.2.1.length:Int)=2 then (if 1 < (jP.2.2.2.1.length:Int) then (if (((aZ jP.2.2.2.1 1).f0) == 9 && (((aZ jP.2.2.2.1 1).f1) == 0 && (((aZ jP.2.2.2.1 1).f2) == 3 && (((aZ jP.2.2.2.1 1).f3) == 0 && (((aZ jP.2.2.2.1 1).f4) == 0)))))=true then (if zt.2=0 then (if zt.1.toList=([116,121,112,101,32,105,10,108,111,99,97,108,115,32,48,10,103,108,111,98,97,108,115,32,45,10,110,101,119,32,48,10,115,116,111,114,101,105,32,48,32,48,32,51,10]:List UInt8) then (if wu.2.2.2.2.1=2 then (if wu.2.2.2.2.2=4 then ((eu.f ((aZ jP.2.2.2.1 1).f0) ((aZ jP.2.2.2.1 1).f1) ((aZ jP.2.2.2.1 1).f2) ((aZ jP.2.2.2.1 1).f3) ((aZ jP.2.2.2.1 1).f4)).bind fun t189=>(if t189=true then ((eu.f 0 0 0 0 0).bind fun t190=>(some (!t190))) else (some false))) else (some false)) else (some false)) else (some false)) else (some false)) else (some false)) else (none)) else (some false)) else (some false)) else (some false))))
theorem IW {α:Type} {g:Nat→Option α} {a b:α} (hg:∀ k,dH (g k) (g (k+1))) {k k':Nat} (h:g k=some a) (h':g k'=some b):a=b:=by
  obtain ⟨K,hK⟩:=Ev.of hg h
  obtain ⟨K',hK'⟩:=Ev.of hg h'
  exact Option.some.inj ((hK (max K K') (Nat.le_max_left _ _)).symm.trans (hK' _ (Nat.le_max_right _ _)))
theorem wB {k:Nat} {r:List ByteArray × ByteArray × ByteArray × List jZ × Int × Int} (h:iw.f k (⟨#[116,121,112,101,32,105,10,108,111,99,97,108,115,32,48,10,103,108,111,98,97,108,115,32,45,10,110,101,119,32,48,10,115,116,111,114,101,105,32,48,32,48,32,51,10]⟩:ByteArray)=some r):r=(([⟨#[105]⟩]:List ByteArray),(⟨#[48]⟩:ByteArray),(⟨#[]⟩:ByteArray),([⟨5,0,0,0,0⟩,⟨9,0,3,0,0⟩]:List jZ),0,0) :=
  IW (fun q=>iw.mono _ q) h (show iw.f 300 (⟨#[116,121,112,101,32,105,10,108,111,99,97,108,115,32,48,10,103,108,111,98,97,108,115,32,45,10,110,101,119,32,48,10,115,116,111,114,101,105,32,48,32,48,32,51,10]⟩:ByteArray)=some (([⟨#[105]⟩]:List ByteArray),(⟨#[48]⟩:ByteArray),(⟨#[]⟩:ByteArray),([⟨5,0,0,0,0⟩,⟨9,0,3,0,0⟩]:List jZ),0,0) by kernel_rfl)
theorem QI {k:Nat} {r:ByteArray × Int} (h:bI.f k ([⟨#[105]⟩]:List ByteArray) (⟨#[48]⟩:ByteArray) (⟨#[]⟩:ByteArray) ([⟨5,0,0,0,0⟩,⟨9,0,3,0,0⟩]:List jZ)=some r):r=((⟨#[116,121,112,101,32,105,10,108,111,99,97,108,115,32,48,10,103,108,111,98,97,108,115,32,45,10,110,101,119,32,48,10,115,116,111,114,101,105,32,48,32,48,32,51,10]⟩:ByteArray),0) :=
  IW (fun q=>bI.mono _ _ _ _ q) h (show bI.f 300 ([⟨#[105]⟩]:List ByteArray) (⟨#[48]⟩:ByteArray) (⟨#[]⟩:ByteArray) ([⟨5,0,0,0,0⟩,⟨9,0,3,0,0⟩]:List jZ)=some ((⟨#[116,121,112,101,32,105,10,108,111,99,97,108,115,32,48,10,103,108,111,98,97,108,115,32,45,10,110,101,119,32,48,10,115,116,111,114,101,105,32,48,32,48,32,51,10]⟩:ByteArray),0) by kernel_rfl)
theorem Hq {k:Nat} {r:List ByteArray × ByteArray × ByteArray × List jZ × Int × Int} (h:iw.f k (⟨#[108,111,99,97,108,115,32,48,10]⟩:ByteArray)=some r):r.2.2.2.2=(2,4):=by
  rw [IW (fun q=>iw.mono _ q) h (show iw.f 300 (⟨#[108,111,99,97,108,115,32,48,10]⟩:ByteArray)=some ([],(⟨#[]⟩:ByteArray),(⟨#[]⟩:ByteArray),[],2,4) by kernel_rfl)]
theorem Vs {r:Bool} (h:eu.f 9 0 3 0 0=some r):r=true:=Option.some.inj (h.symm.trans (show eu.f 9 0 3 0 0=some true by kernel_rfl))
theorem dU.mono:∀ k,dH (dU.f k ) (dU.f (k+1) ):=by
  intro  k
  unfold dU.f
  repeat' first
      | (with_reducible exact iw.mono _ _)
      | (with_reducible exact bI.mono _ _ _ _ _)
      | (with_reducible exact dH.refl _)
      | (with_reducible exact dH.none _)
      | (with_reducible refine dH.ite ?_ ?_)
      | (with_reducible refine dH.bind ?_ (fun _=>?_))
      | exact iw.mono _ _
      | exact bI.mono _ _ _ _ _
      | exact dH.none _
      | refine dH.ite ?_ ?_
      | refine dH.bind ?_ (fun _=>?_)
set_option maxHeartbeats 8000000 in
set_option maxRecDepth 100000 in
theorem dU.calls (k:Nat)  (r:Bool) (w:World) (jM:Kd.C tu w tC lJ.length lJ) (h:dU.f k =some r) :
    Calls Tryz.prog 7 #[] w fun e w'=>e=.returned (.bool r)∧Below w.heap.size w w':=by
  have Nw:=Tryz.underlying25
  have BR:=Tryz.underlying27
  have ry:=ae.mk jM
  clear jM
  have HB:=ae.mk (Below.refl w.heap.size w)
  have H:((iw.f k (⟨#[116,121,112,101,32,105,10,108,111,99,97,108,115,32,48,10,103,108,111,98,97,108,115,32,45,10,110,101,119,32,48,10,115,116,111,114,101,105,32,48,32,48,32,51,10]⟩:ByteArray)).bind fun jP=>((bI.f k jP.1 jP.2.1 jP.2.2.1 jP.2.2.2.1).bind fun zt=>((iw.f k (⟨#[108,111,99,97,108,115,32,48,10]⟩:ByteArray)).bind fun wu=>(if jP.2.2.2.2.2=0 then (if jP.2.2.2.2.1=0 then (if (jP.2.2.2.1.length:Int)=2 then (if 1 < (jP.2.2.2.1.length:Int) then (if (((aZ jP.2.2.2.1 1).f0) == 9 && (((aZ jP.2.2.2.1 1).f1) == 0 && (((aZ jP.2.2.2.1 1).f2) == 3 && (((aZ jP.2.2.2.1 1).f3) == 0 && (((aZ jP.2.2.2.1 1).f4) == 0)))))=true then (if zt.2=0 then (if zt.1.toList=([116,121,112,101,32,105,10,108,111,99,97,108,115,32,48,10,103,108,111,98,97,108,115,32,45,10,110,101,119,32,48,10,115,116,111,114,101,105,32,48,32,48,32,51,10]:List UInt8) then (if wu.2.2.2.2.1=2 then (if wu.2.2.2.2.2=4 then ((eu.f ((aZ jP.2.2.2.1 1).f0) ((aZ jP.2.2.2.1 1).f1) ((aZ jP.2.2.2.1 1).f2) ((aZ jP.2.2.2.1 1).f3) ((aZ jP.2.2.2.1 1).f4)).bind fun t189=>(if t189=true then ((eu.f 0 0 0 0 0).bind fun t190=>(some (!t190))) else (some false))) else (some false)) else (some false)) else (some false)) else (some false)) else (some false)) else (none)) else (some false)) else (some false)) else (some false)))))=some r:=h
  clear h
  replace H:=Option.bind_eq_some_iff.mp H
  obtain ⟨⟨t163,t166,t167,t168,t171,t172⟩,Rj,H⟩:=H
  replace H:((bI.f k t163 t166 t167 t168).bind fun zt=>((iw.f k (⟨#[108,111,99,97,108,115,32,48,10]⟩:ByteArray)).bind fun wu=>(if t172=0 then (if t171=0 then (if (t168.length:Int)=2 then (if 1 < (t168.length:Int) then (if (((aZ t168 1).f0) == 9 && (((aZ t168 1).f1) == 0 && (((aZ t168 1).f2) == 3 && (((aZ t168 1).f3) == 0 && (((aZ t168 1).f4) == 0)))))=true then (if zt.2=0 then (if zt.1.toList=([116,121,112,101,32,105,10,108,111,99,97,108,115,32,48,10,103,108,111,98,97,108,115,32,45,10,110,101,119,32,48,10,115,116,111,114,101,105,32,48,32,48,32,51,10]:List UInt8) then (if wu.2.2.2.2.1=2 then (if wu.2.2.2.2.2=4 then ((eu.f ((aZ t168 1).f0) ((aZ t168 1).f1) ((aZ t168 1).f2) ((aZ t168 1).f3) ((aZ t168 1).f4)).bind fun t189=>(if t189=true then ((eu.f 0 0 0 0 0).bind fun t190=>(some (!t190))) else (some false))) else (some false)) else (some false)) else (some false)) else (some false)) else (some false)) else (none)) else (some false)) else (some false)) else (some false))))=some r:=H
  have A1:=ae.mk Rj
  clear Rj
  replace H:=Option.bind_eq_some_iff.mp H
  obtain ⟨⟨t174,t175⟩,Ce,H⟩:=H
  replace H:((iw.f k (⟨#[108,111,99,97,108,115,32,48,10]⟩:ByteArray)).bind fun wu=>(if t172=0 then (if t171=0 then (if (t168.length:Int)=2 then (if 1 < (t168.length:Int) then (if (((aZ t168 1).f0) == 9 && (((aZ t168 1).f1) == 0 && (((aZ t168 1).f2) == 3 && (((aZ t168 1).f3) == 0 && (((aZ t168 1).f4) == 0)))))=true then (if t175=0 then (if t174.toList=([116,121,112,101,32,105,10,108,111,99,97,108,115,32,48,10,103,108,111,98,97,108,115,32,45,10,110,101,119,32,48,10,115,116,111,114,101,105,32,48,32,48,32,51,10]:List UInt8) then (if wu.2.2.2.2.1=2 then (if wu.2.2.2.2.2=4 then ((eu.f ((aZ t168 1).f0) ((aZ t168 1).f1) ((aZ t168 1).f2) ((aZ t168 1).f3) ((aZ t168 1).f4)).bind fun t189=>(if t189=true then ((eu.f 0 0 0 0 0).bind fun t190=>(some (!t190))) else (some false))) else (some false)) else (some false)) else (some false)) else (some false)) else (some false)) else (none)) else (some false)) else (some false)) else (some false)))=some r:=H
  have A2:=ae.mk Ce
  clear Ce
  replace H:=Option.bind_eq_some_iff.mp H
  obtain ⟨⟨t176,t179,t180,t181,t184,t185⟩,DI,H⟩:=H
  replace H:(if t172=0 then (if t171=0 then (if (t168.length:Int)=2 then (if 1 < (t168.length:Int) then (if (((aZ t168 1).f0) == 9 && (((aZ t168 1).f1) == 0 && (((aZ t168 1).f2) == 3 && (((aZ t168 1).f3) == 0 && (((aZ t168 1).f4) == 0)))))=true then (if t175=0 then (if t174.toList=([116,121,112,101,32,105,10,108,111,99,97,108,115,32,48,10,103,108,111,98,97,108,115,32,45,10,110,101,119,32,48,10,115,116,111,114,101,105,32,48,32,48,32,51,10]:List UInt8) then (if t184=2 then (if t185=4 then ((eu.f ((aZ t168 1).f0) ((aZ t168 1).f1) ((aZ t168 1).f2) ((aZ t168 1).f3) ((aZ t168 1).f4)).bind fun t189=>(if t189=true then ((eu.f 0 0 0 0 0).bind fun t190=>(some (!t190))) else (some false))) else (some false)) else (some false)) else (some false)) else (some false)) else (some false)) else (none)) else (some false)) else (some false)) else (some false))=some r:=H
  have A3:=ae.mk DI
  clear DI
  by_cases c4:t172=0
  · rw [if_pos c4] at H
    have rF:(t172 == 0)=true:=beq_iff_eq.mpr c4
    have vZ:(t172 != 0)=false:=bne_eq_false_iff_eq.mpr c4
    clear c4
    by_cases c5:t171=0
    · rw [if_pos c5] at H
      have xm:(t171 == 0)=true:=beq_iff_eq.mpr c5
      have Fa:(t171 != 0)=false:=bne_eq_false_iff_eq.mpr c5
      clear c5
      by_cases c6:(t168.length:Int)=2
      · rw [if_pos c6] at H
        have qW:((t168.length:Int) == 2)=true:=beq_iff_eq.mpr c6
        have yR:((t168.length:Int) != 2)=false:=bne_eq_false_iff_eq.mpr c6
        clear c6
        by_cases c7:1 < (t168.length:Int)
        · rw [if_pos c7] at H
          have nX:decide (1 < (t168.length:Int))=true:=decide_eq_true c7
          have vY:decide (1 < t168.length)=true:=decide_eq_true (by omega)
          clear c7
          by_cases c8:(((aZ t168 1).f0) == 9 && (((aZ t168 1).f1) == 0 && (((aZ t168 1).f2) == 3 && (((aZ t168 1).f3) == 0 && (((aZ t168 1).f4) == 0)))))=true
          · rw [if_pos c8] at H
            have tK:(((aZ t168 1).f0) == 9 && (((aZ t168 1).f1) == 0 && (((aZ t168 1).f2) == 3 && (((aZ t168 1).f3) == 0 && (((aZ t168 1).f4) == 0)))))=true:=c8
            (try (have Bv:decide (((aZ t168 1).f0)=9 && (((aZ t168 1).f1) == 0 && (((aZ t168 1).f2) == 3 && (((aZ t168 1).f3) == 0 && (((aZ t168 1).f4) == 0)))))=true:=by simpa using c8))
            (try (have aiY:(((aZ t168 1).f0) == 9 && (((aZ t168 1).f1) == 0 && (((aZ t168 1).f2) == 3 && (((aZ t168 1).f3) == 0 && (((aZ t168 1).f4) == 0)))))=true:=by simpa using c8))
            clear c8
            by_cases c9:t175=0
            · rw [if_pos c9] at H
              have E8:(t175 == 0)=true:=beq_iff_eq.mpr c9
              have IZ:(t175 != 0)=false:=bne_eq_false_iff_eq.mpr c9
              clear c9
              by_cases c10:t174.toList=([116,121,112,101,32,105,10,108,111,99,97,108,115,32,48,10,103,108,111,98,97,108,115,32,45,10,110,101,119,32,48,10,115,116,111,114,101,105,32,48,32,48,32,51,10]:List UInt8)
              · rw [if_pos c10] at H
                have nO:(t174.toList == ([116,121,112,101,32,105,10,108,111,99,97,108,115,32,48,10,103,108,111,98,97,108,115,32,45,10,110,101,119,32,48,10,115,116,111,114,101,105,32,48,32,48,32,51,10]:List UInt8))=true:=beq_iff_eq.mpr c10
                have zq:(t174.toList != ([116,121,112,101,32,105,10,108,111,99,97,108,115,32,48,10,103,108,111,98,97,108,115,32,45,10,110,101,119,32,48,10,115,116,111,114,101,105,32,48,32,48,32,51,10]:List UInt8))=false:=bne_eq_false_iff_eq.mpr c10
                clear c10
                by_cases c11:t184=2
                · rw [if_pos c11] at H
                  have sS:(t184 == 2)=true:=beq_iff_eq.mpr c11
                  have zo:(t184 != 2)=false:=bne_eq_false_iff_eq.mpr c11
                  clear c11
                  by_cases c12:t185=4
                  · rw [if_pos c12] at H
                    have ve:(t185 == 4)=true:=beq_iff_eq.mpr c12
                    have QD:(t185 != 4)=false:=bne_eq_false_iff_eq.mpr c12
                    clear c12
                    replace H:=Option.bind_eq_some_iff.mp H
                    obtain ⟨t189,aaA,H⟩:=H
                    replace H:(if t189=true then ((eu.f 0 0 0 0 0).bind fun t190=>(some (!t190))) else (some false))=some r:=H
                    have A13:=ae.mk aaA
                    clear aaA
                    by_cases c14:t189=true
                    · subst c14
                      have H1:((eu.f 0 0 0 0 0).bind fun t190=>(some (!t190)))=some r:=by rw [if_pos rfl] at H;exact H
                      clear H
                      have H:=H1
                      clear H1
                      replace H:=Option.bind_eq_some_iff.mp H
                      obtain ⟨t190,Rf,H⟩:=H
                      replace H:(some (!t190))=some r:=H
                      have A15:=ae.mk Rf
                      clear Rf
                      obtain rfl:=Option.some.inj H
                      go_enter Tryz.func7,Tryz.ntmps7
                      go_wp2_with (first|((with_reducible refine bU (f:=13) rfl ?_);refine gy (some 12) rfl rfl Tryz.func13 (by kernel_rfl) rfl #[.string (⟨#[116,121,112,101,32,105,10,108,111,99,97,108,115,32,48,10,103,108,111,98,97,108,115,32,45,10,110,101,119,32,48,10,115,116,111,114,101,105,32,48,32,48,32,51,10]⟩:ByteArray)] rfl (by (try simp only [List.map_toArray,List.map_cons,List.map_nil]);first|done|rfl|(simp only [List.length_drop,List.length_take];rfl)) ?_;(with_reducible refine (iw.calls k (⟨#[116,121,112,101,32,105,10,108,111,99,97,108,115,32,48,10,103,108,111,98,97,108,115,32,45,10,110,101,119,32,48,10,115,116,111,114,101,105,32,48,32,48,32,51,10]⟩:ByteArray) t163 t166 t167 t168 t171 t172 _ ?fD A1.out).mono ?_);(case fD=>repeat (first|exact ry.out|(with_reducible refine Kd.ed ?_ _)|(with_reducible refine Kd.dZ ?_ _)|(with_reducible refine Kd.fO ?_)));rintro e w16 ⟨v164,aib,rfl,ho0,ho1,hb⟩;refine ⟨_,rfl,?_⟩;have di:=ae.mk (Kd.iM ho0 (bn (by repeat (first|(with_reducible first|exact HB.out|apply aj|apply af|apply ai)|exact HB.out))));have dm:=ae.mk (Kd.iM ho1 (bn (by repeat (first|(with_reducible first|exact HB.out|apply aj|apply af|apply ai)|exact HB.out))));have dE:=ae.mk (aQ (by repeat (first|(with_reducible first|exact HB.out|apply aj|apply af|apply ai)|exact HB.out)) hb);clear HB;have nV:=di;have kU:=dm;have HB:=dE;clear di dm dE;(try clear hb);(try clear hb2);(try clear hk);(try clear hi);(try clear ho0);(try clear ho1))|((with_reducible refine eQ (N:=2) rfl ?_);(try (refine mY (by rfl) ?_;dsimp only));refine fF ?hg (N:=2) ?hd (cs:=#[.slice none 0 0,.string (⟨#[]⟩:ByteArray),.string (⟨#[]⟩:ByteArray),.slice none 0 0]) (t:=25) ?hr ?_;(case hd=>rfl);(case hg=>rfl);(case hr=>first|(go_simp;done)|(go_simp;rfl));intro kD hg YA hbox hb;have di:=ae.mk (Kd.iF (by (with_reducible repeat (first|apply Kd.dn|apply Kd.dA|apply Kd.dQ));exact nV.out) hb);have dm:=ae.mk (Kd.iF (by (with_reducible repeat (first|apply Kd.dn|apply Kd.dA|apply Kd.dQ));exact kU.out) hb);have dE:=ae.mk (aQ (by repeat (first|(with_reducible first|exact HB.out|apply aj|apply af|apply ai)|exact HB.out)) hb);have gq:=ae.mk (hbox);have jC:=ae.mk ((by rw [hg];exact (bn (by repeat (first|(with_reducible first|exact HB.out|apply aj|apply af|apply ai)|exact HB.out))):w.heap.size≤kD));have lN:=ae.mk ((by rw [hg];exact (bn (by repeat (first|(with_reducible first|exact HB.out|apply aj|apply af|apply ai)|exact HB.out))):w.heap.size≤kD));clear nV;clear kU;clear HB;have nV:=di;have kU:=dm;have HB:=dE;have jT:=gq;have ahM:=jC;have vw:=lN;clear di dm dE gq jC lN;clear hb hbox hg;obtain ⟨xq,vW,afz⟩:=Kd.iW nV.out;subst afz;have KU:YA.cell? ⟨kD,0,none⟩=some (.slice none 0 0):=(ah jT.out 0).trans rfl;have KT:YA.cell? ⟨kD,1,none⟩=some (.string (⟨#[]⟩:ByteArray)):=(ah jT.out 1).trans rfl;have KR:YA.cell? ⟨kD,2,none⟩=some (.string (⟨#[]⟩:ByteArray)):=(ah jT.out 2).trans rfl;have KQ:YA.cell? ⟨kD,3,none⟩=some (.slice none 0 0):=(ah jT.out 3).trans rfl;have Ko:=ax jT.out 0;have J9:=ax jT.out 1;have J8:=ax jT.out 2;have J7:=ax jT.out 3;obtain ⟨BI,yz,afy⟩:=Kd.iW kU.out;subst afy)|((with_reducible refine bU (f:=9) rfl ?_);refine gy (some 18) rfl rfl Tryz.func9 (by kernel_rfl) rfl #[.agg #[.slice xq t163.length vW,.string t166,.string t167,.slice BI t168.length yz]] rfl (by (try simp only [List.map_toArray,List.map_cons,List.map_nil]);first|done|rfl|(simp only [List.length_drop,List.length_take];rfl)) ?_;(with_reducible refine (bI.calls k _ _ t163 t166 t167 _ _ t168 t174 t175 _ ?fD ?jO ?lF ?lD ?oq A2.out).mono ?_);(case fD=>refine (Kd.iO (e:=9) (base:=w.heap.size) (ok:=fun k_=>True) (n:=t163.length) (c:=vW) ?_).2.2;exact (by (with_reducible repeat (first|apply Kd.dn|apply Kd.dA|apply Kd.dQ));exact (Kd.fJ (Kd.kR (p:=⟨kD,3,none⟩) (Kd.kR (p:=⟨kD,2,none⟩) (Kd.kR (p:=⟨kD,1,none⟩) (Kd.kR (p:=⟨kD,0,none⟩) (Kd.iR nV.out jT.out (by decide)) (fun _ hk=>hk.2) (.slice xq t163.length vW)) (fun _ hk=>hk.2) (.string t166)) (fun _ hk=>hk.2) (.string t167)) (fun _ hk=>hk.2) (.slice BI t168.length yz)) (fun _ h_=>h_.1))));(case jO=>exact (Kd.iO nV.out).2.1);(case lF=>refine (Kd.iO (e:=27) (base:=w.heap.size) (ok:=fun k_=>True) (n:=t168.length) (c:=yz) ?_).2.2;exact (by (with_reducible repeat (first|apply Kd.dn|apply Kd.dA|apply Kd.dQ));exact (Kd.fJ (Kd.kR (p:=⟨kD,3,none⟩) (Kd.kR (p:=⟨kD,2,none⟩) (Kd.kR (p:=⟨kD,1,none⟩) (Kd.kR (p:=⟨kD,0,none⟩) (Kd.iR kU.out jT.out (by decide)) (fun _ hk=>hk.2) (.slice xq t163.length vW)) (fun _ hk=>hk.2) (.string t166)) (fun _ hk=>hk.2) (.string t167)) (fun _ hk=>hk.2) (.slice BI t168.length yz)) (fun _ h_=>h_.1))));(case lD=>exact (Kd.iO kU.out).2.1);(case oq=>exact Kd.dF ry.out (by repeat (first|(with_reducible first|exact HB.out|apply aj|apply af|apply ai|refine az ?_ vw.out)|exact HB.out)));rintro e VF ⟨rfl,hb⟩;refine ⟨_,rfl,?_⟩;have di:=ae.mk (Kd.iF (by (with_reducible repeat (first|apply Kd.dn|apply Kd.dA|apply Kd.dQ));exact (Kd.fJ (Kd.kR (p:=⟨kD,3,none⟩) (Kd.kR (p:=⟨kD,2,none⟩) (Kd.kR (p:=⟨kD,1,none⟩) (Kd.kR (p:=⟨kD,0,none⟩) (Kd.iR nV.out jT.out (by decide)) (fun _ hk=>hk.2) (.slice xq t163.length vW)) (fun _ hk=>hk.2) (.string t166)) (fun _ hk=>hk.2) (.string t167)) (fun _ hk=>hk.2) (.slice BI t168.length yz)) (fun _ h_=>h_.1))) hb);have dm:=ae.mk (Kd.iF (by (with_reducible repeat (first|apply Kd.dn|apply Kd.dA|apply Kd.dQ));exact (Kd.fJ (Kd.kR (p:=⟨kD,3,none⟩) (Kd.kR (p:=⟨kD,2,none⟩) (Kd.kR (p:=⟨kD,1,none⟩) (Kd.kR (p:=⟨kD,0,none⟩) (Kd.iR kU.out jT.out (by decide)) (fun _ hk=>hk.2) (.slice xq t163.length vW)) (fun _ hk=>hk.2) (.string t166)) (fun _ hk=>hk.2) (.string t167)) (fun _ hk=>hk.2) (.slice BI t168.length yz)) (fun _ h_=>h_.1))) hb);have dE:=ae.mk (aV (g:=kD) (o:=.cells #[.slice xq t163.length vW,.string t166,.string t167,.slice BI t168.length yz] 25 (0,0)) (by (with_reducible repeat (first|refine au ?_ _|refine ay ?_|refine ak ?_ _));refine dB (cs:=#[.slice xq t163.length vW,.string t166,.string t167,.slice none 0 0]) ?_ 3 _ rfl;(with_reducible repeat (first|refine au ?_ _|refine ay ?_|refine ak ?_ _));refine dB (cs:=#[.slice xq t163.length vW,.string t166,.string (⟨#[]⟩:ByteArray),.slice none 0 0]) ?_ 2 _ rfl;(with_reducible repeat (first|refine au ?_ _|refine ay ?_|refine ak ?_ _));refine dB (cs:=#[.slice xq t163.length vW,.string (⟨#[]⟩:ByteArray),.string (⟨#[]⟩:ByteArray),.slice none 0 0]) ?_ 1 _ rfl;(with_reducible repeat (first|refine au ?_ _|refine ay ?_|refine ak ?_ _));refine dB (cs:=#[.slice none 0 0,.string (⟨#[]⟩:ByteArray),.string (⟨#[]⟩:ByteArray),.slice none 0 0]) ?_ 0 _ rfl;(with_reducible repeat (first|refine au ?_ _|refine ay ?_|refine ak ?_ _));exact jT.out) hb);have gq:=ae.mk (aQ (by repeat (first|(with_reducible first|exact HB.out|apply aj|apply af|apply ai|refine az ?_ vw.out)|exact HB.out)) hb);clear nV;clear kU;clear jT;clear HB;have nV:=di;have kU:=dm;have jT:=dE;have HB:=gq;clear di dm dE gq;(try clear hb);(try clear hb2);(try clear hk);(try clear hi))|((with_reducible refine bU (f:=13) rfl ?_);refine gy (some 22) rfl rfl Tryz.func13 (by kernel_rfl) rfl #[.string (⟨#[108,111,99,97,108,115,32,48,10]⟩:ByteArray)] rfl (by (try simp only [List.map_toArray,List.map_cons,List.map_nil]);first|done|rfl|(simp only [List.length_drop,List.length_take];rfl)) ?_;(with_reducible refine (iw.calls k (⟨#[108,111,99,97,108,115,32,48,10]⟩:ByteArray) t176 t179 t180 t181 t184 t185 _ ?fD A3.out).mono ?_);(case fD=>repeat (first|exact (Kd.dF ry.out HB.out)|(with_reducible refine Kd.ed ?_ _)|(with_reducible refine Kd.dZ ?_ _)|(with_reducible refine Kd.fO ?_)));rintro e Oi ⟨aia,v182,rfl,ho0,ho1,hb⟩;refine ⟨_,rfl,?_⟩;have di:=ae.mk (Kd.oz (by (with_reducible repeat (first|apply Kd.dn|apply Kd.dA|apply Kd.dQ));exact nV.out) (Kd.jX ho0) hb);have dm:=ae.mk (Kd.oz (by (with_reducible repeat (first|apply Kd.dn|apply Kd.dA|apply Kd.dQ));exact kU.out) (Kd.jX ho1) hb);have dE:=ae.mk (Kd.iM (Kd.uT ho0 (Kd.yD (by (with_reducible repeat (first|apply Kd.dn|apply Kd.dA|apply Kd.dQ));exact nV.out))) (bn (by repeat (first|(with_reducible first|exact HB.out|apply aj|apply af|apply ai|refine az ?_ vw.out)|exact HB.out))));have gq:=ae.mk (Kd.iM (Kd.uT ho1 (Kd.yD (by (with_reducible repeat (first|apply Kd.dn|apply Kd.dA|apply Kd.dQ));exact kU.out))) (bn (by repeat (first|(with_reducible first|exact HB.out|apply aj|apply af|apply ai|refine az ?_ vw.out)|exact HB.out))));have jC:=ae.mk (aV (g:=kD) (o:=.cells #[.slice xq t163.length vW,.string t166,.string t167,.slice BI t168.length yz] 25 (0,0)) (by (with_reducible repeat (first|refine au ?_ _|refine ay ?_|refine ak ?_ _));exact jT.out) hb);have lN:=ae.mk (aQ (by repeat (first|(with_reducible first|exact HB.out|apply aj|apply af|apply ai|refine az ?_ vw.out)|exact HB.out)) hb);clear nV;clear kU;clear jT;clear HB;have nV:=di;have kU:=dm;have xA:=dE;have xy:=gq;have jT:=jC;have HB:=lN;clear di dm dE gq jC lN;(try clear hb);(try clear hb2);(try clear hk);(try clear hi);(try clear ho0);(try clear ho1))|((with_reducible refine eQ (N:=7) rfl ?_);(try (refine mY (by rfl) ?_;dsimp only));refine fF ?hg (N:=7) ?hd (cs:=#[.slice none 0 0,.string (⟨#[]⟩:ByteArray),.string (⟨#[]⟩:ByteArray),.slice none 0 0]) (t:=25) ?hr ?_;(case hd=>rfl);(case hg=>rfl);(case hr=>first|(go_simp;done)|(go_simp;rfl));intro gJ hg zI hbox hb;have di:=ae.mk (Kd.iF (by (with_reducible repeat (first|apply Kd.dn|apply Kd.dA|apply Kd.dQ));exact nV.out) hb);have dm:=ae.mk (Kd.iF (by (with_reducible repeat (first|apply Kd.dn|apply Kd.dA|apply Kd.dQ));exact kU.out) hb);have dE:=ae.mk (Kd.iF (by (with_reducible repeat (first|apply Kd.dn|apply Kd.dA|apply Kd.dQ));exact xA.out) hb);have gq:=ae.mk (Kd.iF (by (with_reducible repeat (first|apply Kd.dn|apply Kd.dA|apply Kd.dQ));exact xy.out) hb);have jC:=ae.mk (aV (g:=kD) (o:=.cells #[.slice xq t163.length vW,.string t166,.string t167,.slice BI t168.length yz] 25 (0,0)) (by (with_reducible repeat (first|refine au ?_ _|refine ay ?_|refine ak ?_ _));exact jT.out) hb);have lN:=ae.mk (aQ (by repeat (first|(with_reducible first|exact HB.out|apply aj|apply af|apply ai|refine az ?_ vw.out)|exact HB.out)) hb);have nC:=ae.mk (hbox);have uX:=ae.mk ((by rw [hg];exact (bn (by repeat (first|(with_reducible first|exact HB.out|apply aj|apply af|apply ai|refine az ?_ vw.out)|exact HB.out))):w.heap.size≤gJ));have yj:=ae.mk ((by rw [hg];exact (bn (by repeat (first|(with_reducible first|exact HB.out|apply aj|apply af|apply ai|refine az ?_ vw.out)|exact HB.out))):w.heap.size≤gJ));have yh:=ae.mk ((by rw [hg];exact Nat.ne_of_lt (gZ (g:=kD) (o:=.cells #[.slice xq t163.length vW,.string t166,.string t167,.slice BI t168.length yz] 25 (0,0)) (by (with_reducible repeat (first|refine au ?_ _|refine ay ?_|refine ak ?_ _));exact jT.out)):kD ≠ gJ));have YJ:=ae.mk ((by rw [hg];exact Nat.ne_of_gt (gZ (g:=kD) (o:=.cells #[.slice xq t163.length vW,.string t166,.string t167,.slice BI t168.length yz] 25 (0,0)) (by (with_reducible repeat (first|refine au ?_ _|refine ay ?_|refine ak ?_ _));exact jT.out)):gJ ≠ kD));clear nV;clear kU;clear xA;clear xy;clear jT;clear HB;have nV:=di;have kU:=dm;have xA:=dE;have xy:=gq;have jT:=jC;have HB:=lN;have mX:=nC;have ahL:=uX;have ML:=yj;have uo:=yh;have Ob:=YJ;clear di dm dE gq jC lN nC uX yj yh YJ;clear hb hbox hg;obtain ⟨uU,uP,afw⟩:=Kd.iW xA.out;subst afw;have ag1:=Ob.out;have agK:=uo.out;have UG:zI.cell? ⟨gJ,0,none⟩=some (.slice none 0 0):=(ah mX.out 0).trans rfl;have UF:zI.cell? ⟨gJ,1,none⟩=some (.string (⟨#[]⟩:ByteArray)):=(ah mX.out 1).trans rfl;have UE:zI.cell? ⟨gJ,2,none⟩=some (.string (⟨#[]⟩:ByteArray)):=(ah mX.out 2).trans rfl;have UD:zI.cell? ⟨gJ,3,none⟩=some (.slice none 0 0):=(ah mX.out 3).trans rfl;have TF:=ax mX.out 0;have TE:=ax mX.out 1;have TD:=ax mX.out 2;have TC:=ax mX.out 3;obtain ⟨sJ,sG,IX⟩:=Kd.iW xy.out;subst IX;have UC:zI.cell? ⟨kD,0,none⟩=some (.slice xq t163.length vW):=(ah jT.out 0).trans rfl;have UB:zI.cell? ⟨kD,1,none⟩=some (.string t166):=(ah jT.out 1).trans rfl;have UA:zI.cell? ⟨kD,2,none⟩=some (.string t167):=(ah jT.out 2).trans rfl;have Uz:zI.cell? ⟨kD,3,none⟩=some (.slice BI t168.length yz):=(ah jT.out 3).trans rfl;have TB:=ax jT.out 0;have TA:=ax jT.out 1;have Tz:=ax jT.out 2;have Tv:=ax jT.out 3;have Xi:0≤(1:Int):=(by omega);have WZ:1 < (t168.length:Int):=of_decide_eq_true (by first|(with_reducible assumption)|assumption);obtain ⟨wC,e187,pW,pV,pU,pR,pO⟩:=wz (Kd.iO kU.out).2.2 1 Xi WZ;cases e187;(try simp only [show (1:Int).toNat=1 from rfl,Nat.reduceMul,Nat.reduceEqDiff,Go.Addr.add,↓reduceIte] at pW);(try simp only [show (1:Int).toNat=1 from rfl,Nat.reduceMul,Nat.reduceEqDiff,Go.Addr.add,↓reduceIte] at pV);(try simp only [show (1:Int).toNat=1 from rfl,Nat.reduceMul,Nat.reduceEqDiff,Go.Addr.add,↓reduceIte] at pU);(try simp only [show (1:Int).toNat=1 from rfl,Nat.reduceMul,Nat.reduceEqDiff,Go.Addr.add,↓reduceIte] at pR);(try simp only [show (1:Int).toNat=1 from rfl,Nat.reduceMul,Nat.reduceEqDiff,Go.Addr.add,↓reduceIte] at pO);have agu:(1 < t168.length)=True:=eq_true (by omega);(try rw [show ((1:Int)).toNat=1 from rfl] at pW);(try rw [show 1 * 5=5 from rfl] at pW);(try rw [show ((1:Int)).toNat=1 from rfl] at pV);(try rw [show 1 * 5=5 from rfl] at pV);(try rw [show ((1:Int)).toNat=1 from rfl] at pU);(try rw [show 1 * 5=5 from rfl] at pU);(try rw [show ((1:Int)).toNat=1 from rfl] at pR);(try rw [show 1 * 5=5 from rfl] at pR);(try rw [show ((1:Int)).toNat=1 from rfl] at pO);(try rw [show 1 * 5=5 from rfl] at pO);have l9:wC.block ≠ gJ:=Kd.rD (Kd.BX kU.out mX.out (by decide));have l7:wC.block ≠ gJ:=Kd.rD (Kd.BX kU.out mX.out (by decide));have lZ:wC.block ≠ gJ:=Kd.rD (Kd.BX kU.out mX.out (by decide));have lY:wC.block ≠ gJ:=Kd.rD (Kd.BX kU.out mX.out (by decide));replace pW:=(cell_far (p:=⟨gJ,0,none⟩) (by first|(rw [add_block];exact l9)|(show (Addr.add _ _).block ≠ _;rw [add_block];exact l9)|exact l9) (.slice uU t176.length uP)).trans pW;replace pV:=(cell_far (p:=⟨gJ,0,none⟩) (by first|(rw [add_block];exact l9)|(show (Addr.add _ _).block ≠ _;rw [add_block];exact l9)|exact l9) (.slice uU t176.length uP)).trans pV;replace pU:=(cell_far (p:=⟨gJ,0,none⟩) (by first|(rw [add_block];exact l9)|(show (Addr.add _ _).block ≠ _;rw [add_block];exact l9)|exact l9) (.slice uU t176.length uP)).trans pU;replace pR:=(cell_far (p:=⟨gJ,0,none⟩) (by first|(rw [add_block];exact l9)|(show (Addr.add _ _).block ≠ _;rw [add_block];exact l9)|exact l9) (.slice uU t176.length uP)).trans pR;replace pO:=(cell_far (p:=⟨gJ,0,none⟩) (by first|(rw [add_block];exact l9)|(show (Addr.add _ _).block ≠ _;rw [add_block];exact l9)|exact l9) (.slice uU t176.length uP)).trans pO;replace pW:=(cell_far (p:=⟨gJ,1,none⟩) (by first|(rw [add_block];exact l7)|(show (Addr.add _ _).block ≠ _;rw [add_block];exact l7)|exact l7) (.string t179)).trans pW;replace pV:=(cell_far (p:=⟨gJ,1,none⟩) (by first|(rw [add_block];exact l7)|(show (Addr.add _ _).block ≠ _;rw [add_block];exact l7)|exact l7) (.string t179)).trans pV;replace pU:=(cell_far (p:=⟨gJ,1,none⟩) (by first|(rw [add_block];exact l7)|(show (Addr.add _ _).block ≠ _;rw [add_block];exact l7)|exact l7) (.string t179)).trans pU;replace pR:=(cell_far (p:=⟨gJ,1,none⟩) (by first|(rw [add_block];exact l7)|(show (Addr.add _ _).block ≠ _;rw [add_block];exact l7)|exact l7) (.string t179)).trans pR;replace pO:=(cell_far (p:=⟨gJ,1,none⟩) (by first|(rw [add_block];exact l7)|(show (Addr.add _ _).block ≠ _;rw [add_block];exact l7)|exact l7) (.string t179)).trans pO;replace pW:=(cell_far (p:=⟨gJ,2,none⟩) (by first|(rw [add_block];exact lZ)|(show (Addr.add _ _).block ≠ _;rw [add_block];exact lZ)|exact lZ) (.string t180)).trans pW;replace pV:=(cell_far (p:=⟨gJ,2,none⟩) (by first|(rw [add_block];exact lZ)|(show (Addr.add _ _).block ≠ _;rw [add_block];exact lZ)|exact lZ) (.string t180)).trans pV;replace pU:=(cell_far (p:=⟨gJ,2,none⟩) (by first|(rw [add_block];exact lZ)|(show (Addr.add _ _).block ≠ _;rw [add_block];exact lZ)|exact lZ) (.string t180)).trans pU;replace pR:=(cell_far (p:=⟨gJ,2,none⟩) (by first|(rw [add_block];exact lZ)|(show (Addr.add _ _).block ≠ _;rw [add_block];exact lZ)|exact lZ) (.string t180)).trans pR;replace pO:=(cell_far (p:=⟨gJ,2,none⟩) (by first|(rw [add_block];exact lZ)|(show (Addr.add _ _).block ≠ _;rw [add_block];exact lZ)|exact lZ) (.string t180)).trans pO;replace pW:=(cell_far (p:=⟨gJ,3,none⟩) (by first|(rw [add_block];exact lY)|(show (Addr.add _ _).block ≠ _;rw [add_block];exact lY)|exact lY) (.slice sJ t181.length sG)).trans pW;replace pV:=(cell_far (p:=⟨gJ,3,none⟩) (by first|(rw [add_block];exact lY)|(show (Addr.add _ _).block ≠ _;rw [add_block];exact lY)|exact lY) (.slice sJ t181.length sG)).trans pV;replace pU:=(cell_far (p:=⟨gJ,3,none⟩) (by first|(rw [add_block];exact lY)|(show (Addr.add _ _).block ≠ _;rw [add_block];exact lY)|exact lY) (.slice sJ t181.length sG)).trans pU;replace pR:=(cell_far (p:=⟨gJ,3,none⟩) (by first|(rw [add_block];exact lY)|(show (Addr.add _ _).block ≠ _;rw [add_block];exact lY)|exact lY) (.slice sJ t181.length sG)).trans pR;replace pO:=(cell_far (p:=⟨gJ,3,none⟩) (by first|(rw [add_block];exact lY)|(show (Addr.add _ _).block ≠ _;rw [add_block];exact lY)|exact lY) (.slice sJ t181.length sG)).trans pO;clear l9;clear l7;clear lZ;clear lY;replace Xi:=eq_true Xi;replace WZ:=eq_true WZ;have Xh:0≤(1:Int):=(by omega);have WY:1 < (t168.length:Int):=of_decide_eq_true (by first|(with_reducible assumption)|assumption);obtain ⟨Zo,afJ,pM,pK,pJ,pI,pG⟩:=wz (Kd.iO kU.out).2.2 1 Xh WY;obtain rfl:wC=Zo:=(by injection afJ);(try simp only [show (1:Int).toNat=1 from rfl,Nat.reduceMul,Nat.reduceEqDiff,Go.Addr.add,↓reduceIte] at pM);(try simp only [show (1:Int).toNat=1 from rfl,Nat.reduceMul,Nat.reduceEqDiff,Go.Addr.add,↓reduceIte] at pK);(try simp only [show (1:Int).toNat=1 from rfl,Nat.reduceMul,Nat.reduceEqDiff,Go.Addr.add,↓reduceIte] at pJ);(try simp only [show (1:Int).toNat=1 from rfl,Nat.reduceMul,Nat.reduceEqDiff,Go.Addr.add,↓reduceIte] at pI);(try simp only [show (1:Int).toNat=1 from rfl,Nat.reduceMul,Nat.reduceEqDiff,Go.Addr.add,↓reduceIte] at pG);have agt:(1 < t168.length)=True:=eq_true (by omega);(try rw [show ((1:Int)).toNat=1 from rfl] at pM);(try rw [show 1 * 5=5 from rfl] at pM);(try rw [show ((1:Int)).toNat=1 from rfl] at pK);(try rw [show 1 * 5=5 from rfl] at pK);(try rw [show ((1:Int)).toNat=1 from rfl] at pJ);(try rw [show 1 * 5=5 from rfl] at pJ);(try rw [show ((1:Int)).toNat=1 from rfl] at pI);(try rw [show 1 * 5=5 from rfl] at pI);(try rw [show ((1:Int)).toNat=1 from rfl] at pG);(try rw [show 1 * 5=5 from rfl] at pG);have lX:wC.block ≠ gJ:=Kd.rD (Kd.BX kU.out mX.out (by decide));have lW:wC.block ≠ gJ:=Kd.rD (Kd.BX kU.out mX.out (by decide));have lV:wC.block ≠ gJ:=Kd.rD (Kd.BX kU.out mX.out (by decide));have lU:wC.block ≠ gJ:=Kd.rD (Kd.BX kU.out mX.out (by decide));replace pM:=(cell_far (p:=⟨gJ,0,none⟩) (by first|(rw [add_block];exact lX)|(show (Addr.add _ _).block ≠ _;rw [add_block];exact lX)|exact lX) (.slice uU t176.length uP)).trans pM;replace pK:=(cell_far (p:=⟨gJ,0,none⟩) (by first|(rw [add_block];exact lX)|(show (Addr.add _ _).block ≠ _;rw [add_block];exact lX)|exact lX) (.slice uU t176.length uP)).trans pK;replace pJ:=(cell_far (p:=⟨gJ,0,none⟩) (by first|(rw [add_block];exact lX)|(show (Addr.add _ _).block ≠ _;rw [add_block];exact lX)|exact lX) (.slice uU t176.length uP)).trans pJ;replace pI:=(cell_far (p:=⟨gJ,0,none⟩) (by first|(rw [add_block];exact lX)|(show (Addr.add _ _).block ≠ _;rw [add_block];exact lX)|exact lX) (.slice uU t176.length uP)).trans pI;replace pG:=(cell_far (p:=⟨gJ,0,none⟩) (by first|(rw [add_block];exact lX)|(show (Addr.add _ _).block ≠ _;rw [add_block];exact lX)|exact lX) (.slice uU t176.length uP)).trans pG;replace pM:=(cell_far (p:=⟨gJ,1,none⟩) (by first|(rw [add_block];exact lW)|(show (Addr.add _ _).block ≠ _;rw [add_block];exact lW)|exact lW) (.string t179)).trans pM;replace pK:=(cell_far (p:=⟨gJ,1,none⟩) (by first|(rw [add_block];exact lW)|(show (Addr.add _ _).block ≠ _;rw [add_block];exact lW)|exact lW) (.string t179)).trans pK;replace pJ:=(cell_far (p:=⟨gJ,1,none⟩) (by first|(rw [add_block];exact lW)|(show (Addr.add _ _).block ≠ _;rw [add_block];exact lW)|exact lW) (.string t179)).trans pJ;replace pI:=(cell_far (p:=⟨gJ,1,none⟩) (by first|(rw [add_block];exact lW)|(show (Addr.add _ _).block ≠ _;rw [add_block];exact lW)|exact lW) (.string t179)).trans pI;replace pG:=(cell_far (p:=⟨gJ,1,none⟩) (by first|(rw [add_block];exact lW)|(show (Addr.add _ _).block ≠ _;rw [add_block];exact lW)|exact lW) (.string t179)).trans pG;replace pM:=(cell_far (p:=⟨gJ,2,none⟩) (by first|(rw [add_block];exact lV)|(show (Addr.add _ _).block ≠ _;rw [add_block];exact lV)|exact lV) (.string t180)).trans pM;replace pK:=(cell_far (p:=⟨gJ,2,none⟩) (by first|(rw [add_block];exact lV)|(show (Addr.add _ _).block ≠ _;rw [add_block];exact lV)|exact lV) (.string t180)).trans pK;replace pJ:=(cell_far (p:=⟨gJ,2,none⟩) (by first|(rw [add_block];exact lV)|(show (Addr.add _ _).block ≠ _;rw [add_block];exact lV)|exact lV) (.string t180)).trans pJ;replace pI:=(cell_far (p:=⟨gJ,2,none⟩) (by first|(rw [add_block];exact lV)|(show (Addr.add _ _).block ≠ _;rw [add_block];exact lV)|exact lV) (.string t180)).trans pI;replace pG:=(cell_far (p:=⟨gJ,2,none⟩) (by first|(rw [add_block];exact lV)|(show (Addr.add _ _).block ≠ _;rw [add_block];exact lV)|exact lV) (.string t180)).trans pG;replace pM:=(cell_far (p:=⟨gJ,3,none⟩) (by first|(rw [add_block];exact lU)|(show (Addr.add _ _).block ≠ _;rw [add_block];exact lU)|exact lU) (.slice sJ t181.length sG)).trans pM;replace pK:=(cell_far (p:=⟨gJ,3,none⟩) (by first|(rw [add_block];exact lU)|(show (Addr.add _ _).block ≠ _;rw [add_block];exact lU)|exact lU) (.slice sJ t181.length sG)).trans pK;replace pJ:=(cell_far (p:=⟨gJ,3,none⟩) (by first|(rw [add_block];exact lU)|(show (Addr.add _ _).block ≠ _;rw [add_block];exact lU)|exact lU) (.slice sJ t181.length sG)).trans pJ;replace pI:=(cell_far (p:=⟨gJ,3,none⟩) (by first|(rw [add_block];exact lU)|(show (Addr.add _ _).block ≠ _;rw [add_block];exact lU)|exact lU) (.slice sJ t181.length sG)).trans pI;replace pG:=(cell_far (p:=⟨gJ,3,none⟩) (by first|(rw [add_block];exact lU)|(show (Addr.add _ _).block ≠ _;rw [add_block];exact lU)|exact lU) (.slice sJ t181.length sG)).trans pG;clear lX;clear lW;clear lV;clear lU;replace Xh:=eq_true Xh;replace WY:=eq_true WY)|(go_at_call 11;(with_reducible refine (eu.calls ((aZ t168 1).f0) ((aZ t168 1).f1) ((aZ t168 1).f2) ((aZ t168 1).f3) ((aZ t168 1).f4) true _ ?fD A13.out).mono ?_);(case fD=>exact Kd.dF ry.out (by repeat (first|(with_reducible first|exact HB.out|apply aj|apply af|apply ai|refine az ?_ vw.out|refine az ?_ ML.out)|exact HB.out)));rintro e w29 ⟨rfl,hb⟩;have di:=ae.mk (Kd.iF (by (with_reducible repeat (first|apply Kd.dn|apply Kd.dA|apply Kd.dQ));exact (Kd.fJ (Kd.kR (p:=⟨gJ,3,none⟩) (Kd.kR (p:=⟨gJ,2,none⟩) (Kd.kR (p:=⟨gJ,1,none⟩) (Kd.kR (p:=⟨gJ,0,none⟩) (Kd.iR nV.out mX.out (by decide)) (fun _ hk=>hk.2) (.slice uU t176.length uP)) (fun _ hk=>hk.2) (.string t179)) (fun _ hk=>hk.2) (.string t180)) (fun _ hk=>hk.2) (.slice sJ t181.length sG)) (fun _ h_=>h_.1))) hb);have dm:=ae.mk (Kd.iF (by (with_reducible repeat (first|apply Kd.dn|apply Kd.dA|apply Kd.dQ));exact (Kd.fJ (Kd.kR (p:=⟨gJ,3,none⟩) (Kd.kR (p:=⟨gJ,2,none⟩) (Kd.kR (p:=⟨gJ,1,none⟩) (Kd.kR (p:=⟨gJ,0,none⟩) (Kd.iR kU.out mX.out (by decide)) (fun _ hk=>hk.2) (.slice uU t176.length uP)) (fun _ hk=>hk.2) (.string t179)) (fun _ hk=>hk.2) (.string t180)) (fun _ hk=>hk.2) (.slice sJ t181.length sG)) (fun _ h_=>h_.1))) hb);have dE:=ae.mk (Kd.iF (by (with_reducible repeat (first|apply Kd.dn|apply Kd.dA|apply Kd.dQ));exact (Kd.fJ (Kd.kR (p:=⟨gJ,3,none⟩) (Kd.kR (p:=⟨gJ,2,none⟩) (Kd.kR (p:=⟨gJ,1,none⟩) (Kd.kR (p:=⟨gJ,0,none⟩) (Kd.iR xA.out mX.out (by decide)) (fun _ hk=>hk.2) (.slice uU t176.length uP)) (fun _ hk=>hk.2) (.string t179)) (fun _ hk=>hk.2) (.string t180)) (fun _ hk=>hk.2) (.slice sJ t181.length sG)) (fun _ h_=>h_.1))) hb);have gq:=ae.mk (Kd.iF (by (with_reducible repeat (first|apply Kd.dn|apply Kd.dA|apply Kd.dQ));exact (Kd.fJ (Kd.kR (p:=⟨gJ,3,none⟩) (Kd.kR (p:=⟨gJ,2,none⟩) (Kd.kR (p:=⟨gJ,1,none⟩) (Kd.kR (p:=⟨gJ,0,none⟩) (Kd.iR xy.out mX.out (by decide)) (fun _ hk=>hk.2) (.slice uU t176.length uP)) (fun _ hk=>hk.2) (.string t179)) (fun _ hk=>hk.2) (.string t180)) (fun _ hk=>hk.2) (.slice sJ t181.length sG)) (fun _ h_=>h_.1))) hb);have jC:=ae.mk (aV (g:=kD) (o:=.cells #[.slice xq t163.length vW,.string t166,.string t167,.slice (some wC) t168.length yz] 25 (0,0)) (by (with_reducible repeat (first|refine au ?_ _|refine ay ?_|refine ak ?_ _));refine fC ?_ uo.out _;(with_reducible repeat (first|refine au ?_ _|refine ay ?_|refine ak ?_ _));refine fC ?_ uo.out _;(with_reducible repeat (first|refine au ?_ _|refine ay ?_|refine ak ?_ _));refine fC ?_ uo.out _;(with_reducible repeat (first|refine au ?_ _|refine ay ?_|refine ak ?_ _));refine fC ?_ uo.out _;(with_reducible repeat (first|refine au ?_ _|refine ay ?_|refine ak ?_ _));exact jT.out) hb);have lN:=ae.mk (aV (g:=gJ) (o:=.cells #[.slice uU t176.length uP,.string t179,.string t180,.slice sJ t181.length sG] 25 (0,0)) (by (with_reducible repeat (first|refine au ?_ _|refine ay ?_|refine ak ?_ _));refine dB (cs:=#[.slice uU t176.length uP,.string t179,.string t180,.slice none 0 0]) ?_ 3 _ rfl;(with_reducible repeat (first|refine au ?_ _|refine ay ?_|refine ak ?_ _));refine dB (cs:=#[.slice uU t176.length uP,.string t179,.string (⟨#[]⟩:ByteArray),.slice none 0 0]) ?_ 2 _ rfl;(with_reducible repeat (first|refine au ?_ _|refine ay ?_|refine ak ?_ _));refine dB (cs:=#[.slice uU t176.length uP,.string (⟨#[]⟩:ByteArray),.string (⟨#[]⟩:ByteArray),.slice none 0 0]) ?_ 1 _ rfl;(with_reducible repeat (first|refine au ?_ _|refine ay ?_|refine ak ?_ _));refine dB (cs:=#[.slice none 0 0,.string (⟨#[]⟩:ByteArray),.string (⟨#[]⟩:ByteArray),.slice none 0 0]) ?_ 0 _ rfl;(with_reducible repeat (first|refine au ?_ _|refine ay ?_|refine ak ?_ _));exact mX.out) hb);have nC:=ae.mk (aQ (by repeat (first|(with_reducible first|exact HB.out|apply aj|apply af|apply ai|refine az ?_ vw.out|refine az ?_ ML.out)|exact HB.out)) hb);clear nV;clear kU;clear xA;clear xy;clear jT;clear mX;clear HB;have nV:=di;have kU:=dm;have xA:=dE;have xy:=gq;have jT:=jC;have mX:=lN;have HB:=nC;clear di dm dE gq jC lN nC;(try clear hb);(try clear hb2);(try clear hk);(try clear hi))|(go_at_call 11;(with_reducible refine (eu.calls 0 0 0 0 0 t190 _ ?fD A15.out).mono ?_);(case fD=>repeat (first|exact (Kd.dF ry.out HB.out)|(with_reducible refine Kd.ed ?_ _)|(with_reducible refine Kd.dZ ?_ _)|(with_reducible refine Kd.fO ?_)));rintro e Yi ⟨rfl,hb⟩;have di:=ae.mk (Kd.iF (by (with_reducible repeat (first|apply Kd.dn|apply Kd.dA|apply Kd.dQ));exact nV.out) hb);have dm:=ae.mk (Kd.iF (by (with_reducible repeat (first|apply Kd.dn|apply Kd.dA|apply Kd.dQ));exact kU.out) hb);have dE:=ae.mk (Kd.iF (by (with_reducible repeat (first|apply Kd.dn|apply Kd.dA|apply Kd.dQ));exact xA.out) hb);have gq:=ae.mk (Kd.iF (by (with_reducible repeat (first|apply Kd.dn|apply Kd.dA|apply Kd.dQ));exact xy.out) hb);have jC:=ae.mk (aV (g:=kD) (o:=.cells #[.slice xq t163.length vW,.string t166,.string t167,.slice (some wC) t168.length yz] 25 (0,0)) (by (with_reducible repeat (first|refine au ?_ _|refine ay ?_|refine ak ?_ _));exact jT.out) hb);have lN:=ae.mk (aV (g:=gJ) (o:=.cells #[.slice uU t176.length uP,.string t179,.string t180,.slice sJ t181.length sG] 25 (0,0)) (by (with_reducible repeat (first|refine au ?_ _|refine ay ?_|refine ak ?_ _));exact mX.out) hb);have nC:=ae.mk (aQ (by repeat (first|(with_reducible first|exact HB.out|apply aj|apply af|apply ai|refine az ?_ vw.out|refine az ?_ ML.out)|exact HB.out)) hb);clear nV;clear kU;clear xA;clear xy;clear jT;clear mX;clear HB;have nV:=di;have kU:=dm;have xA:=dE;have xy:=gq;have jT:=jC;have mX:=lN;have HB:=nC;clear di dm dE gq jC lN nC;(try clear hb);(try clear hb2);(try clear hk);(try clear hi)))
                      go_ret
                      exact ⟨by first|rfl|(simp [bH,bG] <;> rfl)|(simp [*,bH,bG] <;> rfl),by repeat (first|(with_reducible first|exact HB.out|apply aj|apply af|apply ai|refine az ?_ vw.out|refine az ?_ ML.out)|exact HB.out)⟩
                    · have q1:=wB A1.out;simp only [Prod.mk.injEq] at q1;obtain ⟨e1,e2,e3,e4,e5,e6⟩:=q1;exact absurd (Vs (by have q5:=A13.out;rw [e4] at q5;exact q5)) c14
                  · have q4:=Hq A3.out;simp only [Prod.mk.injEq] at q4;exact absurd q4.2 c12
                · have q4:=Hq A3.out;simp only [Prod.mk.injEq] at q4;exact absurd q4.1 c11
              · have q1:=wB A1.out;simp only [Prod.mk.injEq] at q1;obtain ⟨e1,e2,e3,e4,e5,e6⟩:=q1;have q2:=A2.out;rw [e1,e2,e3,e4] at q2;have q3:=QI q2;simp only [Prod.mk.injEq] at q3;exact absurd (by rw [q3.1];decide +kernel) c10
            · have q1:=wB A1.out;simp only [Prod.mk.injEq] at q1;obtain ⟨e1,e2,e3,e4,e5,e6⟩:=q1;have q2:=A2.out;rw [e1,e2,e3,e4] at q2;have q3:=QI q2;simp only [Prod.mk.injEq] at q3;exact absurd q3.2 c9
          · have q1:=wB A1.out;simp only [Prod.mk.injEq] at q1;obtain ⟨e1,e2,e3,e4,e5,e6⟩:=q1;exact absurd (by rw [e4];decide +kernel) c8
        · have q1:=wB A1.out;simp only [Prod.mk.injEq] at q1;obtain ⟨e1,e2,e3,e4,e5,e6⟩:=q1;exact absurd (by rw [e4];decide) c7
      · have q1:=wB A1.out;simp only [Prod.mk.injEq] at q1;obtain ⟨e1,e2,e3,e4,e5,e6⟩:=q1;exact absurd (by rw [e4];rfl) c6
    · have q1:=wB A1.out;simp only [Prod.mk.injEq] at q1;obtain ⟨e1,e2,e3,e4,e5,e6⟩:=q1;exact absurd e5 c5
  · have q1:=wB A1.out;simp only [Prod.mk.injEq] at q1;obtain ⟨e1,e2,e3,e4,e5,e6⟩:=q1;exact absurd e6 c4
def bP.l0:Nat→Int→List ByteArray→Int→Int→List ByteArray→ByteArray→ByteArray→List (jZ)→Option (Bool)
  | 0,_,_,_,_,_,_,_,_=>none
  | k+1,x3,x14,x15,x16,Ro,Rn,Rl,Jp=>if x16 < x15 then (if 0≤x16 then (if x16 < (x14.length:Int) then (bP.l0 k (wrap64 (x3+(wrap64 (((gI ByteArray.empty x14 x16).size:Int)+1)))) x14 x15 (wrap64 (x16+1)) Ro Rn Rl Jp) else (none)) else (none)) else (if x3≤500 then (some (decide ((Jp.length:Int)≤210))) else (some false))
def bP.f (k:Nat) (bD:List ByteArray) (aY:ByteArray) (aX:ByteArray) (aW:List (jZ)):Option (Bool):=bP.l0 k (wrap64 ((aY.size:Int)+(aX.size:Int))) bD (bD.length:Int) 0 bD aY aX aW
theorem bP.gY:∀ k,(∀ y0 y1 y2 y3 y4 y5 y6 y7,dH (bP.l0 k y0 y1 y2 y3 y4 y5 y6 y7) (bP.l0 (k+1) y0 y1 y2 y3 y4 y5 y6 y7))
  | 0=>fun _ _ _ _ _ _ _ _ r h=>by simp [bP.l0] at h
  | k+1=>by
    have jK:=bP.gY k
    · intro y0 y1 y2 y3 y4 y5 y6 y7
      unfold bP.l0
      repeat' first
      | (with_reducible exact jK _ _ _ _ _ _ _ _)
      | (with_reducible exact dH.refl _)
      | (with_reducible exact dH.none _)
      | (with_reducible refine dH.ite ?_ ?_)
      | (with_reducible refine dH.bind ?_ (fun _=>?_))
      | exact jK _ _ _ _ _ _ _ _
      | exact dH.none _
      | refine dH.ite ?_ ?_
      | refine dH.bind ?_ (fun _=>?_)
theorem bP.mono:∀ a0 a1 a2 a3 k,dH (bP.f k a0 a1 a2 a3) (bP.f (k+1) a0 a1 a2 a3):=by
  intro a0 a1 a2 a3 k
  have jK:=bP.gY k
  unfold bP.f
  repeat' first
      | (with_reducible exact jK _ _ _ _ _ _ _ _)
      | (with_reducible exact dH.refl _)
      | (with_reducible exact dH.none _)
      | (with_reducible refine dH.ite ?_ ?_)
      | (with_reducible refine dH.bind ?_ (fun _=>?_))
      | exact jK _ _ _ _ _ _ _ _
      | exact dH.none _
      | refine dH.ite ?_ ?_
      | refine dH.bind ?_ (fun _=>?_)
set_option maxHeartbeats 8000000 in
set_option maxRecDepth 100000 in
theorem bP.calls (k:Nat) (dO:Option Addr) (dK:Nat) (bD:List ByteArray) (aY:ByteArray) (aX:ByteArray) (dV:Option Addr) (dJ:Nat) (aW:List (jZ)) (r:Bool) (w:World) (qG:Kd.C Kd.string w dO bD.length bD) (qJ:bD.length≤dK) (qF:Kd.C k27 w dV aW.length aW) (qI:aW.length≤dJ) (h:bP.f k bD aY aX aW=some r) :
    Calls Tryz.prog 8 #[.agg #[.slice dO bD.length dK,.string aY,.string aX,.slice dV aW.length dJ]] w fun e w'=>e=.returned (.bool r)∧Below w.heap.size w w':=by
  have Nw:=Tryz.underlying25
  have kZ:=ae.mk qG
  have qj:=ae.mk qJ
  clear qG qJ
  have ny:=ae.mk qF
  have qi:=ae.mk qI
  clear qF qI
  have HB:=ae.mk (Below.refl w.heap.size w)
  have H:(bP.l0 k (wrap64 ((aY.size:Int)+(aX.size:Int))) bD (bD.length:Int) 0 bD aY aX aW)=some r:=h
  clear h
  have H':=ae.mk H
  clear H
  go_enter Tryz.func8,Tryz.ntmps8
  go_wp2_with (first|((with_reducible refine eQ (N:=1) rfl ?_);(try (refine mY (by rfl) ?_;dsimp only));refine fF ?hg (N:=1) ?hd (cs:=#[.slice dO bD.length dK,.string aY,.string aX,.slice dV aW.length dJ]) (t:=25) ?hr ?_;(case hd=>rfl);(case hg=>rfl);(case hr=>first|(go_simp;done)|(go_simp;rfl));intro vS hg w2 hbox hb;have di:=ae.mk (aQ (by repeat (first|(with_reducible first|exact HB.out|apply aj|apply af|apply ai)|exact HB.out)) hb);have dm:=ae.mk (hbox);have dE:=ae.mk ((by rw [hg];exact (bn (by repeat (first|(with_reducible first|exact HB.out|apply aj|apply af|apply ai)|exact HB.out))):w.heap.size≤vS));have gq:=ae.mk ((by rw [hg];exact (bn (by repeat (first|(with_reducible first|exact HB.out|apply aj|apply af|apply ai)|exact HB.out))):w.heap.size≤vS));clear HB;have HB:=di;have ql:=dm;have ahK:=dE;have MK:=gq;clear di dm dE gq;clear hb hbox hg;have EK:w2.cell? ⟨vS,0,none⟩=some (.slice dO bD.length dK):=(ah ql.out 0).trans rfl;have EJ:w2.cell? ⟨vS,1,none⟩=some (.string aY):=(ah ql.out 1).trans rfl;have EI:w2.cell? ⟨vS,2,none⟩=some (.string aX):=(ah ql.out 2).trans rfl;have EH:w2.cell? ⟨vS,3,none⟩=some (.slice dV aW.length dJ):=(ah ql.out 3).trans rfl;have Eu:=ax ql.out 0;have Et:=ax ql.out 1;have Es:=ax ql.out 2;have Ep:=ax ql.out 3))
  go_loopg [3,16] k (fun kq v3 v16 w'=>∃ (eU:Int) (rO:Int),v3=.int .i64 eU∧v16=.int .i64 rO∧ae (bP.l0 kq eU bD (bD.length:Int) rO bD aY aX aW=some r)∧ae (kq≤k)∧ae (w'.heap[vS]? = some (.cells #[(.slice dO bD.length dK),.string aY,.string aX,(.slice dV aW.length dJ)] 25 (0,0)))∧ae (Below w.heap.size w w'))
  case atStart=>exact ⟨(wrap64 ((aY.size:Int)+(aX.size:Int))),(0),(by first|rfl|(simp;done)|(simp [*];done)),(by first|rfl|(simp;done)|(simp [*];done)),H',⟨Nat.le_refl _⟩,⟨by (with_reducible repeat (first|refine au ?_ _|refine ay ?_|refine ak ?_ _));exact ql.out⟩,⟨by repeat (first|(with_reducible first|exact HB.out|apply aj|apply af|apply ai|refine az ?_ MK.out)|exact HB.out)⟩⟩
  case round =>
    clear H'
    try clear p2
    try clear EK
    try clear EJ
    try clear EI
    try clear EH
    try clear Eu
    try clear Et
    try clear Es
    try clear Ep
    obtain ⟨eU,rO,rfl,rfl,HA,nZ,ql,HB⟩:=hrel
    cases gk with
    | zero=>exact absurd HA.out (by simp [bP.l0])
    | succ k1 =>
      have H:=HA.out
      clear HA
      simp only [bP.l0] at H
      by_cases c4:rO < (bD.length:Int)
      · rw [if_pos c4] at H
        have rF:decide (rO < (bD.length:Int))=true:=decide_eq_true c4
        clear c4
        by_cases c5:0≤rO
        · rw [if_pos c5] at H
          have xm:decide (0≤rO)=true:=decide_eq_true c5
          clear c5
          by_cases c6:rO < (bD.length:Int)
          · rw [if_pos c6] at H
            have qW:decide (rO < (bD.length:Int))=true:=decide_eq_true c6
            clear c6
            have H':=ae.mk H
            clear H
            have Xg:0≤(rO:Int):=of_decide_eq_true (by first|(with_reducible assumption)|assumption)
            have WX:rO < (bD.length:Int):=of_decide_eq_true (by first|(with_reducible assumption)|assumption)
            obtain ⟨ahu,afI,Eh⟩:=Kd.gB kZ.out rO Xg WX
            cases afI
            replace Eh:=(HB.out.cell (World.block_lt_of_cell? w _ Eh)).trans Eh
            replace Xg:=eq_true Xg
            replace WX:=eq_true WX
            go_wp2
            go_roundg k1
            case measure=>have:=nZ.out;omega
            case rel=>exact ⟨(wrap64 (eU+(wrap64 (((gI ByteArray.empty bD rO).size:Int)+1)))),(wrap64 (rO+1)),(by first|rfl|(simp;done)|(simp [*];done)),(by first|rfl|(simp;done)|(simp [*];done)),H',⟨by have:=nZ.out;omega⟩,⟨by (with_reducible repeat (first|refine au ?_ _|refine ay ?_|refine ak ?_ _));exact ql.out⟩,⟨by repeat (first|(with_reducible first|exact HB.out|apply aj|apply af|apply ai|refine az ?_ MK.out)|exact HB.out)⟩⟩
          · rw [if_neg c6] at H
            exact absurd H (by simp)
        · rw [if_neg c5] at H
          exact absurd H (by simp)
      · rw [if_neg c4] at H
        have rF:decide (rO < (bD.length:Int))=false:=decide_eq_false c4
        clear c4
        by_cases c7:eU≤500
        · rw [if_pos c7] at H
          have nX:decide (eU≤500)=true:=decide_eq_true c7
          clear c7
          obtain rfl:=Option.some.inj H
          have IQ:wr.cell? ⟨vS,0,none⟩=some (.slice dO bD.length dK):=(ah ql.out 0).trans rfl
          have IP:wr.cell? ⟨vS,1,none⟩=some (.string aY):=(ah ql.out 1).trans rfl
          have IM:wr.cell? ⟨vS,2,none⟩=some (.string aX):=(ah ql.out 2).trans rfl
          have IL:wr.cell? ⟨vS,3,none⟩=some (.slice dV aW.length dJ):=(ah ql.out 3).trans rfl
          have IK:=ax ql.out 0
          have IJ:=ax ql.out 1
          have II:=ax ql.out 2
          have IG:=ax ql.out 3
          go_wp2
          go_ret
          exact ⟨by first|rfl|(simp [bH,bG] <;> rfl)|(simp [*,bH,bG] <;> rfl),by repeat (first|(with_reducible first|exact HB.out|apply aj|apply af|apply ai|refine az ?_ MK.out)|exact HB.out)⟩
        · rw [if_neg c7] at H
          have nX:decide (eU≤500)=false:=decide_eq_false c7
          clear c7
          obtain rfl:=Option.some.inj H
          go_wp2
          go_ret
          exact ⟨by first|rfl|(simp [bH,bG] <;> rfl)|(simp [*,bH,bG] <;> rfl),by repeat (first|(with_reducible first|exact HB.out|apply aj|apply af|apply ai|refine az ?_ MK.out)|exact HB.out)⟩
end Go.Proofs.YtkclndkbccbhaaaGreatDoor.P
end
section
namespace Go.Proofs.YtkclndkbccbhaaaGreatDoor.P
open Go Go.RowKit Go.Proofs.ag.bJ Go.Proofs.ag.eX Go.Proofs.ag.gp
theorem QH:Ev (fun k=>dU.f k) true:=by
  have h:dU.f 300=some true:=by kernel_rfl
  exact Ev.of dU.mono h
def sumW:Int→List ByteArray→Int
  | a,[]=>a
  | a,s :: r=>sumW (wrap64 (a+wrap64 ((s.size:Int)+1))) r
def Ve (ts:List ByteArray) (lo gl:ByteArray) (cs:List jZ):Bool:=decide (sumW (wrap64 ((lo.size:Int)+(gl.size:Int))) ts≤500) && decide (cs.length≤210)
theorem Qi (ts:List ByteArray) (lo gl:ByteArray) (cs:List jZ) (ht:ts.length≤140737488355328):∀ (d i:Nat) (a:Int),i+d=ts.length →
    Ev (fun k=>bP.l0 k a ts ((ts.length:Nat):Int) (i:Int) ts lo gl cs) (decide (sumW a (ts.drop i)≤500) && decide (cs.length≤210))
  | 0,i,a,hi=>by
    refine Ev.step (f:=fun _=>some _) (fun k=>?_) (Ev.now _)
    simp only [bP.l0]
    rw [if_neg (by omega),List.drop_eq_nil_of_le (by omega)]
    unfold sumW
    by_cases h:a≤500
    · rw [if_pos h,decide_eq_true h,Bool.true_and]
      congr 2
      exact propext (by omega)
    · rw [if_neg h,decide_eq_false h,Bool.false_and]
  | d+1,i,a,hi=>by
    have hlt:i < ts.length:=by omega
    have ih:=Qi ts lo gl cs ht d (i+1) (wrap64 (a+wrap64 (((ts[i]).size:Int)+1))) (by omega)
    rw [List.drop_eq_getElem_cons hlt]
    unfold sumW
    refine Ev.step (fun k=>?_) ih
    conv=>lhs;simp only [bP.l0]
    rw [if_pos (by omega),if_pos (by omega),if_pos (by omega),vN ts i hlt,jA i (by omega)]
theorem XO (ts:List ByteArray) (lo gl:ByteArray) (cs:List jZ) (ht:ts.length≤140737488355328):Ev (fun k=>bP.f k ts lo gl cs) (Ve ts lo gl cs):=by
  have h:=Qi ts lo gl cs ht ts.length 0 (wrap64 ((lo.size:Int)+(gl.size:Int))) (Nat.zero_add _)
  rw [List.drop_zero] at h
  exact h
theorem JB:∀ (ts:List ByteArray) (a:Nat),(∀ s ∈ ts,s.size≤30)→a+31 * ts.length≤9000000000000000000→sumW (a:Int) ts=((a+sizes ts:Nat):Int)
  | [],a,_,_=>by simp [sumW,sizes]
  | s :: r,a,h,hl=>by
    have hs:=h s (List.mem_cons_self ..)
    rw [List.length_cons] at hl
    unfold sumW
    rw [show wrap64 ((s.size:Int)+1)=((s.size+1:Nat):Int) from by unfold wrap64;omega,show wrap64 ((a:Int)+((s.size+1:Nat):Int))=((a+(s.size+1):Nat):Int) from by unfold wrap64;omega,
      JB r (a+(s.size+1)) (fun x hx=>h x (List.mem_cons_of_mem _ hx)) (by omega),Ad,Nat.add_assoc]
theorem NT {ts:List ByteArray} {lo gl:ByteArray} {cs:List jZ} (ht:ts.length≤140737488355328) (hk:OkP ts lo gl cs) {cs':List jZ} (h:Ve ts lo gl cs'=true):sizes ts≤500:=by
  have a:=wO hk.lok
  have b:=wO hk.gok
  rw [← size_data] at a b
  unfold Ve at h
  rw [show wrap64 ((lo.size:Int)+(gl.size:Int))=((lo.size+gl.size:Nat):Int) from by unfold wrap64;omega,JB ts _ (fun s hs=>by rw [size_data];exact wO (Gg (hk.typ s hs)).1) (by omega)] at h
  simp only [Bool.and_eq_true,decide_eq_true_eq] at h
  omega
theorem printed {ts:List ByteArray} {lo gl:ByteArray} {cs:List jZ} (ht:ts.length≤140737488355328) (hc:cs.length≤140737488355328) (hw:Wf cs) (hs:vP ts lo gl cs=true→sizes ts≤500) :
    Ev (fun k=>bI.f k ts lo gl cs) (if vP ts lo gl cs=true then (zX ts lo gl cs,0) else (⟨#[]⟩,2)) :=
  OO ts lo gl cs ht hc hw fun h=>by
    have hk:=Az.1 h
    refine ⟨?_,SG hk hw (hs h)⟩
    have:=wI ts hk.typ
    have:=hs h
    omega
end Go.Proofs.YtkclndkbccbhaaaGreatDoor.P
end
