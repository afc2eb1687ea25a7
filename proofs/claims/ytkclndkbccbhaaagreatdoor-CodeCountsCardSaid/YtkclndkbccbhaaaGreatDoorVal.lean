/- Parts of the proof of CodeCounts: what the functions that it reaches compute, and plain facts about that. -/
import Derived.Test.YtkclndkbccbhaaaGreatDoorVac
import Derived.Test.YtkclndkbccbhaaaGreatDoorVad
import Derived.Test.YtkclndkbccbhaaaGreatDoorVaf
import Derived.Test.YtkclndkbccbhaaaGreatDoorVag
import Derived.Test.YtkclndkbccbhaaaGreatDoorVaj
import Derived.Test.YtkclndkbccbhaaaGreatDoorVak
set_option linter.unusedVariables false
set_option linter.unusedSimpArgs false
section
namespace Go.Proofs.YtkclndkbccbhaaaGreatDoor.P
open Go.RowKit Go.Proofs.ae.aX Go.Proofs.ae.dh Go.Proofs.ae.dI
attribute [local go_sem] iY iV jL jK iy iw iW iU
attribute [local go_sem high] IX
def bT.f (k:Nat) :Option (Bool):=(dS.f k (⟨#[116,121,112,101,32,105,10,108,111,99,97,108,115,32,48,10,103,108,111,98,97,108,115,32,45,10,110,101,119,32,48,10,115,116,111,114,101,105,32,48,32,48,32,51,10]⟩:ByteArray)).bind fun gI=>((aU.f k gI.1 gI.2.1 gI.2.2.1 gI.2.2.2.1).bind fun uD=>((dS.f k (⟨#[108,111,99,97,108,115,32,48,10]⟩:ByteArray)).bind fun qg=>(if gI.2.2.2.2.2=0 then (if gI.2.2.2.2.1=0 then (if (gI.2.2.2.1.length:Int)=2 then (if 1 < (gI.2.2.2.1.length:Int) then (if (((aQ gI.2.2.2.1 1).f0) == 9 && (((aQ gI.2.2.2.1 1).f1) == 0 && (((aQ gI.2.2.2.1 1).f2) == 3 && (((aQ gI.2.2.2.1 1).f3) == 0 && (((aQ gI.2.2.2.1 1).f4) == 0)))))=true then (if uD.2=0 then (if uD.1.toList=([116,121,112,101,32,105,10,108,111,99,97,108,115,32,48,10,103,108,111,98,97,108,115,32,45,10,110,101,119,32,48,10,115,116,111,114,101,105,32,48,32,48,32,51,10]:List UInt8) then (if qg.2.2.2.2.1=2 then (if qg.2.2.2.2.2=4 then ((dD.f ((aQ gI.2.2.2.1 1).f0) ((aQ gI.2.2.2.1 1).f1) ((aQ gI.2.2.2.1 1).f2) ((aQ gI.2.2.2.1 1).f3) ((aQ gI.2.2.2.1 1).f4)).bind fun t189=>(if t189=true then ((dD.f 0 0 0 0 0).bind fun t190=>(some (!t190))) else (some false))) else (some false)) else (some false)) else (some false)) else (some false)) else (some false)) else (none)) else (some false)) else (some false)) else (some false))))
theorem CU {α:Type} {g:Nat→Option α} {a b:α} (hg:∀ k,bM (g k) (g (k+1))) {k k':Nat} (h:g k=some a) (h':g k'=some b):a=b:=by
  obtain ⟨K,hK⟩:=Ev.of hg h
  obtain ⟨K',hK'⟩:=Ev.of hg h'
  exact Option.some.inj ((hK (max K K') (Nat.le_max_left _ _)).symm.trans (hK' _ (Nat.le_max_right _ _)))
theorem qh {k:Nat} {r:List ByteArray × ByteArray × ByteArray × List iQ × Int × Int} (h:dS.f k (⟨#[116,121,112,101,32,105,10,108,111,99,97,108,115,32,48,10,103,108,111,98,97,108,115,32,45,10,110,101,119,32,48,10,115,116,111,114,101,105,32,48,32,48,32,51,10]⟩:ByteArray)=some r):r=(([⟨#[105]⟩]:List ByteArray),(⟨#[48]⟩:ByteArray),(⟨#[]⟩:ByteArray),([⟨5,0,0,0,0⟩,⟨9,0,3,0,0⟩]:List iQ),0,0) :=
  CU (fun q=>dS.mono _ q) h (show dS.f 300 (⟨#[116,121,112,101,32,105,10,108,111,99,97,108,115,32,48,10,103,108,111,98,97,108,115,32,45,10,110,101,119,32,48,10,115,116,111,114,101,105,32,48,32,48,32,51,10]⟩:ByteArray)=some (([⟨#[105]⟩]:List ByteArray),(⟨#[48]⟩:ByteArray),(⟨#[]⟩:ByteArray),([⟨5,0,0,0,0⟩,⟨9,0,3,0,0⟩]:List iQ),0,0) by kernel_rfl)
theorem Jm {k:Nat} {r:ByteArray × Int} (h:aU.f k ([⟨#[105]⟩]:List ByteArray) (⟨#[48]⟩:ByteArray) (⟨#[]⟩:ByteArray) ([⟨5,0,0,0,0⟩,⟨9,0,3,0,0⟩]:List iQ)=some r):r=((⟨#[116,121,112,101,32,105,10,108,111,99,97,108,115,32,48,10,103,108,111,98,97,108,115,32,45,10,110,101,119,32,48,10,115,116,111,114,101,105,32,48,32,48,32,51,10]⟩:ByteArray),0) :=
  CU (fun q=>aU.mono _ _ _ _ q) h (show aU.f 300 ([⟨#[105]⟩]:List ByteArray) (⟨#[48]⟩:ByteArray) (⟨#[]⟩:ByteArray) ([⟨5,0,0,0,0⟩,⟨9,0,3,0,0⟩]:List iQ)=some ((⟨#[116,121,112,101,32,105,10,108,111,99,97,108,115,32,48,10,103,108,111,98,97,108,115,32,45,10,110,101,119,32,48,10,115,116,111,114,101,105,32,48,32,48,32,51,10]⟩:ByteArray),0) by kernel_rfl)
theorem Bo {k:Nat} {r:List ByteArray × ByteArray × ByteArray × List iQ × Int × Int} (h:dS.f k (⟨#[108,111,99,97,108,115,32,48,10]⟩:ByteArray)=some r):r.2.2.2.2=(2,4):=by
  rw [CU (fun q=>dS.mono _ q) h (show dS.f 300 (⟨#[108,111,99,97,108,115,32,48,10]⟩:ByteArray)=some ([],(⟨#[]⟩:ByteArray),(⟨#[]⟩:ByteArray),[],2,4) by kernel_rfl)]
theorem MH {r:Bool} (h:dD.f 9 0 3 0 0=some r):r=true:=Option.some.inj (h.symm.trans (show dD.f 9 0 3 0 0=some true by kernel_rfl))
theorem bT.mono:∀ k,bM (bT.f k ) (bT.f (k+1) ):=by
  intro  k
  unfold bT.f
  repeat' first
      | (with_reducible exact dS.mono _ _)
      | (with_reducible exact aU.mono _ _ _ _ _)
      | (with_reducible exact bM.refl _)
      | (with_reducible exact bM.none _)
      | (with_reducible refine bM.ite ?_ ?_)
      | (with_reducible refine bM.bind ?_ (fun _=>?_))
      | exact dS.mono _ _
      | exact aU.mono _ _ _ _ _
      | exact bM.none _
      | refine bM.ite ?_ ?_
      | refine bM.bind ?_ (fun _=>?_)
set_option maxHeartbeats 8000000 in
set_option maxRecDepth 100000 in
theorem bT.calls (k:Nat)  (r:Bool) (w:World) (iC:Kd.C pK w pM jO.length jO) (h:bT.f k =some r) :
    Calls Tryz.prog 7 #[] w fun e w'=>e=.returned (.bool r)∧Below w.heap.size w w':=by
  have KJ:=Tryz.underlying25
  have PY:=Tryz.underlying27
  have uo:=af.mk iC
  clear iC
  have HB:=af.mk (Below.refl w.heap.size w)
  have H:((dS.f k (⟨#[116,121,112,101,32,105,10,108,111,99,97,108,115,32,48,10,103,108,111,98,97,108,115,32,45,10,110,101,119,32,48,10,115,116,111,114,101,105,32,48,32,48,32,51,10]⟩:ByteArray)).bind fun gI=>((aU.f k gI.1 gI.2.1 gI.2.2.1 gI.2.2.2.1).bind fun uD=>((dS.f k (⟨#[108,111,99,97,108,115,32,48,10]⟩:ByteArray)).bind fun qg=>(if gI.2.2.2.2.2=0 then (if gI.2.2.2.2.1=0 then (if (gI.2.2.2.1.length:Int)=2 then (if 1 < (gI.2.2.2.1.length:Int) then (if (((aQ gI.2.2.2.1 1).f0) == 9 && (((aQ gI.2.2.2.1 1).f1) == 0 && (((aQ gI.2.2.2.1 1).f2) == 3 && (((aQ gI.2.2.2.1 1).f3) == 0 && (((aQ gI.2.2.2.1 1).f4) == 0)))))=true then (if uD.2=0 then (if uD.1.toList=([116,121,112,101,32,105,10,108,111,99,97,108,115,32,48,10,103,108,111,98,97,108,115,32,45,10,110,101,119,32,48,10,115,116,111,114,101,105,32,48,32,48,32,51,10]:List UInt8) then (if qg.2.2.2.2.1=2 then (if qg.2.2.2.2.2=4 then ((dD.f ((aQ gI.2.2.2.1 1).f0) ((aQ gI.2.2.2.1 1).f1) ((aQ gI.2.2.2.1 1).f2) ((aQ gI.2.2.2.1 1).f3) ((aQ gI.2.2.2.1 1).f4)).bind fun t189=>(if t189=true then ((dD.f 0 0 0 0 0).bind fun t190=>(some (!t190))) else (some false))) else (some false)) else (some false)) else (some false)) else (some false)) else (some false)) else (none)) else (some false)) else (some false)) else (some false)))))=some r:=h
  clear h
  replace H:=Option.bind_eq_some_iff.mp H
  obtain ⟨⟨t163,t166,t167,t168,t171,t172⟩,Vx,H⟩:=H
  replace H:((aU.f k t163 t166 t167 t168).bind fun uD=>((dS.f k (⟨#[108,111,99,97,108,115,32,48,10]⟩:ByteArray)).bind fun qg=>(if t172=0 then (if t171=0 then (if (t168.length:Int)=2 then (if 1 < (t168.length:Int) then (if (((aQ t168 1).f0) == 9 && (((aQ t168 1).f1) == 0 && (((aQ t168 1).f2) == 3 && (((aQ t168 1).f3) == 0 && (((aQ t168 1).f4) == 0)))))=true then (if uD.2=0 then (if uD.1.toList=([116,121,112,101,32,105,10,108,111,99,97,108,115,32,48,10,103,108,111,98,97,108,115,32,45,10,110,101,119,32,48,10,115,116,111,114,101,105,32,48,32,48,32,51,10]:List UInt8) then (if qg.2.2.2.2.1=2 then (if qg.2.2.2.2.2=4 then ((dD.f ((aQ t168 1).f0) ((aQ t168 1).f1) ((aQ t168 1).f2) ((aQ t168 1).f3) ((aQ t168 1).f4)).bind fun t189=>(if t189=true then ((dD.f 0 0 0 0 0).bind fun t190=>(some (!t190))) else (some false))) else (some false)) else (some false)) else (some false)) else (some false)) else (some false)) else (none)) else (some false)) else (some false)) else (some false))))=some r:=H
  have A1:=af.mk Vx
  clear Vx
  replace H:=Option.bind_eq_some_iff.mp H
  obtain ⟨⟨t174,t175⟩,NR,H⟩:=H
  replace H:((dS.f k (⟨#[108,111,99,97,108,115,32,48,10]⟩:ByteArray)).bind fun qg=>(if t172=0 then (if t171=0 then (if (t168.length:Int)=2 then (if 1 < (t168.length:Int) then (if (((aQ t168 1).f0) == 9 && (((aQ t168 1).f1) == 0 && (((aQ t168 1).f2) == 3 && (((aQ t168 1).f3) == 0 && (((aQ t168 1).f4) == 0)))))=true then (if t175=0 then (if t174.toList=([116,121,112,101,32,105,10,108,111,99,97,108,115,32,48,10,103,108,111,98,97,108,115,32,45,10,110,101,119,32,48,10,115,116,111,114,101,105,32,48,32,48,32,51,10]:List UInt8) then (if qg.2.2.2.2.1=2 then (if qg.2.2.2.2.2=4 then ((dD.f ((aQ t168 1).f0) ((aQ t168 1).f1) ((aQ t168 1).f2) ((aQ t168 1).f3) ((aQ t168 1).f4)).bind fun t189=>(if t189=true then ((dD.f 0 0 0 0 0).bind fun t190=>(some (!t190))) else (some false))) else (some false)) else (some false)) else (some false)) else (some false)) else (some false)) else (none)) else (some false)) else (some false)) else (some false)))=some r:=H
  have A2:=af.mk NR
  clear NR
  replace H:=Option.bind_eq_some_iff.mp H
  obtain ⟨⟨t176,t179,t180,t181,t184,t185⟩,BI,H⟩:=H
  replace H:(if t172=0 then (if t171=0 then (if (t168.length:Int)=2 then (if 1 < (t168.length:Int) then (if (((aQ t168 1).f0) == 9 && (((aQ t168 1).f1) == 0 && (((aQ t168 1).f2) == 3 && (((aQ t168 1).f3) == 0 && (((aQ t168 1).f4) == 0)))))=true then (if t175=0 then (if t174.toList=([116,121,112,101,32,105,10,108,111,99,97,108,115,32,48,10,103,108,111,98,97,108,115,32,45,10,110,101,119,32,48,10,115,116,111,114,101,105,32,48,32,48,32,51,10]:List UInt8) then (if t184=2 then (if t185=4 then ((dD.f ((aQ t168 1).f0) ((aQ t168 1).f1) ((aQ t168 1).f2) ((aQ t168 1).f3) ((aQ t168 1).f4)).bind fun t189=>(if t189=true then ((dD.f 0 0 0 0 0).bind fun t190=>(some (!t190))) else (some false))) else (some false)) else (some false)) else (some false)) else (some false)) else (some false)) else (none)) else (some false)) else (some false)) else (some false))=some r:=H
  have A3:=af.mk BI
  clear BI
  by_cases c4:t172=0
  · rw [if_pos c4] at H
    have Jb:(t172 == 0)=true:=beq_iff_eq.mpr c4
    have YG:(t172 != 0)=false:=bne_eq_false_iff_eq.mpr c4
    clear c4
    by_cases c5:t171=0
    · rw [if_pos c5] at H
      have sK:(t171 == 0)=true:=beq_iff_eq.mpr c5
      have OT:(t171 != 0)=false:=bne_eq_false_iff_eq.mpr c5
      clear c5
      by_cases c6:(t168.length:Int)=2
      · rw [if_pos c6] at H
        have uh:((t168.length:Int) == 2)=true:=beq_iff_eq.mpr c6
        have MB:((t168.length:Int) != 2)=false:=bne_eq_false_iff_eq.mpr c6
        clear c6
        by_cases c7:1 < (t168.length:Int)
        · rw [if_pos c7] at H
          have uK:decide (1 < (t168.length:Int))=true:=decide_eq_true c7
          have F8:decide (1 < t168.length)=true:=decide_eq_true (by omega)
          clear c7
          by_cases c8:(((aQ t168 1).f0) == 9 && (((aQ t168 1).f1) == 0 && (((aQ t168 1).f2) == 3 && (((aQ t168 1).f3) == 0 && (((aQ t168 1).f4) == 0)))))=true
          · rw [if_pos c8] at H
            have CW:(((aQ t168 1).f0) == 9 && (((aQ t168 1).f1) == 0 && (((aQ t168 1).f2) == 3 && (((aQ t168 1).f3) == 0 && (((aQ t168 1).f4) == 0)))))=true:=c8
            (try (have YF:decide (((aQ t168 1).f0)=9 && (((aQ t168 1).f1) == 0 && (((aQ t168 1).f2) == 3 && (((aQ t168 1).f3) == 0 && (((aQ t168 1).f4) == 0)))))=true:=by simpa using c8))
            (try (have YE:(((aQ t168 1).f0) == 9 && (((aQ t168 1).f1) == 0 && (((aQ t168 1).f2) == 3 && (((aQ t168 1).f3) == 0 && (((aQ t168 1).f4) == 0)))))=true:=by simpa using c8))
            clear c8
            by_cases c9:t175=0
            · rw [if_pos c9] at H
              have Ja:(t175 == 0)=true:=beq_iff_eq.mpr c9
              have OQ:(t175 != 0)=false:=bne_eq_false_iff_eq.mpr c9
              clear c9
              by_cases c10:t174.toList=([116,121,112,101,32,105,10,108,111,99,97,108,115,32,48,10,103,108,111,98,97,108,115,32,45,10,110,101,119,32,48,10,115,116,111,114,101,105,32,48,32,48,32,51,10]:List UInt8)
              · rw [if_pos c10] at H
                have wF:(t174.toList == ([116,121,112,101,32,105,10,108,111,99,97,108,115,32,48,10,103,108,111,98,97,108,115,32,45,10,110,101,119,32,48,10,115,116,111,114,101,105,32,48,32,48,32,51,10]:List UInt8))=true:=beq_iff_eq.mpr c10
                have Bi:(t174.toList != ([116,121,112,101,32,105,10,108,111,99,97,108,115,32,48,10,103,108,111,98,97,108,115,32,45,10,110,101,119,32,48,10,115,116,111,114,101,105,32,48,32,48,32,51,10]:List UInt8))=false:=bne_eq_false_iff_eq.mpr c10
                clear c10
                by_cases c11:t184=2
                · rw [if_pos c11] at H
                  have Bh:(t184 == 2)=true:=beq_iff_eq.mpr c11
                  have Jj:(t184 != 2)=false:=bne_eq_false_iff_eq.mpr c11
                  clear c11
                  by_cases c12:t185=4
                  · rw [if_pos c12] at H
                    have Nw:(t185 == 4)=true:=beq_iff_eq.mpr c12
                    have Xz:(t185 != 4)=false:=bne_eq_false_iff_eq.mpr c12
                    clear c12
                    replace H:=Option.bind_eq_some_iff.mp H
                    obtain ⟨t189,RV,H⟩:=H
                    replace H:(if t189=true then ((dD.f 0 0 0 0 0).bind fun t190=>(some (!t190))) else (some false))=some r:=H
                    have XX:=af.mk RV
                    clear RV
                    by_cases c14:t189=true
                    · subst c14
                      have H1:((dD.f 0 0 0 0 0).bind fun t190=>(some (!t190)))=some r:=by rw [if_pos rfl] at H;exact H
                      clear H
                      have H:=H1
                      clear H1
                      replace H:=Option.bind_eq_some_iff.mp H
                      obtain ⟨t190,RU,H⟩:=H
                      replace H:(some (!t190))=some r:=H
                      have YW:=af.mk RU
                      clear RU
                      obtain rfl:=Option.some.inj H
                      go_enter Tryz.func7,Tryz.ntmps7
                      go_wp2_with (first|((with_reducible refine bY (f:=13) rfl ?_);refine eQ (some 12) rfl rfl Tryz.func13 (by kernel_rfl) rfl #[.string (⟨#[116,121,112,101,32,105,10,108,111,99,97,108,115,32,48,10,103,108,111,98,97,108,115,32,45,10,110,101,119,32,48,10,115,116,111,114,101,105,32,48,32,48,32,51,10]⟩:ByteArray)] rfl (by (try simp only [List.map_toArray,List.map_cons,List.map_nil]);first|done|rfl|(simp only [List.length_drop,List.length_take];rfl)) ?_;(with_reducible refine (dS.calls k (⟨#[116,121,112,101,32,105,10,108,111,99,97,108,115,32,48,10,103,108,111,98,97,108,115,32,45,10,110,101,119,32,48,10,115,116,111,114,101,105,32,48,32,48,32,51,10]⟩:ByteArray) t163 t166 t167 t168 t171 t172 _ ?fA A1.out).mono ?_);(case fA=>repeat (first|exact uo.out|(with_reducible refine Kd.eP ?_ _)|(with_reducible refine Kd.eH ?_ _)|(with_reducible refine Kd.gp ?_)));rintro e w16 ⟨v164,Yb,rfl,ho0,ho1,hb⟩;refine ⟨_,rfl,?_⟩;have dM:=af.mk (Kd.gz ho0 (bG (by repeat (first|(with_reducible first|exact HB.out|apply ai|apply ag|apply ah)|exact HB.out))));have dP:=af.mk (Kd.gz ho1 (bG (by repeat (first|(with_reducible first|exact HB.out|apply ai|apply ag|apply ah)|exact HB.out))));have eY:=af.mk (bf (by repeat (first|(with_reducible first|exact HB.out|apply ai|apply ag|apply ah)|exact HB.out)) hb);clear HB;have jV:=dM;have iJ:=dP;have HB:=eY;clear dM dP eY;(try clear hb);(try clear hb2);(try clear hk);(try clear hi);(try clear ho0);(try clear ho1))|((with_reducible refine eu (N:=2) rfl ?_);(try (refine jd (by rfl) ?_;dsimp only));refine iK ?hg (N:=2) ?hd (cs:=#[.slice none 0 0,.string (⟨#[]⟩:ByteArray),.string (⟨#[]⟩:ByteArray),.slice none 0 0]) (t:=25) ?hr ?_;(case hd=>rfl);(case hg=>rfl);(case hr=>first|(go_simp;done)|(go_simp;rfl));intro ig hg Sm hbox hb;have dM:=af.mk (Kd.eG (by (with_reducible repeat (first|apply Kd.bJ|apply Kd.bK|apply Kd.df));exact jV.out) hb);have dP:=af.mk (Kd.eG (by (with_reducible repeat (first|apply Kd.bJ|apply Kd.bK|apply Kd.df));exact iJ.out) hb);have eY:=af.mk (bf (by repeat (first|(with_reducible first|exact HB.out|apply ai|apply ag|apply ah)|exact HB.out)) hb);have iD:=af.mk (hbox);have mZ:=af.mk ((by rw [hg];exact (bG (by repeat (first|(with_reducible first|exact HB.out|apply ai|apply ag|apply ah)|exact HB.out))):w.heap.size≤ig));have vP:=af.mk ((by rw [hg];exact (bG (by repeat (first|(with_reducible first|exact HB.out|apply ai|apply ag|apply ah)|exact HB.out))):w.heap.size≤ig));clear jV;clear iJ;clear HB;have jV:=dM;have iJ:=dP;have HB:=eY;have gK:=iD;have XL:=mZ;have pz:=vP;clear dM dP eY iD mZ vP;clear hb hbox hg;obtain ⟨ql,pF,OL⟩:=Kd.fJ jV.out;subst OL;have Vf:Sm.cell? ⟨ig,0,none⟩=some (.slice none 0 0):=(ak gK.out 0).trans rfl;have Ve:Sm.cell? ⟨ig,1,none⟩=some (.string (⟨#[]⟩:ByteArray)):=(ak gK.out 1).trans rfl;have Vd:Sm.cell? ⟨ig,2,none⟩=some (.string (⟨#[]⟩:ByteArray)):=(ak gK.out 2).trans rfl;have Vb:Sm.cell? ⟨ig,3,none⟩=some (.slice none 0 0):=(ak gK.out 3).trans rfl;have Ub:=ax gK.out 0;have Ua:=ax gK.out 1;have TZ:=ax gK.out 2;have TY:=ax gK.out 3;obtain ⟨wP,sH,We⟩:=Kd.fJ iJ.out;subst We)|((with_reducible refine bY (f:=9) rfl ?_);refine eQ (some 18) rfl rfl Tryz.func9 (by kernel_rfl) rfl #[.agg #[.slice ql t163.length pF,.string t166,.string t167,.slice wP t168.length sH]] rfl (by (try simp only [List.map_toArray,List.map_cons,List.map_nil]);first|done|rfl|(simp only [List.length_drop,List.length_take];rfl)) ?_;(with_reducible refine (aU.calls k _ _ t163 t166 t167 _ _ t168 t174 t175 _ ?fA ?lS ?mW ?mV ?rY A2.out).mono ?_);(case fA=>refine (Kd.fZ (e:=9) (base:=w.heap.size) (ok:=fun k_=>True) (n:=t163.length) (c:=pF) ?_).2.2;exact (by (with_reducible repeat (first|apply Kd.bJ|apply Kd.bK|apply Kd.df));exact (Kd.dH (Kd.iE (p:=⟨ig,3,none⟩) (Kd.iE (p:=⟨ig,2,none⟩) (Kd.iE (p:=⟨ig,1,none⟩) (Kd.iE (p:=⟨ig,0,none⟩) (Kd.gX jV.out gK.out (by decide)) (fun _ hk=>hk.2) (.slice ql t163.length pF)) (fun _ hk=>hk.2) (.string t166)) (fun _ hk=>hk.2) (.string t167)) (fun _ hk=>hk.2) (.slice wP t168.length sH)) (fun _ h_=>h_.1))));(case lS=>exact (Kd.fZ jV.out).2.1);(case mW=>refine (Kd.fZ (e:=27) (base:=w.heap.size) (ok:=fun k_=>True) (n:=t168.length) (c:=sH) ?_).2.2;exact (by (with_reducible repeat (first|apply Kd.bJ|apply Kd.bK|apply Kd.df));exact (Kd.dH (Kd.iE (p:=⟨ig,3,none⟩) (Kd.iE (p:=⟨ig,2,none⟩) (Kd.iE (p:=⟨ig,1,none⟩) (Kd.iE (p:=⟨ig,0,none⟩) (Kd.gX iJ.out gK.out (by decide)) (fun _ hk=>hk.2) (.slice ql t163.length pF)) (fun _ hk=>hk.2) (.string t166)) (fun _ hk=>hk.2) (.string t167)) (fun _ hk=>hk.2) (.slice wP t168.length sH)) (fun _ h_=>h_.1))));(case mV=>exact (Kd.fZ iJ.out).2.1);(case rY=>exact Kd.dB uo.out (by repeat (first|(with_reducible first|exact HB.out|apply ai|apply ag|apply ah|refine az ?_ pz.out)|exact HB.out)));rintro e PI ⟨rfl,hb⟩;refine ⟨_,rfl,?_⟩;have dM:=af.mk (Kd.eG (by (with_reducible repeat (first|apply Kd.bJ|apply Kd.bK|apply Kd.df));exact (Kd.dH (Kd.iE (p:=⟨ig,3,none⟩) (Kd.iE (p:=⟨ig,2,none⟩) (Kd.iE (p:=⟨ig,1,none⟩) (Kd.iE (p:=⟨ig,0,none⟩) (Kd.gX jV.out gK.out (by decide)) (fun _ hk=>hk.2) (.slice ql t163.length pF)) (fun _ hk=>hk.2) (.string t166)) (fun _ hk=>hk.2) (.string t167)) (fun _ hk=>hk.2) (.slice wP t168.length sH)) (fun _ h_=>h_.1))) hb);have dP:=af.mk (Kd.eG (by (with_reducible repeat (first|apply Kd.bJ|apply Kd.bK|apply Kd.df));exact (Kd.dH (Kd.iE (p:=⟨ig,3,none⟩) (Kd.iE (p:=⟨ig,2,none⟩) (Kd.iE (p:=⟨ig,1,none⟩) (Kd.iE (p:=⟨ig,0,none⟩) (Kd.gX iJ.out gK.out (by decide)) (fun _ hk=>hk.2) (.slice ql t163.length pF)) (fun _ hk=>hk.2) (.string t166)) (fun _ hk=>hk.2) (.string t167)) (fun _ hk=>hk.2) (.slice wP t168.length sH)) (fun _ h_=>h_.1))) hb);have eY:=af.mk (bW (g:=ig) (o:=.cells #[.slice ql t163.length pF,.string t166,.string t167,.slice wP t168.length sH] 25 (0,0)) (by (with_reducible repeat (first|refine aC ?_ _|refine aK ?_|refine aG ?_ _));refine eF (cs:=#[.slice ql t163.length pF,.string t166,.string t167,.slice none 0 0]) ?_ 3 _ rfl;(with_reducible repeat (first|refine aC ?_ _|refine aK ?_|refine aG ?_ _));refine eF (cs:=#[.slice ql t163.length pF,.string t166,.string (⟨#[]⟩:ByteArray),.slice none 0 0]) ?_ 2 _ rfl;(with_reducible repeat (first|refine aC ?_ _|refine aK ?_|refine aG ?_ _));refine eF (cs:=#[.slice ql t163.length pF,.string (⟨#[]⟩:ByteArray),.string (⟨#[]⟩:ByteArray),.slice none 0 0]) ?_ 1 _ rfl;(with_reducible repeat (first|refine aC ?_ _|refine aK ?_|refine aG ?_ _));refine eF (cs:=#[.slice none 0 0,.string (⟨#[]⟩:ByteArray),.string (⟨#[]⟩:ByteArray),.slice none 0 0]) ?_ 0 _ rfl;(with_reducible repeat (first|refine aC ?_ _|refine aK ?_|refine aG ?_ _));exact gK.out) hb);have iD:=af.mk (bf (by repeat (first|(with_reducible first|exact HB.out|apply ai|apply ag|apply ah|refine az ?_ pz.out)|exact HB.out)) hb);clear jV;clear iJ;clear gK;clear HB;have jV:=dM;have iJ:=dP;have gK:=eY;have HB:=iD;clear dM dP eY iD;(try clear hb);(try clear hb2);(try clear hk);(try clear hi))|((with_reducible refine bY (f:=13) rfl ?_);refine eQ (some 22) rfl rfl Tryz.func13 (by kernel_rfl) rfl #[.string (⟨#[108,111,99,97,108,115,32,48,10]⟩:ByteArray)] rfl (by (try simp only [List.map_toArray,List.map_cons,List.map_nil]);first|done|rfl|(simp only [List.length_drop,List.length_take];rfl)) ?_;(with_reducible refine (dS.calls k (⟨#[108,111,99,97,108,115,32,48,10]⟩:ByteArray) t176 t179 t180 t181 t184 t185 _ ?fA A3.out).mono ?_);(case fA=>repeat (first|exact (Kd.dB uo.out HB.out)|(with_reducible refine Kd.eP ?_ _)|(with_reducible refine Kd.eH ?_ _)|(with_reducible refine Kd.gp ?_)));rintro e NV ⟨Ya,v182,rfl,ho0,ho1,hb⟩;refine ⟨_,rfl,?_⟩;have dM:=af.mk (Kd.nG (by (with_reducible repeat (first|apply Kd.bJ|apply Kd.bK|apply Kd.df));exact jV.out) (Kd.jS ho0) hb);have dP:=af.mk (Kd.nG (by (with_reducible repeat (first|apply Kd.bJ|apply Kd.bK|apply Kd.df));exact iJ.out) (Kd.jS ho1) hb);have eY:=af.mk (Kd.gz (Kd.ui ho0 (Kd.wJ (by (with_reducible repeat (first|apply Kd.bJ|apply Kd.bK|apply Kd.df));exact jV.out))) (bG (by repeat (first|(with_reducible first|exact HB.out|apply ai|apply ag|apply ah|refine az ?_ pz.out)|exact HB.out))));have iD:=af.mk (Kd.gz (Kd.ui ho1 (Kd.wJ (by (with_reducible repeat (first|apply Kd.bJ|apply Kd.bK|apply Kd.df));exact iJ.out))) (bG (by repeat (first|(with_reducible first|exact HB.out|apply ai|apply ag|apply ah|refine az ?_ pz.out)|exact HB.out))));have mZ:=af.mk (bW (g:=ig) (o:=.cells #[.slice ql t163.length pF,.string t166,.string t167,.slice wP t168.length sH] 25 (0,0)) (by (with_reducible repeat (first|refine aC ?_ _|refine aK ?_|refine aG ?_ _));exact gK.out) hb);have vP:=af.mk (bf (by repeat (first|(with_reducible first|exact HB.out|apply ai|apply ag|apply ah|refine az ?_ pz.out)|exact HB.out)) hb);clear jV;clear iJ;clear gK;clear HB;have jV:=dM;have iJ:=dP;have rf:=eY;have qZ:=iD;have gK:=mZ;have HB:=vP;clear dM dP eY iD mZ vP;(try clear hb);(try clear hb2);(try clear hk);(try clear hi);(try clear ho0);(try clear ho1))|((with_reducible refine eu (N:=7) rfl ?_);(try (refine jd (by rfl) ?_;dsimp only));refine iK ?hg (N:=7) ?hd (cs:=#[.slice none 0 0,.string (⟨#[]⟩:ByteArray),.string (⟨#[]⟩:ByteArray),.slice none 0 0]) (t:=25) ?hr ?_;(case hd=>rfl);(case hg=>rfl);(case hr=>first|(go_simp;done)|(go_simp;rfl));intro dG hg EM hbox hb;have dM:=af.mk (Kd.eG (by (with_reducible repeat (first|apply Kd.bJ|apply Kd.bK|apply Kd.df));exact jV.out) hb);have dP:=af.mk (Kd.eG (by (with_reducible repeat (first|apply Kd.bJ|apply Kd.bK|apply Kd.df));exact iJ.out) hb);have eY:=af.mk (Kd.eG (by (with_reducible repeat (first|apply Kd.bJ|apply Kd.bK|apply Kd.df));exact rf.out) hb);have iD:=af.mk (Kd.eG (by (with_reducible repeat (first|apply Kd.bJ|apply Kd.bK|apply Kd.df));exact qZ.out) hb);have mZ:=af.mk (bW (g:=ig) (o:=.cells #[.slice ql t163.length pF,.string t166,.string t167,.slice wP t168.length sH] 25 (0,0)) (by (with_reducible repeat (first|refine aC ?_ _|refine aK ?_|refine aG ?_ _));exact gK.out) hb);have vP:=af.mk (bf (by repeat (first|(with_reducible first|exact HB.out|apply ai|apply ag|apply ah|refine az ?_ pz.out)|exact HB.out)) hb);have Ak:=af.mk (hbox);have PU:=af.mk ((by rw [hg];exact (bG (by repeat (first|(with_reducible first|exact HB.out|apply ai|apply ag|apply ah|refine az ?_ pz.out)|exact HB.out))):w.heap.size≤dG));have Xa:=af.mk ((by rw [hg];exact (bG (by repeat (first|(with_reducible first|exact HB.out|apply ai|apply ag|apply ah|refine az ?_ pz.out)|exact HB.out))):w.heap.size≤dG));have W9:=af.mk ((by rw [hg];exact Nat.ne_of_lt (l9 (g:=ig) (o:=.cells #[.slice ql t163.length pF,.string t166,.string t167,.slice wP t168.length sH] 25 (0,0)) (by (with_reducible repeat (first|refine aC ?_ _|refine aK ?_|refine aG ?_ _));exact gK.out)):ig ≠ dG));have PV:=af.mk ((by rw [hg];exact Nat.ne_of_gt (l9 (g:=ig) (o:=.cells #[.slice ql t163.length pF,.string t166,.string t167,.slice wP t168.length sH] 25 (0,0)) (by (with_reducible repeat (first|refine aC ?_ _|refine aK ?_|refine aG ?_ _));exact gK.out)):dG ≠ ig));clear jV;clear iJ;clear rf;clear qZ;clear gK;clear HB;have jV:=dM;have iJ:=dP;have rf:=eY;have qZ:=iD;have gK:=mZ;have HB:=vP;have jB:=Ak;have XK:=PU;have EK:=Xa;have oG:=W9;have Gf:=PV;clear dM dP eY iD mZ vP Ak PU Xa W9 PV;clear hb hbox hg;obtain ⟨oI,oD,OI⟩:=Kd.fJ rf.out;subst OI;have Xi:=Gf.out;have Xe:=oG.out;have U0:EM.cell? ⟨dG,0,none⟩=some (.slice none 0 0):=(ak jB.out 0).trans rfl;have UZ:EM.cell? ⟨dG,1,none⟩=some (.string (⟨#[]⟩:ByteArray)):=(ak jB.out 1).trans rfl;have UY:EM.cell? ⟨dG,2,none⟩=some (.string (⟨#[]⟩:ByteArray)):=(ak jB.out 2).trans rfl;have UX:EM.cell? ⟨dG,3,none⟩=some (.slice none 0 0):=(ak jB.out 3).trans rfl;have TL:=ax jB.out 0;have TK:=ax jB.out 1;have TJ:=ax jB.out 2;have TI:=ax jB.out 3;obtain ⟨o8,o5,LY⟩:=Kd.fJ qZ.out;subst LY;have LG:EM.cell? ⟨ig,0,none⟩=some (.slice ql t163.length pF):=(ak gK.out 0).trans rfl;have LD:EM.cell? ⟨ig,1,none⟩=some (.string t166):=(ak gK.out 1).trans rfl;have LC:EM.cell? ⟨ig,2,none⟩=some (.string t167):=(ak gK.out 2).trans rfl;have Lu:EM.cell? ⟨ig,3,none⟩=some (.slice wP t168.length sH):=(ak gK.out 3).trans rfl;have Lc:=ax gK.out 0;have La:=ax gK.out 1;have KY:=ax gK.out 2;have KX:=ax gK.out 3;have Oj:0≤(1:Int):=(by omega);have Oe:1 < (t168.length:Int):=of_decide_eq_true (by first|(with_reducible assumption)|assumption);obtain ⟨qi,e187,lh,lg,kZ,kY,kX⟩:=wG (Kd.fZ iJ.out).2.2 1 Oj Oe;cases e187;(try simp only [show (1:Int).toNat=1 from rfl,Nat.reduceMul,Nat.reduceEqDiff,Go.Addr.add,↓reduceIte] at lh);(try simp only [show (1:Int).toNat=1 from rfl,Nat.reduceMul,Nat.reduceEqDiff,Go.Addr.add,↓reduceIte] at lg);(try simp only [show (1:Int).toNat=1 from rfl,Nat.reduceMul,Nat.reduceEqDiff,Go.Addr.add,↓reduceIte] at kZ);(try simp only [show (1:Int).toNat=1 from rfl,Nat.reduceMul,Nat.reduceEqDiff,Go.Addr.add,↓reduceIte] at kY);(try simp only [show (1:Int).toNat=1 from rfl,Nat.reduceMul,Nat.reduceEqDiff,Go.Addr.add,↓reduceIte] at kX);have WX:(1 < t168.length)=True:=eq_true (by omega);(try rw [show ((1:Int)).toNat=1 from rfl] at lh);(try rw [show 1 * 5=5 from rfl] at lh);(try rw [show ((1:Int)).toNat=1 from rfl] at lg);(try rw [show 1 * 5=5 from rfl] at lg);(try rw [show ((1:Int)).toNat=1 from rfl] at kZ);(try rw [show 1 * 5=5 from rfl] at kZ);(try rw [show ((1:Int)).toNat=1 from rfl] at kY);(try rw [show 1 * 5=5 from rfl] at kY);(try rw [show ((1:Int)).toNat=1 from rfl] at kX);(try rw [show 1 * 5=5 from rfl] at kX);have jq:qi.block ≠ dG:=Kd.mD (Kd.zB iJ.out jB.out (by decide));have jo:qi.block ≠ dG:=Kd.mD (Kd.zB iJ.out jB.out (by decide));have jm:qi.block ≠ dG:=Kd.mD (Kd.zB iJ.out jB.out (by decide));have jl:qi.block ≠ dG:=Kd.mD (Kd.zB iJ.out jB.out (by decide));replace lh:=(cell_far (p:=⟨dG,0,none⟩) (by first|(rw [add_block];exact jq)|(show (Addr.add _ _).block ≠ _;rw [add_block];exact jq)|exact jq) (.slice oI t176.length oD)).trans lh;replace lg:=(cell_far (p:=⟨dG,0,none⟩) (by first|(rw [add_block];exact jq)|(show (Addr.add _ _).block ≠ _;rw [add_block];exact jq)|exact jq) (.slice oI t176.length oD)).trans lg;replace kZ:=(cell_far (p:=⟨dG,0,none⟩) (by first|(rw [add_block];exact jq)|(show (Addr.add _ _).block ≠ _;rw [add_block];exact jq)|exact jq) (.slice oI t176.length oD)).trans kZ;replace kY:=(cell_far (p:=⟨dG,0,none⟩) (by first|(rw [add_block];exact jq)|(show (Addr.add _ _).block ≠ _;rw [add_block];exact jq)|exact jq) (.slice oI t176.length oD)).trans kY;replace kX:=(cell_far (p:=⟨dG,0,none⟩) (by first|(rw [add_block];exact jq)|(show (Addr.add _ _).block ≠ _;rw [add_block];exact jq)|exact jq) (.slice oI t176.length oD)).trans kX;replace lh:=(cell_far (p:=⟨dG,1,none⟩) (by first|(rw [add_block];exact jo)|(show (Addr.add _ _).block ≠ _;rw [add_block];exact jo)|exact jo) (.string t179)).trans lh;replace lg:=(cell_far (p:=⟨dG,1,none⟩) (by first|(rw [add_block];exact jo)|(show (Addr.add _ _).block ≠ _;rw [add_block];exact jo)|exact jo) (.string t179)).trans lg;replace kZ:=(cell_far (p:=⟨dG,1,none⟩) (by first|(rw [add_block];exact jo)|(show (Addr.add _ _).block ≠ _;rw [add_block];exact jo)|exact jo) (.string t179)).trans kZ;replace kY:=(cell_far (p:=⟨dG,1,none⟩) (by first|(rw [add_block];exact jo)|(show (Addr.add _ _).block ≠ _;rw [add_block];exact jo)|exact jo) (.string t179)).trans kY;replace kX:=(cell_far (p:=⟨dG,1,none⟩) (by first|(rw [add_block];exact jo)|(show (Addr.add _ _).block ≠ _;rw [add_block];exact jo)|exact jo) (.string t179)).trans kX;replace lh:=(cell_far (p:=⟨dG,2,none⟩) (by first|(rw [add_block];exact jm)|(show (Addr.add _ _).block ≠ _;rw [add_block];exact jm)|exact jm) (.string t180)).trans lh;replace lg:=(cell_far (p:=⟨dG,2,none⟩) (by first|(rw [add_block];exact jm)|(show (Addr.add _ _).block ≠ _;rw [add_block];exact jm)|exact jm) (.string t180)).trans lg;replace kZ:=(cell_far (p:=⟨dG,2,none⟩) (by first|(rw [add_block];exact jm)|(show (Addr.add _ _).block ≠ _;rw [add_block];exact jm)|exact jm) (.string t180)).trans kZ;replace kY:=(cell_far (p:=⟨dG,2,none⟩) (by first|(rw [add_block];exact jm)|(show (Addr.add _ _).block ≠ _;rw [add_block];exact jm)|exact jm) (.string t180)).trans kY;replace kX:=(cell_far (p:=⟨dG,2,none⟩) (by first|(rw [add_block];exact jm)|(show (Addr.add _ _).block ≠ _;rw [add_block];exact jm)|exact jm) (.string t180)).trans kX;replace lh:=(cell_far (p:=⟨dG,3,none⟩) (by first|(rw [add_block];exact jl)|(show (Addr.add _ _).block ≠ _;rw [add_block];exact jl)|exact jl) (.slice o8 t181.length o5)).trans lh;replace lg:=(cell_far (p:=⟨dG,3,none⟩) (by first|(rw [add_block];exact jl)|(show (Addr.add _ _).block ≠ _;rw [add_block];exact jl)|exact jl) (.slice o8 t181.length o5)).trans lg;replace kZ:=(cell_far (p:=⟨dG,3,none⟩) (by first|(rw [add_block];exact jl)|(show (Addr.add _ _).block ≠ _;rw [add_block];exact jl)|exact jl) (.slice o8 t181.length o5)).trans kZ;replace kY:=(cell_far (p:=⟨dG,3,none⟩) (by first|(rw [add_block];exact jl)|(show (Addr.add _ _).block ≠ _;rw [add_block];exact jl)|exact jl) (.slice o8 t181.length o5)).trans kY;replace kX:=(cell_far (p:=⟨dG,3,none⟩) (by first|(rw [add_block];exact jl)|(show (Addr.add _ _).block ≠ _;rw [add_block];exact jl)|exact jl) (.slice o8 t181.length o5)).trans kX;clear jq;clear jo;clear jm;clear jl;replace Oj:=eq_true Oj;replace Oe:=eq_true Oe;have Oi:0≤(1:Int):=(by omega);have Oc:1 < (t168.length:Int):=of_decide_eq_true (by first|(with_reducible assumption)|assumption);obtain ⟨Qx,Wl,kW,kV,kU,kT,kS⟩:=wG (Kd.fZ iJ.out).2.2 1 Oi Oc;obtain rfl:qi=Qx:=(by injection Wl);(try simp only [show (1:Int).toNat=1 from rfl,Nat.reduceMul,Nat.reduceEqDiff,Go.Addr.add,↓reduceIte] at kW);(try simp only [show (1:Int).toNat=1 from rfl,Nat.reduceMul,Nat.reduceEqDiff,Go.Addr.add,↓reduceIte] at kV);(try simp only [show (1:Int).toNat=1 from rfl,Nat.reduceMul,Nat.reduceEqDiff,Go.Addr.add,↓reduceIte] at kU);(try simp only [show (1:Int).toNat=1 from rfl,Nat.reduceMul,Nat.reduceEqDiff,Go.Addr.add,↓reduceIte] at kT);(try simp only [show (1:Int).toNat=1 from rfl,Nat.reduceMul,Nat.reduceEqDiff,Go.Addr.add,↓reduceIte] at kS);have WW:(1 < t168.length)=True:=eq_true (by omega);(try rw [show ((1:Int)).toNat=1 from rfl] at kW);(try rw [show 1 * 5=5 from rfl] at kW);(try rw [show ((1:Int)).toNat=1 from rfl] at kV);(try rw [show 1 * 5=5 from rfl] at kV);(try rw [show ((1:Int)).toNat=1 from rfl] at kU);(try rw [show 1 * 5=5 from rfl] at kU);(try rw [show ((1:Int)).toNat=1 from rfl] at kT);(try rw [show 1 * 5=5 from rfl] at kT);(try rw [show ((1:Int)).toNat=1 from rfl] at kS);(try rw [show 1 * 5=5 from rfl] at kS);have jk:qi.block ≠ dG:=Kd.mD (Kd.zB iJ.out jB.out (by decide));have ji:qi.block ≠ dG:=Kd.mD (Kd.zB iJ.out jB.out (by decide));have jh:qi.block ≠ dG:=Kd.mD (Kd.zB iJ.out jB.out (by decide));have jg:qi.block ≠ dG:=Kd.mD (Kd.zB iJ.out jB.out (by decide));replace kW:=(cell_far (p:=⟨dG,0,none⟩) (by first|(rw [add_block];exact jk)|(show (Addr.add _ _).block ≠ _;rw [add_block];exact jk)|exact jk) (.slice oI t176.length oD)).trans kW;replace kV:=(cell_far (p:=⟨dG,0,none⟩) (by first|(rw [add_block];exact jk)|(show (Addr.add _ _).block ≠ _;rw [add_block];exact jk)|exact jk) (.slice oI t176.length oD)).trans kV;replace kU:=(cell_far (p:=⟨dG,0,none⟩) (by first|(rw [add_block];exact jk)|(show (Addr.add _ _).block ≠ _;rw [add_block];exact jk)|exact jk) (.slice oI t176.length oD)).trans kU;replace kT:=(cell_far (p:=⟨dG,0,none⟩) (by first|(rw [add_block];exact jk)|(show (Addr.add _ _).block ≠ _;rw [add_block];exact jk)|exact jk) (.slice oI t176.length oD)).trans kT;replace kS:=(cell_far (p:=⟨dG,0,none⟩) (by first|(rw [add_block];exact jk)|(show (Addr.add _ _).block ≠ _;rw [add_block];exact jk)|exact jk) (.slice oI t176.length oD)).trans kS;replace kW:=(cell_far (p:=⟨dG,1,none⟩) (by first|(rw [add_block];exact ji)|(show (Addr.add _ _).block ≠ _;rw [add_block];exact ji)|exact ji) (.string t179)).trans kW;replace kV:=(cell_far (p:=⟨dG,1,none⟩) (by first|(rw [add_block];exact ji)|(show (Addr.add _ _).block ≠ _;rw [add_block];exact ji)|exact ji) (.string t179)).trans kV;replace kU:=(cell_far (p:=⟨dG,1,none⟩) (by first|(rw [add_block];exact ji)|(show (Addr.add _ _).block ≠ _;rw [add_block];exact ji)|exact ji) (.string t179)).trans kU;replace kT:=(cell_far (p:=⟨dG,1,none⟩) (by first|(rw [add_block];exact ji)|(show (Addr.add _ _).block ≠ _;rw [add_block];exact ji)|exact ji) (.string t179)).trans kT;replace kS:=(cell_far (p:=⟨dG,1,none⟩) (by first|(rw [add_block];exact ji)|(show (Addr.add _ _).block ≠ _;rw [add_block];exact ji)|exact ji) (.string t179)).trans kS;replace kW:=(cell_far (p:=⟨dG,2,none⟩) (by first|(rw [add_block];exact jh)|(show (Addr.add _ _).block ≠ _;rw [add_block];exact jh)|exact jh) (.string t180)).trans kW;replace kV:=(cell_far (p:=⟨dG,2,none⟩) (by first|(rw [add_block];exact jh)|(show (Addr.add _ _).block ≠ _;rw [add_block];exact jh)|exact jh) (.string t180)).trans kV;replace kU:=(cell_far (p:=⟨dG,2,none⟩) (by first|(rw [add_block];exact jh)|(show (Addr.add _ _).block ≠ _;rw [add_block];exact jh)|exact jh) (.string t180)).trans kU;replace kT:=(cell_far (p:=⟨dG,2,none⟩) (by first|(rw [add_block];exact jh)|(show (Addr.add _ _).block ≠ _;rw [add_block];exact jh)|exact jh) (.string t180)).trans kT;replace kS:=(cell_far (p:=⟨dG,2,none⟩) (by first|(rw [add_block];exact jh)|(show (Addr.add _ _).block ≠ _;rw [add_block];exact jh)|exact jh) (.string t180)).trans kS;replace kW:=(cell_far (p:=⟨dG,3,none⟩) (by first|(rw [add_block];exact jg)|(show (Addr.add _ _).block ≠ _;rw [add_block];exact jg)|exact jg) (.slice o8 t181.length o5)).trans kW;replace kV:=(cell_far (p:=⟨dG,3,none⟩) (by first|(rw [add_block];exact jg)|(show (Addr.add _ _).block ≠ _;rw [add_block];exact jg)|exact jg) (.slice o8 t181.length o5)).trans kV;replace kU:=(cell_far (p:=⟨dG,3,none⟩) (by first|(rw [add_block];exact jg)|(show (Addr.add _ _).block ≠ _;rw [add_block];exact jg)|exact jg) (.slice o8 t181.length o5)).trans kU;replace kT:=(cell_far (p:=⟨dG,3,none⟩) (by first|(rw [add_block];exact jg)|(show (Addr.add _ _).block ≠ _;rw [add_block];exact jg)|exact jg) (.slice o8 t181.length o5)).trans kT;replace kS:=(cell_far (p:=⟨dG,3,none⟩) (by first|(rw [add_block];exact jg)|(show (Addr.add _ _).block ≠ _;rw [add_block];exact jg)|exact jg) (.slice o8 t181.length o5)).trans kS;clear jk;clear ji;clear jh;clear jg;replace Oi:=eq_true Oi;replace Oc:=eq_true Oc)|(go_at_call 11;(with_reducible refine (dD.calls ((aQ t168 1).f0) ((aQ t168 1).f1) ((aQ t168 1).f2) ((aQ t168 1).f3) ((aQ t168 1).f4) true _ ?fA XX.out).mono ?_);(case fA=>exact Kd.dB uo.out (by repeat (first|(with_reducible first|exact HB.out|apply ai|apply ag|apply ah|refine az ?_ pz.out|refine az ?_ EK.out)|exact HB.out)));rintro e Y4 ⟨rfl,hb⟩;have dM:=af.mk (Kd.eG (by (with_reducible repeat (first|apply Kd.bJ|apply Kd.bK|apply Kd.df));exact (Kd.dH (Kd.iE (p:=⟨dG,3,none⟩) (Kd.iE (p:=⟨dG,2,none⟩) (Kd.iE (p:=⟨dG,1,none⟩) (Kd.iE (p:=⟨dG,0,none⟩) (Kd.gX jV.out jB.out (by decide)) (fun _ hk=>hk.2) (.slice oI t176.length oD)) (fun _ hk=>hk.2) (.string t179)) (fun _ hk=>hk.2) (.string t180)) (fun _ hk=>hk.2) (.slice o8 t181.length o5)) (fun _ h_=>h_.1))) hb);have dP:=af.mk (Kd.eG (by (with_reducible repeat (first|apply Kd.bJ|apply Kd.bK|apply Kd.df));exact (Kd.dH (Kd.iE (p:=⟨dG,3,none⟩) (Kd.iE (p:=⟨dG,2,none⟩) (Kd.iE (p:=⟨dG,1,none⟩) (Kd.iE (p:=⟨dG,0,none⟩) (Kd.gX iJ.out jB.out (by decide)) (fun _ hk=>hk.2) (.slice oI t176.length oD)) (fun _ hk=>hk.2) (.string t179)) (fun _ hk=>hk.2) (.string t180)) (fun _ hk=>hk.2) (.slice o8 t181.length o5)) (fun _ h_=>h_.1))) hb);have eY:=af.mk (Kd.eG (by (with_reducible repeat (first|apply Kd.bJ|apply Kd.bK|apply Kd.df));exact (Kd.dH (Kd.iE (p:=⟨dG,3,none⟩) (Kd.iE (p:=⟨dG,2,none⟩) (Kd.iE (p:=⟨dG,1,none⟩) (Kd.iE (p:=⟨dG,0,none⟩) (Kd.gX rf.out jB.out (by decide)) (fun _ hk=>hk.2) (.slice oI t176.length oD)) (fun _ hk=>hk.2) (.string t179)) (fun _ hk=>hk.2) (.string t180)) (fun _ hk=>hk.2) (.slice o8 t181.length o5)) (fun _ h_=>h_.1))) hb);have iD:=af.mk (Kd.eG (by (with_reducible repeat (first|apply Kd.bJ|apply Kd.bK|apply Kd.df));exact (Kd.dH (Kd.iE (p:=⟨dG,3,none⟩) (Kd.iE (p:=⟨dG,2,none⟩) (Kd.iE (p:=⟨dG,1,none⟩) (Kd.iE (p:=⟨dG,0,none⟩) (Kd.gX qZ.out jB.out (by decide)) (fun _ hk=>hk.2) (.slice oI t176.length oD)) (fun _ hk=>hk.2) (.string t179)) (fun _ hk=>hk.2) (.string t180)) (fun _ hk=>hk.2) (.slice o8 t181.length o5)) (fun _ h_=>h_.1))) hb);have mZ:=af.mk (bW (g:=ig) (o:=.cells #[.slice ql t163.length pF,.string t166,.string t167,.slice (some qi) t168.length sH] 25 (0,0)) (by (with_reducible repeat (first|refine aC ?_ _|refine aK ?_|refine aG ?_ _));refine fU ?_ oG.out _;(with_reducible repeat (first|refine aC ?_ _|refine aK ?_|refine aG ?_ _));refine fU ?_ oG.out _;(with_reducible repeat (first|refine aC ?_ _|refine aK ?_|refine aG ?_ _));refine fU ?_ oG.out _;(with_reducible repeat (first|refine aC ?_ _|refine aK ?_|refine aG ?_ _));refine fU ?_ oG.out _;(with_reducible repeat (first|refine aC ?_ _|refine aK ?_|refine aG ?_ _));exact gK.out) hb);have vP:=af.mk (bW (g:=dG) (o:=.cells #[.slice oI t176.length oD,.string t179,.string t180,.slice o8 t181.length o5] 25 (0,0)) (by (with_reducible repeat (first|refine aC ?_ _|refine aK ?_|refine aG ?_ _));refine eF (cs:=#[.slice oI t176.length oD,.string t179,.string t180,.slice none 0 0]) ?_ 3 _ rfl;(with_reducible repeat (first|refine aC ?_ _|refine aK ?_|refine aG ?_ _));refine eF (cs:=#[.slice oI t176.length oD,.string t179,.string (⟨#[]⟩:ByteArray),.slice none 0 0]) ?_ 2 _ rfl;(with_reducible repeat (first|refine aC ?_ _|refine aK ?_|refine aG ?_ _));refine eF (cs:=#[.slice oI t176.length oD,.string (⟨#[]⟩:ByteArray),.string (⟨#[]⟩:ByteArray),.slice none 0 0]) ?_ 1 _ rfl;(with_reducible repeat (first|refine aC ?_ _|refine aK ?_|refine aG ?_ _));refine eF (cs:=#[.slice none 0 0,.string (⟨#[]⟩:ByteArray),.string (⟨#[]⟩:ByteArray),.slice none 0 0]) ?_ 0 _ rfl;(with_reducible repeat (first|refine aC ?_ _|refine aK ?_|refine aG ?_ _));exact jB.out) hb);have Ak:=af.mk (bf (by repeat (first|(with_reducible first|exact HB.out|apply ai|apply ag|apply ah|refine az ?_ pz.out|refine az ?_ EK.out)|exact HB.out)) hb);clear jV;clear iJ;clear rf;clear qZ;clear gK;clear jB;clear HB;have jV:=dM;have iJ:=dP;have rf:=eY;have qZ:=iD;have gK:=mZ;have jB:=vP;have HB:=Ak;clear dM dP eY iD mZ vP Ak;(try clear hb);(try clear hb2);(try clear hk);(try clear hi))|(go_at_call 11;(with_reducible refine (dD.calls 0 0 0 0 0 t190 _ ?fA YW.out).mono ?_);(case fA=>repeat (first|exact (Kd.dB uo.out HB.out)|(with_reducible refine Kd.eP ?_ _)|(with_reducible refine Kd.eH ?_ _)|(with_reducible refine Kd.gp ?_)));rintro e JC ⟨rfl,hb⟩;have dM:=af.mk (Kd.eG (by (with_reducible repeat (first|apply Kd.bJ|apply Kd.bK|apply Kd.df));exact jV.out) hb);have dP:=af.mk (Kd.eG (by (with_reducible repeat (first|apply Kd.bJ|apply Kd.bK|apply Kd.df));exact iJ.out) hb);have eY:=af.mk (Kd.eG (by (with_reducible repeat (first|apply Kd.bJ|apply Kd.bK|apply Kd.df));exact rf.out) hb);have iD:=af.mk (Kd.eG (by (with_reducible repeat (first|apply Kd.bJ|apply Kd.bK|apply Kd.df));exact qZ.out) hb);have mZ:=af.mk (bW (g:=ig) (o:=.cells #[.slice ql t163.length pF,.string t166,.string t167,.slice (some qi) t168.length sH] 25 (0,0)) (by (with_reducible repeat (first|refine aC ?_ _|refine aK ?_|refine aG ?_ _));exact gK.out) hb);have vP:=af.mk (bW (g:=dG) (o:=.cells #[.slice oI t176.length oD,.string t179,.string t180,.slice o8 t181.length o5] 25 (0,0)) (by (with_reducible repeat (first|refine aC ?_ _|refine aK ?_|refine aG ?_ _));exact jB.out) hb);have Ak:=af.mk (bf (by repeat (first|(with_reducible first|exact HB.out|apply ai|apply ag|apply ah|refine az ?_ pz.out|refine az ?_ EK.out)|exact HB.out)) hb);clear jV;clear iJ;clear rf;clear qZ;clear gK;clear jB;clear HB;have jV:=dM;have iJ:=dP;have rf:=eY;have qZ:=iD;have gK:=mZ;have jB:=vP;have HB:=Ak;clear dM dP eY iD mZ vP Ak;(try clear hb);(try clear hb2);(try clear hk);(try clear hi)))
                      go_ret
                      exact ⟨by first|rfl|(simp [bC,bz] <;> rfl)|(simp [*,bC,bz] <;> rfl),by repeat (first|(with_reducible first|exact HB.out|apply ai|apply ag|apply ah|refine az ?_ pz.out|refine az ?_ EK.out)|exact HB.out)⟩
                    · have q1:=qh A1.out;simp only [Prod.mk.injEq] at q1;obtain ⟨e1,e2,e3,e4,e5,e6⟩:=q1;exact absurd (MH (by have q5:=XX.out;rw [e4] at q5;exact q5)) c14
                  · have q4:=Bo A3.out;simp only [Prod.mk.injEq] at q4;exact absurd q4.2 c12
                · have q4:=Bo A3.out;simp only [Prod.mk.injEq] at q4;exact absurd q4.1 c11
              · have q1:=qh A1.out;simp only [Prod.mk.injEq] at q1;obtain ⟨e1,e2,e3,e4,e5,e6⟩:=q1;have q2:=A2.out;rw [e1,e2,e3,e4] at q2;have q3:=Jm q2;simp only [Prod.mk.injEq] at q3;exact absurd (by rw [q3.1];decide +kernel) c10
            · have q1:=qh A1.out;simp only [Prod.mk.injEq] at q1;obtain ⟨e1,e2,e3,e4,e5,e6⟩:=q1;have q2:=A2.out;rw [e1,e2,e3,e4] at q2;have q3:=Jm q2;simp only [Prod.mk.injEq] at q3;exact absurd q3.2 c9
          · have q1:=qh A1.out;simp only [Prod.mk.injEq] at q1;obtain ⟨e1,e2,e3,e4,e5,e6⟩:=q1;exact absurd (by rw [e4];decide +kernel) c8
        · have q1:=qh A1.out;simp only [Prod.mk.injEq] at q1;obtain ⟨e1,e2,e3,e4,e5,e6⟩:=q1;exact absurd (by rw [e4];decide) c7
      · have q1:=qh A1.out;simp only [Prod.mk.injEq] at q1;obtain ⟨e1,e2,e3,e4,e5,e6⟩:=q1;exact absurd (by rw [e4];rfl) c6
    · have q1:=qh A1.out;simp only [Prod.mk.injEq] at q1;obtain ⟨e1,e2,e3,e4,e5,e6⟩:=q1;exact absurd e5 c5
  · have q1:=qh A1.out;simp only [Prod.mk.injEq] at q1;obtain ⟨e1,e2,e3,e4,e5,e6⟩:=q1;exact absurd e6 c4
def aW.l0:Nat→Int→List ByteArray→Int→Int→List ByteArray→ByteArray→ByteArray→List (iQ)→Option (Bool)
  | 0,_,_,_,_,_,_,_,_=>none
  | k+1,x3,x14,x15,x16,JG,JF,JE,Dy=>if x16 < x15 then (if 0≤x16 then (if x16 < (x14.length:Int) then (aW.l0 k (wrap64 (x3+(wrap64 (((dZ ByteArray.empty x14 x16).size:Int)+1)))) x14 x15 (wrap64 (x16+1)) JG JF JE Dy) else (none)) else (none)) else (if x3≤500 then (some (decide ((Dy.length:Int)≤210))) else (some false))
def aW.f (k:Nat) (bn:List ByteArray) (bD:ByteArray) (bu:ByteArray) (aV:List (iQ)):Option (Bool):=aW.l0 k (wrap64 ((bD.size:Int)+(bu.size:Int))) bn (bn.length:Int) 0 bn bD bu aV
theorem aW.dR:∀ k,(∀ y0 y1 y2 y3 y4 y5 y6 y7,bM (aW.l0 k y0 y1 y2 y3 y4 y5 y6 y7) (aW.l0 (k+1) y0 y1 y2 y3 y4 y5 y6 y7))
  | 0=>fun _ _ _ _ _ _ _ _ r h=>by simp [aW.l0] at h
  | k+1=>by
    have gV:=aW.dR k
    · intro y0 y1 y2 y3 y4 y5 y6 y7
      unfold aW.l0
      repeat' first
      | (with_reducible exact gV _ _ _ _ _ _ _ _)
      | (with_reducible exact bM.refl _)
      | (with_reducible exact bM.none _)
      | (with_reducible refine bM.ite ?_ ?_)
      | (with_reducible refine bM.bind ?_ (fun _=>?_))
      | exact gV _ _ _ _ _ _ _ _
      | exact bM.none _
      | refine bM.ite ?_ ?_
      | refine bM.bind ?_ (fun _=>?_)
theorem aW.mono:∀ a0 a1 a2 a3 k,bM (aW.f k a0 a1 a2 a3) (aW.f (k+1) a0 a1 a2 a3):=by
  intro a0 a1 a2 a3 k
  have gV:=aW.dR k
  unfold aW.f
  repeat' first
      | (with_reducible exact gV _ _ _ _ _ _ _ _)
      | (with_reducible exact bM.refl _)
      | (with_reducible exact bM.none _)
      | (with_reducible refine bM.ite ?_ ?_)
      | (with_reducible refine bM.bind ?_ (fun _=>?_))
      | exact gV _ _ _ _ _ _ _ _
      | exact bM.none _
      | refine bM.ite ?_ ?_
      | refine bM.bind ?_ (fun _=>?_)
set_option maxHeartbeats 8000000 in
set_option maxRecDepth 100000 in
theorem aW.calls (k:Nat) (dN:Option Addr) (dK:Nat) (bn:List ByteArray) (bD:ByteArray) (bu:ByteArray) (dQ:Option Addr) (dJ:Nat) (aV:List (iQ)) (r:Bool) (w:World) (pV:Kd.C Kd.string w dN bn.length bn) (pX:bn.length≤dK) (pU:Kd.C k27 w dQ aV.length aV) (pW:aV.length≤dJ) (h:aW.f k bn bD bu aV=some r) :
    Calls Tryz.prog 8 #[.agg #[.slice dN bn.length dK,.string bD,.string bu,.slice dQ aV.length dJ]] w fun e w'=>e=.returned (.bool r)∧Below w.heap.size w w':=by
  have KJ:=Tryz.underlying25
  have nH:=af.mk pV
  have ru:=af.mk pX
  clear pV pX
  have oH:=af.mk pU
  have rq:=af.mk pW
  clear pU pW
  have HB:=af.mk (Below.refl w.heap.size w)
  have H:(aW.l0 k (wrap64 ((bD.size:Int)+(bu.size:Int))) bn (bn.length:Int) 0 bn bD bu aV)=some r:=h
  clear h
  have H':=af.mk H
  clear H
  go_enter Tryz.func8,Tryz.ntmps8
  go_wp2_with (first|((with_reducible refine eu (N:=1) rfl ?_);(try (refine jd (by rfl) ?_;dsimp only));refine iK ?hg (N:=1) ?hd (cs:=#[.slice dN bn.length dK,.string bD,.string bu,.slice dQ aV.length dJ]) (t:=25) ?hr ?_;(case hd=>rfl);(case hg=>rfl);(case hr=>first|(go_simp;done)|(go_simp;rfl));intro pY hg w2 hbox hb;have dM:=af.mk (bf (by repeat (first|(with_reducible first|exact HB.out|apply ai|apply ag|apply ah)|exact HB.out)) hb);have dP:=af.mk (hbox);have eY:=af.mk ((by rw [hg];exact (bG (by repeat (first|(with_reducible first|exact HB.out|apply ai|apply ag|apply ah)|exact HB.out))):w.heap.size≤pY));have iD:=af.mk ((by rw [hg];exact (bG (by repeat (first|(with_reducible first|exact HB.out|apply ai|apply ag|apply ah)|exact HB.out))):w.heap.size≤pY));clear HB;have HB:=dM;have lI:=dP;have XJ:=eY;have EJ:=iD;clear dM dP eY iD;clear hb hbox hg;have zi:w2.cell? ⟨pY,0,none⟩=some (.slice dN bn.length dK):=(ak lI.out 0).trans rfl;have zh:w2.cell? ⟨pY,1,none⟩=some (.string bD):=(ak lI.out 1).trans rfl;have zg:w2.cell? ⟨pY,2,none⟩=some (.string bu):=(ak lI.out 2).trans rfl;have zf:w2.cell? ⟨pY,3,none⟩=some (.slice dQ aV.length dJ):=(ak lI.out 3).trans rfl;have y9:=ax lI.out 0;have yZ:=ax lI.out 1;have yY:=ax lI.out 2;have yX:=ax lI.out 3))
  go_loopg [3,16] k (fun kq v3 v16 w'=>∃ (dL:Int) (mP:Int),v3=.int .i64 dL∧v16=.int .i64 mP∧af (aW.l0 kq dL bn (bn.length:Int) mP bn bD bu aV=some r)∧af (kq≤k)∧af (w'.heap[pY]? = some (.cells #[(.slice dN bn.length dK),.string bD,.string bu,(.slice dQ aV.length dJ)] 25 (0,0)))∧af (Below w.heap.size w w'))
  case atStart=>exact ⟨(wrap64 ((bD.size:Int)+(bu.size:Int))),(0),(by first|rfl|(simp;done)|(simp [*];done)),(by first|rfl|(simp;done)|(simp [*];done)),H',⟨Nat.le_refl _⟩,⟨by (with_reducible repeat (first|refine aC ?_ _|refine aK ?_|refine aG ?_ _));exact lI.out⟩,⟨by repeat (first|(with_reducible first|exact HB.out|apply ai|apply ag|apply ah|refine az ?_ EJ.out)|exact HB.out)⟩⟩
  case round =>
    clear H'
    try clear p2
    try clear zi
    try clear zh
    try clear zg
    try clear zf
    try clear y9
    try clear yZ
    try clear yY
    try clear yX
    obtain ⟨dL,mP,rfl,rfl,HA,lH,lI,HB⟩:=hrel
    cases gk with
    | zero=>exact absurd HA.out (by simp [aW.l0])
    | succ k1 =>
      have H:=HA.out
      clear HA
      simp only [aW.l0] at H
      by_cases c4:mP < (bn.length:Int)
      · rw [if_pos c4] at H
        have Jb:decide (mP < (bn.length:Int))=true:=decide_eq_true c4
        clear c4
        by_cases c5:0≤mP
        · rw [if_pos c5] at H
          have sK:decide (0≤mP)=true:=decide_eq_true c5
          clear c5
          by_cases c6:mP < (bn.length:Int)
          · rw [if_pos c6] at H
            have uh:decide (mP < (bn.length:Int))=true:=decide_eq_true c6
            clear c6
            have H':=af.mk H
            clear H
            have Oh:0≤(mP:Int):=of_decide_eq_true (by first|(with_reducible assumption)|assumption)
            have Ob:mP < (bn.length:Int):=of_decide_eq_true (by first|(with_reducible assumption)|assumption)
            obtain ⟨XA,Wj,yQ⟩:=Kd.ed nH.out mP Oh Ob
            cases Wj
            replace yQ:=(HB.out.cell (World.block_lt_of_cell? w _ yQ)).trans yQ
            replace Oh:=eq_true Oh
            replace Ob:=eq_true Ob
            go_wp2
            go_roundg k1
            case measure=>have:=lH.out;omega
            case rel=>exact ⟨(wrap64 (dL+(wrap64 (((dZ ByteArray.empty bn mP).size:Int)+1)))),(wrap64 (mP+1)),(by first|rfl|(simp;done)|(simp [*];done)),(by first|rfl|(simp;done)|(simp [*];done)),H',⟨by have:=lH.out;omega⟩,⟨by (with_reducible repeat (first|refine aC ?_ _|refine aK ?_|refine aG ?_ _));exact lI.out⟩,⟨by repeat (first|(with_reducible first|exact HB.out|apply ai|apply ag|apply ah|refine az ?_ EJ.out)|exact HB.out)⟩⟩
          · rw [if_neg c6] at H
            exact absurd H (by simp)
        · rw [if_neg c5] at H
          exact absurd H (by simp)
      · rw [if_neg c4] at H
        have Jb:decide (mP < (bn.length:Int))=false:=decide_eq_false c4
        clear c4
        by_cases c7:dL≤500
        · rw [if_pos c7] at H
          have uK:decide (dL≤500)=true:=decide_eq_true c7
          clear c7
          obtain rfl:=Option.some.inj H
          have VR:wr.cell? ⟨pY,0,none⟩=some (.slice dN bn.length dK):=(ak lI.out 0).trans rfl
          have VQ:wr.cell? ⟨pY,1,none⟩=some (.string bD):=(ak lI.out 1).trans rfl
          have VP:wr.cell? ⟨pY,2,none⟩=some (.string bu):=(ak lI.out 2).trans rfl
          have VO:wr.cell? ⟨pY,3,none⟩=some (.slice dQ aV.length dJ):=(ak lI.out 3).trans rfl
          have VN:=ax lI.out 0
          have VM:=ax lI.out 1
          have VL:=ax lI.out 2
          have VK:=ax lI.out 3
          go_wp2
          go_ret
          exact ⟨by first|rfl|(simp [bC,bz] <;> rfl)|(simp [*,bC,bz] <;> rfl),by repeat (first|(with_reducible first|exact HB.out|apply ai|apply ag|apply ah|refine az ?_ EJ.out)|exact HB.out)⟩
        · rw [if_neg c7] at H
          have uK:decide (dL≤500)=false:=decide_eq_false c7
          clear c7
          obtain rfl:=Option.some.inj H
          go_wp2
          go_ret
          exact ⟨by first|rfl|(simp [bC,bz] <;> rfl)|(simp [*,bC,bz] <;> rfl),by repeat (first|(with_reducible first|exact HB.out|apply ai|apply ag|apply ah|refine az ?_ EJ.out)|exact HB.out)⟩
end Go.Proofs.YtkclndkbccbhaaaGreatDoor.P
end
section
namespace Go.Proofs.YtkclndkbccbhaaaGreatDoor.P
open Go Go.RowKit Go.Proofs.ae.aX Go.Proofs.ae.dh Go.Proofs.ae.dI
theorem Jl:Ev (fun k=>bT.f k) true:=by
  have h:bT.f 300=some true:=by kernel_rfl
  exact Ev.of bT.mono h
def sumW:Int→List ByteArray→Int
  | a,[]=>a
  | a,s :: r=>sumW (wrap64 (a+wrap64 ((s.size:Int)+1))) r
def LX (ts:List ByteArray) (lo gl:ByteArray) (cs:List iQ):Bool:=decide (sumW (wrap64 ((lo.size:Int)+(gl.size:Int))) ts≤500) && decide (cs.length≤210)
theorem IQ (ts:List ByteArray) (lo gl:ByteArray) (cs:List iQ) (ht:ts.length≤140737488355328):∀ (d i:Nat) (a:Int),i+d=ts.length →
    Ev (fun k=>aW.l0 k a ts ((ts.length:Nat):Int) (i:Int) ts lo gl cs) (decide (sumW a (ts.drop i)≤500) && decide (cs.length≤210))
  | 0,i,a,hi=>by
    refine Ev.step (f:=fun _=>some _) (fun k=>?_) (Ev.now _)
    simp only [aW.l0]
    rw [if_neg (by omega),List.drop_eq_nil_of_le (by omega)]
    unfold sumW
    by_cases h:a≤500
    · rw [if_pos h,decide_eq_true h,Bool.true_and]
      congr 2
      exact propext (by omega)
    · rw [if_neg h,decide_eq_false h,Bool.false_and]
  | d+1,i,a,hi=>by
    have hlt:i < ts.length:=by omega
    have ih:=IQ ts lo gl cs ht d (i+1) (wrap64 (a+wrap64 (((ts[i]).size:Int)+1))) (by omega)
    rw [List.drop_eq_getElem_cons hlt]
    unfold sumW
    refine Ev.step (fun k=>?_) ih
    conv=>lhs;simp only [aW.l0]
    rw [if_pos (by omega),if_pos (by omega),if_pos (by omega),vI ts i hlt,iM i (by omega)]
theorem OG (ts:List ByteArray) (lo gl:ByteArray) (cs:List iQ) (ht:ts.length≤140737488355328):Ev (fun k=>aW.f k ts lo gl cs) (LX ts lo gl cs):=by
  have h:=IQ ts lo gl cs ht ts.length 0 (wrap64 ((lo.size:Int)+(gl.size:Int))) (Nat.zero_add _)
  rw [List.drop_zero] at h
  exact h
theorem DK:∀ (ts:List ByteArray) (a:Nat),(∀ s ∈ ts,s.size≤30)→a+31 * ts.length≤9000000000000000000→sumW (a:Int) ts=((a+sizes ts:Nat):Int)
  | [],a,_,_=>by simp [sumW,sizes]
  | s :: r,a,h,hl=>by
    have hs:=h s (List.mem_cons_self ..)
    rw [List.length_cons] at hl
    unfold sumW
    rw [show wrap64 ((s.size:Int)+1)=((s.size+1:Nat):Int) from by unfold wrap64;omega,show wrap64 ((a:Int)+((s.size+1:Nat):Int))=((a+(s.size+1):Nat):Int) from by unfold wrap64;omega,
      DK r (a+(s.size+1)) (fun x hx=>h x (List.mem_cons_of_mem _ hx)) (by omega),vG,Nat.add_assoc]
theorem xY {ts:List ByteArray} {lo gl:ByteArray} {cs:List iQ} (ht:ts.length≤140737488355328) (hk:QC ts lo gl cs) {cs':List iQ} (h:LX ts lo gl cs'=true):sizes ts≤500:=by
  have a:=nY hk.Su
  have b:=nY hk.Vo
  rw [← size_data] at a b
  unfold LX at h
  rw [show wrap64 ((lo.size:Int)+(gl.size:Int))=((lo.size+gl.size:Nat):Int) from by unfold wrap64;omega,DK ts _ (fun s hs=>by rw [size_data];exact nY (vN (hk.typ s hs)).1) (by omega)] at h
  simp only [Bool.and_eq_true,decide_eq_true_eq] at h
  omega
theorem printed {ts:List ByteArray} {lo gl:ByteArray} {cs:List iQ} (ht:ts.length≤140737488355328) (hc:cs.length≤140737488355328) (hw:Wf cs) (hs:tK ts lo gl cs=true→sizes ts≤500) :
    Ev (fun k=>aU.f k ts lo gl cs) (if tK ts lo gl cs=true then (xy ts lo gl cs,0) else (⟨#[]⟩,2)) :=
  GZ ts lo gl cs ht hc hw fun h=>by
    have hk:=vS.1 h
    refine ⟨?_,KG hk hw (hs h)⟩
    have:=qo ts hk.typ
    have:=hs h
    omega
end Go.Proofs.YtkclndkbccbhaaaGreatDoor.P
end
section
namespace Go.Proofs.YtkclndkbccbhaaaGreatDoor.P
open Go.RowKit Go.Proofs.ae.aX Go.Proofs.ae.dh Go.Proofs.ae.dI
attribute [local go_sem] iY iV jL jK iy iw iW iU
mutual
def bH.l0:Nat→List (List ByteArray)→ByteArray→Int→Option (ByteArray)
  | 0,_,_,_=>none
  | k+1,x0,x3,x4=>if x4 < (x0.length:Int) then (bH.l1 k x0 x3 x4 0) else (some x3)
def bH.l1:Nat→List (List ByteArray)→ByteArray→Int→Int→Option (ByteArray)
  | 0,_,_,_,_=>none
  | k+1,x0,x3,x4,x5=>if 0≤x4 then (if x4 < (x0.length:Int) then (if x5 < ((iq x0 x4).length:Int) then (if x5 > 0 then (if x3.size+1≤9223372036854775807 then (if 0≤x5 then (if (x3++(⟨#[32]⟩:ByteArray)).size+(dZ ByteArray.empty (iq x0 x4) x5).size≤9223372036854775807 then (bH.l1 k x0 ((x3++(⟨#[32]⟩:ByteArray))++(dZ ByteArray.empty (iq x0 x4) x5)) x4 (wrap64 (x5+1))) else (none)) else (none)) else (none)) else (if 0≤x5 then (if x3.size+(dZ ByteArray.empty (iq x0 x4) x5).size≤9223372036854775807 then (bH.l1 k x0 (x3++(dZ ByteArray.empty (iq x0 x4) x5)) x4 (wrap64 (x5+1))) else (none)) else (none))) else (if x3.size+1≤9223372036854775807 then (bH.l0 k x0 (x3++(⟨#[10]⟩:ByteArray)) (wrap64 (x4+1))) else (none))) else (none)) else (none)
end
def bH.f (k:Nat) (l0:List (List ByteArray)):Option (ByteArray):=bH.l0 k l0 (⟨#[]⟩:ByteArray) 0
theorem bH.dR:∀ k,(∀ y0 y1 y2,bM (bH.l0 k y0 y1 y2) (bH.l0 (k+1) y0 y1 y2))∧(∀ y0 y1 y2 y3,bM (bH.l1 k y0 y1 y2 y3) (bH.l1 (k+1) y0 y1 y2 y3))
  | 0=>⟨fun _ _ _ r h=>by simp [bH.l0] at h,fun _ _ _ _ r h=>by simp [bH.l1] at h⟩
  | k+1=>by
    obtain ⟨gV,ih1⟩:=bH.dR k
    refine ⟨?_,?_⟩
    · intro y0 y1 y2
      unfold bH.l0
      repeat' first
      | (with_reducible exact gV _ _ _)
      | (with_reducible exact ih1 _ _ _ _)
      | (with_reducible exact bM.refl _)
      | (with_reducible exact bM.none _)
      | (with_reducible refine bM.ite ?_ ?_)
      | (with_reducible refine bM.bind ?_ (fun _=>?_))
      | exact gV _ _ _
      | exact ih1 _ _ _ _
      | exact bM.none _
      | refine bM.ite ?_ ?_
      | refine bM.bind ?_ (fun _=>?_)
    · intro y0 y1 y2 y3
      unfold bH.l1
      repeat' first
      | (with_reducible exact gV _ _ _)
      | (with_reducible exact ih1 _ _ _ _)
      | (with_reducible exact bM.refl _)
      | (with_reducible exact bM.none _)
      | (with_reducible refine bM.ite ?_ ?_)
      | (with_reducible refine bM.bind ?_ (fun _=>?_))
      | exact gV _ _ _
      | exact ih1 _ _ _ _
      | exact bM.none _
      | refine bM.ite ?_ ?_
      | refine bM.bind ?_ (fun _=>?_)
theorem bH.mono:∀ a0 k,bM (bH.f k a0) (bH.f (k+1) a0):=by
  intro a0 k
  obtain ⟨gV,ih1⟩:=bH.dR k
  unfold bH.f
  repeat' first
      | (with_reducible exact gV _ _ _)
      | (with_reducible exact ih1 _ _ _ _)
      | (with_reducible exact bM.refl _)
      | (with_reducible exact bM.none _)
      | (with_reducible refine bM.ite ?_ ?_)
      | (with_reducible refine bM.bind ?_ (fun _=>?_))
      | exact gV _ _ _
      | exact ih1 _ _ _ _
      | exact bM.none _
      | refine bM.ite ?_ ?_
      | refine bM.bind ?_ (fun _=>?_)
def pO.f (a0:Int):Option (ByteArray × ByteArray):=if a0=11 then (some ((⟨#[115,116,111,114,101,112]⟩:ByteArray),(⟨#[97,110,98]⟩:ByteArray))) else (if a0=12 then (some ((⟨#[108,111,97,100,103]⟩:ByteArray),(⟨#[97,98]⟩:ByteArray))) else (if a0=13 then (some ((⟨#[115,116,111,114,101,103]⟩:ByteArray),(⟨#[97,98]⟩:ByteArray))) else (if a0=14 then (some ((⟨#[112,114,105,110,116]⟩:ByteArray),(⟨#[97]⟩:ByteArray))) else (if a0=15 then (some ((⟨#[115,97,109,101]⟩:ByteArray),(⟨#[97,98,99]⟩:ByteArray))) else (some ((⟨#[]⟩:ByteArray),(⟨#[]⟩:ByteArray)))))))
def jJ.f (a0:Int):Option (ByteArray × ByteArray):=if a0=1 then (some ((⟨#[115,101,116]⟩:ByteArray),(⟨#[97,110]⟩:ByteArray))) else (if a0=2 then (some ((⟨#[97,100,100]⟩:ByteArray),(⟨#[97,98,99]⟩:ByteArray))) else (if a0=3 then (some ((⟨#[106,117,109,112]⟩:ByteArray),(⟨#[110]⟩:ByteArray))) else (if a0=4 then (some ((⟨#[122,101,114,111]⟩:ByteArray),(⟨#[97,110]⟩:ByteArray))) else (if a0=5 then (some ((⟨#[110,101,119]⟩:ByteArray),(⟨#[97]⟩:ByteArray))) else (if a0=6 then (some ((⟨#[110,105,108]⟩:ByteArray),(⟨#[97]⟩:ByteArray))) else (if a0=7 then (some ((⟨#[109,111,118,101]⟩:ByteArray),(⟨#[97,98]⟩:ByteArray))) else (if a0=8 then (some ((⟨#[108,111,97,100,105]⟩:ByteArray),(⟨#[97,98,110]⟩:ByteArray))) else (if a0=9 then (some ((⟨#[115,116,111,114,101,105]⟩:ByteArray),(⟨#[97,110,98]⟩:ByteArray))) else (if a0=10 then (some ((⟨#[108,111,97,100,112]⟩:ByteArray),(⟨#[97,98,110]⟩:ByteArray))) else ((pO.f a0).bind fun ND=>(some (ND.1,ND.2))))))))))))
def pR.f (gW:Int) (bD:Int) (bu:Int) (eX:Int) (fF:Int) (a1:Int):Option (Int):=if a1=97 then (some (wrap64 (bD))) else (if a1=98 then (some (wrap64 (bu))) else (if a1=99 then (some (wrap64 (eX))) else (some fF)))
def cO.l0:Nat→ByteArray→List ByteArray→Int→Int→Int→Int→Int→Int→Option (List ByteArray)
  | 0,_,_,_,_,_,_,_,_=>none
  | k+1,x4,x5,x6,Dx,Dw,Dv,Du,Dt=>if x6 < (x4.size:Int) then (if 0≤x6 then ((pR.f Dx Dw Dv Du Dt (bt x4 x6)).bind fun t207=>((fM.f t207 10).bind fun t208=>(if x5.length < 8796093022208 then (cO.l0 k x4 (x5++[t208]) (wrap64 (x6+1)) Dx Dw Dv Du Dt) else (none)))) else (none)) else (some x5)
def cO.f (k:Nat) (gW:Int) (bD:Int) (bu:Int) (eX:Int) (fF:Int):Option (List ByteArray):=(jJ.f gW).bind fun NC=>(cO.l0 k NC.2 (([NC.1]:List ByteArray)) 0 gW bD bu eX fF)
theorem cO.dR:∀ k,(∀ y0 y1 y2 y3 y4 y5 y6 y7,bM (cO.l0 k y0 y1 y2 y3 y4 y5 y6 y7) (cO.l0 (k+1) y0 y1 y2 y3 y4 y5 y6 y7))
  | 0=>fun _ _ _ _ _ _ _ _ r h=>by simp [cO.l0] at h
  | k+1=>by
    have gV:=cO.dR k
    · intro y0 y1 y2 y3 y4 y5 y6 y7
      unfold cO.l0
      repeat' first
      | (with_reducible exact gV _ _ _ _ _ _ _ _)
      | (with_reducible exact bM.refl _)
      | (with_reducible exact bM.none _)
      | (with_reducible refine bM.ite ?_ ?_)
      | (with_reducible refine bM.bind ?_ (fun _=>?_))
      | exact gV _ _ _ _ _ _ _ _
      | exact bM.none _
      | refine bM.ite ?_ ?_
      | refine bM.bind ?_ (fun _=>?_)
theorem cO.mono:∀ a0 a1 a2 a3 a4 k,bM (cO.f k a0 a1 a2 a3 a4) (cO.f (k+1) a0 a1 a2 a3 a4):=by
  intro a0 a1 a2 a3 a4 k
  have gV:=cO.dR k
  unfold cO.f
  repeat' first
      | (with_reducible exact gV _ _ _ _ _ _ _ _)
      | (with_reducible exact bM.refl _)
      | (with_reducible exact bM.none _)
      | (with_reducible refine bM.ite ?_ ?_)
      | (with_reducible refine bM.bind ?_ (fun _=>?_))
      | exact gV _ _ _ _ _ _ _ _
      | exact bM.none _
      | refine bM.ite ?_ ?_
      | refine bM.bind ?_ (fun _=>?_)
end Go.Proofs.YtkclndkbccbhaaaGreatDoor.P
end
section
namespace Go.Proofs.YtkclndkbccbhaaaGreatDoor.P
open Go.RowKit Go.Proofs.ae.aX Go.Proofs.ae.dh Go.Proofs.ae.dI
attribute [local go_sem] iY iV jL jK iy iw iW iU
mutual
def au.j0:Nat→ByteArray→ByteArray→Bool→Option (Bool)
  | 0,_,_,_=>none
  | k+1,x0,x3,PD=>if PD=true then (if 1≤(x0.size:Int) then (au.j1 k x0 (x0.extract 1 x0.size)) else (none)) else (au.j1 k x0 x3)
def au.j1:Nat→ByteArray→ByteArray→Option (Bool)
  | 0,_,_=>none
  | k+1,x0,x3=>if x3.toList=([]:List UInt8) then (au.j2 k x3 true) else (if 0 < (x3.size:Int) then (if (bt x3 0)=48 then (if (x3.size:Int) > 1 then (au.j2 k x3 true) else (au.j2 k x3 (decide ((x0.size:Int) > 1)))) else (au.j2 k x3 false)) else (none))
def au.j2:Nat→ByteArray→Bool→Option (Bool)
  | 0,_,_=>none
  | k+1,x3,x32=>if x32=true then (some false) else (au.l0 k x3 0)
def au.l0:Nat→ByteArray→Int→Option (Bool)
  | 0,_,_=>none
  | k+1,x3,x4=>if x4 < (x3.size:Int) then (if 0≤x4 then (if (bt x3 x4) < 48 then (some false) else (if (bt x3 x4) > 57 then (some false) else (au.l0 k x3 (wrap64 (x4+1))))) else (none)) else (some true)
end
def au.f (k:Nat) (a0:ByteArray):Option (Bool):=if (a0.size:Int) > 0 then (if 0 < (a0.size:Int) then (au.j0 k a0 a0 ((bt a0 0) == 45)) else (none)) else (au.j0 k a0 a0 false)
theorem au.dR:∀ k,(∀ y0 y1 y2,bM (au.j0 k y0 y1 y2) (au.j0 (k+1) y0 y1 y2))∧(∀ y0 y1,bM (au.j1 k y0 y1) (au.j1 (k+1) y0 y1))∧(∀ y0 y1,bM (au.j2 k y0 y1) (au.j2 (k+1) y0 y1))∧(∀ y0 y1,bM (au.l0 k y0 y1) (au.l0 (k+1) y0 y1))
  | 0=>⟨fun _ _ _ r h=>by simp [au.j0] at h,fun _ _ r h=>by simp [au.j1] at h,fun _ _ r h=>by simp [au.j2] at h,fun _ _ r h=>by simp [au.l0] at h⟩
  | k+1=>by
    obtain ⟨gV,ih1,ih2,ih3⟩:=au.dR k
    refine ⟨?_,?_,?_,?_⟩
    · intro y0 y1 y2
      unfold au.j0
      repeat' first
      | (with_reducible exact gV _ _ _)
      | (with_reducible exact ih1 _ _)
      | (with_reducible exact ih2 _ _)
      | (with_reducible exact ih3 _ _)
      | (with_reducible exact bM.refl _)
      | (with_reducible exact bM.none _)
      | (with_reducible refine bM.ite ?_ ?_)
      | (with_reducible refine bM.bind ?_ (fun _=>?_))
      | exact gV _ _ _
      | exact ih1 _ _
      | exact ih2 _ _
      | exact ih3 _ _
      | exact bM.none _
      | refine bM.ite ?_ ?_
      | refine bM.bind ?_ (fun _=>?_)
    · intro y0 y1
      unfold au.j1
      repeat' first
      | (with_reducible exact gV _ _ _)
      | (with_reducible exact ih1 _ _)
      | (with_reducible exact ih2 _ _)
      | (with_reducible exact ih3 _ _)
      | (with_reducible exact bM.refl _)
      | (with_reducible exact bM.none _)
      | (with_reducible refine bM.ite ?_ ?_)
      | (with_reducible refine bM.bind ?_ (fun _=>?_))
      | exact gV _ _ _
      | exact ih1 _ _
      | exact ih2 _ _
      | exact ih3 _ _
      | exact bM.none _
      | refine bM.ite ?_ ?_
      | refine bM.bind ?_ (fun _=>?_)
    · intro y0 y1
      unfold au.j2
      repeat' first
      | (with_reducible exact gV _ _ _)
      | (with_reducible exact ih1 _ _)
      | (with_reducible exact ih2 _ _)
      | (with_reducible exact ih3 _ _)
      | (with_reducible exact bM.refl _)
      | (with_reducible exact bM.none _)
      | (with_reducible refine bM.ite ?_ ?_)
      | (with_reducible refine bM.bind ?_ (fun _=>?_))
      | exact gV _ _ _
      | exact ih1 _ _
      | exact ih2 _ _
      | exact ih3 _ _
      | exact bM.none _
      | refine bM.ite ?_ ?_
      | refine bM.bind ?_ (fun _=>?_)
    · intro y0 y1
      unfold au.l0
      repeat' first
      | (with_reducible exact gV _ _ _)
      | (with_reducible exact ih1 _ _)
      | (with_reducible exact ih2 _ _)
      | (with_reducible exact ih3 _ _)
      | (with_reducible exact bM.refl _)
      | (with_reducible exact bM.none _)
      | (with_reducible refine bM.ite ?_ ?_)
      | (with_reducible refine bM.bind ?_ (fun _=>?_))
      | exact gV _ _ _
      | exact ih1 _ _
      | exact ih2 _ _
      | exact ih3 _ _
      | exact bM.none _
      | refine bM.ite ?_ ?_
      | refine bM.bind ?_ (fun _=>?_)
theorem au.mono:∀ a0 k,bM (au.f k a0) (au.f (k+1) a0):=by
  intro a0 k
  obtain ⟨gV,ih1,ih2,ih3⟩:=au.dR k
  unfold au.f
  repeat' first
      | (with_reducible exact gV _ _ _)
      | (with_reducible exact ih1 _ _)
      | (with_reducible exact ih2 _ _)
      | (with_reducible exact ih3 _ _)
      | (with_reducible exact bM.refl _)
      | (with_reducible exact bM.none _)
      | (with_reducible refine bM.ite ?_ ?_)
      | (with_reducible refine bM.bind ?_ (fun _=>?_))
      | exact gV _ _ _
      | exact ih1 _ _
      | exact ih2 _ _
      | exact ih3 _ _
      | exact bM.none _
      | refine bM.ite ?_ ?_
      | refine bM.bind ?_ (fun _=>?_)
end Go.Proofs.YtkclndkbccbhaaaGreatDoor.P
end
