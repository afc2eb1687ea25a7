/- Parts of the proof of CodeAgain: what the functions that it reaches compute, and plain facts about that. -/
import Derived.Test.YtkclndkbccbhaaaGreatDoorTac
import Derived.Test.YtkclndkbccbhaaaGreatDoorTad
import Derived.Test.YtkclndkbccbhaaaGreatDoorTaf
import Derived.Test.YtkclndkbccbhaaaGreatDoorTag
import Derived.Test.YtkclndkbccbhaaaGreatDoorTak
set_option linter.unusedVariables false
set_option linter.unusedSimpArgs false
section
namespace Go.Proofs.YtkclndkbccbhaaaGreatDoor.P
open Go.RowKit Go.Proofs.ae.bg Go.Proofs.ae.dw Go.Proofs.ae.dO
attribute [local go_sem] jv jq jW jV iQ iP jr jo
attribute [local go_sem high] IE
def bY.f (k:Nat) :Option (Bool):=(bT.f k (⟨#[116,121,112,101,32,105,10,108,111,99,97,108,115,32,48,10,103,108,111,98,97,108,115,32,45,10,110,101,119,32,48,10,115,116,111,114,101,105,32,48,32,48,32,51,10]⟩:ByteArray)).bind fun ja=>((bf.f k ja.1 ja.2.1 ja.2.2.1 ja.2.2.2.1).bind fun yz=>((bT.f k (⟨#[108,111,99,97,108,115,32,48,10]⟩:ByteArray)).bind fun tY=>(if ja.2.2.2.2.2=0 then (if ja.2.2.2.2.1=0 then (if (ja.2.2.2.1.length:Int)=2 then (if 1 < (ja.2.2.2.1.length:Int) then (if (((aJ ja.2.2.2.1 1).f0) == 9 && (((aJ ja.2.2.2.1 1).f1) == 0 && (((aJ ja.2.2.2.1 1).f2) == 3 && (((aJ ja.2.2.2.1 1).f3) == 0 && (((aJ ja.2.2.2.1 1).f4) == 0)))))=true then (if yz.2=0 then (if yz.1.toList=([116,121,112,101,32,105,10,108,111,99,97,108,115,32,48,10,103,108,111,98,97,108,115,32,45,10,110,101,119,32,48,10,115,116,111,114,101,105,32,48,32,48,32,51,10]:List UInt8) then (if tY.2.2.2.2.1=2 then (if tY.2.2.2.2.2=4 then ((dQ.f ((aJ ja.2.2.2.1 1).f0) ((aJ ja.2.2.2.1 1).f1) ((aJ ja.2.2.2.1 1).f2) ((aJ ja.2.2.2.1 1).f3) ((aJ ja.2.2.2.1 1).f4)).bind fun t189=>(if t189=true then ((dQ.f 0 0 0 0 0).bind fun t190=>(some (!t190))) else (some false))) else (some false)) else (some false)) else (some false)) else (some false)) else (some false)) else (none)) else (some false)) else (some false)) else (some false))))
theorem GI {α:Type} {g:Nat→Option α} {a b:α} (hg:∀ k,bV (g k) (g (k+1))) {k k':Nat} (h:g k=some a) (h':g k'=some b):a=b:=by
  obtain ⟨K,hK⟩:=Ev.of hg h
  obtain ⟨K',hK'⟩:=Ev.of hg h'
  exact Option.some.inj ((hK (max K K') (Nat.le_max_left _ _)).symm.trans (hK' _ (Nat.le_max_right _ _)))
theorem tZ {k:Nat} {r:List ByteArray × ByteArray × ByteArray × List iR × Int × Int} (h:bT.f k (⟨#[116,121,112,101,32,105,10,108,111,99,97,108,115,32,48,10,103,108,111,98,97,108,115,32,45,10,110,101,119,32,48,10,115,116,111,114,101,105,32,48,32,48,32,51,10]⟩:ByteArray)=some r):r=(([⟨#[105]⟩]:List ByteArray),(⟨#[48]⟩:ByteArray),(⟨#[]⟩:ByteArray),([⟨5,0,0,0,0⟩,⟨9,0,3,0,0⟩]:List iR),0,0) :=
  GI (fun q=>bT.mono _ q) h (show bT.f 300 (⟨#[116,121,112,101,32,105,10,108,111,99,97,108,115,32,48,10,103,108,111,98,97,108,115,32,45,10,110,101,119,32,48,10,115,116,111,114,101,105,32,48,32,48,32,51,10]⟩:ByteArray)=some (([⟨#[105]⟩]:List ByteArray),(⟨#[48]⟩:ByteArray),(⟨#[]⟩:ByteArray),([⟨5,0,0,0,0⟩,⟨9,0,3,0,0⟩]:List iR),0,0) by kernel_rfl)
theorem Oc {k:Nat} {r:ByteArray × Int} (h:bf.f k ([⟨#[105]⟩]:List ByteArray) (⟨#[48]⟩:ByteArray) (⟨#[]⟩:ByteArray) ([⟨5,0,0,0,0⟩,⟨9,0,3,0,0⟩]:List iR)=some r):r=((⟨#[116,121,112,101,32,105,10,108,111,99,97,108,115,32,48,10,103,108,111,98,97,108,115,32,45,10,110,101,119,32,48,10,115,116,111,114,101,105,32,48,32,48,32,51,10]⟩:ByteArray),0) :=
  GI (fun q=>bf.mono _ _ _ _ q) h (show bf.f 300 ([⟨#[105]⟩]:List ByteArray) (⟨#[48]⟩:ByteArray) (⟨#[]⟩:ByteArray) ([⟨5,0,0,0,0⟩,⟨9,0,3,0,0⟩]:List iR)=some ((⟨#[116,121,112,101,32,105,10,108,111,99,97,108,115,32,48,10,103,108,111,98,97,108,115,32,45,10,110,101,119,32,48,10,115,116,111,114,101,105,32,48,32,48,32,51,10]⟩:ByteArray),0) by kernel_rfl)
theorem Fj {k:Nat} {r:List ByteArray × ByteArray × ByteArray × List iR × Int × Int} (h:bT.f k (⟨#[108,111,99,97,108,115,32,48,10]⟩:ByteArray)=some r):r.2.2.2.2=(2,4):=by
  rw [GI (fun q=>bT.mono _ q) h (show bT.f 300 (⟨#[108,111,99,97,108,115,32,48,10]⟩:ByteArray)=some ([],(⟨#[]⟩:ByteArray),(⟨#[]⟩:ByteArray),[],2,4) by kernel_rfl)]
theorem Rl {r:Bool} (h:dQ.f 9 0 3 0 0=some r):r=true:=Option.some.inj (h.symm.trans (show dQ.f 9 0 3 0 0=some true by kernel_rfl))
theorem bY.mono:∀ k,bV (bY.f k ) (bY.f (k+1) ):=by
  intro  k
  unfold bY.f
  repeat' first
      | (with_reducible exact bT.mono _ _)
      | (with_reducible exact bf.mono _ _ _ _ _)
      | (with_reducible exact bV.refl _)
      | (with_reducible exact bV.none _)
      | (with_reducible refine bV.ite ?_ ?_)
      | (with_reducible refine bV.bind ?_ (fun _=>?_))
      | exact bT.mono _ _
      | exact bf.mono _ _ _ _ _
      | exact bV.none _
      | refine bV.ite ?_ ?_
      | refine bV.bind ?_ (fun _=>?_)
set_option maxHeartbeats 8000000 in
set_option maxRecDepth 100000 in
theorem bY.calls (k:Nat)  (r:Bool) (w:World) (jm:Kd.C tC w tH lH.length lH) (h:bY.f k =some r) :
    Calls Tryz.prog 7 #[] w fun e w'=>e=.returned (.bool r)∧Below w.heap.size w w':=by
  have PQ:=Tryz.underlying25
  have Ul:=Tryz.underlying27
  have qJ:=af.mk jm
  clear jm
  have HB:=af.mk (Below.refl w.heap.size w)
  have H:((bT.f k (⟨#[116,121,112,101,32,105,10,108,111,99,97,108,115,32,48,10,103,108,111,98,97,108,115,32,45,10,110,101,119,32,48,10,115,116,111,114,101,105,32,48,32,48,32,51,10]⟩:ByteArray)).bind fun ja=>((bf.f k ja.1 ja.2.1 ja.2.2.1 ja.2.2.2.1).bind fun yz=>((bT.f k (⟨#[108,111,99,97,108,115,32,48,10]⟩:ByteArray)).bind fun tY=>(if ja.2.2.2.2.2=0 then (if ja.2.2.2.2.1=0 then (if (ja.2.2.2.1.length:Int)=2 then (if 1 < (ja.2.2.2.1.length:Int) then (if (((aJ ja.2.2.2.1 1).f0) == 9 && (((aJ ja.2.2.2.1 1).f1) == 0 && (((aJ ja.2.2.2.1 1).f2) == 3 && (((aJ ja.2.2.2.1 1).f3) == 0 && (((aJ ja.2.2.2.1 1).f4) == 0)))))=true then (if yz.2=0 then (if yz.1.toList=([116,121,112,101,32,105,10,108,111,99,97,108,115,32,48,10,103,108,111,98,97,108,115,32,45,10,110,101,119,32,48,10,115,116,111,114,101,105,32,48,32,48,32,51,10]:List UInt8) then (if tY.2.2.2.2.1=2 then (if tY.2.2.2.2.2=4 then ((dQ.f ((aJ ja.2.2.2.1 1).f0) ((aJ ja.2.2.2.1 1).f1) ((aJ ja.2.2.2.1 1).f2) ((aJ ja.2.2.2.1 1).f3) ((aJ ja.2.2.2.1 1).f4)).bind fun t189=>(if t189=true then ((dQ.f 0 0 0 0 0).bind fun t190=>(some (!t190))) else (some false))) else (some false)) else (some false)) else (some false)) else (some false)) else (some false)) else (none)) else (some false)) else (some false)) else (some false)))))=some r:=h
  clear h
  replace H:=Option.bind_eq_some_iff.mp H
  obtain ⟨⟨t163,t166,t167,t168,t171,t172⟩,RP,H⟩:=H
  replace H:((bf.f k t163 t166 t167 t168).bind fun yz=>((bT.f k (⟨#[108,111,99,97,108,115,32,48,10]⟩:ByteArray)).bind fun tY=>(if t172=0 then (if t171=0 then (if (t168.length:Int)=2 then (if 1 < (t168.length:Int) then (if (((aJ t168 1).f0) == 9 && (((aJ t168 1).f1) == 0 && (((aJ t168 1).f2) == 3 && (((aJ t168 1).f3) == 0 && (((aJ t168 1).f4) == 0)))))=true then (if yz.2=0 then (if yz.1.toList=([116,121,112,101,32,105,10,108,111,99,97,108,115,32,48,10,103,108,111,98,97,108,115,32,45,10,110,101,119,32,48,10,115,116,111,114,101,105,32,48,32,48,32,51,10]:List UInt8) then (if tY.2.2.2.2.1=2 then (if tY.2.2.2.2.2=4 then ((dQ.f ((aJ t168 1).f0) ((aJ t168 1).f1) ((aJ t168 1).f2) ((aJ t168 1).f3) ((aJ t168 1).f4)).bind fun t189=>(if t189=true then ((dQ.f 0 0 0 0 0).bind fun t190=>(some (!t190))) else (some false))) else (some false)) else (some false)) else (some false)) else (some false)) else (some false)) else (none)) else (some false)) else (some false)) else (some false))))=some r:=H
  have A1:=af.mk RP
  clear RP
  replace H:=Option.bind_eq_some_iff.mp H
  obtain ⟨⟨t174,t175⟩,TC,H⟩:=H
  replace H:((bT.f k (⟨#[108,111,99,97,108,115,32,48,10]⟩:ByteArray)).bind fun tY=>(if t172=0 then (if t171=0 then (if (t168.length:Int)=2 then (if 1 < (t168.length:Int) then (if (((aJ t168 1).f0) == 9 && (((aJ t168 1).f1) == 0 && (((aJ t168 1).f2) == 3 && (((aJ t168 1).f3) == 0 && (((aJ t168 1).f4) == 0)))))=true then (if t175=0 then (if t174.toList=([116,121,112,101,32,105,10,108,111,99,97,108,115,32,48,10,103,108,111,98,97,108,115,32,45,10,110,101,119,32,48,10,115,116,111,114,101,105,32,48,32,48,32,51,10]:List UInt8) then (if tY.2.2.2.2.1=2 then (if tY.2.2.2.2.2=4 then ((dQ.f ((aJ t168 1).f0) ((aJ t168 1).f1) ((aJ t168 1).f2) ((aJ t168 1).f3) ((aJ t168 1).f4)).bind fun t189=>(if t189=true then ((dQ.f 0 0 0 0 0).bind fun t190=>(some (!t190))) else (some false))) else (some false)) else (some false)) else (some false)) else (some false)) else (some false)) else (none)) else (some false)) else (some false)) else (some false)))=some r:=H
  have A2:=af.mk TC
  clear TC
  replace H:=Option.bind_eq_some_iff.mp H
  obtain ⟨⟨t176,t179,t180,t181,t184,t185⟩,FN,H⟩:=H
  replace H:(if t172=0 then (if t171=0 then (if (t168.length:Int)=2 then (if 1 < (t168.length:Int) then (if (((aJ t168 1).f0) == 9 && (((aJ t168 1).f1) == 0 && (((aJ t168 1).f2) == 3 && (((aJ t168 1).f3) == 0 && (((aJ t168 1).f4) == 0)))))=true then (if t175=0 then (if t174.toList=([116,121,112,101,32,105,10,108,111,99,97,108,115,32,48,10,103,108,111,98,97,108,115,32,45,10,110,101,119,32,48,10,115,116,111,114,101,105,32,48,32,48,32,51,10]:List UInt8) then (if t184=2 then (if t185=4 then ((dQ.f ((aJ t168 1).f0) ((aJ t168 1).f1) ((aJ t168 1).f2) ((aJ t168 1).f3) ((aJ t168 1).f4)).bind fun t189=>(if t189=true then ((dQ.f 0 0 0 0 0).bind fun t190=>(some (!t190))) else (some false))) else (some false)) else (some false)) else (some false)) else (some false)) else (some false)) else (none)) else (some false)) else (some false)) else (some false))=some r:=H
  have A3:=af.mk FN
  clear FN
  by_cases c4:t172=0
  · rw [if_pos c4] at H
    have J8:(t172 == 0)=true:=beq_iff_eq.mpr c4
    have VR:(t172 != 0)=false:=bne_eq_false_iff_eq.mpr c4
    clear c4
    by_cases c5:t171=0
    · rw [if_pos c5] at H
      have vO:(t171 == 0)=true:=beq_iff_eq.mpr c5
      have UH:(t171 != 0)=false:=bne_eq_false_iff_eq.mpr c5
      clear c5
      by_cases c6:(t168.length:Int)=2
      · rw [if_pos c6] at H
        have qR:((t168.length:Int) == 2)=true:=beq_iff_eq.mpr c6
        have J7:((t168.length:Int) != 2)=false:=bne_eq_false_iff_eq.mpr c6
        clear c6
        by_cases c7:1 < (t168.length:Int)
        · rw [if_pos c7] at H
          have xJ:decide (1 < (t168.length:Int))=true:=decide_eq_true c7
          have DJ:decide (1 < t168.length)=true:=decide_eq_true (by omega)
          clear c7
          by_cases c8:(((aJ t168 1).f0) == 9 && (((aJ t168 1).f1) == 0 && (((aJ t168 1).f2) == 3 && (((aJ t168 1).f3) == 0 && (((aJ t168 1).f4) == 0)))))=true
          · rw [if_pos c8] at H
            have AA:(((aJ t168 1).f0) == 9 && (((aJ t168 1).f1) == 0 && (((aJ t168 1).f2) == 3 && (((aJ t168 1).f3) == 0 && (((aJ t168 1).f4) == 0)))))=true:=c8
            (try (have VN:decide (((aJ t168 1).f0)=9 && (((aJ t168 1).f1) == 0 && (((aJ t168 1).f2) == 3 && (((aJ t168 1).f3) == 0 && (((aJ t168 1).f4) == 0)))))=true:=by simpa using c8))
            (try (have af5:(((aJ t168 1).f0) == 9 && (((aJ t168 1).f1) == 0 && (((aJ t168 1).f2) == 3 && (((aJ t168 1).f3) == 0 && (((aJ t168 1).f4) == 0)))))=true:=by simpa using c8))
            clear c8
            by_cases c9:t175=0
            · rw [if_pos c9] at H
              have J6:(t175 == 0)=true:=beq_iff_eq.mpr c9
              have Rf:(t175 != 0)=false:=bne_eq_false_iff_eq.mpr c9
              clear c9
              by_cases c10:t174.toList=([116,121,112,101,32,105,10,108,111,99,97,108,115,32,48,10,103,108,111,98,97,108,115,32,45,10,110,101,119,32,48,10,115,116,111,114,101,105,32,48,32,48,32,51,10]:List UInt8)
              · rw [if_pos c10] at H
                have yx:(t174.toList == ([116,121,112,101,32,105,10,108,111,99,97,108,115,32,48,10,103,108,111,98,97,108,115,32,45,10,110,101,119,32,48,10,115,116,111,114,101,105,32,48,32,48,32,51,10]:List UInt8))=true:=beq_iff_eq.mpr c10
                have Fg:(t174.toList != ([116,121,112,101,32,105,10,108,111,99,97,108,115,32,48,10,103,108,111,98,97,108,115,32,45,10,110,101,119,32,48,10,115,116,111,114,101,105,32,48,32,48,32,51,10]:List UInt8))=false:=bne_eq_false_iff_eq.mpr c10
                clear c10
                by_cases c11:t184=2
                · rw [if_pos c11] at H
                  have yw:(t184 == 2)=true:=beq_iff_eq.mpr c11
                  have BU:(t184 != 2)=false:=bne_eq_false_iff_eq.mpr c11
                  clear c11
                  by_cases c12:t185=4
                  · rw [if_pos c12] at H
                    have N8:(t185 == 4)=true:=beq_iff_eq.mpr c12
                    have V9:(t185 != 4)=false:=bne_eq_false_iff_eq.mpr c12
                    clear c12
                    replace H:=Option.bind_eq_some_iff.mp H
                    obtain ⟨t189,XM,H⟩:=H
                    replace H:(if t189=true then ((dQ.f 0 0 0 0 0).bind fun t190=>(some (!t190))) else (some false))=some r:=H
                    have A13:=af.mk XM
                    clear XM
                    by_cases c14:t189=true
                    · subst c14
                      have H1:((dQ.f 0 0 0 0 0).bind fun t190=>(some (!t190)))=some r:=by rw [if_pos rfl] at H;exact H
                      clear H
                      have H:=H1
                      clear H1
                      replace H:=Option.bind_eq_some_iff.mp H
                      obtain ⟨t190,OA,H⟩:=H
                      replace H:(some (!t190))=some r:=H
                      have A15:=af.mk OA
                      clear OA
                      obtain rfl:=Option.some.inj H
                      go_enter Tryz.func7,Tryz.ntmps7
                      go_wp2_with (first|((with_reducible refine bJ (f:=13) rfl ?_);refine fD (some 12) rfl rfl Tryz.func13 (by kernel_rfl) rfl #[.string (⟨#[116,121,112,101,32,105,10,108,111,99,97,108,115,32,48,10,103,108,111,98,97,108,115,32,45,10,110,101,119,32,48,10,115,116,111,114,101,105,32,48,32,48,32,51,10]⟩:ByteArray)] rfl (by (try simp only [List.map_toArray,List.map_cons,List.map_nil]);first|done|rfl|(simp only [List.length_drop,List.length_take];rfl)) ?_;(with_reducible refine (bT.calls k (⟨#[116,121,112,101,32,105,10,108,111,99,97,108,115,32,48,10,103,108,111,98,97,108,115,32,45,10,110,101,119,32,48,10,115,116,111,114,101,105,32,48,32,48,32,51,10]⟩:ByteArray) t163 t166 t167 t168 t171 t172 _ ?dS A1.out).mono ?_);(case dS=>repeat (first|exact qJ.out|(with_reducible refine Kd.eu ?_ _)|(with_reducible refine Kd.ed ?_ _)|(with_reducible refine Kd.fQ ?_)));rintro e w16 ⟨v164,afz,rfl,ho0,ho1,hb⟩;refine ⟨_,rfl,?_⟩;have dE:=af.mk (Kd.eQ ho0 (aY (by repeat (first|(with_reducible first|exact HB.out|apply ai|apply ag|apply ah)|exact HB.out))));have dL:=af.mk (Kd.eQ ho1 (aY (by repeat (first|(with_reducible first|exact HB.out|apply ai|apply ag|apply ah)|exact HB.out))));have eF:=af.mk (aX (by repeat (first|(with_reducible first|exact HB.out|apply ai|apply ag|apply ah)|exact HB.out)) hb);clear HB;have lT:=dE;have jE:=dL;have HB:=eF;clear dE dL eF;(try clear hb);(try clear hb2);(try clear hk);(try clear hi);(try clear ho0);(try clear ho1))|((with_reducible refine eH (N:=2) rfl ?_);(try (refine fP (by rfl) ?_;dsimp only));refine fU ?hg (N:=2) ?hd (cs:=#[.slice none 0 0,.string (⟨#[]⟩:ByteArray),.string (⟨#[]⟩:ByteArray),.slice none 0 0]) (t:=25) ?hr ?_;(case hd=>rfl);(case hg=>rfl);(case hr=>first|(go_simp;done)|(go_simp;rfl));intro jk hg Vh hbox hb;have dE:=af.mk (Kd.cu (by (with_reducible repeat (first|apply Kd.aT|apply Kd.aV|apply Kd.bu));exact lT.out) hb);have dL:=af.mk (Kd.cu (by (with_reducible repeat (first|apply Kd.aT|apply Kd.aV|apply Kd.bu));exact jE.out) hb);have eF:=af.mk (aX (by repeat (first|(with_reducible first|exact HB.out|apply ai|apply ag|apply ah)|exact HB.out)) hb);have fO:=af.mk (hbox);have ik:=af.mk ((by rw [hg];exact (aY (by repeat (first|(with_reducible first|exact HB.out|apply ai|apply ag|apply ah)|exact HB.out))):w.heap.size≤jk));have kR:=af.mk ((by rw [hg];exact (aY (by repeat (first|(with_reducible first|exact HB.out|apply ai|apply ag|apply ah)|exact HB.out))):w.heap.size≤jk));clear lT;clear jE;clear HB;have lT:=dE;have jE:=dL;have HB:=eF;have jc:=fO;have aff:=ik;have sO:=kR;clear dE dL eF fO ik kR;clear hb hbox hg;obtain ⟨uh,sU,Uz⟩:=Kd.dY lT.out;subst Uz;have QI:Vh.cell? ⟨jk,0,none⟩=some (.slice none 0 0):=(au jc.out 0).trans rfl;have QH:Vh.cell? ⟨jk,1,none⟩=some (.string (⟨#[]⟩:ByteArray)):=(au jc.out 1).trans rfl;have QG:Vh.cell? ⟨jk,2,none⟩=some (.string (⟨#[]⟩:ByteArray)):=(au jc.out 2).trans rfl;have QF:Vh.cell? ⟨jk,3,none⟩=some (.slice none 0 0):=(au jc.out 3).trans rfl;have Qh:=aj jc.out 0;have Qg:=aj jc.out 1;have Qe:=aj jc.out 2;have Qd:=aj jc.out 3;obtain ⟨Ag,wR,adp⟩:=Kd.dY jE.out;subst adp)|((with_reducible refine bJ (f:=9) rfl ?_);refine fD (some 18) rfl rfl Tryz.func9 (by kernel_rfl) rfl #[.agg #[.slice uh t163.length sU,.string t166,.string t167,.slice Ag t168.length wR]] rfl (by (try simp only [List.map_toArray,List.map_cons,List.map_nil]);first|done|rfl|(simp only [List.length_drop,List.length_take];rfl)) ?_;(with_reducible refine (bf.calls k _ _ t163 t166 t167 _ _ t168 t174 t175 _ ?dS ?lJ ?pM ?pK ?pJ A2.out).mono ?_);(case dS=>refine (Kd.dK (e:=9) (base:=w.heap.size) (ok:=fun k_=>True) (n:=t163.length) (c:=sU) ?_).2.2;exact (by (with_reducible repeat (first|apply Kd.aT|apply Kd.aV|apply Kd.bu));exact (Kd.dB (Kd.cZ (p:=⟨jk,3,none⟩) (Kd.cZ (p:=⟨jk,2,none⟩) (Kd.cZ (p:=⟨jk,1,none⟩) (Kd.cZ (p:=⟨jk,0,none⟩) (Kd.eP lT.out jc.out (by decide)) (fun _ hk=>hk.2) (.slice uh t163.length sU)) (fun _ hk=>hk.2) (.string t166)) (fun _ hk=>hk.2) (.string t167)) (fun _ hk=>hk.2) (.slice Ag t168.length wR)) (fun _ h_=>h_.1))));(case lJ=>exact (Kd.dK lT.out).2.1);(case pM=>refine (Kd.dK (e:=27) (base:=w.heap.size) (ok:=fun k_=>True) (n:=t168.length) (c:=wR) ?_).2.2;exact (by (with_reducible repeat (first|apply Kd.aT|apply Kd.aV|apply Kd.bu));exact (Kd.dB (Kd.cZ (p:=⟨jk,3,none⟩) (Kd.cZ (p:=⟨jk,2,none⟩) (Kd.cZ (p:=⟨jk,1,none⟩) (Kd.cZ (p:=⟨jk,0,none⟩) (Kd.eP jE.out jc.out (by decide)) (fun _ hk=>hk.2) (.slice uh t163.length sU)) (fun _ hk=>hk.2) (.string t166)) (fun _ hk=>hk.2) (.string t167)) (fun _ hk=>hk.2) (.slice Ag t168.length wR)) (fun _ h_=>h_.1))));(case pK=>exact (Kd.dK jE.out).2.1);(case pJ=>exact Kd.dU qJ.out (by repeat (first|(with_reducible first|exact HB.out|apply ai|apply ag|apply ah|refine aA ?_ sO.out)|exact HB.out)));rintro e Vg ⟨rfl,hb⟩;refine ⟨_,rfl,?_⟩;have dE:=af.mk (Kd.cu (by (with_reducible repeat (first|apply Kd.aT|apply Kd.aV|apply Kd.bu));exact (Kd.dB (Kd.cZ (p:=⟨jk,3,none⟩) (Kd.cZ (p:=⟨jk,2,none⟩) (Kd.cZ (p:=⟨jk,1,none⟩) (Kd.cZ (p:=⟨jk,0,none⟩) (Kd.eP lT.out jc.out (by decide)) (fun _ hk=>hk.2) (.slice uh t163.length sU)) (fun _ hk=>hk.2) (.string t166)) (fun _ hk=>hk.2) (.string t167)) (fun _ hk=>hk.2) (.slice Ag t168.length wR)) (fun _ h_=>h_.1))) hb);have dL:=af.mk (Kd.cu (by (with_reducible repeat (first|apply Kd.aT|apply Kd.aV|apply Kd.bu));exact (Kd.dB (Kd.cZ (p:=⟨jk,3,none⟩) (Kd.cZ (p:=⟨jk,2,none⟩) (Kd.cZ (p:=⟨jk,1,none⟩) (Kd.cZ (p:=⟨jk,0,none⟩) (Kd.eP jE.out jc.out (by decide)) (fun _ hk=>hk.2) (.slice uh t163.length sU)) (fun _ hk=>hk.2) (.string t166)) (fun _ hk=>hk.2) (.string t167)) (fun _ hk=>hk.2) (.slice Ag t168.length wR)) (fun _ h_=>h_.1))) hb);have eF:=af.mk (bZ (g:=jk) (o:=.cells #[.slice uh t163.length sU,.string t166,.string t167,.slice Ag t168.length wR] 25 (0,0)) (by (with_reducible repeat (first|refine ay ?_ _|refine aC ?_|refine az ?_ _));refine dP (cs:=#[.slice uh t163.length sU,.string t166,.string t167,.slice none 0 0]) ?_ 3 _ rfl;(with_reducible repeat (first|refine ay ?_ _|refine aC ?_|refine az ?_ _));refine dP (cs:=#[.slice uh t163.length sU,.string t166,.string (⟨#[]⟩:ByteArray),.slice none 0 0]) ?_ 2 _ rfl;(with_reducible repeat (first|refine ay ?_ _|refine aC ?_|refine az ?_ _));refine dP (cs:=#[.slice uh t163.length sU,.string (⟨#[]⟩:ByteArray),.string (⟨#[]⟩:ByteArray),.slice none 0 0]) ?_ 1 _ rfl;(with_reducible repeat (first|refine ay ?_ _|refine aC ?_|refine az ?_ _));refine dP (cs:=#[.slice none 0 0,.string (⟨#[]⟩:ByteArray),.string (⟨#[]⟩:ByteArray),.slice none 0 0]) ?_ 0 _ rfl;(with_reducible repeat (first|refine ay ?_ _|refine aC ?_|refine az ?_ _));exact jc.out) hb);have fO:=af.mk (aX (by repeat (first|(with_reducible first|exact HB.out|apply ai|apply ag|apply ah|refine aA ?_ sO.out)|exact HB.out)) hb);clear lT;clear jE;clear jc;clear HB;have lT:=dE;have jE:=dL;have jc:=eF;have HB:=fO;clear dE dL eF fO;(try clear hb);(try clear hb2);(try clear hk);(try clear hi))|((with_reducible refine bJ (f:=13) rfl ?_);refine fD (some 22) rfl rfl Tryz.func13 (by kernel_rfl) rfl #[.string (⟨#[108,111,99,97,108,115,32,48,10]⟩:ByteArray)] rfl (by (try simp only [List.map_toArray,List.map_cons,List.map_nil]);first|done|rfl|(simp only [List.length_drop,List.length_take];rfl)) ?_;(with_reducible refine (bT.calls k (⟨#[108,111,99,97,108,115,32,48,10]⟩:ByteArray) t176 t179 t180 t181 t184 t185 _ ?dS A3.out).mono ?_);(case dS=>repeat (first|exact (Kd.dU qJ.out HB.out)|(with_reducible refine Kd.eu ?_ _)|(with_reducible refine Kd.ed ?_ _)|(with_reducible refine Kd.fQ ?_)));rintro e Kw ⟨afy,v182,rfl,ho0,ho1,hb⟩;refine ⟨_,rfl,?_⟩;have dE:=af.mk (Kd.jG (by (with_reducible repeat (first|apply Kd.aT|apply Kd.aV|apply Kd.bu));exact lT.out) (Kd.iM ho0) hb);have dL:=af.mk (Kd.jG (by (with_reducible repeat (first|apply Kd.aT|apply Kd.aV|apply Kd.bu));exact jE.out) (Kd.iM ho1) hb);have eF:=af.mk (Kd.eQ (Kd.mJ ho0 (Kd.qc (by (with_reducible repeat (first|apply Kd.aT|apply Kd.aV|apply Kd.bu));exact lT.out))) (aY (by repeat (first|(with_reducible first|exact HB.out|apply ai|apply ag|apply ah|refine aA ?_ sO.out)|exact HB.out))));have fO:=af.mk (Kd.eQ (Kd.mJ ho1 (Kd.qc (by (with_reducible repeat (first|apply Kd.aT|apply Kd.aV|apply Kd.bu));exact jE.out))) (aY (by repeat (first|(with_reducible first|exact HB.out|apply ai|apply ag|apply ah|refine aA ?_ sO.out)|exact HB.out))));have ik:=af.mk (bZ (g:=jk) (o:=.cells #[.slice uh t163.length sU,.string t166,.string t167,.slice Ag t168.length wR] 25 (0,0)) (by (with_reducible repeat (first|refine ay ?_ _|refine aC ?_|refine az ?_ _));exact jc.out) hb);have kR:=af.mk (aX (by repeat (first|(with_reducible first|exact HB.out|apply ai|apply ag|apply ah|refine aA ?_ sO.out)|exact HB.out)) hb);clear lT;clear jE;clear jc;clear HB;have lT:=dE;have jE:=dL;have vF:=eF;have vz:=fO;have jc:=ik;have HB:=kR;clear dE dL eF fO ik kR;(try clear hb);(try clear hb2);(try clear hk);(try clear hi);(try clear ho0);(try clear ho1))|((with_reducible refine eH (N:=7) rfl ?_);(try (refine fP (by rfl) ?_;dsimp only));refine fU ?hg (N:=7) ?hd (cs:=#[.slice none 0 0,.string (⟨#[]⟩:ByteArray),.string (⟨#[]⟩:ByteArray),.slice none 0 0]) (t:=25) ?hr ?_;(case hd=>rfl);(case hg=>rfl);(case hr=>first|(go_simp;done)|(go_simp;rfl));intro dZ hg Jb hbox hb;have dE:=af.mk (Kd.cu (by (with_reducible repeat (first|apply Kd.aT|apply Kd.aV|apply Kd.bu));exact lT.out) hb);have dL:=af.mk (Kd.cu (by (with_reducible repeat (first|apply Kd.aT|apply Kd.aV|apply Kd.bu));exact jE.out) hb);have eF:=af.mk (Kd.cu (by (with_reducible repeat (first|apply Kd.aT|apply Kd.aV|apply Kd.bu));exact vF.out) hb);have fO:=af.mk (Kd.cu (by (with_reducible repeat (first|apply Kd.aT|apply Kd.aV|apply Kd.bu));exact vz.out) hb);have ik:=af.mk (bZ (g:=jk) (o:=.cells #[.slice uh t163.length sU,.string t166,.string t167,.slice Ag t168.length wR] 25 (0,0)) (by (with_reducible repeat (first|refine ay ?_ _|refine aC ?_|refine az ?_ _));exact jc.out) hb);have kR:=af.mk (aX (by repeat (first|(with_reducible first|exact HB.out|apply ai|apply ag|apply ah|refine aA ?_ sO.out)|exact HB.out)) hb);have oJ:=af.mk (hbox);have Bz:=af.mk ((by rw [hg];exact (aY (by repeat (first|(with_reducible first|exact HB.out|apply ai|apply ag|apply ah|refine aA ?_ sO.out)|exact HB.out))):w.heap.size≤dZ));have D7:=af.mk ((by rw [hg];exact (aY (by repeat (first|(with_reducible first|exact HB.out|apply ai|apply ag|apply ah|refine aA ?_ sO.out)|exact HB.out))):w.heap.size≤dZ));have H8:=af.mk ((by rw [hg];exact Nat.ne_of_lt (kV (g:=jk) (o:=.cells #[.slice uh t163.length sU,.string t166,.string t167,.slice Ag t168.length wR] 25 (0,0)) (by (with_reducible repeat (first|refine ay ?_ _|refine aC ?_|refine az ?_ _));exact jc.out)):jk ≠ dZ));have sS:=af.mk ((by rw [hg];exact Nat.ne_of_gt (kV (g:=jk) (o:=.cells #[.slice uh t163.length sU,.string t166,.string t167,.slice Ag t168.length wR] 25 (0,0)) (by (with_reducible repeat (first|refine ay ?_ _|refine aC ?_|refine az ?_ _));exact jc.out)):dZ ≠ jk));clear lT;clear jE;clear vF;clear vz;clear jc;clear HB;have lT:=dE;have jE:=dL;have vF:=eF;have vz:=fO;have jc:=ik;have HB:=kR;have kS:=oJ;have afe:=Bz;have I8:=D7;have qW:=H8;have Kt:=sS;clear dE dL eF fO ik kR oJ Bz D7 H8 sS;clear hb hbox hg;obtain ⟨qX,qQ,Uy⟩:=Kd.dY vF.out;subst Uy;have aeG:=Kt.out;have aep:=qW.out;have abQ:Jb.cell? ⟨dZ,0,none⟩=some (.slice none 0 0):=(au kS.out 0).trans rfl;have abP:Jb.cell? ⟨dZ,1,none⟩=some (.string (⟨#[]⟩:ByteArray)):=(au kS.out 1).trans rfl;have abO:Jb.cell? ⟨dZ,2,none⟩=some (.string (⟨#[]⟩:ByteArray)):=(au kS.out 2).trans rfl;have abN:Jb.cell? ⟨dZ,3,none⟩=some (.slice none 0 0):=(au kS.out 3).trans rfl;have ZB:=aj kS.out 0;have ZA:=aj kS.out 1;have Zz:=aj kS.out 2;have Zy:=aj kS.out 3;obtain ⟨lG,lu,JX⟩:=Kd.dY vz.out;subst JX;have QE:Jb.cell? ⟨jk,0,none⟩=some (.slice uh t163.length sU):=(au jc.out 0).trans rfl;have QD:Jb.cell? ⟨jk,1,none⟩=some (.string t166):=(au jc.out 1).trans rfl;have QC:Jb.cell? ⟨jk,2,none⟩=some (.string t167):=(au jc.out 2).trans rfl;have QB:Jb.cell? ⟨jk,3,none⟩=some (.slice Ag t168.length wR):=(au jc.out 3).trans rfl;have Qc:=aj jc.out 0;have Qb:=aj jc.out 1;have Qa:=aj jc.out 2;have P9:=aj jc.out 3;have Ue:0≤(1:Int):=(by omega);have TW:1 < (t168.length:Int):=of_decide_eq_true (by first|(with_reducible assumption)|assumption);obtain ⟨uf,e187,nN,nM,nK,nJ,nI⟩:=sH (Kd.dK jE.out).2.2 1 Ue TW;cases e187;(try simp only [show (1:Int).toNat=1 from rfl,Nat.reduceMul,Nat.reduceEqDiff,Go.Addr.add,↓reduceIte] at nN);(try simp only [show (1:Int).toNat=1 from rfl,Nat.reduceMul,Nat.reduceEqDiff,Go.Addr.add,↓reduceIte] at nM);(try simp only [show (1:Int).toNat=1 from rfl,Nat.reduceMul,Nat.reduceEqDiff,Go.Addr.add,↓reduceIte] at nK);(try simp only [show (1:Int).toNat=1 from rfl,Nat.reduceMul,Nat.reduceEqDiff,Go.Addr.add,↓reduceIte] at nJ);(try simp only [show (1:Int).toNat=1 from rfl,Nat.reduceMul,Nat.reduceEqDiff,Go.Addr.add,↓reduceIte] at nI);have aeb:(1 < t168.length)=True:=eq_true (by omega);(try rw [show ((1:Int)).toNat=1 from rfl] at nN);(try rw [show 1 * 5=5 from rfl] at nN);(try rw [show ((1:Int)).toNat=1 from rfl] at nM);(try rw [show 1 * 5=5 from rfl] at nM);(try rw [show ((1:Int)).toNat=1 from rfl] at nK);(try rw [show 1 * 5=5 from rfl] at nK);(try rw [show ((1:Int)).toNat=1 from rfl] at nJ);(try rw [show 1 * 5=5 from rfl] at nJ);(try rw [show ((1:Int)).toNat=1 from rfl] at nI);(try rw [show 1 * 5=5 from rfl] at nI);have kF:uf.block ≠ dZ:=Kd.o8 (Kd.DV jE.out kS.out (by decide));have kE:uf.block ≠ dZ:=Kd.o8 (Kd.DV jE.out kS.out (by decide));have kD:uf.block ≠ dZ:=Kd.o8 (Kd.DV jE.out kS.out (by decide));have kC:uf.block ≠ dZ:=Kd.o8 (Kd.DV jE.out kS.out (by decide));replace nN:=(cell_far (p:=⟨dZ,0,none⟩) (by first|(rw [add_block];exact kF)|(show (Addr.add _ _).block ≠ _;rw [add_block];exact kF)|exact kF) (.slice qX t176.length qQ)).trans nN;replace nM:=(cell_far (p:=⟨dZ,0,none⟩) (by first|(rw [add_block];exact kF)|(show (Addr.add _ _).block ≠ _;rw [add_block];exact kF)|exact kF) (.slice qX t176.length qQ)).trans nM;replace nK:=(cell_far (p:=⟨dZ,0,none⟩) (by first|(rw [add_block];exact kF)|(show (Addr.add _ _).block ≠ _;rw [add_block];exact kF)|exact kF) (.slice qX t176.length qQ)).trans nK;replace nJ:=(cell_far (p:=⟨dZ,0,none⟩) (by first|(rw [add_block];exact kF)|(show (Addr.add _ _).block ≠ _;rw [add_block];exact kF)|exact kF) (.slice qX t176.length qQ)).trans nJ;replace nI:=(cell_far (p:=⟨dZ,0,none⟩) (by first|(rw [add_block];exact kF)|(show (Addr.add _ _).block ≠ _;rw [add_block];exact kF)|exact kF) (.slice qX t176.length qQ)).trans nI;replace nN:=(cell_far (p:=⟨dZ,1,none⟩) (by first|(rw [add_block];exact kE)|(show (Addr.add _ _).block ≠ _;rw [add_block];exact kE)|exact kE) (.string t179)).trans nN;replace nM:=(cell_far (p:=⟨dZ,1,none⟩) (by first|(rw [add_block];exact kE)|(show (Addr.add _ _).block ≠ _;rw [add_block];exact kE)|exact kE) (.string t179)).trans nM;replace nK:=(cell_far (p:=⟨dZ,1,none⟩) (by first|(rw [add_block];exact kE)|(show (Addr.add _ _).block ≠ _;rw [add_block];exact kE)|exact kE) (.string t179)).trans nK;replace nJ:=(cell_far (p:=⟨dZ,1,none⟩) (by first|(rw [add_block];exact kE)|(show (Addr.add _ _).block ≠ _;rw [add_block];exact kE)|exact kE) (.string t179)).trans nJ;replace nI:=(cell_far (p:=⟨dZ,1,none⟩) (by first|(rw [add_block];exact kE)|(show (Addr.add _ _).block ≠ _;rw [add_block];exact kE)|exact kE) (.string t179)).trans nI;replace nN:=(cell_far (p:=⟨dZ,2,none⟩) (by first|(rw [add_block];exact kD)|(show (Addr.add _ _).block ≠ _;rw [add_block];exact kD)|exact kD) (.string t180)).trans nN;replace nM:=(cell_far (p:=⟨dZ,2,none⟩) (by first|(rw [add_block];exact kD)|(show (Addr.add _ _).block ≠ _;rw [add_block];exact kD)|exact kD) (.string t180)).trans nM;replace nK:=(cell_far (p:=⟨dZ,2,none⟩) (by first|(rw [add_block];exact kD)|(show (Addr.add _ _).block ≠ _;rw [add_block];exact kD)|exact kD) (.string t180)).trans nK;replace nJ:=(cell_far (p:=⟨dZ,2,none⟩) (by first|(rw [add_block];exact kD)|(show (Addr.add _ _).block ≠ _;rw [add_block];exact kD)|exact kD) (.string t180)).trans nJ;replace nI:=(cell_far (p:=⟨dZ,2,none⟩) (by first|(rw [add_block];exact kD)|(show (Addr.add _ _).block ≠ _;rw [add_block];exact kD)|exact kD) (.string t180)).trans nI;replace nN:=(cell_far (p:=⟨dZ,3,none⟩) (by first|(rw [add_block];exact kC)|(show (Addr.add _ _).block ≠ _;rw [add_block];exact kC)|exact kC) (.slice lG t181.length lu)).trans nN;replace nM:=(cell_far (p:=⟨dZ,3,none⟩) (by first|(rw [add_block];exact kC)|(show (Addr.add _ _).block ≠ _;rw [add_block];exact kC)|exact kC) (.slice lG t181.length lu)).trans nM;replace nK:=(cell_far (p:=⟨dZ,3,none⟩) (by first|(rw [add_block];exact kC)|(show (Addr.add _ _).block ≠ _;rw [add_block];exact kC)|exact kC) (.slice lG t181.length lu)).trans nK;replace nJ:=(cell_far (p:=⟨dZ,3,none⟩) (by first|(rw [add_block];exact kC)|(show (Addr.add _ _).block ≠ _;rw [add_block];exact kC)|exact kC) (.slice lG t181.length lu)).trans nJ;replace nI:=(cell_far (p:=⟨dZ,3,none⟩) (by first|(rw [add_block];exact kC)|(show (Addr.add _ _).block ≠ _;rw [add_block];exact kC)|exact kC) (.slice lG t181.length lu)).trans nI;clear kF;clear kE;clear kD;clear kC;replace Ue:=eq_true Ue;replace TW:=eq_true TW;have Ud:0≤(1:Int):=(by omega);have TV:1 < (t168.length:Int):=of_decide_eq_true (by first|(with_reducible assumption)|assumption);obtain ⟨WB,adw,nH,nG,nD,nC,nz⟩:=sH (Kd.dK jE.out).2.2 1 Ud TV;obtain rfl:uf=WB:=(by injection adw);(try simp only [show (1:Int).toNat=1 from rfl,Nat.reduceMul,Nat.reduceEqDiff,Go.Addr.add,↓reduceIte] at nH);(try simp only [show (1:Int).toNat=1 from rfl,Nat.reduceMul,Nat.reduceEqDiff,Go.Addr.add,↓reduceIte] at nG);(try simp only [show (1:Int).toNat=1 from rfl,Nat.reduceMul,Nat.reduceEqDiff,Go.Addr.add,↓reduceIte] at nD);(try simp only [show (1:Int).toNat=1 from rfl,Nat.reduceMul,Nat.reduceEqDiff,Go.Addr.add,↓reduceIte] at nC);(try simp only [show (1:Int).toNat=1 from rfl,Nat.reduceMul,Nat.reduceEqDiff,Go.Addr.add,↓reduceIte] at nz);have aea:(1 < t168.length)=True:=eq_true (by omega);(try rw [show ((1:Int)).toNat=1 from rfl] at nH);(try rw [show 1 * 5=5 from rfl] at nH);(try rw [show ((1:Int)).toNat=1 from rfl] at nG);(try rw [show 1 * 5=5 from rfl] at nG);(try rw [show ((1:Int)).toNat=1 from rfl] at nD);(try rw [show 1 * 5=5 from rfl] at nD);(try rw [show ((1:Int)).toNat=1 from rfl] at nC);(try rw [show 1 * 5=5 from rfl] at nC);(try rw [show ((1:Int)).toNat=1 from rfl] at nz);(try rw [show 1 * 5=5 from rfl] at nz);have ku:uf.block ≠ dZ:=Kd.o8 (Kd.DV jE.out kS.out (by decide));have jZ:uf.block ≠ dZ:=Kd.o8 (Kd.DV jE.out kS.out (by decide));have jY:uf.block ≠ dZ:=Kd.o8 (Kd.DV jE.out kS.out (by decide));have jX:uf.block ≠ dZ:=Kd.o8 (Kd.DV jE.out kS.out (by decide));replace nH:=(cell_far (p:=⟨dZ,0,none⟩) (by first|(rw [add_block];exact ku)|(show (Addr.add _ _).block ≠ _;rw [add_block];exact ku)|exact ku) (.slice qX t176.length qQ)).trans nH;replace nG:=(cell_far (p:=⟨dZ,0,none⟩) (by first|(rw [add_block];exact ku)|(show (Addr.add _ _).block ≠ _;rw [add_block];exact ku)|exact ku) (.slice qX t176.length qQ)).trans nG;replace nD:=(cell_far (p:=⟨dZ,0,none⟩) (by first|(rw [add_block];exact ku)|(show (Addr.add _ _).block ≠ _;rw [add_block];exact ku)|exact ku) (.slice qX t176.length qQ)).trans nD;replace nC:=(cell_far (p:=⟨dZ,0,none⟩) (by first|(rw [add_block];exact ku)|(show (Addr.add _ _).block ≠ _;rw [add_block];exact ku)|exact ku) (.slice qX t176.length qQ)).trans nC;replace nz:=(cell_far (p:=⟨dZ,0,none⟩) (by first|(rw [add_block];exact ku)|(show (Addr.add _ _).block ≠ _;rw [add_block];exact ku)|exact ku) (.slice qX t176.length qQ)).trans nz;replace nH:=(cell_far (p:=⟨dZ,1,none⟩) (by first|(rw [add_block];exact jZ)|(show (Addr.add _ _).block ≠ _;rw [add_block];exact jZ)|exact jZ) (.string t179)).trans nH;replace nG:=(cell_far (p:=⟨dZ,1,none⟩) (by first|(rw [add_block];exact jZ)|(show (Addr.add _ _).block ≠ _;rw [add_block];exact jZ)|exact jZ) (.string t179)).trans nG;replace nD:=(cell_far (p:=⟨dZ,1,none⟩) (by first|(rw [add_block];exact jZ)|(show (Addr.add _ _).block ≠ _;rw [add_block];exact jZ)|exact jZ) (.string t179)).trans nD;replace nC:=(cell_far (p:=⟨dZ,1,none⟩) (by first|(rw [add_block];exact jZ)|(show (Addr.add _ _).block ≠ _;rw [add_block];exact jZ)|exact jZ) (.string t179)).trans nC;replace nz:=(cell_far (p:=⟨dZ,1,none⟩) (by first|(rw [add_block];exact jZ)|(show (Addr.add _ _).block ≠ _;rw [add_block];exact jZ)|exact jZ) (.string t179)).trans nz;replace nH:=(cell_far (p:=⟨dZ,2,none⟩) (by first|(rw [add_block];exact jY)|(show (Addr.add _ _).block ≠ _;rw [add_block];exact jY)|exact jY) (.string t180)).trans nH;replace nG:=(cell_far (p:=⟨dZ,2,none⟩) (by first|(rw [add_block];exact jY)|(show (Addr.add _ _).block ≠ _;rw [add_block];exact jY)|exact jY) (.string t180)).trans nG;replace nD:=(cell_far (p:=⟨dZ,2,none⟩) (by first|(rw [add_block];exact jY)|(show (Addr.add _ _).block ≠ _;rw [add_block];exact jY)|exact jY) (.string t180)).trans nD;replace nC:=(cell_far (p:=⟨dZ,2,none⟩) (by first|(rw [add_block];exact jY)|(show (Addr.add _ _).block ≠ _;rw [add_block];exact jY)|exact jY) (.string t180)).trans nC;replace nz:=(cell_far (p:=⟨dZ,2,none⟩) (by first|(rw [add_block];exact jY)|(show (Addr.add _ _).block ≠ _;rw [add_block];exact jY)|exact jY) (.string t180)).trans nz;replace nH:=(cell_far (p:=⟨dZ,3,none⟩) (by first|(rw [add_block];exact jX)|(show (Addr.add _ _).block ≠ _;rw [add_block];exact jX)|exact jX) (.slice lG t181.length lu)).trans nH;replace nG:=(cell_far (p:=⟨dZ,3,none⟩) (by first|(rw [add_block];exact jX)|(show (Addr.add _ _).block ≠ _;rw [add_block];exact jX)|exact jX) (.slice lG t181.length lu)).trans nG;replace nD:=(cell_far (p:=⟨dZ,3,none⟩) (by first|(rw [add_block];exact jX)|(show (Addr.add _ _).block ≠ _;rw [add_block];exact jX)|exact jX) (.slice lG t181.length lu)).trans nD;replace nC:=(cell_far (p:=⟨dZ,3,none⟩) (by first|(rw [add_block];exact jX)|(show (Addr.add _ _).block ≠ _;rw [add_block];exact jX)|exact jX) (.slice lG t181.length lu)).trans nC;replace nz:=(cell_far (p:=⟨dZ,3,none⟩) (by first|(rw [add_block];exact jX)|(show (Addr.add _ _).block ≠ _;rw [add_block];exact jX)|exact jX) (.slice lG t181.length lu)).trans nz;clear ku;clear jZ;clear jY;clear jX;replace Ud:=eq_true Ud;replace TV:=eq_true TV)|(go_at_call 11;(with_reducible refine (dQ.calls ((aJ t168 1).f0) ((aJ t168 1).f1) ((aJ t168 1).f2) ((aJ t168 1).f3) ((aJ t168 1).f4) true _ ?dS A13.out).mono ?_);(case dS=>exact Kd.dU qJ.out (by repeat (first|(with_reducible first|exact HB.out|apply ai|apply ag|apply ah|refine aA ?_ sO.out|refine aA ?_ I8.out)|exact HB.out)));rintro e w29 ⟨rfl,hb⟩;have dE:=af.mk (Kd.cu (by (with_reducible repeat (first|apply Kd.aT|apply Kd.aV|apply Kd.bu));exact (Kd.dB (Kd.cZ (p:=⟨dZ,3,none⟩) (Kd.cZ (p:=⟨dZ,2,none⟩) (Kd.cZ (p:=⟨dZ,1,none⟩) (Kd.cZ (p:=⟨dZ,0,none⟩) (Kd.eP lT.out kS.out (by decide)) (fun _ hk=>hk.2) (.slice qX t176.length qQ)) (fun _ hk=>hk.2) (.string t179)) (fun _ hk=>hk.2) (.string t180)) (fun _ hk=>hk.2) (.slice lG t181.length lu)) (fun _ h_=>h_.1))) hb);have dL:=af.mk (Kd.cu (by (with_reducible repeat (first|apply Kd.aT|apply Kd.aV|apply Kd.bu));exact (Kd.dB (Kd.cZ (p:=⟨dZ,3,none⟩) (Kd.cZ (p:=⟨dZ,2,none⟩) (Kd.cZ (p:=⟨dZ,1,none⟩) (Kd.cZ (p:=⟨dZ,0,none⟩) (Kd.eP jE.out kS.out (by decide)) (fun _ hk=>hk.2) (.slice qX t176.length qQ)) (fun _ hk=>hk.2) (.string t179)) (fun _ hk=>hk.2) (.string t180)) (fun _ hk=>hk.2) (.slice lG t181.length lu)) (fun _ h_=>h_.1))) hb);have eF:=af.mk (Kd.cu (by (with_reducible repeat (first|apply Kd.aT|apply Kd.aV|apply Kd.bu));exact (Kd.dB (Kd.cZ (p:=⟨dZ,3,none⟩) (Kd.cZ (p:=⟨dZ,2,none⟩) (Kd.cZ (p:=⟨dZ,1,none⟩) (Kd.cZ (p:=⟨dZ,0,none⟩) (Kd.eP vF.out kS.out (by decide)) (fun _ hk=>hk.2) (.slice qX t176.length qQ)) (fun _ hk=>hk.2) (.string t179)) (fun _ hk=>hk.2) (.string t180)) (fun _ hk=>hk.2) (.slice lG t181.length lu)) (fun _ h_=>h_.1))) hb);have fO:=af.mk (Kd.cu (by (with_reducible repeat (first|apply Kd.aT|apply Kd.aV|apply Kd.bu));exact (Kd.dB (Kd.cZ (p:=⟨dZ,3,none⟩) (Kd.cZ (p:=⟨dZ,2,none⟩) (Kd.cZ (p:=⟨dZ,1,none⟩) (Kd.cZ (p:=⟨dZ,0,none⟩) (Kd.eP vz.out kS.out (by decide)) (fun _ hk=>hk.2) (.slice qX t176.length qQ)) (fun _ hk=>hk.2) (.string t179)) (fun _ hk=>hk.2) (.string t180)) (fun _ hk=>hk.2) (.slice lG t181.length lu)) (fun _ h_=>h_.1))) hb);have ik:=af.mk (bZ (g:=jk) (o:=.cells #[.slice uh t163.length sU,.string t166,.string t167,.slice (some uf) t168.length wR] 25 (0,0)) (by (with_reducible repeat (first|refine ay ?_ _|refine aC ?_|refine az ?_ _));refine gW ?_ qW.out _;(with_reducible repeat (first|refine ay ?_ _|refine aC ?_|refine az ?_ _));refine gW ?_ qW.out _;(with_reducible repeat (first|refine ay ?_ _|refine aC ?_|refine az ?_ _));refine gW ?_ qW.out _;(with_reducible repeat (first|refine ay ?_ _|refine aC ?_|refine az ?_ _));refine gW ?_ qW.out _;(with_reducible repeat (first|refine ay ?_ _|refine aC ?_|refine az ?_ _));exact jc.out) hb);have kR:=af.mk (bZ (g:=dZ) (o:=.cells #[.slice qX t176.length qQ,.string t179,.string t180,.slice lG t181.length lu] 25 (0,0)) (by (with_reducible repeat (first|refine ay ?_ _|refine aC ?_|refine az ?_ _));refine dP (cs:=#[.slice qX t176.length qQ,.string t179,.string t180,.slice none 0 0]) ?_ 3 _ rfl;(with_reducible repeat (first|refine ay ?_ _|refine aC ?_|refine az ?_ _));refine dP (cs:=#[.slice qX t176.length qQ,.string t179,.string (⟨#[]⟩:ByteArray),.slice none 0 0]) ?_ 2 _ rfl;(with_reducible repeat (first|refine ay ?_ _|refine aC ?_|refine az ?_ _));refine dP (cs:=#[.slice qX t176.length qQ,.string (⟨#[]⟩:ByteArray),.string (⟨#[]⟩:ByteArray),.slice none 0 0]) ?_ 1 _ rfl;(with_reducible repeat (first|refine ay ?_ _|refine aC ?_|refine az ?_ _));refine dP (cs:=#[.slice none 0 0,.string (⟨#[]⟩:ByteArray),.string (⟨#[]⟩:ByteArray),.slice none 0 0]) ?_ 0 _ rfl;(with_reducible repeat (first|refine ay ?_ _|refine aC ?_|refine az ?_ _));exact kS.out) hb);have oJ:=af.mk (aX (by repeat (first|(with_reducible first|exact HB.out|apply ai|apply ag|apply ah|refine aA ?_ sO.out|refine aA ?_ I8.out)|exact HB.out)) hb);clear lT;clear jE;clear vF;clear vz;clear jc;clear kS;clear HB;have lT:=dE;have jE:=dL;have vF:=eF;have vz:=fO;have jc:=ik;have kS:=kR;have HB:=oJ;clear dE dL eF fO ik kR oJ;(try clear hb);(try clear hb2);(try clear hk);(try clear hi))|(go_at_call 11;(with_reducible refine (dQ.calls 0 0 0 0 0 t190 _ ?dS A15.out).mono ?_);(case dS=>repeat (first|exact (Kd.dU qJ.out HB.out)|(with_reducible refine Kd.eu ?_ _)|(with_reducible refine Kd.ed ?_ _)|(with_reducible refine Kd.fQ ?_)));rintro e Vf ⟨rfl,hb⟩;have dE:=af.mk (Kd.cu (by (with_reducible repeat (first|apply Kd.aT|apply Kd.aV|apply Kd.bu));exact lT.out) hb);have dL:=af.mk (Kd.cu (by (with_reducible repeat (first|apply Kd.aT|apply Kd.aV|apply Kd.bu));exact jE.out) hb);have eF:=af.mk (Kd.cu (by (with_reducible repeat (first|apply Kd.aT|apply Kd.aV|apply Kd.bu));exact vF.out) hb);have fO:=af.mk (Kd.cu (by (with_reducible repeat (first|apply Kd.aT|apply Kd.aV|apply Kd.bu));exact vz.out) hb);have ik:=af.mk (bZ (g:=jk) (o:=.cells #[.slice uh t163.length sU,.string t166,.string t167,.slice (some uf) t168.length wR] 25 (0,0)) (by (with_reducible repeat (first|refine ay ?_ _|refine aC ?_|refine az ?_ _));exact jc.out) hb);have kR:=af.mk (bZ (g:=dZ) (o:=.cells #[.slice qX t176.length qQ,.string t179,.string t180,.slice lG t181.length lu] 25 (0,0)) (by (with_reducible repeat (first|refine ay ?_ _|refine aC ?_|refine az ?_ _));exact kS.out) hb);have oJ:=af.mk (aX (by repeat (first|(with_reducible first|exact HB.out|apply ai|apply ag|apply ah|refine aA ?_ sO.out|refine aA ?_ I8.out)|exact HB.out)) hb);clear lT;clear jE;clear vF;clear vz;clear jc;clear kS;clear HB;have lT:=dE;have jE:=dL;have vF:=eF;have vz:=fO;have jc:=ik;have kS:=kR;have HB:=oJ;clear dE dL eF fO ik kR oJ;(try clear hb);(try clear hb2);(try clear hk);(try clear hi)))
                      go_ret
                      exact ⟨by first|rfl|(simp [bF,bD] <;> rfl)|(simp [*,bF,bD] <;> rfl),by repeat (first|(with_reducible first|exact HB.out|apply ai|apply ag|apply ah|refine aA ?_ sO.out|refine aA ?_ I8.out)|exact HB.out)⟩
                    · have q1:=tZ A1.out;simp only [Prod.mk.injEq] at q1;obtain ⟨e1,e2,e3,e4,e5,e6⟩:=q1;exact absurd (Rl (by have q5:=A13.out;rw [e4] at q5;exact q5)) c14
                  · have q4:=Fj A3.out;simp only [Prod.mk.injEq] at q4;exact absurd q4.2 c12
                · have q4:=Fj A3.out;simp only [Prod.mk.injEq] at q4;exact absurd q4.1 c11
              · have q1:=tZ A1.out;simp only [Prod.mk.injEq] at q1;obtain ⟨e1,e2,e3,e4,e5,e6⟩:=q1;have q2:=A2.out;rw [e1,e2,e3,e4] at q2;have q3:=Oc q2;simp only [Prod.mk.injEq] at q3;exact absurd (by rw [q3.1];decide +kernel) c10
            · have q1:=tZ A1.out;simp only [Prod.mk.injEq] at q1;obtain ⟨e1,e2,e3,e4,e5,e6⟩:=q1;have q2:=A2.out;rw [e1,e2,e3,e4] at q2;have q3:=Oc q2;simp only [Prod.mk.injEq] at q3;exact absurd q3.2 c9
          · have q1:=tZ A1.out;simp only [Prod.mk.injEq] at q1;obtain ⟨e1,e2,e3,e4,e5,e6⟩:=q1;exact absurd (by rw [e4];decide +kernel) c8
        · have q1:=tZ A1.out;simp only [Prod.mk.injEq] at q1;obtain ⟨e1,e2,e3,e4,e5,e6⟩:=q1;exact absurd (by rw [e4];decide) c7
      · have q1:=tZ A1.out;simp only [Prod.mk.injEq] at q1;obtain ⟨e1,e2,e3,e4,e5,e6⟩:=q1;exact absurd (by rw [e4];rfl) c6
    · have q1:=tZ A1.out;simp only [Prod.mk.injEq] at q1;obtain ⟨e1,e2,e3,e4,e5,e6⟩:=q1;exact absurd e5 c5
  · have q1:=tZ A1.out;simp only [Prod.mk.injEq] at q1;obtain ⟨e1,e2,e3,e4,e5,e6⟩:=q1;exact absurd e6 c4
def dM.l0:Nat→Int→List ByteArray→Int→Int→List ByteArray→ByteArray→ByteArray→List (iR)→Option (Bool)
  | 0,_,_,_,_,_,_,_,_=>none
  | k+1,x3,x14,x15,x16,OI,OH,OG,Hl=>if x16 < x15 then (if 0≤x16 then (if x16 < (x14.length:Int) then (dM.l0 k (wrap64 (x3+(wrap64 (((eX ByteArray.empty x14 x16).size:Int)+1)))) x14 x15 (wrap64 (x16+1)) OI OH OG Hl) else (none)) else (none)) else (if x3≤500 then (some (decide ((Hl.length:Int)≤210))) else (some false))
def dM.f (k:Nat) (bP:List ByteArray) (bU:ByteArray) (bQ:ByteArray) (bn:List (iR)):Option (Bool):=dM.l0 k (wrap64 ((bU.size:Int)+(bQ.size:Int))) bP (bP.length:Int) 0 bP bU bQ bn
theorem dM.fC:∀ k,(∀ y0 y1 y2 y3 y4 y5 y6 y7,bV (dM.l0 k y0 y1 y2 y3 y4 y5 y6 y7) (dM.l0 (k+1) y0 y1 y2 y3 y4 y5 y6 y7))
  | 0=>fun _ _ _ _ _ _ _ _ r h=>by simp [dM.l0] at h
  | k+1=>by
    have iU:=dM.fC k
    · intro y0 y1 y2 y3 y4 y5 y6 y7
      unfold dM.l0
      repeat' first
      | (with_reducible exact iU _ _ _ _ _ _ _ _)
      | (with_reducible exact bV.refl _)
      | (with_reducible exact bV.none _)
      | (with_reducible refine bV.ite ?_ ?_)
      | (with_reducible refine bV.bind ?_ (fun _=>?_))
      | exact iU _ _ _ _ _ _ _ _
      | exact bV.none _
      | refine bV.ite ?_ ?_
      | refine bV.bind ?_ (fun _=>?_)
theorem dM.mono:∀ a0 a1 a2 a3 k,bV (dM.f k a0 a1 a2 a3) (dM.f (k+1) a0 a1 a2 a3):=by
  intro a0 a1 a2 a3 k
  have iU:=dM.fC k
  unfold dM.f
  repeat' first
      | (with_reducible exact iU _ _ _ _ _ _ _ _)
      | (with_reducible exact bV.refl _)
      | (with_reducible exact bV.none _)
      | (with_reducible refine bV.ite ?_ ?_)
      | (with_reducible refine bV.bind ?_ (fun _=>?_))
      | exact iU _ _ _ _ _ _ _ _
      | exact bV.none _
      | refine bV.ite ?_ ?_
      | refine bV.bind ?_ (fun _=>?_)
end Go.Proofs.YtkclndkbccbhaaaGreatDoor.P
end
section
namespace Go.Proofs.YtkclndkbccbhaaaGreatDoor.P
open Go.RowKit Go.Proofs.ae.bg Go.Proofs.ae.dw Go.Proofs.ae.dO
attribute [local go_sem] jv jq jW jV iQ iP jr jo
mutual
def aH.l0:Nat→List (List ByteArray)→ByteArray→Int→Option (ByteArray)
  | 0,_,_,_=>none
  | k+1,x0,x3,x4=>if x4 < (x0.length:Int) then (aH.l1 k x0 x3 x4 0) else (some x3)
def aH.l1:Nat→List (List ByteArray)→ByteArray→Int→Int→Option (ByteArray)
  | 0,_,_,_,_=>none
  | k+1,x0,x3,x4,x5=>if 0≤x4 then (if x4 < (x0.length:Int) then (if x5 < ((fM x0 x4).length:Int) then (if x5 > 0 then (if x3.size+1≤9223372036854775807 then (if 0≤x5 then (if (x3++(⟨#[32]⟩:ByteArray)).size+(eX ByteArray.empty (fM x0 x4) x5).size≤9223372036854775807 then (aH.l1 k x0 ((x3++(⟨#[32]⟩:ByteArray))++(eX ByteArray.empty (fM x0 x4) x5)) x4 (wrap64 (x5+1))) else (none)) else (none)) else (none)) else (if 0≤x5 then (if x3.size+(eX ByteArray.empty (fM x0 x4) x5).size≤9223372036854775807 then (aH.l1 k x0 (x3++(eX ByteArray.empty (fM x0 x4) x5)) x4 (wrap64 (x5+1))) else (none)) else (none))) else (if x3.size+1≤9223372036854775807 then (aH.l0 k x0 (x3++(⟨#[10]⟩:ByteArray)) (wrap64 (x4+1))) else (none))) else (none)) else (none)
end
def aH.f (k:Nat) (l0:List (List ByteArray)):Option (ByteArray):=aH.l0 k l0 (⟨#[]⟩:ByteArray) 0
theorem aH.fC:∀ k,(∀ y0 y1 y2,bV (aH.l0 k y0 y1 y2) (aH.l0 (k+1) y0 y1 y2))∧(∀ y0 y1 y2 y3,bV (aH.l1 k y0 y1 y2 y3) (aH.l1 (k+1) y0 y1 y2 y3))
  | 0=>⟨fun _ _ _ r h=>by simp [aH.l0] at h,fun _ _ _ _ r h=>by simp [aH.l1] at h⟩
  | k+1=>by
    obtain ⟨iU,ih1⟩:=aH.fC k
    refine ⟨?_,?_⟩
    · intro y0 y1 y2
      unfold aH.l0
      repeat' first
      | (with_reducible exact iU _ _ _)
      | (with_reducible exact ih1 _ _ _ _)
      | (with_reducible exact bV.refl _)
      | (with_reducible exact bV.none _)
      | (with_reducible refine bV.ite ?_ ?_)
      | (with_reducible refine bV.bind ?_ (fun _=>?_))
      | exact iU _ _ _
      | exact ih1 _ _ _ _
      | exact bV.none _
      | refine bV.ite ?_ ?_
      | refine bV.bind ?_ (fun _=>?_)
    · intro y0 y1 y2 y3
      unfold aH.l1
      repeat' first
      | (with_reducible exact iU _ _ _)
      | (with_reducible exact ih1 _ _ _ _)
      | (with_reducible exact bV.refl _)
      | (with_reducible exact bV.none _)
      | (with_reducible refine bV.ite ?_ ?_)
      | (with_reducible refine bV.bind ?_ (fun _=>?_))
      | exact iU _ _ _
      | exact ih1 _ _ _ _
      | exact bV.none _
      | refine bV.ite ?_ ?_
      | refine bV.bind ?_ (fun _=>?_)
theorem aH.mono:∀ a0 k,bV (aH.f k a0) (aH.f (k+1) a0):=by
  intro a0 k
  obtain ⟨iU,ih1⟩:=aH.fC k
  unfold aH.f
  repeat' first
      | (with_reducible exact iU _ _ _)
      | (with_reducible exact ih1 _ _ _ _)
      | (with_reducible exact bV.refl _)
      | (with_reducible exact bV.none _)
      | (with_reducible refine bV.ite ?_ ?_)
      | (with_reducible refine bV.bind ?_ (fun _=>?_))
      | exact iU _ _ _
      | exact ih1 _ _ _ _
      | exact bV.none _
      | refine bV.ite ?_ ?_
      | refine bV.bind ?_ (fun _=>?_)
set_option maxHeartbeats 8000000 in
set_option maxRecDepth 100000 in
theorem aH.calls (k:Nat) (A0:Option Addr) (c0:Nat) (l0:List (List ByteArray)) (r:ByteArray) (w:World) (hr0:Kd.C (Kd.slice 9 Kd.string) w A0 l0.length l0) (hc0:l0.length≤c0) (h:aH.f k l0=some r) :
    Calls Tryz.prog 17 #[.slice A0 l0.length c0] w fun e w'=>e=.returned (.string r)∧dD w w':=by
  have HR0:=af.mk hr0
  have U5:=af.mk hc0
  clear hr0 hc0
  have H:(aH.l0 k l0 (⟨#[]⟩:ByteArray) 0)=some r:=h
  clear h
  have H':=af.mk H
  clear H
  go_enter Tryz.func17,Tryz.ntmps17
  go_wp2
  go_loopg [3,4] k (fun kq v3 v4 w'=>∃ (eU:ByteArray) (eG:Int),v3=.string eU∧v4=.int .i64 eG∧af (aH.l0 kq l0 eU eG=some r)∧af (kq≤k)∧dD w w')
  case atStart=>exact ⟨((⟨#[]⟩:ByteArray)),(0),(by first|rfl|(simp;done)|(simp [*];done)),(by first|rfl|(simp;done)|(simp [*];done)),H',⟨Nat.le_refl _⟩,by repeat (first|exact dD.refl _|apply dD.step)⟩
  case round =>
    clear H'
    try clear c1
    obtain ⟨eU,eG,rfl,rfl,HA,nV,⟨m1,rfl⟩⟩:=hrel
    cases gk with
    | zero=>exact absurd HA.out (by simp [aH.l0])
    | succ k1 =>
      have H:=HA.out
      clear HA
      simp only [aH.l0] at H
      by_cases c2:eG < (l0.length:Int)
      · rw [if_pos c2] at H
        have sV:decide (eG < (l0.length:Int))=true:=decide_eq_true c2
        clear c2
        have H':=af.mk H
        clear H
        go_wp2
        go_loopg [3,5] k1 (fun kq v3 v5 w'=>∃ (sQ:ByteArray) (iE:Int),v3=.string sQ∧v5=.int .i64 iE∧af (aH.l1 kq l0 sQ eG iE=some r)∧af (kq≤k1)∧dD w w')
        case atStart=>exact ⟨(eU),(0),(by first|rfl|(simp;done)|(simp [*];done)),(by first|rfl|(simp;done)|(simp [*];done)),H',⟨Nat.le_refl _⟩,by repeat (first|exact dD.refl _|apply dD.step)⟩
        case round =>
          clear H'
          try clear c1
          try clear c2
          try clear sV
          try clear p2
          obtain ⟨sQ,iE,rfl,rfl,HA,yA,⟨m2,rfl⟩⟩:=hrel
          cases gk with
          | zero=>exact absurd HA.out (by simp [aH.l1])
          | succ k2 =>
            have H:=HA.out
            clear HA
            simp only [aH.l1] at H
            by_cases c3:0≤eG
            · rw [if_pos c3] at H
              have J9:decide (0≤eG)=true:=decide_eq_true c3
              clear c3
              by_cases c4:eG < (l0.length:Int)
              · rw [if_pos c4] at H
                have J8:decide (eG < (l0.length:Int))=true:=decide_eq_true c4
                clear c4
                by_cases c5:iE < ((fM l0 eG).length:Int)
                · rw [if_pos c5] at H
                  have vO:decide (iE < ((fM l0 eG).length:Int))=true:=decide_eq_true c5
                  clear c5
                  by_cases c6:iE > 0
                  · rw [if_pos c6] at H
                    have qR:decide (0 < iE)=true:=decide_eq_true c6
                    clear c6
                    by_cases c7:sQ.size+1≤9223372036854775807
                    · rw [if_pos c7] at H
                      have xJ:=eq_true c7
                      have DJ:decide (sQ.size+1≤9223372036854775807)=true:=decide_eq_true c7
                      try have VQ:(9223372036854775807 < sQ.size+1)=False:=eq_false (Nat.not_lt.2 c7)
                      by_cases c8:0≤iE
                      · rw [if_pos c8] at H
                        have AA:decide (0≤iE)=true:=decide_eq_true c8
                        clear c8
                        by_cases c9:(sQ++(⟨#[32]⟩:ByteArray)).size+(eX ByteArray.empty (fM l0 eG) iE).size≤9223372036854775807
                        · rw [if_pos c9] at H
                          have J6:=eq_true c9
                          have Rf:decide ((sQ++(⟨#[32]⟩:ByteArray)).size+(eX ByteArray.empty (fM l0 eG) iE).size≤9223372036854775807)=true:=decide_eq_true c9
                          try have af4:(9223372036854775807 < (sQ++(⟨#[32]⟩:ByteArray)).size+(eX ByteArray.empty (fM l0 eG) iE).size)=False:=eq_false (Nat.not_lt.2 c9)
                          have H':=af.mk H
                          clear H
                          have zy:0≤(eG:Int):=of_decide_eq_true (by first|(with_reducible assumption)|assumption)
                          have zu:eG < (l0.length:Int):=of_decide_eq_true (by first|(with_reducible assumption)|assumption)
                          obtain ⟨IP,Oz,NY,NL,yP,qp,qw⟩:=sN HR0.out eG zy zu
                          cases NL
                          have IW:=af.mk qw
                          have I4:=af.mk qp
                          clear qw qp
                          replace zy:=eq_true zy
                          replace zu:=eq_true zu
                          have Uc:0≤(eG:Int):=of_decide_eq_true (by first|(with_reducible assumption)|assumption)
                          have TU:eG < (l0.length:Int):=of_decide_eq_true (by first|(with_reducible assumption)|assumption)
                          obtain ⟨WA,ad4,adL,adv,PN,Ij,Il⟩:=sN HR0.out eG Uc TU
                          obtain rfl:IP=WA:=(by injection adv)
                          have RG:=af.mk Il
                          have acC:=af.mk Ij
                          clear Il Ij
                          replace Uc:=eq_true Uc
                          replace TU:=eq_true TU
                          have UA:=Option.some.inj (yP.symm.trans PN)
                          injection UA with UA en_ ec_
                          subst UA
                          subst ec_
                          clear en_
                          have Ub:0≤(iE:Int):=of_decide_eq_true (by first|(with_reducible assumption)|assumption)
                          have TT:iE < ((fM l0 eG).length:Int):=of_decide_eq_true (by first|(with_reducible assumption)|assumption)
                          obtain ⟨ae3,e195,X3⟩:=Kd.fG RG.out iE Ub TT
                          cases e195
                          replace Ub:=eq_true Ub
                          replace TT:=eq_true TT
                          go_wp2
                          go_roundg k2
                          case measure=>have:=nV.out;have:=yA.out;omega
                          case rel=>exact ⟨((sQ++(⟨#[32]⟩:ByteArray))++(eX ByteArray.empty (fM l0 eG) iE)),(wrap64 (iE+1)),(by first|rfl|(simp;done)|(simp [*];done)),(by first|rfl|(simp;done)|(simp [*];done)),H',⟨by have:=nV.out;have:=yA.out;omega⟩,by repeat (first|exact dD.refl _|apply dD.step)⟩
                        · rw [if_neg c9] at H
                          exact absurd H (by simp)
                      · rw [if_neg c8] at H
                        exact absurd H (by simp)
                    · rw [if_neg c7] at H
                      exact absurd H (by simp)
                  · rw [if_neg c6] at H
                    have qR:decide (0 < iE)=false:=decide_eq_false c6
                    clear c6
                    by_cases c10:0≤iE
                    · rw [if_pos c10] at H
                      have yx:decide (0≤iE)=true:=decide_eq_true c10
                      clear c10
                      by_cases c11:sQ.size+(eX ByteArray.empty (fM l0 eG) iE).size≤9223372036854775807
                      · rw [if_pos c11] at H
                        have yw:=eq_true c11
                        have BU:decide (sQ.size+(eX ByteArray.empty (fM l0 eG) iE).size≤9223372036854775807)=true:=decide_eq_true c11
                        try have ae1:(9223372036854775807 < sQ.size+(eX ByteArray.empty (fM l0 eG) iE).size)=False:=eq_false (Nat.not_lt.2 c11)
                        have H':=af.mk H
                        clear H
                        have zy:0≤(eG:Int):=of_decide_eq_true (by first|(with_reducible assumption)|assumption)
                        have zu:eG < (l0.length:Int):=of_decide_eq_true (by first|(with_reducible assumption)|assumption)
                        obtain ⟨IP,Oz,NY,NL,yP,qp,qw⟩:=sN HR0.out eG zy zu
                        cases NL
                        have IW:=af.mk qw
                        have I4:=af.mk qp
                        clear qw qp
                        replace zy:=eq_true zy
                        replace zu:=eq_true zu
                        have Ua:0≤(eG:Int):=of_decide_eq_true (by first|(with_reducible assumption)|assumption)
                        have TS:eG < (l0.length:Int):=of_decide_eq_true (by first|(with_reducible assumption)|assumption)
                        obtain ⟨Wy,ad2,adK,adu,PM,Ii,Ik⟩:=sN HR0.out eG Ua TS
                        obtain rfl:IP=Wy:=(by injection adu)
                        have RF:=af.mk Ik
                        have acB:=af.mk Ii
                        clear Ik Ii
                        replace Ua:=eq_true Ua
                        replace TS:=eq_true TS
                        have UA:=Option.some.inj (yP.symm.trans PM)
                        injection UA with UA en_ ec_
                        subst UA
                        subst ec_
                        clear en_
                        have TZ:0≤(iE:Int):=of_decide_eq_true (by first|(with_reducible assumption)|assumption)
                        have TR:iE < ((fM l0 eG).length:Int):=of_decide_eq_true (by first|(with_reducible assumption)|assumption)
                        obtain ⟨ae2,e197,X0⟩:=Kd.fG RF.out iE TZ TR
                        cases e197
                        replace TZ:=eq_true TZ
                        replace TR:=eq_true TR
                        go_wp2
                        go_roundg k2
                        case measure=>have:=nV.out;have:=yA.out;omega
                        case rel=>exact ⟨(sQ++(eX ByteArray.empty (fM l0 eG) iE)),(wrap64 (iE+1)),(by first|rfl|(simp;done)|(simp [*];done)),(by first|rfl|(simp;done)|(simp [*];done)),H',⟨by have:=nV.out;have:=yA.out;omega⟩,by repeat (first|exact dD.refl _|apply dD.step)⟩
                      · rw [if_neg c11] at H
                        exact absurd H (by simp)
                    · rw [if_neg c10] at H
                      exact absurd H (by simp)
                · rw [if_neg c5] at H
                  have vO:decide (iE < ((fM l0 eG).length:Int))=false:=decide_eq_false c5
                  clear c5
                  by_cases c12:sQ.size+1≤9223372036854775807
                  · rw [if_pos c12] at H
                    have N8:=eq_true c12
                    have V9:decide (sQ.size+1≤9223372036854775807)=true:=decide_eq_true c12
                    try have ae0:(9223372036854775807 < sQ.size+1)=False:=eq_false (Nat.not_lt.2 c12)
                    have H':=af.mk H
                    clear H
                    have zy:0≤(eG:Int):=of_decide_eq_true (by first|(with_reducible assumption)|assumption)
                    have zu:eG < (l0.length:Int):=of_decide_eq_true (by first|(with_reducible assumption)|assumption)
                    obtain ⟨IP,Oz,NY,NL,yP,qp,qw⟩:=sN HR0.out eG zy zu
                    cases NL
                    have IW:=af.mk qw
                    have I4:=af.mk qp
                    clear qw qp
                    replace zy:=eq_true zy
                    replace zu:=eq_true zu
                    go_wp2
                    go_roundg k2
                    case measure=>have:=nV.out;have:=yA.out;omega
                    case rel=>exact ⟨(sQ++(⟨#[10]⟩:ByteArray)),(wrap64 (eG+1)),(by first|rfl|(simp;done)|(simp [*];done)),(by first|rfl|(simp;done)|(simp [*];done)),H',⟨by have:=nV.out;have:=yA.out;omega⟩,by repeat (first|exact dD.refl _|apply dD.step)⟩
                  · rw [if_neg c12] at H
                    exact absurd H (by simp)
              · rw [if_neg c4] at H
                exact absurd H (by simp)
            · rw [if_neg c3] at H
              exact absurd H (by simp)
      · rw [if_neg c2] at H
        have sV:decide (eG < (l0.length:Int))=false:=decide_eq_false c2
        clear c2
        obtain rfl:=Option.some.inj H
        go_wp2
        go_ret
        exact ⟨by first|rfl|(simp;done)|(simp [*];done),by repeat (first|exact dD.refl _|apply dD.step)⟩
def tK.f (a0:Int):Option (ByteArray × ByteArray):=if a0=11 then (some ((⟨#[115,116,111,114,101,112]⟩:ByteArray),(⟨#[97,110,98]⟩:ByteArray))) else (if a0=12 then (some ((⟨#[108,111,97,100,103]⟩:ByteArray),(⟨#[97,98]⟩:ByteArray))) else (if a0=13 then (some ((⟨#[115,116,111,114,101,103]⟩:ByteArray),(⟨#[97,98]⟩:ByteArray))) else (if a0=14 then (some ((⟨#[112,114,105,110,116]⟩:ByteArray),(⟨#[97]⟩:ByteArray))) else (if a0=15 then (some ((⟨#[115,97,109,101]⟩:ByteArray),(⟨#[97,98,99]⟩:ByteArray))) else (some ((⟨#[]⟩:ByteArray),(⟨#[]⟩:ByteArray)))))))
def lq.f (a0:Int):Option (ByteArray × ByteArray):=if a0=1 then (some ((⟨#[115,101,116]⟩:ByteArray),(⟨#[97,110]⟩:ByteArray))) else (if a0=2 then (some ((⟨#[97,100,100]⟩:ByteArray),(⟨#[97,98,99]⟩:ByteArray))) else (if a0=3 then (some ((⟨#[106,117,109,112]⟩:ByteArray),(⟨#[110]⟩:ByteArray))) else (if a0=4 then (some ((⟨#[122,101,114,111]⟩:ByteArray),(⟨#[97,110]⟩:ByteArray))) else (if a0=5 then (some ((⟨#[110,101,119]⟩:ByteArray),(⟨#[97]⟩:ByteArray))) else (if a0=6 then (some ((⟨#[110,105,108]⟩:ByteArray),(⟨#[97]⟩:ByteArray))) else (if a0=7 then (some ((⟨#[109,111,118,101]⟩:ByteArray),(⟨#[97,98]⟩:ByteArray))) else (if a0=8 then (some ((⟨#[108,111,97,100,105]⟩:ByteArray),(⟨#[97,98,110]⟩:ByteArray))) else (if a0=9 then (some ((⟨#[115,116,111,114,101,105]⟩:ByteArray),(⟨#[97,110,98]⟩:ByteArray))) else (if a0=10 then (some ((⟨#[108,111,97,100,112]⟩:ByteArray),(⟨#[97,98,110]⟩:ByteArray))) else ((tK.f a0).bind fun Tc=>(some (Tc.1,Tc.2))))))))))))
def tN.f (jf:Int) (bU:Int) (bQ:Int) (gQ:Int) (iy:Int) (a1:Int):Option (Int):=if a1=97 then (some (wrap64 (bU))) else (if a1=98 then (some (wrap64 (bQ))) else (if a1=99 then (some (wrap64 (gQ))) else (some iy)))
def dA.l0:Nat→ByteArray→List ByteArray→Int→Int→Int→Int→Int→Int→Option (List ByteArray)
  | 0,_,_,_,_,_,_,_,_=>none
  | k+1,x4,x5,x6,Hg,Hf,He,Ha,G9=>if x6 < (x4.size:Int) then (if 0≤x6 then ((tN.f Hg Hf He Ha G9 (bt x4 x6)).bind fun t207=>((iH.f t207 10).bind fun t208=>(if x5.length < 8796093022208 then (dA.l0 k x4 (x5++[t208]) (wrap64 (x6+1)) Hg Hf He Ha G9) else (none)))) else (none)) else (some x5)
def dA.f (k:Nat) (jf:Int) (bU:Int) (bQ:Int) (gQ:Int) (iy:Int):Option (List ByteArray):=(lq.f jf).bind fun S9=>(dA.l0 k S9.2 (([S9.1]:List ByteArray)) 0 jf bU bQ gQ iy)
theorem dA.fC:∀ k,(∀ y0 y1 y2 y3 y4 y5 y6 y7,bV (dA.l0 k y0 y1 y2 y3 y4 y5 y6 y7) (dA.l0 (k+1) y0 y1 y2 y3 y4 y5 y6 y7))
  | 0=>fun _ _ _ _ _ _ _ _ r h=>by simp [dA.l0] at h
  | k+1=>by
    have iU:=dA.fC k
    · intro y0 y1 y2 y3 y4 y5 y6 y7
      unfold dA.l0
      repeat' first
      | (with_reducible exact iU _ _ _ _ _ _ _ _)
      | (with_reducible exact bV.refl _)
      | (with_reducible exact bV.none _)
      | (with_reducible refine bV.ite ?_ ?_)
      | (with_reducible refine bV.bind ?_ (fun _=>?_))
      | exact iU _ _ _ _ _ _ _ _
      | exact bV.none _
      | refine bV.ite ?_ ?_
      | refine bV.bind ?_ (fun _=>?_)
theorem dA.mono:∀ a0 a1 a2 a3 a4 k,bV (dA.f k a0 a1 a2 a3 a4) (dA.f (k+1) a0 a1 a2 a3 a4):=by
  intro a0 a1 a2 a3 a4 k
  have iU:=dA.fC k
  unfold dA.f
  repeat' first
      | (with_reducible exact iU _ _ _ _ _ _ _ _)
      | (with_reducible exact bV.refl _)
      | (with_reducible exact bV.none _)
      | (with_reducible refine bV.ite ?_ ?_)
      | (with_reducible refine bV.bind ?_ (fun _=>?_))
      | exact iU _ _ _ _ _ _ _ _
      | exact bV.none _
      | refine bV.ite ?_ ?_
      | refine bV.bind ?_ (fun _=>?_)
end Go.Proofs.YtkclndkbccbhaaaGreatDoor.P
end
section
namespace Go.Proofs.YtkclndkbccbhaaaGreatDoor.P
open Go.RowKit Go.Proofs.ae.bg Go.Proofs.ae.dw Go.Proofs.ae.dO
attribute [local go_sem] jv jq jW jV iQ iP jr jo
mutual
def aG.j0:Nat→ByteArray→ByteArray→Bool→Option (Bool)
  | 0,_,_,_=>none
  | k+1,x0,x3,Vb=>if Vb=true then (if 1≤(x0.size:Int) then (aG.j1 k x0 (x0.extract 1 x0.size)) else (none)) else (aG.j1 k x0 x3)
def aG.j1:Nat→ByteArray→ByteArray→Option (Bool)
  | 0,_,_=>none
  | k+1,x0,x3=>if x3.toList=([]:List UInt8) then (aG.j2 k x3 true) else (if 0 < (x3.size:Int) then (if (bt x3 0)=48 then (if (x3.size:Int) > 1 then (aG.j2 k x3 true) else (aG.j2 k x3 (decide ((x0.size:Int) > 1)))) else (aG.j2 k x3 false)) else (none))
def aG.j2:Nat→ByteArray→Bool→Option (Bool)
  | 0,_,_=>none
  | k+1,x3,x32=>if x32=true then (some false) else (aG.l0 k x3 0)
def aG.l0:Nat→ByteArray→Int→Option (Bool)
  | 0,_,_=>none
  | k+1,x3,x4=>if x4 < (x3.size:Int) then (if 0≤x4 then (if (bt x3 x4) < 48 then (some false) else (if (bt x3 x4) > 57 then (some false) else (aG.l0 k x3 (wrap64 (x4+1))))) else (none)) else (some true)
end
def aG.f (k:Nat) (a0:ByteArray):Option (Bool):=if (a0.size:Int) > 0 then (if 0 < (a0.size:Int) then (aG.j0 k a0 a0 ((bt a0 0) == 45)) else (none)) else (aG.j0 k a0 a0 false)
theorem aG.fC:∀ k,(∀ y0 y1 y2,bV (aG.j0 k y0 y1 y2) (aG.j0 (k+1) y0 y1 y2))∧(∀ y0 y1,bV (aG.j1 k y0 y1) (aG.j1 (k+1) y0 y1))∧(∀ y0 y1,bV (aG.j2 k y0 y1) (aG.j2 (k+1) y0 y1))∧(∀ y0 y1,bV (aG.l0 k y0 y1) (aG.l0 (k+1) y0 y1))
  | 0=>⟨fun _ _ _ r h=>by simp [aG.j0] at h,fun _ _ r h=>by simp [aG.j1] at h,fun _ _ r h=>by simp [aG.j2] at h,fun _ _ r h=>by simp [aG.l0] at h⟩
  | k+1=>by
    obtain ⟨iU,ih1,ih2,ih3⟩:=aG.fC k
    refine ⟨?_,?_,?_,?_⟩
    · intro y0 y1 y2
      unfold aG.j0
      repeat' first
      | (with_reducible exact iU _ _ _)
      | (with_reducible exact ih1 _ _)
      | (with_reducible exact ih2 _ _)
      | (with_reducible exact ih3 _ _)
      | (with_reducible exact bV.refl _)
      | (with_reducible exact bV.none _)
      | (with_reducible refine bV.ite ?_ ?_)
      | (with_reducible refine bV.bind ?_ (fun _=>?_))
      | exact iU _ _ _
      | exact ih1 _ _
      | exact ih2 _ _
      | exact ih3 _ _
      | exact bV.none _
      | refine bV.ite ?_ ?_
      | refine bV.bind ?_ (fun _=>?_)
    · intro y0 y1
      unfold aG.j1
      repeat' first
      | (with_reducible exact iU _ _ _)
      | (with_reducible exact ih1 _ _)
      | (with_reducible exact ih2 _ _)
      | (with_reducible exact ih3 _ _)
      | (with_reducible exact bV.refl _)
      | (with_reducible exact bV.none _)
      | (with_reducible refine bV.ite ?_ ?_)
      | (with_reducible refine bV.bind ?_ (fun _=>?_))
      | exact iU _ _ _
      | exact ih1 _ _
      | exact ih2 _ _
      | exact ih3 _ _
      | exact bV.none _
      | refine bV.ite ?_ ?_
      | refine bV.bind ?_ (fun _=>?_)
    · intro y0 y1
      unfold aG.j2
      repeat' first
      | (with_reducible exact iU _ _ _)
      | (with_reducible exact ih1 _ _)
      | (with_reducible exact ih2 _ _)
      | (with_reducible exact ih3 _ _)
      | (with_reducible exact bV.refl _)
      | (with_reducible exact bV.none _)
      | (with_reducible refine bV.ite ?_ ?_)
      | (with_reducible refine bV.bind ?_ (fun _=>?_))
      | exact iU _ _ _
      | exact ih1 _ _
      | exact ih2 _ _
      | exact ih3 _ _
      | exact bV.none _
      | refine bV.ite ?_ ?_
      | refine bV.bind ?_ (fun _=>?_)
    · intro y0 y1
      unfold aG.l0
      repeat' first
      | (with_reducible exact iU _ _ _)
      | (with_reducible exact ih1 _ _)
      | (with_reducible exact ih2 _ _)
      | (with_reducible exact ih3 _ _)
      | (with_reducible exact bV.refl _)
      | (with_reducible exact bV.none _)
      | (with_reducible refine bV.ite ?_ ?_)
      | (with_reducible refine bV.bind ?_ (fun _=>?_))
      | exact iU _ _ _
      | exact ih1 _ _
      | exact ih2 _ _
      | exact ih3 _ _
      | exact bV.none _
      | refine bV.ite ?_ ?_
      | refine bV.bind ?_ (fun _=>?_)
theorem aG.mono:∀ a0 k,bV (aG.f k a0) (aG.f (k+1) a0):=by
  intro a0 k
  obtain ⟨iU,ih1,ih2,ih3⟩:=aG.fC k
  unfold aG.f
  repeat' first
      | (with_reducible exact iU _ _ _)
      | (with_reducible exact ih1 _ _)
      | (with_reducible exact ih2 _ _)
      | (with_reducible exact ih3 _ _)
      | (with_reducible exact bV.refl _)
      | (with_reducible exact bV.none _)
      | (with_reducible refine bV.ite ?_ ?_)
      | (with_reducible refine bV.bind ?_ (fun _=>?_))
      | exact iU _ _ _
      | exact ih1 _ _
      | exact ih2 _ _
      | exact ih3 _ _
      | exact bV.none _
      | refine bV.ite ?_ ?_
      | refine bV.bind ?_ (fun _=>?_)
end Go.Proofs.YtkclndkbccbhaaaGreatDoor.P
end
