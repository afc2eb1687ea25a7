/- Parts of the proof of CodePrints: what the functions that it reaches compute, and plain facts about that. -/
import Derived.Test.YtkclndkbccbhaaaGreatDoorUac
import Derived.Test.YtkclndkbccbhaaaGreatDoorUad
set_option linter.unusedVariables false
set_option linter.unusedSimpArgs false
section
namespace Go.Proofs.YtkclndkbccbhaaaGreatDoor.P
open Go.RowKit Go.Proofs.ag.bJ Go.Proofs.ag.eX Go.Proofs.ag.gp
attribute [local go_sem] kM kK lT lS jE jD kL kJ
mutual
def bg.l0:Nat→List (List ByteArray)→ByteArray→Int→Option (ByteArray)
  | 0,_,_,_=>none
  | k+1,x0,x3,x4=>if x4 < (x0.length:Int) then (bg.l1 k x0 x3 x4 0) else (some x3)
def bg.l1:Nat→List (List ByteArray)→ByteArray→Int→Int→Option (ByteArray)
  | 0,_,_,_,_=>none
  | k+1,x0,x3,x4,x5=>if 0≤x4 then (if x4 < (x0.length:Int) then (if x5 < ((iP x0 x4).length:Int) then (if x5 > 0 then (if x3.size+1≤9223372036854775807 then (if 0≤x5 then (if (x3++(⟨#[32]⟩:ByteArray)).size+(gI ByteArray.empty (iP x0 x4) x5).size≤9223372036854775807 then (bg.l1 k x0 ((x3++(⟨#[32]⟩:ByteArray))++(gI ByteArray.empty (iP x0 x4) x5)) x4 (wrap64 (x5+1))) else (none)) else (none)) else (none)) else (if 0≤x5 then (if x3.size+(gI ByteArray.empty (iP x0 x4) x5).size≤9223372036854775807 then (bg.l1 k x0 (x3++(gI ByteArray.empty (iP x0 x4) x5)) x4 (wrap64 (x5+1))) else (none)) else (none))) else (if x3.size+1≤9223372036854775807 then (bg.l0 k x0 (x3++(⟨#[10]⟩:ByteArray)) (wrap64 (x4+1))) else (none))) else (none)) else (none)
end
def bg.f (k:Nat) (l0:List (List ByteArray)):Option (ByteArray):=bg.l0 k l0 (⟨#[]⟩:ByteArray) 0
theorem bg.gY:∀ k,(∀ y0 y1 y2,dH (bg.l0 k y0 y1 y2) (bg.l0 (k+1) y0 y1 y2))∧(∀ y0 y1 y2 y3,dH (bg.l1 k y0 y1 y2 y3) (bg.l1 (k+1) y0 y1 y2 y3))
  | 0=>⟨fun _ _ _ r h=>by simp [bg.l0] at h,fun _ _ _ _ r h=>by simp [bg.l1] at h⟩
  | k+1=>by
    obtain ⟨jK,ih1⟩:=bg.gY k
    refine ⟨?_,?_⟩
    · intro y0 y1 y2
      unfold bg.l0
      repeat' first
      | (with_reducible exact jK _ _ _)
      | (with_reducible exact ih1 _ _ _ _)
      | (with_reducible exact dH.refl _)
      | (with_reducible exact dH.none _)
      | (with_reducible refine dH.ite ?_ ?_)
      | (with_reducible refine dH.bind ?_ (fun _=>?_))
      | exact jK _ _ _
      | exact ih1 _ _ _ _
      | exact dH.none _
      | refine dH.ite ?_ ?_
      | refine dH.bind ?_ (fun _=>?_)
    · intro y0 y1 y2 y3
      unfold bg.l1
      repeat' first
      | (with_reducible exact jK _ _ _)
      | (with_reducible exact ih1 _ _ _ _)
      | (with_reducible exact dH.refl _)
      | (with_reducible exact dH.none _)
      | (with_reducible refine dH.ite ?_ ?_)
      | (with_reducible refine dH.bind ?_ (fun _=>?_))
      | exact jK _ _ _
      | exact ih1 _ _ _ _
      | exact dH.none _
      | refine dH.ite ?_ ?_
      | refine dH.bind ?_ (fun _=>?_)
theorem bg.mono:∀ a0 k,dH (bg.f k a0) (bg.f (k+1) a0):=by
  intro a0 k
  obtain ⟨jK,ih1⟩:=bg.gY k
  unfold bg.f
  repeat' first
      | (with_reducible exact jK _ _ _)
      | (with_reducible exact ih1 _ _ _ _)
      | (with_reducible exact dH.refl _)
      | (with_reducible exact dH.none _)
      | (with_reducible refine dH.ite ?_ ?_)
      | (with_reducible refine dH.bind ?_ (fun _=>?_))
      | exact jK _ _ _
      | exact ih1 _ _ _ _
      | exact dH.none _
      | refine dH.ite ?_ ?_
      | refine dH.bind ?_ (fun _=>?_)
set_option maxHeartbeats 8000000 in
set_option maxRecDepth 100000 in
theorem bg.calls (k:Nat) (A0:Option Addr) (c0:Nat) (l0:List (List ByteArray)) (r:ByteArray) (w:World) (hr0:Kd.C (Kd.slice 9 Kd.string) w A0 l0.length l0) (hc0:l0.length≤c0) (h:bg.f k l0=some r) :
    Calls Tryz.prog 17 #[.slice A0 l0.length c0] w fun e w'=>e=.returned (.string r)∧bC w w':=by
  have HR0:=ae.mk hr0
  have Yd:=ae.mk hc0
  clear hr0 hc0
  have H:(bg.l0 k l0 (⟨#[]⟩:ByteArray) 0)=some r:=h
  clear h
  have H':=ae.mk H
  clear H
  go_enter Tryz.func17,Tryz.ntmps17
  go_wp2
  go_loopg [3,4] k (fun kq v3 v4 w'=>∃ (eU:ByteArray) (fK:Int),v3=.string eU∧v4=.int .i64 fK∧ae (bg.l0 kq l0 eU fK=some r)∧ae (kq≤k)∧bC w w')
  case atStart=>exact ⟨((⟨#[]⟩:ByteArray)),(0),(by first|rfl|(simp;done)|(simp [*];done)),(by first|rfl|(simp;done)|(simp [*];done)),H',⟨Nat.le_refl _⟩,by repeat (first|exact bC.refl _|apply bC.step)⟩
  case round =>
    clear H'
    try clear c1
    obtain ⟨eU,fK,rfl,rfl,HA,nZ,⟨m1,rfl⟩⟩:=hrel
    cases gk with
    | zero=>exact absurd HA.out (by simp [bg.l0])
    | succ k1 =>
      have H:=HA.out
      clear HA
      simp only [bg.l0] at H
      by_cases c2:fK < (l0.length:Int)
      · rw [if_pos c2] at H
        have sH:decide (fK < (l0.length:Int))=true:=decide_eq_true c2
        clear c2
        have H':=ae.mk H
        clear H
        go_wp2
        go_loopg [3,5] k1 (fun kq v3 v5 w'=>∃ (vz:ByteArray) (o6:Int),v3=.string vz∧v5=.int .i64 o6∧ae (bg.l1 kq l0 vz fK o6=some r)∧ae (kq≤k1)∧bC w w')
        case atStart=>exact ⟨(eU),(0),(by first|rfl|(simp;done)|(simp [*];done)),(by first|rfl|(simp;done)|(simp [*];done)),H',⟨Nat.le_refl _⟩,by repeat (first|exact bC.refl _|apply bC.step)⟩
        case round =>
          clear H'
          try clear c1
          try clear c2
          try clear sH
          try clear p2
          obtain ⟨vz,o6,rfl,rfl,HA,xB,⟨m2,rfl⟩⟩:=hrel
          cases gk with
          | zero=>exact absurd HA.out (by simp [bg.l1])
          | succ k2 =>
            have H:=HA.out
            clear HA
            simp only [bg.l1] at H
            by_cases c3:0≤fK
            · rw [if_pos c3] at H
              have qo:decide (0≤fK)=true:=decide_eq_true c3
              clear c3
              by_cases c4:fK < (l0.length:Int)
              · rw [if_pos c4] at H
                have rF:decide (fK < (l0.length:Int))=true:=decide_eq_true c4
                clear c4
                by_cases c5:o6 < ((iP l0 fK).length:Int)
                · rw [if_pos c5] at H
                  have xm:decide (o6 < ((iP l0 fK).length:Int))=true:=decide_eq_true c5
                  clear c5
                  by_cases c6:o6 > 0
                  · rw [if_pos c6] at H
                    have qW:decide (0 < o6)=true:=decide_eq_true c6
                    clear c6
                    by_cases c7:vz.size+1≤9223372036854775807
                    · rw [if_pos c7] at H
                      have nX:=eq_true c7
                      have vY:decide (vz.size+1≤9223372036854775807)=true:=decide_eq_true c7
                      try have aiZ:(9223372036854775807 < vz.size+1)=False:=eq_false (Nat.not_lt.2 c7)
                      by_cases c8:0≤o6
                      · rw [if_pos c8] at H
                        have tK:decide (0≤o6)=true:=decide_eq_true c8
                        clear c8
                        by_cases c9:(vz++(⟨#[32]⟩:ByteArray)).size+(gI ByteArray.empty (iP l0 fK) o6).size≤9223372036854775807
                        · rw [if_pos c9] at H
                          have E8:=eq_true c9
                          have IZ:decide ((vz++(⟨#[32]⟩:ByteArray)).size+(gI ByteArray.empty (iP l0 fK) o6).size≤9223372036854775807)=true:=decide_eq_true c9
                          try have aiX:(9223372036854775807 < (vz++(⟨#[32]⟩:ByteArray)).size+(gI ByteArray.empty (iP l0 fK) o6).size)=False:=eq_false (Nat.not_lt.2 c9)
                          have H':=ae.mk H
                          clear H
                          have Aq:0≤(fK:Int):=of_decide_eq_true (by first|(with_reducible assumption)|assumption)
                          have Ai:fK < (l0.length:Int):=of_decide_eq_true (by first|(with_reducible assumption)|assumption)
                          obtain ⟨LY,Q8,QC,Qr,zK,sO,sQ⟩:=vg HR0.out fK Aq Ai
                          cases Qr
                          have Md:=ae.mk sQ
                          have MH:=ae.mk sO
                          clear sQ sO
                          replace Aq:=eq_true Aq
                          replace Ai:=eq_true Ai
                          have Xf:0≤(fK:Int):=of_decide_eq_true (by first|(with_reducible assumption)|assumption)
                          have WW:fK < (l0.length:Int):=of_decide_eq_true (by first|(with_reducible assumption)|assumption)
                          obtain ⟨Zn,agj,afX,afH,SI,JS,JV⟩:=vg HR0.out fK Xf WW
                          obtain rfl:LY=Zn:=(by injection afH)
                          have VC:=ae.mk JV
                          have aeM:=ae.mk JS
                          clear JV JS
                          replace Xf:=eq_true Xf
                          replace WW:=eq_true WW
                          have XR:=Option.some.inj (zK.symm.trans SI)
                          injection XR with XR en_ ec_
                          subst XR
                          subst ec_
                          clear en_
                          have Xe:0≤(o6:Int):=of_decide_eq_true (by first|(with_reducible assumption)|assumption)
                          have WV:o6 < ((iP l0 fK).length:Int):=of_decide_eq_true (by first|(with_reducible assumption)|assumption)
                          obtain ⟨aht,e195,aaK⟩:=Kd.gB VC.out o6 Xe WV
                          cases e195
                          replace Xe:=eq_true Xe
                          replace WV:=eq_true WV
                          go_wp2
                          go_roundg k2
                          case measure=>have:=nZ.out;have:=xB.out;omega
                          case rel=>exact ⟨((vz++(⟨#[32]⟩:ByteArray))++(gI ByteArray.empty (iP l0 fK) o6)),(wrap64 (o6+1)),(by first|rfl|(simp;done)|(simp [*];done)),(by first|rfl|(simp;done)|(simp [*];done)),H',⟨by have:=nZ.out;have:=xB.out;omega⟩,by repeat (first|exact bC.refl _|apply bC.step)⟩
                        · rw [if_neg c9] at H
                          exact absurd H (by simp)
                      · rw [if_neg c8] at H
                        exact absurd H (by simp)
                    · rw [if_neg c7] at H
                      exact absurd H (by simp)
                  · rw [if_neg c6] at H
                    have qW:decide (0 < o6)=false:=decide_eq_false c6
                    clear c6
                    by_cases c10:0≤o6
                    · rw [if_pos c10] at H
                      have nO:decide (0≤o6)=true:=decide_eq_true c10
                      clear c10
                      by_cases c11:vz.size+(gI ByteArray.empty (iP l0 fK) o6).size≤9223372036854775807
                      · rw [if_pos c11] at H
                        have sS:=eq_true c11
                        have zo:decide (vz.size+(gI ByteArray.empty (iP l0 fK) o6).size≤9223372036854775807)=true:=decide_eq_true c11
                        try have V5:(9223372036854775807 < vz.size+(gI ByteArray.empty (iP l0 fK) o6).size)=False:=eq_false (Nat.not_lt.2 c11)
                        have H':=ae.mk H
                        clear H
                        have Aq:0≤(fK:Int):=of_decide_eq_true (by first|(with_reducible assumption)|assumption)
                        have Ai:fK < (l0.length:Int):=of_decide_eq_true (by first|(with_reducible assumption)|assumption)
                        obtain ⟨LY,Q8,QC,Qr,zK,sO,sQ⟩:=vg HR0.out fK Aq Ai
                        cases Qr
                        have Md:=ae.mk sQ
                        have MH:=ae.mk sO
                        clear sQ sO
                        replace Aq:=eq_true Aq
                        replace Ai:=eq_true Ai
                        have Xd:0≤(fK:Int):=of_decide_eq_true (by first|(with_reducible assumption)|assumption)
                        have WU:fK < (l0.length:Int):=of_decide_eq_true (by first|(with_reducible assumption)|assumption)
                        obtain ⟨Zm,agi,afW,afG,SH,JR,JU⟩:=vg HR0.out fK Xd WU
                        obtain rfl:LY=Zm:=(by injection afG)
                        have VB:=ae.mk JU
                        have aeL:=ae.mk JR
                        clear JU JR
                        replace Xd:=eq_true Xd
                        replace WU:=eq_true WU
                        have XR:=Option.some.inj (zK.symm.trans SH)
                        injection XR with XR en_ ec_
                        subst XR
                        subst ec_
                        clear en_
                        have Xc:0≤(o6:Int):=of_decide_eq_true (by first|(with_reducible assumption)|assumption)
                        have WT:o6 < ((iP l0 fK).length:Int):=of_decide_eq_true (by first|(with_reducible assumption)|assumption)
                        obtain ⟨ahs,e197,aaJ⟩:=Kd.gB VB.out o6 Xc WT
                        cases e197
                        replace Xc:=eq_true Xc
                        replace WT:=eq_true WT
                        go_wp2
                        go_roundg k2
                        case measure=>have:=nZ.out;have:=xB.out;omega
                        case rel=>exact ⟨(vz++(gI ByteArray.empty (iP l0 fK) o6)),(wrap64 (o6+1)),(by first|rfl|(simp;done)|(simp [*];done)),(by first|rfl|(simp;done)|(simp [*];done)),H',⟨by have:=nZ.out;have:=xB.out;omega⟩,by repeat (first|exact bC.refl _|apply bC.step)⟩
                      · rw [if_neg c11] at H
                        exact absurd H (by simp)
                    · rw [if_neg c10] at H
                      exact absurd H (by simp)
                · rw [if_neg c5] at H
                  have xm:decide (o6 < ((iP l0 fK).length:Int))=false:=decide_eq_false c5
                  clear c5
                  by_cases c12:vz.size+1≤9223372036854775807
                  · rw [if_pos c12] at H
                    have ve:=eq_true c12
                    have QD:decide (vz.size+1≤9223372036854775807)=true:=decide_eq_true c12
                    try have ahq:(9223372036854775807 < vz.size+1)=False:=eq_false (Nat.not_lt.2 c12)
                    have H':=ae.mk H
                    clear H
                    have Aq:0≤(fK:Int):=of_decide_eq_true (by first|(with_reducible assumption)|assumption)
                    have Ai:fK < (l0.length:Int):=of_decide_eq_true (by first|(with_reducible assumption)|assumption)
                    obtain ⟨LY,Q8,QC,Qr,zK,sO,sQ⟩:=vg HR0.out fK Aq Ai
                    cases Qr
                    have Md:=ae.mk sQ
                    have MH:=ae.mk sO
                    clear sQ sO
                    replace Aq:=eq_true Aq
                    replace Ai:=eq_true Ai
                    go_wp2
                    go_roundg k2
                    case measure=>have:=nZ.out;have:=xB.out;omega
                    case rel=>exact ⟨(vz++(⟨#[10]⟩:ByteArray)),(wrap64 (fK+1)),(by first|rfl|(simp;done)|(simp [*];done)),(by first|rfl|(simp;done)|(simp [*];done)),H',⟨by have:=nZ.out;have:=xB.out;omega⟩,by repeat (first|exact bC.refl _|apply bC.step)⟩
                  · rw [if_neg c12] at H
                    exact absurd H (by simp)
              · rw [if_neg c4] at H
                exact absurd H (by simp)
            · rw [if_neg c3] at H
              exact absurd H (by simp)
      · rw [if_neg c2] at H
        have sH:decide (fK < (l0.length:Int))=false:=decide_eq_false c2
        clear c2
        obtain rfl:=Option.some.inj H
        go_wp2
        go_ret
        exact ⟨by first|rfl|(simp;done)|(simp [*];done),by repeat (first|exact bC.refl _|apply bC.step)⟩
def jf.f (a0:Int):Option (ByteArray × ByteArray):=if a0=11 then (some ((⟨#[115,116,111,114,101,112]⟩:ByteArray),(⟨#[97,110,98]⟩:ByteArray))) else (if a0=12 then (some ((⟨#[108,111,97,100,103]⟩:ByteArray),(⟨#[97,98]⟩:ByteArray))) else (if a0=13 then (some ((⟨#[115,116,111,114,101,103]⟩:ByteArray),(⟨#[97,98]⟩:ByteArray))) else (if a0=14 then (some ((⟨#[112,114,105,110,116]⟩:ByteArray),(⟨#[97]⟩:ByteArray))) else (if a0=15 then (some ((⟨#[115,97,109,101]⟩:ByteArray),(⟨#[97,98,99]⟩:ByteArray))) else (some ((⟨#[]⟩:ByteArray),(⟨#[]⟩:ByteArray)))))))
set_option maxHeartbeats 8000000 in
set_option maxRecDepth 100000 in
theorem jf.calls (a0:Int) (r1:ByteArray) (r2:ByteArray) (w:World) (h:jf.f a0=some (r1,r2)) :
    Calls Tryz.prog 46 #[.int .u8 a0] w fun e w'=>e=.returned (.tuple #[.string r1,.string r2])∧bC w w':=by
  have H:(if a0=11 then (some ((⟨#[115,116,111,114,101,112]⟩:ByteArray),(⟨#[97,110,98]⟩:ByteArray))) else (if a0=12 then (some ((⟨#[108,111,97,100,103]⟩:ByteArray),(⟨#[97,98]⟩:ByteArray))) else (if a0=13 then (some ((⟨#[115,116,111,114,101,103]⟩:ByteArray),(⟨#[97,98]⟩:ByteArray))) else (if a0=14 then (some ((⟨#[112,114,105,110,116]⟩:ByteArray),(⟨#[97]⟩:ByteArray))) else (if a0=15 then (some ((⟨#[115,97,109,101]⟩:ByteArray),(⟨#[97,98,99]⟩:ByteArray))) else (some ((⟨#[]⟩:ByteArray),(⟨#[]⟩:ByteArray))))))))=some (r1,r2):=h
  clear h
  by_cases c2:a0=11
  · rw [if_pos c2] at H
    have sH:(a0 == 11)=true:=beq_iff_eq.mpr c2
    have xO:(a0 != 11)=false:=bne_eq_false_iff_eq.mpr c2
    clear c2
    simp only [Option.some.injEq,Prod.mk.injEq] at H
    obtain ⟨rfl,rfl⟩:=H
    go_enter Tryz.func46,Tryz.ntmps46
    go_wp2
    go_ret2
    exact ⟨by first|rfl|(simp;done)|(simp [*];done),by repeat (first|exact bC.refl _|apply bC.step)⟩
  · rw [if_neg c2] at H
    have sH:(a0 == 11)=false:=beq_eq_false_iff_ne.mpr c2
    have xO:(a0 != 11)=true:=bne_iff_ne.mpr c2
    by_cases c3:a0=12
    · rw [if_pos c3] at H
      have qo:(a0 == 12)=true:=beq_iff_eq.mpr c3
      have xN:(a0 != 12)=false:=bne_eq_false_iff_eq.mpr c3
      clear c3
      simp only [Option.some.injEq,Prod.mk.injEq] at H
      obtain ⟨rfl,rfl⟩:=H
      go_enter Tryz.func46,Tryz.ntmps46
      go_wp2
      go_ret2
      exact ⟨by first|rfl|(simp;done)|(simp [*];done),by repeat (first|exact bC.refl _|apply bC.step)⟩
    · rw [if_neg c3] at H
      have qo:(a0 == 12)=false:=beq_eq_false_iff_ne.mpr c3
      have xN:(a0 != 12)=true:=bne_iff_ne.mpr c3
      by_cases c4:a0=13
      · rw [if_pos c4] at H
        have rF:(a0 == 13)=true:=beq_iff_eq.mpr c4
        have vZ:(a0 != 13)=false:=bne_eq_false_iff_eq.mpr c4
        clear c4
        simp only [Option.some.injEq,Prod.mk.injEq] at H
        obtain ⟨rfl,rfl⟩:=H
        go_enter Tryz.func46,Tryz.ntmps46
        go_wp2
        go_ret2
        exact ⟨by first|rfl|(simp;done)|(simp [*];done),by repeat (first|exact bC.refl _|apply bC.step)⟩
      · rw [if_neg c4] at H
        have rF:(a0 == 13)=false:=beq_eq_false_iff_ne.mpr c4
        have vZ:(a0 != 13)=true:=bne_iff_ne.mpr c4
        by_cases c5:a0=14
        · rw [if_pos c5] at H
          have xm:(a0 == 14)=true:=beq_iff_eq.mpr c5
          have Fa:(a0 != 14)=false:=bne_eq_false_iff_eq.mpr c5
          clear c5
          simp only [Option.some.injEq,Prod.mk.injEq] at H
          obtain ⟨rfl,rfl⟩:=H
          go_enter Tryz.func46,Tryz.ntmps46
          go_wp2
          go_ret2
          exact ⟨by first|rfl|(simp;done)|(simp [*];done),by repeat (first|exact bC.refl _|apply bC.step)⟩
        · rw [if_neg c5] at H
          have xm:(a0 == 14)=false:=beq_eq_false_iff_ne.mpr c5
          have Fa:(a0 != 14)=true:=bne_iff_ne.mpr c5
          by_cases c6:a0=15
          · rw [if_pos c6] at H
            have qW:(a0 == 15)=true:=beq_iff_eq.mpr c6
            have yR:(a0 != 15)=false:=bne_eq_false_iff_eq.mpr c6
            clear c6
            simp only [Option.some.injEq,Prod.mk.injEq] at H
            obtain ⟨rfl,rfl⟩:=H
            go_enter Tryz.func46,Tryz.ntmps46
            go_wp2
            go_ret2
            exact ⟨by first|rfl|(simp;done)|(simp [*];done),by repeat (first|exact bC.refl _|apply bC.step)⟩
          · rw [if_neg c6] at H
            have qW:(a0 == 15)=false:=beq_eq_false_iff_ne.mpr c6
            have yR:(a0 != 15)=true:=bne_iff_ne.mpr c6
            simp only [Option.some.injEq,Prod.mk.injEq] at H
            obtain ⟨rfl,rfl⟩:=H
            go_enter Tryz.func46,Tryz.ntmps46
            go_wp2
            go_ret2
            exact ⟨by first|rfl|(simp;done)|(simp [*];done),by repeat (first|exact bC.refl _|apply bC.step)⟩
def eY.f (a0:Int):Option (ByteArray × ByteArray):=if a0=1 then (some ((⟨#[115,101,116]⟩:ByteArray),(⟨#[97,110]⟩:ByteArray))) else (if a0=2 then (some ((⟨#[97,100,100]⟩:ByteArray),(⟨#[97,98,99]⟩:ByteArray))) else (if a0=3 then (some ((⟨#[106,117,109,112]⟩:ByteArray),(⟨#[110]⟩:ByteArray))) else (if a0=4 then (some ((⟨#[122,101,114,111]⟩:ByteArray),(⟨#[97,110]⟩:ByteArray))) else (if a0=5 then (some ((⟨#[110,101,119]⟩:ByteArray),(⟨#[97]⟩:ByteArray))) else (if a0=6 then (some ((⟨#[110,105,108]⟩:ByteArray),(⟨#[97]⟩:ByteArray))) else (if a0=7 then (some ((⟨#[109,111,118,101]⟩:ByteArray),(⟨#[97,98]⟩:ByteArray))) else (if a0=8 then (some ((⟨#[108,111,97,100,105]⟩:ByteArray),(⟨#[97,98,110]⟩:ByteArray))) else (if a0=9 then (some ((⟨#[115,116,111,114,101,105]⟩:ByteArray),(⟨#[97,110,98]⟩:ByteArray))) else (if a0=10 then (some ((⟨#[108,111,97,100,112]⟩:ByteArray),(⟨#[97,98,110]⟩:ByteArray))) else ((jf.f a0).bind fun Hm=>(some (Hm.1,Hm.2))))))))))))
set_option maxHeartbeats 8000000 in
set_option maxRecDepth 100000 in
theorem eY.calls (a0:Int) (r1:ByteArray) (r2:ByteArray) (w:World) (h:eY.f a0=some (r1,r2)) :
    Calls Tryz.prog 27 #[.int .u8 a0] w fun e w'=>e=.returned (.tuple #[.string r1,.string r2])∧bC w w':=by
  have H:(if a0=1 then (some ((⟨#[115,101,116]⟩:ByteArray),(⟨#[97,110]⟩:ByteArray))) else (if a0=2 then (some ((⟨#[97,100,100]⟩:ByteArray),(⟨#[97,98,99]⟩:ByteArray))) else (if a0=3 then (some ((⟨#[106,117,109,112]⟩:ByteArray),(⟨#[110]⟩:ByteArray))) else (if a0=4 then (some ((⟨#[122,101,114,111]⟩:ByteArray),(⟨#[97,110]⟩:ByteArray))) else (if a0=5 then (some ((⟨#[110,101,119]⟩:ByteArray),(⟨#[97]⟩:ByteArray))) else (if a0=6 then (some ((⟨#[110,105,108]⟩:ByteArray),(⟨#[97]⟩:ByteArray))) else (if a0=7 then (some ((⟨#[109,111,118,101]⟩:ByteArray),(⟨#[97,98]⟩:ByteArray))) else (if a0=8 then (some ((⟨#[108,111,97,100,105]⟩:ByteArray),(⟨#[97,98,110]⟩:ByteArray))) else (if a0=9 then (some ((⟨#[115,116,111,114,101,105]⟩:ByteArray),(⟨#[97,110,98]⟩:ByteArray))) else (if a0=10 then (some ((⟨#[108,111,97,100,112]⟩:ByteArray),(⟨#[97,98,110]⟩:ByteArray))) else ((jf.f a0).bind fun Hm=>(some (Hm.1,Hm.2)))))))))))))=some (r1,r2):=h
  clear h
  by_cases c2:a0=1
  · rw [if_pos c2] at H
    have sH:(a0 == 1)=true:=beq_iff_eq.mpr c2
    have xO:(a0 != 1)=false:=bne_eq_false_iff_eq.mpr c2
    clear c2
    simp only [Option.some.injEq,Prod.mk.injEq] at H
    obtain ⟨rfl,rfl⟩:=H
    go_enter Tryz.func27,Tryz.ntmps27
    go_wp2
    go_ret2
    exact ⟨by first|rfl|(simp;done)|(simp [*];done),by repeat (first|exact bC.refl _|apply bC.step)⟩
  · rw [if_neg c2] at H
    have sH:(a0 == 1)=false:=beq_eq_false_iff_ne.mpr c2
    have xO:(a0 != 1)=true:=bne_iff_ne.mpr c2
    by_cases c3:a0=2
    · rw [if_pos c3] at H
      have qo:(a0 == 2)=true:=beq_iff_eq.mpr c3
      have xN:(a0 != 2)=false:=bne_eq_false_iff_eq.mpr c3
      clear c3
      simp only [Option.some.injEq,Prod.mk.injEq] at H
      obtain ⟨rfl,rfl⟩:=H
      go_enter Tryz.func27,Tryz.ntmps27
      go_wp2
      go_ret2
      exact ⟨by first|rfl|(simp;done)|(simp [*];done),by repeat (first|exact bC.refl _|apply bC.step)⟩
    · rw [if_neg c3] at H
      have qo:(a0 == 2)=false:=beq_eq_false_iff_ne.mpr c3
      have xN:(a0 != 2)=true:=bne_iff_ne.mpr c3
      by_cases c4:a0=3
      · rw [if_pos c4] at H
        have rF:(a0 == 3)=true:=beq_iff_eq.mpr c4
        have vZ:(a0 != 3)=false:=bne_eq_false_iff_eq.mpr c4
        clear c4
        simp only [Option.some.injEq,Prod.mk.injEq] at H
        obtain ⟨rfl,rfl⟩:=H
        go_enter Tryz.func27,Tryz.ntmps27
        go_wp2
        go_ret2
        exact ⟨by first|rfl|(simp;done)|(simp [*];done),by repeat (first|exact bC.refl _|apply bC.step)⟩
      · rw [if_neg c4] at H
        have rF:(a0 == 3)=false:=beq_eq_false_iff_ne.mpr c4
        have vZ:(a0 != 3)=true:=bne_iff_ne.mpr c4
        by_cases c5:a0=4
        · rw [if_pos c5] at H
          have xm:(a0 == 4)=true:=beq_iff_eq.mpr c5
          have Fa:(a0 != 4)=false:=bne_eq_false_iff_eq.mpr c5
          clear c5
          simp only [Option.some.injEq,Prod.mk.injEq] at H
          obtain ⟨rfl,rfl⟩:=H
          go_enter Tryz.func27,Tryz.ntmps27
          go_wp2
          go_ret2
          exact ⟨by first|rfl|(simp;done)|(simp [*];done),by repeat (first|exact bC.refl _|apply bC.step)⟩
        · rw [if_neg c5] at H
          have xm:(a0 == 4)=false:=beq_eq_false_iff_ne.mpr c5
          have Fa:(a0 != 4)=true:=bne_iff_ne.mpr c5
          by_cases c6:a0=5
          · rw [if_pos c6] at H
            have qW:(a0 == 5)=true:=beq_iff_eq.mpr c6
            have yR:(a0 != 5)=false:=bne_eq_false_iff_eq.mpr c6
            clear c6
            simp only [Option.some.injEq,Prod.mk.injEq] at H
            obtain ⟨rfl,rfl⟩:=H
            go_enter Tryz.func27,Tryz.ntmps27
            go_wp2
            go_ret2
            exact ⟨by first|rfl|(simp;done)|(simp [*];done),by repeat (first|exact bC.refl _|apply bC.step)⟩
          · rw [if_neg c6] at H
            have qW:(a0 == 5)=false:=beq_eq_false_iff_ne.mpr c6
            have yR:(a0 != 5)=true:=bne_iff_ne.mpr c6
            by_cases c7:a0=6
            · rw [if_pos c7] at H
              have nX:(a0 == 6)=true:=beq_iff_eq.mpr c7
              have vY:(a0 != 6)=false:=bne_eq_false_iff_eq.mpr c7
              clear c7
              simp only [Option.some.injEq,Prod.mk.injEq] at H
              obtain ⟨rfl,rfl⟩:=H
              go_enter Tryz.func27,Tryz.ntmps27
              go_wp2
              go_ret2
              exact ⟨by first|rfl|(simp;done)|(simp [*];done),by repeat (first|exact bC.refl _|apply bC.step)⟩
            · rw [if_neg c7] at H
              have nX:(a0 == 6)=false:=beq_eq_false_iff_ne.mpr c7
              have vY:(a0 != 6)=true:=bne_iff_ne.mpr c7
              by_cases c8:a0=7
              · rw [if_pos c8] at H
                have tK:(a0 == 7)=true:=beq_iff_eq.mpr c8
                have Bv:(a0 != 7)=false:=bne_eq_false_iff_eq.mpr c8
                clear c8
                simp only [Option.some.injEq,Prod.mk.injEq] at H
                obtain ⟨rfl,rfl⟩:=H
                go_enter Tryz.func27,Tryz.ntmps27
                go_wp2
                go_ret2
                exact ⟨by first|rfl|(simp;done)|(simp [*];done),by repeat (first|exact bC.refl _|apply bC.step)⟩
              · rw [if_neg c8] at H
                have tK:(a0 == 7)=false:=beq_eq_false_iff_ne.mpr c8
                have Bv:(a0 != 7)=true:=bne_iff_ne.mpr c8
                by_cases c9:a0=8
                · rw [if_pos c9] at H
                  have E8:(a0 == 8)=true:=beq_iff_eq.mpr c9
                  have IZ:(a0 != 8)=false:=bne_eq_false_iff_eq.mpr c9
                  clear c9
                  simp only [Option.some.injEq,Prod.mk.injEq] at H
                  obtain ⟨rfl,rfl⟩:=H
                  go_enter Tryz.func27,Tryz.ntmps27
                  go_wp2
                  go_ret2
                  exact ⟨by first|rfl|(simp;done)|(simp [*];done),by repeat (first|exact bC.refl _|apply bC.step)⟩
                · rw [if_neg c9] at H
                  have E8:(a0 == 8)=false:=beq_eq_false_iff_ne.mpr c9
                  have IZ:(a0 != 8)=true:=bne_iff_ne.mpr c9
                  by_cases c10:a0=9
                  · rw [if_pos c10] at H
                    have nO:(a0 == 9)=true:=beq_iff_eq.mpr c10
                    have zq:(a0 != 9)=false:=bne_eq_false_iff_eq.mpr c10
                    clear c10
                    simp only [Option.some.injEq,Prod.mk.injEq] at H
                    obtain ⟨rfl,rfl⟩:=H
                    go_enter Tryz.func27,Tryz.ntmps27
                    go_wp2
                    go_ret2
                    exact ⟨by first|rfl|(simp;done)|(simp [*];done),by repeat (first|exact bC.refl _|apply bC.step)⟩
                  · rw [if_neg c10] at H
                    have nO:(a0 == 9)=false:=beq_eq_false_iff_ne.mpr c10
                    have zq:(a0 != 9)=true:=bne_iff_ne.mpr c10
                    by_cases c11:a0=10
                    · rw [if_pos c11] at H
                      have sS:(a0 == 10)=true:=beq_iff_eq.mpr c11
                      have zo:(a0 != 10)=false:=bne_eq_false_iff_eq.mpr c11
                      clear c11
                      simp only [Option.some.injEq,Prod.mk.injEq] at H
                      obtain ⟨rfl,rfl⟩:=H
                      go_enter Tryz.func27,Tryz.ntmps27
                      go_wp2
                      go_ret2
                      exact ⟨by first|rfl|(simp;done)|(simp [*];done),by repeat (first|exact bC.refl _|apply bC.step)⟩
                    · rw [if_neg c11] at H
                      have sS:(a0 == 10)=false:=beq_eq_false_iff_ne.mpr c11
                      have zo:(a0 != 10)=true:=bne_iff_ne.mpr c11
                      replace H:=Option.bind_eq_some_iff.mp H
                      obtain ⟨⟨t198,t199⟩,aaB,H⟩:=H
                      replace H:(some (t198,t199))=some (r1,r2):=H
                      have A12:=ae.mk aaB
                      clear aaB
                      simp only [Option.some.injEq,Prod.mk.injEq] at H
                      obtain ⟨rfl,rfl⟩:=H
                      go_enter Tryz.func27,Tryz.ntmps27
                      go_wp2_with (first|((with_reducible refine bU (f:=46) rfl ?_);refine gy (some 26) rfl rfl Tryz.func46 (by kernel_rfl) rfl #[.int .u8 a0] rfl (by (try simp only [List.map_toArray,List.map_cons,List.map_nil]);first|done|rfl|(simp only [List.length_drop,List.length_take];rfl)) ?_;(with_reducible refine (jf.calls a0 t198 t199 _ A12.out).mono ?_);rintro e w' ⟨rfl,⟨nd,rfl⟩⟩;refine ⟨_,rfl,?_⟩))
                      go_ret2
                      exact ⟨by first|rfl|(simp;done)|(simp [*];done),by repeat (first|exact bC.refl _|apply bC.step)⟩
def jg.f (dP:Int) (aY:Int) (aX:Int) (dW:Int) (eP:Int) (a1:Int):Option (Int):=if a1=97 then (some (wrap64 (aY))) else (if a1=98 then (some (wrap64 (aX))) else (if a1=99 then (some (wrap64 (dW))) else (some eP)))
set_option maxHeartbeats 8000000 in
set_option maxRecDepth 100000 in
theorem jg.calls (dP:Int) (aY:Int) (aX:Int) (dW:Int) (eP:Int) (a1:Int) (r:Int) (w:World) (h:jg.f dP aY aX dW eP a1=some r) :
    Calls Tryz.prog 44 #[.agg #[.int .u8 dP,.int .u8 aY,.int .u8 aX,.int .u8 dW,.int .i64 eP],.int .u8 a1] w fun e w'=>e=.returned (.int .i64 r)∧Below w.heap.size w w':=by
  have BR:=Tryz.underlying27
  have HB:=ae.mk (Below.refl w.heap.size w)
  have H:(if a1=97 then (some (wrap64 (aY))) else (if a1=98 then (some (wrap64 (aX))) else (if a1=99 then (some (wrap64 (dW))) else (some eP))))=some r:=h
  clear h
  by_cases c3:a1=97
  · rw [if_pos c3] at H
    have qo:(a1 == 97)=true:=beq_iff_eq.mpr c3
    have xN:(a1 != 97)=false:=bne_eq_false_iff_eq.mpr c3
    clear c3
    obtain rfl:=Option.some.inj H
    go_enter Tryz.func44,Tryz.ntmps44
    go_wp2_with (first|((with_reducible refine eQ (N:=2) rfl ?_);refine fF ?hg (N:=2) ?hd (cs:=#[.int .u8 dP,.int .u8 aY,.int .u8 aX,.int .u8 dW,.int .i64 eP]) (t:=27) ?hr ?_;(case hd=>rfl);(case hg=>rfl);(case hr=>first|(go_simp;done)|(go_simp;rfl));intro kY hg w4 hbox hb;have di:=ae.mk (aQ (by repeat (first|(with_reducible first|exact HB.out|apply aj|apply af|apply ai)|exact HB.out)) hb);have dm:=ae.mk (hbox);have dE:=ae.mk ((by rw [hg];exact (bn (by repeat (first|(with_reducible first|exact HB.out|apply aj|apply af|apply ai)|exact HB.out))):w.heap.size≤kY));have gq:=ae.mk ((by rw [hg];exact (bn (by repeat (first|(with_reducible first|exact HB.out|apply aj|apply af|apply ai)|exact HB.out))):w.heap.size≤kY));clear HB;have HB:=di;have ja:=dm;have Q4:=dE;have BF:=gq;clear di dm dE gq;clear hb hbox hg;have Bf:w4.cell? ⟨kY,0,none⟩=some (.int .u8 dP):=(ah ja.out 0).trans rfl;have Be:w4.cell? ⟨kY,1,none⟩=some (.int .u8 aY):=(ah ja.out 1).trans rfl;have Bd:w4.cell? ⟨kY,2,none⟩=some (.int .u8 aX):=(ah ja.out 2).trans rfl;have Bc:w4.cell? ⟨kY,3,none⟩=some (.int .u8 dW):=(ah ja.out 3).trans rfl;have XB:w4.cell? ⟨kY,4,none⟩=some (.int .i64 eP):=(ah ja.out 4).trans rfl;have Ba:=ax ja.out 0;have AZ:=ax ja.out 1;have AY:=ax ja.out 2;have AX:=ax ja.out 3;have Xu:=ax ja.out 4))
    go_ret
    exact ⟨by first|rfl|(simp [bH,bG] <;> rfl)|(simp [*,bH,bG] <;> rfl),by repeat (first|(with_reducible first|exact HB.out|apply aj|apply af|apply ai|refine az ?_ BF.out)|exact HB.out)⟩
  · rw [if_neg c3] at H
    have qo:(a1 == 97)=false:=beq_eq_false_iff_ne.mpr c3
    have xN:(a1 != 97)=true:=bne_iff_ne.mpr c3
    by_cases c6:a1=98
    · rw [if_pos c6] at H
      have qW:(a1 == 98)=true:=beq_iff_eq.mpr c6
      have yR:(a1 != 98)=false:=bne_eq_false_iff_eq.mpr c6
      clear c6
      obtain rfl:=Option.some.inj H
      go_enter Tryz.func44,Tryz.ntmps44
      go_wp2_with (first|((with_reducible refine eQ (N:=2) rfl ?_);refine fF ?hg (N:=2) ?hd (cs:=#[.int .u8 dP,.int .u8 aY,.int .u8 aX,.int .u8 dW,.int .i64 eP]) (t:=27) ?hr ?_;(case hd=>rfl);(case hg=>rfl);(case hr=>first|(go_simp;done)|(go_simp;rfl));intro kY hg w7 hbox hb;have di:=ae.mk (aQ (by repeat (first|(with_reducible first|exact HB.out|apply aj|apply af|apply ai)|exact HB.out)) hb);have dm:=ae.mk (hbox);have dE:=ae.mk ((by rw [hg];exact (bn (by repeat (first|(with_reducible first|exact HB.out|apply aj|apply af|apply ai)|exact HB.out))):w.heap.size≤kY));have gq:=ae.mk ((by rw [hg];exact (bn (by repeat (first|(with_reducible first|exact HB.out|apply aj|apply af|apply ai)|exact HB.out))):w.heap.size≤kY));clear HB;have HB:=di;have ja:=dm;have Q4:=dE;have BF:=gq;clear di dm dE gq;clear hb hbox hg;have IQ:w7.cell? ⟨kY,0,none⟩=some (.int .u8 dP):=(ah ja.out 0).trans rfl;have IP:w7.cell? ⟨kY,1,none⟩=some (.int .u8 aY):=(ah ja.out 1).trans rfl;have IM:w7.cell? ⟨kY,2,none⟩=some (.int .u8 aX):=(ah ja.out 2).trans rfl;have IL:w7.cell? ⟨kY,3,none⟩=some (.int .u8 dW):=(ah ja.out 3).trans rfl;have PL:w7.cell? ⟨kY,4,none⟩=some (.int .i64 eP):=(ah ja.out 4).trans rfl;have IK:=ax ja.out 0;have IJ:=ax ja.out 1;have II:=ax ja.out 2;have IG:=ax ja.out 3;have Px:=ax ja.out 4))
      go_ret
      exact ⟨by first|rfl|(simp [bH,bG] <;> rfl)|(simp [*,bH,bG] <;> rfl),by repeat (first|(with_reducible first|exact HB.out|apply aj|apply af|apply ai|refine az ?_ BF.out)|exact HB.out)⟩
    · rw [if_neg c6] at H
      have qW:(a1 == 98)=false:=beq_eq_false_iff_ne.mpr c6
      have yR:(a1 != 98)=true:=bne_iff_ne.mpr c6
      by_cases c9:a1=99
      · rw [if_pos c9] at H
        have E8:(a1 == 99)=true:=beq_iff_eq.mpr c9
        have IZ:(a1 != 99)=false:=bne_eq_false_iff_eq.mpr c9
        clear c9
        obtain rfl:=Option.some.inj H
        go_enter Tryz.func44,Tryz.ntmps44
        go_wp2_with (first|((with_reducible refine eQ (N:=2) rfl ?_);refine fF ?hg (N:=2) ?hd (cs:=#[.int .u8 dP,.int .u8 aY,.int .u8 aX,.int .u8 dW,.int .i64 eP]) (t:=27) ?hr ?_;(case hd=>rfl);(case hg=>rfl);(case hr=>first|(go_simp;done)|(go_simp;rfl));intro kY hg w10 hbox hb;have di:=ae.mk (aQ (by repeat (first|(with_reducible first|exact HB.out|apply aj|apply af|apply ai)|exact HB.out)) hb);have dm:=ae.mk (hbox);have dE:=ae.mk ((by rw [hg];exact (bn (by repeat (first|(with_reducible first|exact HB.out|apply aj|apply af|apply ai)|exact HB.out))):w.heap.size≤kY));have gq:=ae.mk ((by rw [hg];exact (bn (by repeat (first|(with_reducible first|exact HB.out|apply aj|apply af|apply ai)|exact HB.out))):w.heap.size≤kY));clear HB;have HB:=di;have ja:=dm;have Q4:=dE;have BF:=gq;clear di dm dE gq;clear hb hbox hg;have ET:w10.cell? ⟨kY,0,none⟩=some (.int .u8 dP):=(ah ja.out 0).trans rfl;have ES:w10.cell? ⟨kY,1,none⟩=some (.int .u8 aY):=(ah ja.out 1).trans rfl;have ER:w10.cell? ⟨kY,2,none⟩=some (.int .u8 aX):=(ah ja.out 2).trans rfl;have EP:w10.cell? ⟨kY,3,none⟩=some (.int .u8 dW):=(ah ja.out 3).trans rfl;have Lj:w10.cell? ⟨kY,4,none⟩=some (.int .i64 eP):=(ah ja.out 4).trans rfl;have EG:=ax ja.out 0;have EF:=ax ja.out 1;have EE:=ax ja.out 2;have ED:=ax ja.out 3;have KA:=ax ja.out 4))
        go_ret
        exact ⟨by first|rfl|(simp [bH,bG] <;> rfl)|(simp [*,bH,bG] <;> rfl),by repeat (first|(with_reducible first|exact HB.out|apply aj|apply af|apply ai|refine az ?_ BF.out)|exact HB.out)⟩
      · rw [if_neg c9] at H
        have E8:(a1 == 99)=false:=beq_eq_false_iff_ne.mpr c9
        have IZ:(a1 != 99)=true:=bne_iff_ne.mpr c9
        obtain rfl:=Option.some.inj H
        go_enter Tryz.func44,Tryz.ntmps44
        go_wp2_with (first|((with_reducible refine eQ (N:=2) rfl ?_);refine fF ?hg (N:=2) ?hd (cs:=#[.int .u8 dP,.int .u8 aY,.int .u8 aX,.int .u8 dW,.int .i64 eP]) (t:=27) ?hr ?_;(case hd=>rfl);(case hg=>rfl);(case hr=>first|(go_simp;done)|(go_simp;rfl));intro kY hg w12 hbox hb;have di:=ae.mk (aQ (by repeat (first|(with_reducible first|exact HB.out|apply aj|apply af|apply ai)|exact HB.out)) hb);have dm:=ae.mk (hbox);have dE:=ae.mk ((by rw [hg];exact (bn (by repeat (first|(with_reducible first|exact HB.out|apply aj|apply af|apply ai)|exact HB.out))):w.heap.size≤kY));have gq:=ae.mk ((by rw [hg];exact (bn (by repeat (first|(with_reducible first|exact HB.out|apply aj|apply af|apply ai)|exact HB.out))):w.heap.size≤kY));clear HB;have HB:=di;have ja:=dm;have Q4:=dE;have BF:=gq;clear di dm dE gq;clear hb hbox hg;have aeC:w12.cell? ⟨kY,0,none⟩=some (.int .u8 dP):=(ah ja.out 0).trans rfl;have aeB:w12.cell? ⟨kY,1,none⟩=some (.int .u8 aY):=(ah ja.out 1).trans rfl;have aeA:w12.cell? ⟨kY,2,none⟩=some (.int .u8 aX):=(ah ja.out 2).trans rfl;have aez:w12.cell? ⟨kY,3,none⟩=some (.int .u8 dW):=(ah ja.out 3).trans rfl;have aey:w12.cell? ⟨kY,4,none⟩=some (.int .i64 eP):=(ah ja.out 4).trans rfl;have ada:=ax ja.out 0;have ac9:=ax ja.out 1;have ac8:=ax ja.out 2;have ac7:=ax ja.out 3;have ac6:=ax ja.out 4))
        go_ret
        exact ⟨by first|rfl|(simp [bH,bG] <;> rfl)|(simp [*,bH,bG] <;> rfl),by repeat (first|(with_reducible first|exact HB.out|apply aj|apply af|apply ai|refine az ?_ BF.out)|exact HB.out)⟩
def aT.l0:Nat→ByteArray→List ByteArray→Int→Int→Int→Int→Int→Int→Option (List ByteArray)
  | 0,_,_,_,_,_,_,_,_=>none
  | k+1,x4,x5,x6,Jo,Jn,Jm,Jl,Jk=>if x6 < (x4.size:Int) then (if 0≤x6 then ((jg.f Jo Jn Jm Jl Jk (bt x4 x6)).bind fun t207=>((iE.f t207 10).bind fun t208=>(if x5.length < 8796093022208 then (aT.l0 k x4 (x5++[t208]) (wrap64 (x6+1)) Jo Jn Jm Jl Jk) else (none)))) else (none)) else (some x5)
def aT.f (k:Nat) (dP:Int) (aY:Int) (aX:Int) (dW:Int) (eP:Int):Option (List ByteArray):=(eY.f dP).bind fun Hl=>(aT.l0 k Hl.2 (([Hl.1]:List ByteArray)) 0 dP aY aX dW eP)
theorem aT.gY:∀ k,(∀ y0 y1 y2 y3 y4 y5 y6 y7,dH (aT.l0 k y0 y1 y2 y3 y4 y5 y6 y7) (aT.l0 (k+1) y0 y1 y2 y3 y4 y5 y6 y7))
  | 0=>fun _ _ _ _ _ _ _ _ r h=>by simp [aT.l0] at h
  | k+1=>by
    have jK:=aT.gY k
    · intro y0 y1 y2 y3 y4 y5 y6 y7
      unfold aT.l0
      repeat' first
      | (with_reducible exact jK _ _ _ _ _ _ _ _)
      | (with_reducible exact dH.refl _)
      | (with_reducible exact dH.none _)
      | (with_reducible refine dH.ite ?_ ?_)
      | (with_reducible refine dH.bind ?_ (fun _=>?_))
      | exact jK _ _ _ _ _ _ _ _
      | exact dH.none _
      | refine dH.ite ?_ ?_
      | refine dH.bind ?_ (fun _=>?_)
theorem aT.mono:∀ a0 a1 a2 a3 a4 k,dH (aT.f k a0 a1 a2 a3 a4) (aT.f (k+1) a0 a1 a2 a3 a4):=by
  intro a0 a1 a2 a3 a4 k
  have jK:=aT.gY k
  unfold aT.f
  repeat' first
      | (with_reducible exact jK _ _ _ _ _ _ _ _)
      | (with_reducible exact dH.refl _)
      | (with_reducible exact dH.none _)
      | (with_reducible refine dH.ite ?_ ?_)
      | (with_reducible refine dH.bind ?_ (fun _=>?_))
      | exact jK _ _ _ _ _ _ _ _
      | exact dH.none _
      | refine dH.ite ?_ ?_
      | refine dH.bind ?_ (fun _=>?_)
def aT.T6:Bool × List (List Nat × List Nat):=(true,[([],[]),([],[]),([],[]),([],[]),([2,3],[2,3]),([1,4],[1,4]),([5,5],[5]),([6],[6]),([0,7,6],[0,7]),([8,8,0,1,2,3,4,5,6,7,8],[0,8])])
def aT.B6:List Nat:=[0,0,0,0,12,30,62,126,255,511]
theorem aT.tab6:pg .any (opsOf Tryz.f24 6)=aT.T6:=by kernel_rfl
theorem aT.Zj:oD aT.T6.2 aT.B6=true:=by kernel_rfl
set_option maxHeartbeats 8000000 in
set_option maxRecDepth 100000 in
theorem aT.calls (k:Nat) (dP:Int) (aY:Int) (aX:Int) (dW:Int) (eP:Int) (r:List ByteArray) (w:World) (jM:Kd.C tu w tC lJ.length lJ) (h:aT.f k dP aY aX dW eP=some r) :
    Calls Tryz.prog 24 #[.agg #[.int .u8 dP,.int .u8 aY,.int .u8 aX,.int .u8 dW,.int .i64 eP]] w fun e w'=>∃ FI:Value,e=.returned (FI)∧Kd.R Kd.string 9 w' w.heap.size (fun _=>True) FI r∧Below w.heap.size w w':=by
  have BR:=Tryz.underlying27
  have ry:=ae.mk jM
  clear jM
  have HB:=ae.mk (Below.refl w.heap.size w)
  have H:((eY.f dP).bind fun Hl=>(aT.l0 k Hl.2 (([Hl.1]:List ByteArray)) 0 dP aY aX dW eP))=some r:=h
  clear h
  replace H:=Option.bind_eq_some_iff.mp H
  obtain ⟨⟨t202,t203⟩,Ce,H⟩:=H
  replace H:(aT.l0 k t203 (([t202]:List ByteArray)) 0 dP aY aX dW eP)=some r:=H
  have A2:=ae.mk Ce
  clear Ce
  obtain ⟨Yt,GG⟩:∃ y_:List ByteArray,y_=(([t202]:List ByteArray)):=⟨_,rfl⟩
  replace H:(aT.l0 k t203 Yt 0 dP aY aX dW eP)=some r:=by first|(rw [GG];with_reducible exact H)|(have nR:=(Option.bind_some _ _).symm.trans H;rw [GG];with_reducible exact nR)|(have nR:=(Option.bind_some _ _).symm.trans H;with_reducible exact nR)|with_reducible exact H|(rw [GG];exact H)|exact H
  have Wh:=ae.mk GG
  clear GG
  have H':=ae.mk H
  clear H
  go_enter Tryz.func24,Tryz.ntmps24
  go_wp2_with (first|((with_reducible refine eQ (N:=1) rfl ?_);refine fF ?hg (N:=1) ?hd (cs:=#[.int .u8 dP,.int .u8 aY,.int .u8 aX,.int .u8 dW,.int .i64 eP]) (t:=27) ?hr ?_;(case hd=>rfl);(case hg=>rfl);(case hr=>first|(go_simp;done)|(go_simp;rfl));intro qK hg w3 hbox hb;have di:=ae.mk (aQ (by repeat (first|(with_reducible first|exact HB.out|apply aj|apply af|apply ai)|exact HB.out)) hb);have dm:=ae.mk (hbox);have dE:=ae.mk ((by rw [hg];exact (bn (by repeat (first|(with_reducible first|exact HB.out|apply aj|apply af|apply ai)|exact HB.out))):w.heap.size≤qK));have gq:=ae.mk ((by rw [hg];exact (bn (by repeat (first|(with_reducible first|exact HB.out|apply aj|apply af|apply ai)|exact HB.out))):w.heap.size≤qK));clear HB;have HB:=di;have iL:=dm;have ahJ:=dE;have yG:=gq;clear di dm dE gq;clear hb hbox hg;have XG:w3.cell? ⟨qK,0,none⟩=some (.int .u8 dP):=(ah iL.out 0).trans rfl;have XF:w3.cell? ⟨qK,1,none⟩=some (.int .u8 aY):=(ah iL.out 1).trans rfl;have XE:w3.cell? ⟨qK,2,none⟩=some (.int .u8 aX):=(ah iL.out 2).trans rfl;have XD:w3.cell? ⟨qK,3,none⟩=some (.int .u8 dW):=(ah iL.out 3).trans rfl;have XC:w3.cell? ⟨qK,4,none⟩=some (.int .i64 eP):=(ah iL.out 4).trans rfl;have Xz:=ax iL.out 0;have Xy:=ax iL.out 1;have Xx:=ax iL.out 2;have Xw:=ax iL.out 3;have Xv:=ax iL.out 4)|((with_reducible refine bU (f:=27) rfl ?_);refine gy (some 10) rfl rfl Tryz.func27 (by kernel_rfl) rfl #[.int .u8 dP] rfl (by (try simp only [List.map_toArray,List.map_cons,List.map_nil]);first|done|rfl|(simp only [List.length_drop,List.length_take];rfl)) ?_;(with_reducible refine (eY.calls dP t202 t203 _ A2.out).mono ?_);rintro e w' ⟨rfl,⟨nd,rfl⟩⟩;refine ⟨_,rfl,?_⟩)|((with_reducible refine eQ (N:=14) rfl ?_);refine Kd.QT Kd.string _ 9 ?hg (N:=14) ?hd (xs:=([t202]:List ByteArray)) (inner:=[.string t202]) (ok:=fun _=>True) (nY:=fun _=>True) ?hr ?hp (fun _ hk=>hk) trivial (Below.refl _ _) (Nat.le_refl _) (by simp) ?_;(case hd=>rfl);(case hg=>rfl);(case hr=>first|(go_simp;done)|(go_simp;rfl));(case hp=>exact (iK.one (show Kd.M Kd.string _ _ _ t202 [.string t202] from rfl) (iK.none _ _)));intro ah9 w5 YO hb xk kN;clear xk kN;(first|rw [← Wh.out] at YO|(simp only [Int.reduceToNat] at YO;rw [← Wh.out] at YO));have di:=ae.mk (Kd.iM YO (bn (by repeat (first|(with_reducible first|exact HB.out|apply aj|apply af|apply ai|refine az ?_ yG.out)|exact HB.out))));have dm:=ae.mk (aV (g:=qK) (o:=.cells #[.int .u8 dP,.int .u8 aY,.int .u8 aX,.int .u8 dW,.int .i64 eP] 27 (0,0)) (by (with_reducible repeat (first|refine au ?_ _|refine ay ?_|refine ak ?_ _));exact iL.out) hb);have dE:=ae.mk (aQ (by repeat (first|(with_reducible first|exact HB.out|apply aj|apply af|apply ai|refine az ?_ yG.out)|exact HB.out)) hb);clear iL;clear HB;have ZV:=di;have iL:=dm;have HB:=dE;clear di dm dE;clear hb YO))
  go_loopg [5,6] k (fun kq v5 v6 w'=>∃ (lh:List ByteArray) (vH:Int),v6=.int .i64 vH∧ae (aT.l0 kq t203 lh vH dP aY aX dW eP=some r)∧ae (kq≤k)∧ae (Kd.R Kd.string 9 w' w.heap.size (fun _=>True) v5 lh)∧ae (w'.heap[qK]? = some (.cells #[.int .u8 dP,.int .u8 aY,.int .u8 aX,.int .u8 dW,.int .i64 eP] 27 (0,0)))∧ae (Below w.heap.size w w'))
  case atStart=>exact ⟨(Yt),(0),(by first|rfl|(simp;done)|(simp [*];done)),H',⟨Nat.le_refl _⟩,⟨by (with_reducible repeat (first|apply Kd.dn|apply Kd.dA|apply Kd.dQ));exact ZV.out⟩,⟨by (with_reducible repeat (first|refine au ?_ _|refine ay ?_|refine ak ?_ _));exact iL.out⟩,⟨by repeat (first|(with_reducible first|exact HB.out|apply aj|apply af|apply ai|refine az ?_ yG.out)|exact HB.out)⟩⟩
  case round =>
    clear H'
    try clear c2
    try clear p2
    try clear XG
    try clear XF
    try clear XE
    try clear XD
    try clear XC
    try clear Xz
    try clear Xy
    try clear Xx
    try clear Xw
    try clear Xv
    obtain ⟨lh,vH,rfl,HA,nZ,lQ,iL,HB⟩:=hrel
    cases gk with
    | zero=>exact absurd HA.out (by simp [aT.l0])
    | succ k1 =>
      have H:=HA.out
      clear HA
      simp only [aT.l0] at H
      by_cases c7:vH < (t203.size:Int)
      · rw [if_pos c7] at H
        have nX:decide (vH < (t203.size:Int))=true:=decide_eq_true c7
        clear c7
        by_cases c8:0≤vH
        · rw [if_pos c8] at H
          have tK:decide (0≤vH)=true:=decide_eq_true c8
          clear c8
          replace H:=Option.bind_eq_some_iff.mp H
          obtain ⟨t207,H8,H⟩:=H
          replace H:((iE.f t207 10).bind fun t208=>(if lh.length < 8796093022208 then (aT.l0 k1 t203 (lh++[t208]) (wrap64 (vH+1)) dP aY aX dW eP) else (none)))=some r:=H
          have Rj:=ae.mk H8
          clear H8
          replace H:=Option.bind_eq_some_iff.mp H
          obtain ⟨t208,aaC,H⟩:=H
          replace H:(if lh.length < 8796093022208 then (aT.l0 k1 t203 (lh++[t208]) (wrap64 (vH+1)) dP aY aX dW eP) else (none))=some r:=H
          have A11:=ae.mk aaC
          clear aaC
          by_cases c12:lh.length < 8796093022208
          · rw [if_pos c12] at H
            have ZK:=ae.mk c12
            clear c12
            obtain ⟨Yr,Gz⟩:∃ y_:List ByteArray,y_=(lh++[t208]):=⟨_,rfl⟩
            replace H:(aT.l0 k1 t203 Yr (wrap64 (vH+1)) dP aY aX dW eP)=some r:=by first|(rw [Gz];with_reducible exact H)|(have nR:=(Option.bind_some _ _).symm.trans H;rw [Gz];with_reducible exact nR)|(have nR:=(Option.bind_some _ _).symm.trans H;with_reducible exact nR)|with_reducible exact H|(rw [Gz];exact H)|exact H
            have Zw:=ae.mk Gz
            clear Gz
            have H':=ae.mk H
            clear H
            try go_wp2
            have di:=ae.mk (Kd.dQ lQ.out)
            have dm:=ae.mk (ay iL.out)
            have dE:=ae.mk (ai HB.out)
            clear lQ
            clear iL
            clear HB
            have lQ:=di
            have iL:=dm
            have HB:=dE
            clear di dm dE
            have p9:0≤(vH:Int):=of_decide_eq_true (by first|(with_reducible assumption)|assumption)
            have q9:vH < (t203.size:Int):=of_decide_eq_true (by first|(with_reducible assumption)|assumption)
            have hx9:=lL t203 vH
            replace p9:=eq_true p9
            replace q9:=eq_true q9
            refine nM (n:=10) (S:=fun w'=>w'.cell? ⟨qK,0,none⟩=some (.int .u8 dP)∧w'.cell? ⟨qK,1,none⟩=some (.int .u8 aY)∧w'.cell? ⟨qK,2,none⟩=some (.int .u8 aX)∧w'.cell? ⟨qK,3,none⟩=some (.int .u8 dW)∧w'.cell? ⟨qK,4,none⟩=some (.int .i64 eP)) (ds:=[]) #[false,false,false,false,false,false,false,false,false,false] (by kernel_rfl) rfl rfl ⟨(ah iL.out 0).trans rfl,(ah iL.out 1).trans rfl,(ah iL.out 2).trans rfl,(ah iL.out 3).trans rfl,(ah iL.out 4).trans rfl⟩ (fun hHeld=>?_);refine je aT.tab6 aT.Zj (fun dD lK=>?_)
            generalize wr.drew=w13 at lQ iL HB hHeld ⊢
            refine bu (i:=0) (N:=some 21) (v:=?_) (a':=?_) #[true,false,false,false,false,false,false,false,false,false] rfl rfl (aN dD.out (by kernel_rfl)) (fun _ _ _ h=>h) (Or.inl ⟨by rfl,?_⟩) ?_ ?_
            rotate_left
            · intro w'
              go_simp
              with_reducible rfl
            rotate_left
            · simp only [Act.put,List.setIfInBounds_toArray,List.set_cons_zero,List.set_cons_succ,aI,aJ]
              rfl
            refine bu (i:=2) (N:=some 23) (v:=?_) (a':=?_) #[true,false,true,false,false,false,false,false,false,false] rfl rfl (aN dD.out (by kernel_rfl)) (fun _ _ _ h=>h) (Or.inl ⟨by rfl,?_⟩) ?_ ?_
            rotate_left
            · intro w'
              go_simp
              with_reducible rfl
            rotate_left
            · simp only [Act.put,List.setIfInBounds_toArray,List.set_cons_zero,List.set_cons_succ,aI,aJ]
              rfl
            refine bu (i:=3) (N:=some 24) (v:=?_) (a':=?_) #[true,false,true,true,false,false,false,false,false,false] rfl rfl (aN dD.out (by kernel_rfl)) (fun _ _ _ h=>h) (Or.inl ⟨by rfl,?_⟩) ?_ ?_
            rotate_left
            · intro w'
              go_simp
              with_reducible rfl
            rotate_left
            · simp only [Act.put,List.setIfInBounds_toArray,List.set_cons_zero,List.set_cons_succ,aI,aJ]
              rfl
            refine gQ (i:=1) (N:=some 22) (v:=?_) (a':=?_) #[true,true,true,true,false,false,false,false,false,false] rfl rfl (dw dD.out lK.out (by kernel_rfl)) (fun _ _ _ h=>h) (Or.inl ⟨by rfl,?_⟩) hHeld ?_ ?_
            rotate_left
            · rintro w' ⟨s0,s1,s2,s3,s4⟩
              go_simp
              with_reducible rfl
            rotate_left
            · simp only [Act.put,List.setIfInBounds_toArray,List.set_cons_zero,List.set_cons_succ,aI,aJ]
              rfl
            refine gQ (i:=4) (N:=some 25) (v:=?_) (a':=?_) #[true,true,true,true,true,false,false,false,false,false] rfl rfl (dw dD.out lK.out (by kernel_rfl)) (fun _ _ _ h=>h) (Or.inl ⟨by rfl,?_⟩) hHeld ?_ ?_
            rotate_left
            · rintro w' ⟨s0,s1,s2,s3,s4⟩
              go_simp
              with_reducible rfl
            rotate_left
            · simp only [Act.put,List.setIfInBounds_toArray,List.set_cons_zero,List.set_cons_succ,aI,aJ]
              rfl
            refine mD (i:=5) (N:=some 26) #[true,true,true,true,true,true,false,false,false,false] rfl rfl (iD dD.out (by kernel_rfl)) (by decide) (fun K hK=>?_)
            refine mG Tryz.func44 (by kernel_rfl) rfl #[.agg #[.int .u8 dP,.int .u8 aY,.int .u8 aX,.int .u8 dW,.int .i64 eP],.int .u8 (bt t203 vH)] (by rfl) rfl rfl (by (try simp only [List.map_toArray,List.map_cons,List.map_nil]);first|done|rfl|(simp only [List.length_drop,List.length_take];rfl)) ?_
            with_reducible refine (jg.calls dP aY aX dW eP (bt t203 vH) t207 _ Rj.out).mono ?_
            rintro e MO ⟨rfl,hb⟩
            refine ⟨_,rfl,?_⟩
            have di:=ae.mk (Kd.iF (by (with_reducible repeat (first|apply Kd.dn|apply Kd.dA|apply Kd.dQ));exact lQ.out) hb)
            have dm:=ae.mk (aV (g:=qK) (o:=.cells #[.int .u8 dP,.int .u8 aY,.int .u8 aX,.int .u8 dW,.int .i64 eP] 27 (0,0)) (by (with_reducible repeat (first|refine au ?_ _|refine ay ?_|refine ak ?_ _));exact iL.out) hb)
            have dE:=ae.mk (aQ (by repeat (first|(with_reducible first|exact HB.out|apply aj|apply af|apply ai|refine az ?_ yG.out)|exact HB.out)) hb)
            clear lQ
            clear iL
            clear HB
            have lQ:=di
            have iL:=dm
            have HB:=dE
            clear di dm dE
            (try clear hb)
            (try clear hb2)
            (try clear hk)
            (try clear hi)
            refine hK.out _ _ ⟨(ah iL.out 0).trans rfl,(ah iL.out 1).trans rfl,(ah iL.out 2).trans rfl,(ah iL.out 3).trans rfl,(ah iL.out 4).trans rfl⟩ (fun hHeld=>?_)
            clear hK K
            refine gX (a':=?_) ?_ ?_
            rotate_left
            · show Act.put _ (some 26) _=_
              simp only [Act.put,List.setIfInBounds_toArray,List.set_cons_zero,List.set_cons_succ,aI,aJ]
              rfl
            refine mD (i:=6) (N:=some 27) #[true,true,true,true,true,true,true,false,false,false] rfl rfl (iD dD.out (by kernel_rfl)) (by decide) (fun K hK=>?_)
            refine mG Tryz.func38 (by kernel_rfl) rfl #[.int .i64 t207,.int .i64 10] (by rfl) rfl rfl (by (try simp only [List.map_toArray,List.map_cons,List.map_nil]);first|done|rfl|(simp only [List.length_drop,List.length_take];rfl)) ?_
            with_reducible refine (iE.calls t207 10 t208 _ ?fD A11.out).mono ?_
            (case fD=>repeat (first|exact (Kd.dF ry.out HB.out)|(with_reducible refine Kd.ed ?_ _)|(with_reducible refine Kd.dZ ?_ _)|(with_reducible refine Kd.fO ?_)))
            rintro e YB ⟨rfl,hb⟩
            refine ⟨_,rfl,?_⟩
            have di:=ae.mk (Kd.iF (by (with_reducible repeat (first|apply Kd.dn|apply Kd.dA|apply Kd.dQ));exact lQ.out) hb)
            have dm:=ae.mk (aV (g:=qK) (o:=.cells #[.int .u8 dP,.int .u8 aY,.int .u8 aX,.int .u8 dW,.int .i64 eP] 27 (0,0)) (by (with_reducible repeat (first|refine au ?_ _|refine ay ?_|refine ak ?_ _));exact iL.out) hb)
            have dE:=ae.mk (aQ (by repeat (first|(with_reducible first|exact HB.out|apply aj|apply af|apply ai|refine az ?_ yG.out)|exact HB.out)) hb)
            clear lQ
            clear iL
            clear HB
            have lQ:=di
            have iL:=dm
            have HB:=dE
            clear di dm dE
            (try clear hb)
            (try clear hb2)
            (try clear hk)
            (try clear hi)
            refine hK.out _ _ ⟨(ah iL.out 0).trans rfl,(ah iL.out 1).trans rfl,(ah iL.out 2).trans rfl,(ah iL.out 3).trans rfl,(ah iL.out 4).trans rfl⟩ (fun hHeld=>?_)
            clear hK K
            refine gX (a':=?_) ?_ ?_
            rotate_left
            · show Act.put _ (some 27) _=_
              simp only [Act.put,List.setIfInBounds_toArray,List.set_cons_zero,List.set_cons_succ,aI,aJ]
              rfl
            refine mD (i:=7) (N:=some 28) #[true,true,true,true,true,true,true,true,false,false] rfl rfl (iD dD.out (by kernel_rfl)) (by decide) (fun K hK=>?_)
            refine WH (w1:=?_) (v:=?_) (by rfl) rfl ?_ ?_
            rotate_left 2
            · go_simp
              constructor
              · rfl
              · rfl
            refine hK.out _ _ ⟨(ah (ak iL.out _) 0).trans rfl,(ah (ak iL.out _) 1).trans rfl,(ah (ak iL.out _) 2).trans rfl,(ah (ak iL.out _) 3).trans rfl,(ah (ak iL.out _) 4).trans rfl⟩ (fun hHeld=>?_)
            clear hK K
            refine gX (a':=?_) ?_ ?_
            rotate_left
            · show Act.put _ (some 28) _=_
              simp only [Act.put,List.setIfInBounds_toArray,List.set_cons_zero,List.set_cons_succ,aI,aJ]
              rfl
            refine mD (i:=8) (N:=some 29) #[true,true,true,true,true,true,true,true,true,false] rfl rfl (iD dD.out (by kernel_rfl)) (by decide) (fun K hK=>?_)
            refine Kd.BZ Kd.string (w0:=w) w.heap.size (by rfl) (.tmp 21) (.tmp 28) 22 9 (.string ⟨#[]⟩) 16 rfl Tryz.underlying22 info9 rfl (by decide) (by omega) u5 lh t208 [.string t208] (fun _=>True) (fun _=>False) rfl rfl ?aP (fun _ hk=>hk.elim) ?aF ?aO ?aB ?aS ?aL ?_
            (case aP=>exact rfl)
            (case aB=>exact (by repeat (first|(with_reducible first|exact HB.out|apply aj|apply af|apply ai|refine az ?_ yG.out)|exact HB.out)))
            (case aF=>exact (fun _ _=>trivial))
            (case aO=>exact (by (with_reducible repeat (first|apply Kd.dn|apply Kd.dA|apply Kd.dQ));exact lQ.out))
            (case aS=>exact (bn (by repeat (first|(with_reducible first|exact HB.out|apply aj|apply af|apply ai|refine az ?_ yG.out)|exact HB.out))))
            (case aL=>have:=ZK.out;omega)
            intro v210 w16 ho hb hg hat
            rw [← Zw.out] at ho
            have di:=ae.mk (oQ (g:=qK) (o:=.cells #[.int .u8 dP,.int .u8 aY,.int .u8 aX,.int .u8 dW,.int .i64 eP] 27 (0,0)) (by (with_reducible repeat (first|refine au ?_ _|refine ay ?_|refine ak ?_ _));exact iL.out) hg (Kd.BX lQ.out iL.out (by decide)))
            have dm:=ae.mk (hb)
            have dE:=ae.mk (ho)
            clear iL
            clear HB
            clear lQ
            have iL:=di
            have HB:=dm
            have ZU:=dE
            clear di dm dE
            clear ho hb hg hat
            refine hK.out _ _ ⟨(ah iL.out 0).trans rfl,(ah iL.out 1).trans rfl,(ah iL.out 2).trans rfl,(ah iL.out 3).trans rfl,(ah iL.out 4).trans rfl⟩ (fun hHeld=>?_)
            clear hK K
            refine gX (a':=?_) ?_ ?_
            rotate_left
            · show Act.put _ (some 29) _=_
              simp only [Act.put,List.setIfInBounds_toArray,List.set_cons_zero,List.set_cons_succ,aI,aJ]
              rfl
            refine bu (i:=9) (N:=some 5) (v:=?_) (a':=?_) #[true,true,true,true,true,true,true,true,true,true] rfl rfl (aN dD.out (by kernel_rfl)) (fun _ _ _ h=>h) (Or.inl ⟨by rfl,?_⟩) ?_ ?_
            rotate_left
            · intro w'
              go_simp
              with_reducible rfl
            rotate_left
            · simp only [Act.put,List.setIfInBounds_toArray,List.set_cons_zero,List.set_cons_succ,aI,aJ]
              rfl
            refine qL (lG dD.out (by kernel_rfl)) ?_
            try go_wp2
            go_roundg k1
            case measure=>have:=nZ.out;omega
            case rel=>exact ⟨(Yr),(wrap64 (vH+1)),(by first|rfl|(simp;done)|(simp [*];done)),H',⟨by have:=nZ.out;omega⟩,⟨by (with_reducible repeat (first|apply Kd.dn|apply Kd.dA|apply Kd.dQ));exact ZU.out⟩,⟨by (with_reducible repeat (first|refine au ?_ _|refine ay ?_|refine ak ?_ _));exact iL.out⟩,⟨by repeat (first|(with_reducible first|exact HB.out|apply aj|apply af|apply ai|refine az ?_ yG.out)|exact HB.out)⟩⟩
          · rw [if_neg c12] at H
            exact absurd H (by simp)
        · rw [if_neg c8] at H
          exact absurd H (by simp)
      · rw [if_neg c7] at H
        have nX:decide (vH < (t203.size:Int))=false:=decide_eq_false c7
        clear c7
        obtain rfl:=Option.some.inj H
        go_wp2
        go_ret
        exact ⟨_,by first|rfl|(simp [bH,bG] <;> rfl)|(simp [*,bH,bG] <;> rfl),by (with_reducible repeat (first|apply Kd.dn|apply Kd.dA|apply Kd.dQ));exact lQ.out,by repeat (first|(with_reducible first|exact HB.out|apply aj|apply af|apply ai|refine az ?_ yG.out)|exact HB.out)⟩
end Go.Proofs.YtkclndkbccbhaaaGreatDoor.P
end
