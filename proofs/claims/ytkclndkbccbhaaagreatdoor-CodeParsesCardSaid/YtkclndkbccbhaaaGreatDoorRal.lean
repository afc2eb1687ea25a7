/- Parts of the proof of CodeParses: what the functions that it reaches compute, and plain facts about that. -/
import Derived.Test.YtkclndkbccbhaaaGreatDoorRac
import Derived.Test.YtkclndkbccbhaaaGreatDoorRad
set_option linter.unusedVariables false
set_option linter.unusedSimpArgs false
section
namespace Go.Proofs.YtkclndkbccbhaaaGreatDoor.P
open Go.RowKit Go.Proofs.ag.bK Go.Proofs.ag.dV Go.Proofs.ag.fE
attribute [local go_sem] lI lG ny ni jW jV lH lF
mutual
def dA.l0:Nat→List (List ByteArray)→ByteArray→Int→Option (ByteArray)
  | 0,_,_,_=>none
  | k+1,x0,x3,x4=>if x4 < (x0.length:Int) then (dA.l1 k x0 x3 x4 0) else (some x3)
def dA.l1:Nat→List (List ByteArray)→ByteArray→Int→Int→Option (ByteArray)
  | 0,_,_,_,_=>none
  | k+1,x0,x3,x4,x5=>if 0≤x4 then (if x4 < (x0.length:Int) then (if x5 < ((dZ x0 x4).length:Int) then (if x5 > 0 then (if x3.size+1≤9223372036854775807 then (if 0≤x5 then (if (x3++(⟨#[32]⟩:ByteArray)).size+(eF ByteArray.empty (dZ x0 x4) x5).size≤9223372036854775807 then (dA.l1 k x0 ((x3++(⟨#[32]⟩:ByteArray))++(eF ByteArray.empty (dZ x0 x4) x5)) x4 (wrap64 (x5+1))) else (none)) else (none)) else (none)) else (if 0≤x5 then (if x3.size+(eF ByteArray.empty (dZ x0 x4) x5).size≤9223372036854775807 then (dA.l1 k x0 (x3++(eF ByteArray.empty (dZ x0 x4) x5)) x4 (wrap64 (x5+1))) else (none)) else (none))) else (if x3.size+1≤9223372036854775807 then (dA.l0 k x0 (x3++(⟨#[10]⟩:ByteArray)) (wrap64 (x4+1))) else (none))) else (none)) else (none)
end
def dA.f (k:Nat) (l0:List (List ByteArray)):Option (ByteArray):=dA.l0 k l0 (⟨#[]⟩:ByteArray) 0
theorem dA.iq:∀ k,(∀ y0 y1 y2,dC (dA.l0 k y0 y1 y2) (dA.l0 (k+1) y0 y1 y2))∧(∀ y0 y1 y2 y3,dC (dA.l1 k y0 y1 y2 y3) (dA.l1 (k+1) y0 y1 y2 y3))
  | 0=>⟨fun _ _ _ r h=>by simp [dA.l0] at h,fun _ _ _ _ r h=>by simp [dA.l1] at h⟩
  | k+1=>by
    obtain ⟨jY,ih1⟩:=dA.iq k
    refine ⟨?_,?_⟩
    · intro y0 y1 y2
      unfold dA.l0
      repeat' first
      | (with_reducible exact jY _ _ _)
      | (with_reducible exact ih1 _ _ _ _)
      | (with_reducible exact dC.refl _)
      | (with_reducible exact dC.none _)
      | (with_reducible refine dC.ite ?_ ?_)
      | (with_reducible refine dC.bind ?_ (fun _=>?_))
      | exact jY _ _ _
      | exact ih1 _ _ _ _
      | exact dC.none _
      | refine dC.ite ?_ ?_
      | refine dC.bind ?_ (fun _=>?_)
    · intro y0 y1 y2 y3
      unfold dA.l1
      repeat' first
      | (with_reducible exact jY _ _ _)
      | (with_reducible exact ih1 _ _ _ _)
      | (with_reducible exact dC.refl _)
      | (with_reducible exact dC.none _)
      | (with_reducible refine dC.ite ?_ ?_)
      | (with_reducible refine dC.bind ?_ (fun _=>?_))
      | exact jY _ _ _
      | exact ih1 _ _ _ _
      | exact dC.none _
      | refine dC.ite ?_ ?_
      | refine dC.bind ?_ (fun _=>?_)
theorem dA.mono:∀ a0 k,dC (dA.f k a0) (dA.f (k+1) a0):=by
  intro a0 k
  obtain ⟨jY,ih1⟩:=dA.iq k
  unfold dA.f
  repeat' first
      | (with_reducible exact jY _ _ _)
      | (with_reducible exact ih1 _ _ _ _)
      | (with_reducible exact dC.refl _)
      | (with_reducible exact dC.none _)
      | (with_reducible refine dC.ite ?_ ?_)
      | (with_reducible refine dC.bind ?_ (fun _=>?_))
      | exact jY _ _ _
      | exact ih1 _ _ _ _
      | exact dC.none _
      | refine dC.ite ?_ ?_
      | refine dC.bind ?_ (fun _=>?_)
def kW.f (a0:Int):Option (ByteArray × ByteArray):=if a0=11 then (some ((⟨#[115,116,111,114,101,112]⟩:ByteArray),(⟨#[97,110,98]⟩:ByteArray))) else (if a0=12 then (some ((⟨#[108,111,97,100,103]⟩:ByteArray),(⟨#[97,98]⟩:ByteArray))) else (if a0=13 then (some ((⟨#[115,116,111,114,101,103]⟩:ByteArray),(⟨#[97,98]⟩:ByteArray))) else (if a0=14 then (some ((⟨#[112,114,105,110,116]⟩:ByteArray),(⟨#[97]⟩:ByteArray))) else (if a0=15 then (some ((⟨#[115,97,109,101]⟩:ByteArray),(⟨#[97,98,99]⟩:ByteArray))) else (some ((⟨#[]⟩:ByteArray),(⟨#[]⟩:ByteArray)))))))
set_option maxHeartbeats 8000000 in
set_option maxRecDepth 100000 in
theorem kW.calls (a0:Int) (r1:ByteArray) (r2:ByteArray) (w:World) (h:kW.f a0=some (r1,r2)) :
    Calls Tryz.prog 46 #[.int .u8 a0] w fun e w'=>e=.returned (.tuple #[.string r1,.string r2])∧bz w w':=by
  have H:(if a0=11 then (some ((⟨#[115,116,111,114,101,112]⟩:ByteArray),(⟨#[97,110,98]⟩:ByteArray))) else (if a0=12 then (some ((⟨#[108,111,97,100,103]⟩:ByteArray),(⟨#[97,98]⟩:ByteArray))) else (if a0=13 then (some ((⟨#[115,116,111,114,101,103]⟩:ByteArray),(⟨#[97,98]⟩:ByteArray))) else (if a0=14 then (some ((⟨#[112,114,105,110,116]⟩:ByteArray),(⟨#[97]⟩:ByteArray))) else (if a0=15 then (some ((⟨#[115,97,109,101]⟩:ByteArray),(⟨#[97,98,99]⟩:ByteArray))) else (some ((⟨#[]⟩:ByteArray),(⟨#[]⟩:ByteArray))))))))=some (r1,r2):=h
  clear h
  by_cases c2:a0=11
  · rw [if_pos c2] at H
    have uS:(a0 == 11)=true:=beq_iff_eq.mpr c2
    have zy:(a0 != 11)=false:=bne_eq_false_iff_eq.mpr c2
    clear c2
    simp only [Option.some.injEq,Prod.mk.injEq] at H
    obtain ⟨rfl,rfl⟩:=H
    go_enter Tryz.func46,Tryz.ntmps46
    go_wp2
    go_ret2
    exact ⟨by first|rfl|(simp;done)|(simp [*];done),by repeat (first|exact bz.refl _|apply bz.step)⟩
  · rw [if_neg c2] at H
    have uS:(a0 == 11)=false:=beq_eq_false_iff_ne.mpr c2
    have zy:(a0 != 11)=true:=bne_iff_ne.mpr c2
    by_cases c3:a0=12
    · rw [if_pos c3] at H
      have rW:(a0 == 12)=true:=beq_iff_eq.mpr c3
      have Bf:(a0 != 12)=false:=bne_eq_false_iff_eq.mpr c3
      clear c3
      simp only [Option.some.injEq,Prod.mk.injEq] at H
      obtain ⟨rfl,rfl⟩:=H
      go_enter Tryz.func46,Tryz.ntmps46
      go_wp2
      go_ret2
      exact ⟨by first|rfl|(simp;done)|(simp [*];done),by repeat (first|exact bz.refl _|apply bz.step)⟩
    · rw [if_neg c3] at H
      have rW:(a0 == 12)=false:=beq_eq_false_iff_ne.mpr c3
      have Bf:(a0 != 12)=true:=bne_iff_ne.mpr c3
      by_cases c4:a0=13
      · rw [if_pos c4] at H
        have uo:(a0 == 13)=true:=beq_iff_eq.mpr c4
        have wY:(a0 != 13)=false:=bne_eq_false_iff_eq.mpr c4
        clear c4
        simp only [Option.some.injEq,Prod.mk.injEq] at H
        obtain ⟨rfl,rfl⟩:=H
        go_enter Tryz.func46,Tryz.ntmps46
        go_wp2
        go_ret2
        exact ⟨by first|rfl|(simp;done)|(simp [*];done),by repeat (first|exact bz.refl _|apply bz.step)⟩
      · rw [if_neg c4] at H
        have uo:(a0 == 13)=false:=beq_eq_false_iff_ne.mpr c4
        have wY:(a0 != 13)=true:=bne_iff_ne.mpr c4
        by_cases c5:a0=14
        · rw [if_pos c5] at H
          have wX:(a0 == 14)=true:=beq_iff_eq.mpr c5
          have GR:(a0 != 14)=false:=bne_eq_false_iff_eq.mpr c5
          clear c5
          simp only [Option.some.injEq,Prod.mk.injEq] at H
          obtain ⟨rfl,rfl⟩:=H
          go_enter Tryz.func46,Tryz.ntmps46
          go_wp2
          go_ret2
          exact ⟨by first|rfl|(simp;done)|(simp [*];done),by repeat (first|exact bz.refl _|apply bz.step)⟩
        · rw [if_neg c5] at H
          have wX:(a0 == 14)=false:=beq_eq_false_iff_ne.mpr c5
          have GR:(a0 != 14)=true:=bne_iff_ne.mpr c5
          by_cases c6:a0=15
          · rw [if_pos c6] at H
            have oP:(a0 == 15)=true:=beq_iff_eq.mpr c6
            have zx:(a0 != 15)=false:=bne_eq_false_iff_eq.mpr c6
            clear c6
            simp only [Option.some.injEq,Prod.mk.injEq] at H
            obtain ⟨rfl,rfl⟩:=H
            go_enter Tryz.func46,Tryz.ntmps46
            go_wp2
            go_ret2
            exact ⟨by first|rfl|(simp;done)|(simp [*];done),by repeat (first|exact bz.refl _|apply bz.step)⟩
          · rw [if_neg c6] at H
            have oP:(a0 == 15)=false:=beq_eq_false_iff_ne.mpr c6
            have zx:(a0 != 15)=true:=bne_iff_ne.mpr c6
            simp only [Option.some.injEq,Prod.mk.injEq] at H
            obtain ⟨rfl,rfl⟩:=H
            go_enter Tryz.func46,Tryz.ntmps46
            go_wp2
            go_ret2
            exact ⟨by first|rfl|(simp;done)|(simp [*];done),by repeat (first|exact bz.refl _|apply bz.step)⟩
def jl.f (a0:Int):Option (ByteArray × ByteArray):=if a0=1 then (some ((⟨#[115,101,116]⟩:ByteArray),(⟨#[97,110]⟩:ByteArray))) else (if a0=2 then (some ((⟨#[97,100,100]⟩:ByteArray),(⟨#[97,98,99]⟩:ByteArray))) else (if a0=3 then (some ((⟨#[106,117,109,112]⟩:ByteArray),(⟨#[110]⟩:ByteArray))) else (if a0=4 then (some ((⟨#[122,101,114,111]⟩:ByteArray),(⟨#[97,110]⟩:ByteArray))) else (if a0=5 then (some ((⟨#[110,101,119]⟩:ByteArray),(⟨#[97]⟩:ByteArray))) else (if a0=6 then (some ((⟨#[110,105,108]⟩:ByteArray),(⟨#[97]⟩:ByteArray))) else (if a0=7 then (some ((⟨#[109,111,118,101]⟩:ByteArray),(⟨#[97,98]⟩:ByteArray))) else (if a0=8 then (some ((⟨#[108,111,97,100,105]⟩:ByteArray),(⟨#[97,98,110]⟩:ByteArray))) else (if a0=9 then (some ((⟨#[115,116,111,114,101,105]⟩:ByteArray),(⟨#[97,110,98]⟩:ByteArray))) else (if a0=10 then (some ((⟨#[108,111,97,100,112]⟩:ByteArray),(⟨#[97,98,110]⟩:ByteArray))) else ((kW.f a0).bind fun IY=>(some (IY.1,IY.2))))))))))))
set_option maxHeartbeats 8000000 in
set_option maxRecDepth 100000 in
theorem jl.calls (a0:Int) (r1:ByteArray) (r2:ByteArray) (w:World) (h:jl.f a0=some (r1,r2)) :
    Calls Tryz.prog 27 #[.int .u8 a0] w fun e w'=>e=.returned (.tuple #[.string r1,.string r2])∧bz w w':=by
  have H:(if a0=1 then (some ((⟨#[115,101,116]⟩:ByteArray),(⟨#[97,110]⟩:ByteArray))) else (if a0=2 then (some ((⟨#[97,100,100]⟩:ByteArray),(⟨#[97,98,99]⟩:ByteArray))) else (if a0=3 then (some ((⟨#[106,117,109,112]⟩:ByteArray),(⟨#[110]⟩:ByteArray))) else (if a0=4 then (some ((⟨#[122,101,114,111]⟩:ByteArray),(⟨#[97,110]⟩:ByteArray))) else (if a0=5 then (some ((⟨#[110,101,119]⟩:ByteArray),(⟨#[97]⟩:ByteArray))) else (if a0=6 then (some ((⟨#[110,105,108]⟩:ByteArray),(⟨#[97]⟩:ByteArray))) else (if a0=7 then (some ((⟨#[109,111,118,101]⟩:ByteArray),(⟨#[97,98]⟩:ByteArray))) else (if a0=8 then (some ((⟨#[108,111,97,100,105]⟩:ByteArray),(⟨#[97,98,110]⟩:ByteArray))) else (if a0=9 then (some ((⟨#[115,116,111,114,101,105]⟩:ByteArray),(⟨#[97,110,98]⟩:ByteArray))) else (if a0=10 then (some ((⟨#[108,111,97,100,112]⟩:ByteArray),(⟨#[97,98,110]⟩:ByteArray))) else ((kW.f a0).bind fun IY=>(some (IY.1,IY.2)))))))))))))=some (r1,r2):=h
  clear h
  by_cases c2:a0=1
  · rw [if_pos c2] at H
    have uS:(a0 == 1)=true:=beq_iff_eq.mpr c2
    have zy:(a0 != 1)=false:=bne_eq_false_iff_eq.mpr c2
    clear c2
    simp only [Option.some.injEq,Prod.mk.injEq] at H
    obtain ⟨rfl,rfl⟩:=H
    go_enter Tryz.func27,Tryz.ntmps27
    go_wp2
    go_ret2
    exact ⟨by first|rfl|(simp;done)|(simp [*];done),by repeat (first|exact bz.refl _|apply bz.step)⟩
  · rw [if_neg c2] at H
    have uS:(a0 == 1)=false:=beq_eq_false_iff_ne.mpr c2
    have zy:(a0 != 1)=true:=bne_iff_ne.mpr c2
    by_cases c3:a0=2
    · rw [if_pos c3] at H
      have rW:(a0 == 2)=true:=beq_iff_eq.mpr c3
      have Bf:(a0 != 2)=false:=bne_eq_false_iff_eq.mpr c3
      clear c3
      simp only [Option.some.injEq,Prod.mk.injEq] at H
      obtain ⟨rfl,rfl⟩:=H
      go_enter Tryz.func27,Tryz.ntmps27
      go_wp2
      go_ret2
      exact ⟨by first|rfl|(simp;done)|(simp [*];done),by repeat (first|exact bz.refl _|apply bz.step)⟩
    · rw [if_neg c3] at H
      have rW:(a0 == 2)=false:=beq_eq_false_iff_ne.mpr c3
      have Bf:(a0 != 2)=true:=bne_iff_ne.mpr c3
      by_cases c4:a0=3
      · rw [if_pos c4] at H
        have uo:(a0 == 3)=true:=beq_iff_eq.mpr c4
        have wY:(a0 != 3)=false:=bne_eq_false_iff_eq.mpr c4
        clear c4
        simp only [Option.some.injEq,Prod.mk.injEq] at H
        obtain ⟨rfl,rfl⟩:=H
        go_enter Tryz.func27,Tryz.ntmps27
        go_wp2
        go_ret2
        exact ⟨by first|rfl|(simp;done)|(simp [*];done),by repeat (first|exact bz.refl _|apply bz.step)⟩
      · rw [if_neg c4] at H
        have uo:(a0 == 3)=false:=beq_eq_false_iff_ne.mpr c4
        have wY:(a0 != 3)=true:=bne_iff_ne.mpr c4
        by_cases c5:a0=4
        · rw [if_pos c5] at H
          have wX:(a0 == 4)=true:=beq_iff_eq.mpr c5
          have GR:(a0 != 4)=false:=bne_eq_false_iff_eq.mpr c5
          clear c5
          simp only [Option.some.injEq,Prod.mk.injEq] at H
          obtain ⟨rfl,rfl⟩:=H
          go_enter Tryz.func27,Tryz.ntmps27
          go_wp2
          go_ret2
          exact ⟨by first|rfl|(simp;done)|(simp [*];done),by repeat (first|exact bz.refl _|apply bz.step)⟩
        · rw [if_neg c5] at H
          have wX:(a0 == 4)=false:=beq_eq_false_iff_ne.mpr c5
          have GR:(a0 != 4)=true:=bne_iff_ne.mpr c5
          by_cases c6:a0=5
          · rw [if_pos c6] at H
            have oP:(a0 == 5)=true:=beq_iff_eq.mpr c6
            have zx:(a0 != 5)=false:=bne_eq_false_iff_eq.mpr c6
            clear c6
            simp only [Option.some.injEq,Prod.mk.injEq] at H
            obtain ⟨rfl,rfl⟩:=H
            go_enter Tryz.func27,Tryz.ntmps27
            go_wp2
            go_ret2
            exact ⟨by first|rfl|(simp;done)|(simp [*];done),by repeat (first|exact bz.refl _|apply bz.step)⟩
          · rw [if_neg c6] at H
            have oP:(a0 == 5)=false:=beq_eq_false_iff_ne.mpr c6
            have zx:(a0 != 5)=true:=bne_iff_ne.mpr c6
            by_cases c7:a0=6
            · rw [if_pos c7] at H
              have qR:(a0 == 6)=true:=beq_iff_eq.mpr c7
              have xy:(a0 != 6)=false:=bne_eq_false_iff_eq.mpr c7
              clear c7
              simp only [Option.some.injEq,Prod.mk.injEq] at H
              obtain ⟨rfl,rfl⟩:=H
              go_enter Tryz.func27,Tryz.ntmps27
              go_wp2
              go_ret2
              exact ⟨by first|rfl|(simp;done)|(simp [*];done),by repeat (first|exact bz.refl _|apply bz.step)⟩
            · rw [if_neg c7] at H
              have qR:(a0 == 6)=false:=beq_eq_false_iff_ne.mpr c7
              have xy:(a0 != 6)=true:=bne_iff_ne.mpr c7
              by_cases c8:a0=7
              · rw [if_pos c8] at H
                have ry:(a0 == 7)=true:=beq_iff_eq.mpr c8
                have Be:(a0 != 7)=false:=bne_eq_false_iff_eq.mpr c8
                clear c8
                simp only [Option.some.injEq,Prod.mk.injEq] at H
                obtain ⟨rfl,rfl⟩:=H
                go_enter Tryz.func27,Tryz.ntmps27
                go_wp2
                go_ret2
                exact ⟨by first|rfl|(simp;done)|(simp [*];done),by repeat (first|exact bz.refl _|apply bz.step)⟩
              · rw [if_neg c8] at H
                have ry:(a0 == 7)=false:=beq_eq_false_iff_ne.mpr c8
                have Be:(a0 != 7)=true:=bne_iff_ne.mpr c8
                by_cases c9:a0=8
                · rw [if_pos c9] at H
                  have EF:(a0 == 8)=true:=beq_iff_eq.mpr c9
                  have JV:(a0 != 8)=false:=bne_eq_false_iff_eq.mpr c9
                  clear c9
                  simp only [Option.some.injEq,Prod.mk.injEq] at H
                  obtain ⟨rfl,rfl⟩:=H
                  go_enter Tryz.func27,Tryz.ntmps27
                  go_wp2
                  go_ret2
                  exact ⟨by first|rfl|(simp;done)|(simp [*];done),by repeat (first|exact bz.refl _|apply bz.step)⟩
                · rw [if_neg c9] at H
                  have EF:(a0 == 8)=false:=beq_eq_false_iff_ne.mpr c9
                  have JV:(a0 != 8)=true:=bne_iff_ne.mpr c9
                  by_cases c10:a0=9
                  · rw [if_pos c10] at H
                    have mM:(a0 == 9)=true:=beq_iff_eq.mpr c10
                    have ui:(a0 != 9)=false:=bne_eq_false_iff_eq.mpr c10
                    clear c10
                    simp only [Option.some.injEq,Prod.mk.injEq] at H
                    obtain ⟨rfl,rfl⟩:=H
                    go_enter Tryz.func27,Tryz.ntmps27
                    go_wp2
                    go_ret2
                    exact ⟨by first|rfl|(simp;done)|(simp [*];done),by repeat (first|exact bz.refl _|apply bz.step)⟩
                  · rw [if_neg c10] at H
                    have mM:(a0 == 9)=false:=beq_eq_false_iff_ne.mpr c10
                    have ui:(a0 != 9)=true:=bne_iff_ne.mpr c10
                    by_cases c11:a0=10
                    · rw [if_pos c11] at H
                      have uF:(a0 == 10)=true:=beq_iff_eq.mpr c11
                      have BK:(a0 != 10)=false:=bne_eq_false_iff_eq.mpr c11
                      clear c11
                      simp only [Option.some.injEq,Prod.mk.injEq] at H
                      obtain ⟨rfl,rfl⟩:=H
                      go_enter Tryz.func27,Tryz.ntmps27
                      go_wp2
                      go_ret2
                      exact ⟨by first|rfl|(simp;done)|(simp [*];done),by repeat (first|exact bz.refl _|apply bz.step)⟩
                    · rw [if_neg c11] at H
                      have uF:(a0 == 10)=false:=beq_eq_false_iff_ne.mpr c11
                      have BK:(a0 != 10)=true:=bne_iff_ne.mpr c11
                      replace H:=Option.bind_eq_some_iff.mp H
                      obtain ⟨⟨t198,t199⟩,Td,H⟩:=H
                      replace H:(some (t198,t199))=some (r1,r2):=H
                      have A12:=ae.mk Td
                      clear Td
                      simp only [Option.some.injEq,Prod.mk.injEq] at H
                      obtain ⟨rfl,rfl⟩:=H
                      go_enter Tryz.func27,Tryz.ntmps27
                      go_wp2_with (first|((with_reducible refine bQ (f:=46) rfl ?_);refine fZ (some 26) rfl rfl Tryz.func46 (by kernel_rfl) rfl #[.int .u8 a0] rfl (by (try simp only [List.map_toArray,List.map_cons,List.map_nil]);first|done|rfl|(simp only [List.length_drop,List.length_take];rfl)) ?_;(with_reducible refine (kW.calls a0 t198 t199 _ A12.out).mono ?_);rintro e w' ⟨rfl,⟨nd,rfl⟩⟩;refine ⟨_,rfl,?_⟩))
                      go_ret2
                      exact ⟨by first|rfl|(simp;done)|(simp [*];done),by repeat (first|exact bz.refl _|apply bz.step)⟩
def xK.f (gW:Int) (bU:Int) (bV:Int) (ik:Int) (iI:Int) (a1:Int):Option (Int):=if a1=97 then (some (wrap64 (bU))) else (if a1=98 then (some (wrap64 (bV))) else (if a1=99 then (some (wrap64 (ik))) else (some iI)))
def ed.l0:Nat→ByteArray→List ByteArray→Int→Int→Int→Int→Int→Int→Option (List ByteArray)
  | 0,_,_,_,_,_,_,_,_=>none
  | k+1,x4,x5,x6,KF,KE,KD,KC,KA=>if x6 < (x4.size:Int) then (if 0≤x6 then ((xK.f KF KE KD KC KA (bt x4 x6)).bind fun t207=>((jI.f t207 10).bind fun t208=>(if x5.length < 8796093022208 then (ed.l0 k x4 (x5++[t208]) (wrap64 (x6+1)) KF KE KD KC KA) else (none)))) else (none)) else (some x5)
def ed.f (k:Nat) (gW:Int) (bU:Int) (bV:Int) (ik:Int) (iI:Int):Option (List ByteArray):=(jl.f gW).bind fun YC=>(ed.l0 k YC.2 (([YC.1]:List ByteArray)) 0 gW bU bV ik iI)
theorem ed.iq:∀ k,(∀ y0 y1 y2 y3 y4 y5 y6 y7,dC (ed.l0 k y0 y1 y2 y3 y4 y5 y6 y7) (ed.l0 (k+1) y0 y1 y2 y3 y4 y5 y6 y7))
  | 0=>fun _ _ _ _ _ _ _ _ r h=>by simp [ed.l0] at h
  | k+1=>by
    have jY:=ed.iq k
    · intro y0 y1 y2 y3 y4 y5 y6 y7
      unfold ed.l0
      repeat' first
      | (with_reducible exact jY _ _ _ _ _ _ _ _)
      | (with_reducible exact dC.refl _)
      | (with_reducible exact dC.none _)
      | (with_reducible refine dC.ite ?_ ?_)
      | (with_reducible refine dC.bind ?_ (fun _=>?_))
      | exact jY _ _ _ _ _ _ _ _
      | exact dC.none _
      | refine dC.ite ?_ ?_
      | refine dC.bind ?_ (fun _=>?_)
theorem ed.mono:∀ a0 a1 a2 a3 a4 k,dC (ed.f k a0 a1 a2 a3 a4) (ed.f (k+1) a0 a1 a2 a3 a4):=by
  intro a0 a1 a2 a3 a4 k
  have jY:=ed.iq k
  unfold ed.f
  repeat' first
      | (with_reducible exact jY _ _ _ _ _ _ _ _)
      | (with_reducible exact dC.refl _)
      | (with_reducible exact dC.none _)
      | (with_reducible refine dC.ite ?_ ?_)
      | (with_reducible refine dC.bind ?_ (fun _=>?_))
      | exact jY _ _ _ _ _ _ _ _
      | exact dC.none _
      | refine dC.ite ?_ ?_
      | refine dC.bind ?_ (fun _=>?_)
end Go.Proofs.YtkclndkbccbhaaaGreatDoor.P
end
section
namespace Go.Proofs.YtkclndkbccbhaaaGreatDoor.P
open Go.RowKit Go.Proofs.ag.bK Go.Proofs.ag.dV Go.Proofs.ag.fE
attribute [local go_sem] lI lG ny ni jW jV lH lF
mutual
def aA.j0:Nat→ByteArray→ByteArray→Bool→Option (Bool)
  | 0,_,_,_=>none
  | k+1,x0,x3,x13=>if x13=true then (if 1≤(x0.size:Int) then (aA.j1 k x0 (x0.extract 1 x0.size)) else (none)) else (aA.j1 k x0 x3)
def aA.j1:Nat→ByteArray→ByteArray→Option (Bool)
  | 0,_,_=>none
  | k+1,x0,x3=>if x3.toList=([]:List UInt8) then (aA.j2 k x3 true) else (if 0 < (x3.size:Int) then (if (bt x3 0)=48 then (if (x3.size:Int) > 1 then (aA.j2 k x3 true) else (aA.j2 k x3 (decide ((x0.size:Int) > 1)))) else (aA.j2 k x3 false)) else (none))
def aA.j2:Nat→ByteArray→Bool→Option (Bool)
  | 0,_,_=>none
  | k+1,x3,x32=>if x32=true then (some false) else (aA.l0 k x3 0)
def aA.l0:Nat→ByteArray→Int→Option (Bool)
  | 0,_,_=>none
  | k+1,x3,x4=>if x4 < (x3.size:Int) then (if 0≤x4 then (if (bt x3 x4) < 48 then (some false) else (if (bt x3 x4) > 57 then (some false) else (aA.l0 k x3 (wrap64 (x4+1))))) else (none)) else (some true)
end
def aA.f (k:Nat) (a0:ByteArray):Option (Bool):=if (a0.size:Int) > 0 then (if 0 < (a0.size:Int) then (aA.j0 k a0 a0 ((bt a0 0) == 45)) else (none)) else (aA.j0 k a0 a0 false)
theorem aA.iq:∀ k,(∀ y0 y1 y2,dC (aA.j0 k y0 y1 y2) (aA.j0 (k+1) y0 y1 y2))∧(∀ y0 y1,dC (aA.j1 k y0 y1) (aA.j1 (k+1) y0 y1))∧(∀ y0 y1,dC (aA.j2 k y0 y1) (aA.j2 (k+1) y0 y1))∧(∀ y0 y1,dC (aA.l0 k y0 y1) (aA.l0 (k+1) y0 y1))
  | 0=>⟨fun _ _ _ r h=>by simp [aA.j0] at h,fun _ _ r h=>by simp [aA.j1] at h,fun _ _ r h=>by simp [aA.j2] at h,fun _ _ r h=>by simp [aA.l0] at h⟩
  | k+1=>by
    obtain ⟨jY,ih1,ih2,ih3⟩:=aA.iq k
    refine ⟨?_,?_,?_,?_⟩
    · intro y0 y1 y2
      unfold aA.j0
      repeat' first
      | (with_reducible exact jY _ _ _)
      | (with_reducible exact ih1 _ _)
      | (with_reducible exact ih2 _ _)
      | (with_reducible exact ih3 _ _)
      | (with_reducible exact dC.refl _)
      | (with_reducible exact dC.none _)
      | (with_reducible refine dC.ite ?_ ?_)
      | (with_reducible refine dC.bind ?_ (fun _=>?_))
      | exact jY _ _ _
      | exact ih1 _ _
      | exact ih2 _ _
      | exact ih3 _ _
      | exact dC.none _
      | refine dC.ite ?_ ?_
      | refine dC.bind ?_ (fun _=>?_)
    · intro y0 y1
      unfold aA.j1
      repeat' first
      | (with_reducible exact jY _ _ _)
      | (with_reducible exact ih1 _ _)
      | (with_reducible exact ih2 _ _)
      | (with_reducible exact ih3 _ _)
      | (with_reducible exact dC.refl _)
      | (with_reducible exact dC.none _)
      | (with_reducible refine dC.ite ?_ ?_)
      | (with_reducible refine dC.bind ?_ (fun _=>?_))
      | exact jY _ _ _
      | exact ih1 _ _
      | exact ih2 _ _
      | exact ih3 _ _
      | exact dC.none _
      | refine dC.ite ?_ ?_
      | refine dC.bind ?_ (fun _=>?_)
    · intro y0 y1
      unfold aA.j2
      repeat' first
      | (with_reducible exact jY _ _ _)
      | (with_reducible exact ih1 _ _)
      | (with_reducible exact ih2 _ _)
      | (with_reducible exact ih3 _ _)
      | (with_reducible exact dC.refl _)
      | (with_reducible exact dC.none _)
      | (with_reducible refine dC.ite ?_ ?_)
      | (with_reducible refine dC.bind ?_ (fun _=>?_))
      | exact jY _ _ _
      | exact ih1 _ _
      | exact ih2 _ _
      | exact ih3 _ _
      | exact dC.none _
      | refine dC.ite ?_ ?_
      | refine dC.bind ?_ (fun _=>?_)
    · intro y0 y1
      unfold aA.l0
      repeat' first
      | (with_reducible exact jY _ _ _)
      | (with_reducible exact ih1 _ _)
      | (with_reducible exact ih2 _ _)
      | (with_reducible exact ih3 _ _)
      | (with_reducible exact dC.refl _)
      | (with_reducible exact dC.none _)
      | (with_reducible refine dC.ite ?_ ?_)
      | (with_reducible refine dC.bind ?_ (fun _=>?_))
      | exact jY _ _ _
      | exact ih1 _ _
      | exact ih2 _ _
      | exact ih3 _ _
      | exact dC.none _
      | refine dC.ite ?_ ?_
      | refine dC.bind ?_ (fun _=>?_)
theorem aA.mono:∀ a0 k,dC (aA.f k a0) (aA.f (k+1) a0):=by
  intro a0 k
  obtain ⟨jY,ih1,ih2,ih3⟩:=aA.iq k
  unfold aA.f
  repeat' first
      | (with_reducible exact jY _ _ _)
      | (with_reducible exact ih1 _ _)
      | (with_reducible exact ih2 _ _)
      | (with_reducible exact ih3 _ _)
      | (with_reducible exact dC.refl _)
      | (with_reducible exact dC.none _)
      | (with_reducible refine dC.ite ?_ ?_)
      | (with_reducible refine dC.bind ?_ (fun _=>?_))
      | exact jY _ _ _
      | exact ih1 _ _
      | exact ih2 _ _
      | exact ih3 _ _
      | exact dC.none _
      | refine dC.ite ?_ ?_
      | refine dC.bind ?_ (fun _=>?_)
set_option maxHeartbeats 8000000 in
set_option maxRecDepth 100000 in
theorem aA.calls (k:Nat) (a0:ByteArray) (r:Bool) (w:World) (h:aA.f k a0=some r) :
    Calls Tryz.prog 59 #[.string a0] w fun e w'=>e=.returned (.bool r)∧bz w w':=by
  have H:(if (a0.size:Int) > 0 then (if 0 < (a0.size:Int) then (aA.j0 k a0 a0 ((bt a0 0) == 45)) else (none)) else (aA.j0 k a0 a0 false))=some r:=h
  clear h
  have HC2:=ae.mk H
  clear H
  go_enter Tryz.func59,Tryz.ntmps59
  go_upto_region 2 with (fail)
  go_cut [13] (fun v13 wc=>∃ (kq:Nat) (KI:Bool),v13=.bool KI∧ae (aA.j0 kq a0 a0 KI=some r)∧ae (kq≤k)∧bz w wc)
  case first =>
    have H:=HC2.out
    clear HC2
    by_cases c3:(a0.size:Int) > 0
    · rw [if_pos c3] at H
      have rW:decide (0 < (a0.size:Int))=true:=decide_eq_true c3
      have Bf:decide (0 < a0.size)=true:=decide_eq_true (by omega)
      clear c3
      (first|rw [rW]|(simp only [aN,aQ];rw [rW])|skip)
      by_cases c4:0 < (a0.size:Int)
      · rw [if_pos c4] at H
        have uo:decide (0 < (a0.size:Int))=true:=decide_eq_true c4
        have wY:decide (0 < a0.size)=true:=decide_eq_true (by omega)
        clear c4
        have H':=ae.mk H
        clear H
        have p5:0≤(0:Int):=(by omega)
        have q5:0 < a0.size:=(by have:(0:Int) < (a0.size:Int):=of_decide_eq_true (by first|(with_reducible assumption)|assumption);omega)
        have hx5:∀ h:0 < a0.size,((a0[0]'h).toNat:Int)=bt a0 0:=kS a0 0
        clear p5
        have TU:(0 < (a0.size:Int))=True:=eq_true (of_decide_eq_true (by first|(with_reducible assumption)|assumption))
        replace q5:=eq_true q5
        go_wp2
        go_meet
        case rel=>exact ⟨_,(((bt a0 0) == 45)),(by first|rfl|(simp;done)|(simp [*];done)),H',⟨by first|omega|exact Nat.le_refl _⟩,by repeat (first|exact bz.refl _|apply bz.step)⟩
      · rw [if_neg c4] at H
        exact absurd H (by simp)
    · rw [if_neg c3] at H
      have rW:decide (0 < (a0.size:Int))=false:=decide_eq_false c3
      have Bf:decide (0 < a0.size)=false:=decide_eq_false (by omega)
      clear c3
      (first|rw [rW]|(simp only [aN,aQ];rw [rW])|skip)
      have H':=ae.mk H
      clear H
      go_wp2
      go_meet
      case rel=>exact ⟨_,(false),(by first|rfl|(simp;done)|(simp [*];done)),H',⟨by first|omega|exact Nat.le_refl _⟩,by repeat (first|exact bz.refl _|apply bz.step)⟩
  case rest =>
    clear HC2
    try clear p2
    try clear c3
    try clear rW
    try clear Bf
    try clear c4
    try clear uo
    try clear wY
    try clear c5
    try clear p5
    try clear q5
    try clear hx5
    try clear TU
    try clear p5
    try clear q5
    obtain ⟨kq,KI,rfl,HA,YV,⟨mc1,rfl⟩⟩:=hcut
    cases kq with
    | zero=>exact absurd HA.out (by simp [aA.j0])
    | succ kj1 =>
      have H:=HA.out
      clear HA
      simp only [aA.j0] at H
      have HC6:=ae.mk H
      clear H
      go_upto_if 13 with (fail)
      go_cut [3] (fun v3 wc=>∃ (kq:Nat) (jH:ByteArray),v3=.string jH∧ae (aA.j1 kq a0 jH=some r)∧ae (kq≤kj1)∧bz w wc)
      case first =>
        have H:=HC6.out
        clear HC6
        by_cases c7:KI=true
        · subst c7
          have H1:(if 1≤(a0.size:Int) then (aA.j1 kj1 a0 (a0.extract 1 a0.size)) else (none))=some r:=by rw [if_pos rfl] at H;exact H
          clear H
          have H:=H1
          clear H1
          by_cases c8:1≤(a0.size:Int)
          · rw [if_pos c8] at H
            have ry:=eq_true c8
            have Be:decide (1≤(a0.size:Int))=true:=decide_eq_true c8
            clear c8
            have H':=ae.mk H
            clear H
            go_wp2
            go_meet
            case rel=>exact ⟨_,(a0.extract 1 a0.size),(by first|rfl|(simp;done)|(simp [*];done)),H',⟨by have:=YV.out;first|omega|exact Nat.le_refl _⟩,by repeat (first|exact bz.refl _|apply bz.step)⟩
          · rw [if_neg c8] at H
            exact absurd H (by simp)
        · replace c7:=Bool.eq_false_iff.mpr c7
          subst c7
          have H1:(aA.j1 kj1 a0 a0)=some r:=by rw [if_neg (show ¬ (false=true) by decide)] at H;exact H
          clear H
          have H:=H1
          clear H1
          have H':=ae.mk H
          clear H
          go_wp2
          go_meet
          case rel=>exact ⟨_,(a0),(by first|rfl|(simp;done)|(simp [*];done)),H',⟨by have:=YV.out;first|omega|exact Nat.le_refl _⟩,by repeat (first|exact bz.refl _|apply bz.step)⟩
      case rest =>
        clear HC6
        try clear c1
        try clear p2
        try clear c3
        try clear rW
        try clear Bf
        try clear c4
        try clear uo
        try clear wY
        try clear c5
        try clear p5
        try clear q5
        try clear hx5
        try clear TU
        try clear c7
        try clear c8
        try clear ry
        try clear Be
        try clear p2
        try clear p5
        try clear q5
        obtain ⟨kq,jH,rfl,HA,J4,⟨mc5,rfl⟩⟩:=hcut
        cases kq with
        | zero=>exact absurd HA.out (by simp [aA.j1])
        | succ kj5 =>
          have H:=HA.out
          clear HA
          simp only [aA.j1] at H
          have HC9:=ae.mk H
          clear H
          go_upto_region 4 with (fail)
          go_cut [32] (fun v32 wc=>∃ (kq:Nat) (Kq:Bool),v32=.bool Kq∧ae (aA.j2 kq jH Kq=some r)∧ae (kq≤kj5)∧bz w wc)
          case first =>
            have H:=HC9.out
            clear HC9
            by_cases c10:jH.toList=([]:List UInt8)
            · rw [if_pos c10] at H
              have mM:(jH.toList == ([]:List UInt8))=true:=beq_iff_eq.mpr c10
              have ui:(jH.toList != ([]:List UInt8))=false:=bne_eq_false_iff_eq.mpr c10
              clear c10
              (first|rw [mM]|(simp only [aN,aQ];rw [mM])|skip)
              have H':=ae.mk H
              clear H
              go_wp2
              go_meet
              case rel=>exact ⟨_,(true),(by first|rfl|(simp;done)|(simp [*];done)),H',⟨by have:=YV.out;have:=J4.out;first|omega|exact Nat.le_refl _⟩,by repeat (first|exact bz.refl _|apply bz.step)⟩
            · rw [if_neg c10] at H
              have mM:(jH.toList == ([]:List UInt8))=false:=beq_eq_false_iff_ne.mpr c10
              have ui:(jH.toList != ([]:List UInt8))=true:=bne_iff_ne.mpr c10
              (first|rw [mM]|(simp only [aN,aQ];rw [mM])|skip)
              by_cases c11:0 < (jH.size:Int)
              · rw [if_pos c11] at H
                have uF:decide (0 < (jH.size:Int))=true:=decide_eq_true c11
                have BK:decide (0 < jH.size)=true:=decide_eq_true (by omega)
                clear c11
                by_cases c13:(bt jH 0)=48
                · rw [if_pos c13] at H
                  have uh:((bt jH 0) == 48)=true:=beq_iff_eq.mpr c13
                  have IW:((bt jH 0) != 48)=false:=bne_eq_false_iff_eq.mpr c13
                  clear c13
                  by_cases c14:(jH.size:Int) > 1
                  · rw [if_pos c14] at H
                    have vH:decide (1 < (jH.size:Int))=true:=decide_eq_true c14
                    have Fq:decide (1 < jH.size)=true:=decide_eq_true (by omega)
                    clear c14
                    have H':=ae.mk H
                    clear H
                    have p12:0≤(0:Int):=(by omega)
                    have q12:0 < jH.size:=(by have:(0:Int) < (jH.size:Int):=of_decide_eq_true (by first|(with_reducible assumption)|assumption);omega)
                    have Ux:∀ h:0 < jH.size,((jH[0]'h).toNat:Int)=bt jH 0:=kS jH 0
                    clear p12
                    have TV:(0 < (jH.size:Int))=True:=eq_true (of_decide_eq_true (by first|(with_reducible assumption)|assumption))
                    replace q12:=eq_true q12
                    go_wp2
                    go_meet
                    case rel=>exact ⟨_,(true),(by first|rfl|(simp;done)|(simp [*];done)),H',⟨by have:=YV.out;have:=J4.out;first|omega|exact Nat.le_refl _⟩,by repeat (first|exact bz.refl _|apply bz.step)⟩
                  · rw [if_neg c14] at H
                    have vH:decide (1 < (jH.size:Int))=false:=decide_eq_false c14
                    have Fq:decide (1 < jH.size)=false:=decide_eq_false (by omega)
                    clear c14
                    have H':=ae.mk H
                    clear H
                    have p12:0≤(0:Int):=(by omega)
                    have q12:0 < jH.size:=(by have:(0:Int) < (jH.size:Int):=of_decide_eq_true (by first|(with_reducible assumption)|assumption);omega)
                    have Ux:∀ h:0 < jH.size,((jH[0]'h).toNat:Int)=bt jH 0:=kS jH 0
                    clear p12
                    have TV:(0 < (jH.size:Int))=True:=eq_true (of_decide_eq_true (by first|(with_reducible assumption)|assumption))
                    replace q12:=eq_true q12
                    go_wp2
                    go_meet
                    case rel=>exact ⟨_,(decide ((a0.size:Int) > 1)),(by first|rfl|(simp;done)|(simp [*];done)),H',⟨by have:=YV.out;have:=J4.out;first|omega|exact Nat.le_refl _⟩,by repeat (first|exact bz.refl _|apply bz.step)⟩
                · rw [if_neg c13] at H
                  have uh:((bt jH 0) == 48)=false:=beq_eq_false_iff_ne.mpr c13
                  have IW:((bt jH 0) != 48)=true:=bne_iff_ne.mpr c13
                  have H':=ae.mk H
                  clear H
                  have p12:0≤(0:Int):=(by omega)
                  have q12:0 < jH.size:=(by have:(0:Int) < (jH.size:Int):=of_decide_eq_true (by first|(with_reducible assumption)|assumption);omega)
                  have Ux:∀ h:0 < jH.size,((jH[0]'h).toNat:Int)=bt jH 0:=kS jH 0
                  clear p12
                  have TV:(0 < (jH.size:Int))=True:=eq_true (of_decide_eq_true (by first|(with_reducible assumption)|assumption))
                  replace q12:=eq_true q12
                  go_wp2
                  go_meet
                  case rel=>exact ⟨_,(false),(by first|rfl|(simp;done)|(simp [*];done)),H',⟨by have:=YV.out;have:=J4.out;first|omega|exact Nat.le_refl _⟩,by repeat (first|exact bz.refl _|apply bz.step)⟩
              · rw [if_neg c11] at H
                exact absurd H (by simp)
          case rest =>
            clear HC9
            try clear c1
            try clear p1
            try clear q1
            try clear hx1
            try clear qi1
            try clear p2
            try clear c3
            try clear rW
            try clear Bf
            try clear c4
            try clear uo
            try clear wY
            try clear c5
            try clear p5
            try clear q5
            try clear hx5
            try clear TU
            try clear c7
            try clear c8
            try clear ry
            try clear Be
            try clear c10
            try clear mM
            try clear ui
            try clear c11
            try clear uF
            try clear BK
            try clear p12
            try clear q12
            try clear Ux
            try clear TV
            try clear c13
            try clear uh
            try clear IW
            try clear c14
            try clear vH
            try clear Fq
            try clear p12
            try clear p2
            try clear p5
            try clear q12
            try clear q5
            obtain ⟨kq,Kq,rfl,HA,HJ8,⟨mc8,rfl⟩⟩:=hcut
            cases kq with
            | zero=>exact absurd HA.out (by simp [aA.j2])
            | succ kj8 =>
              have H:=HA.out
              clear HA
              simp only [aA.j2] at H
              by_cases c15:Kq=true
              · subst c15
                have H1:(some false)=some r:=by rw [if_pos rfl] at H;exact H
                clear H
                have H:=H1
                clear H1
                obtain rfl:=Option.some.inj H
                go_wp2
                go_ret
                exact ⟨by first|rfl|(simp;done)|(simp [*];done),by repeat (first|exact bz.refl _|apply bz.step)⟩
              · replace c15:=Bool.eq_false_iff.mpr c15
                subst c15
                have H1:(aA.l0 kj8 jH 0)=some r:=by rw [if_neg (show ¬ (false=true) by decide)] at H;exact H
                clear H
                have H:=H1
                clear H1
                have H':=ae.mk H
                clear H
                go_wp2
                go_loopg [4] kj8 (fun kq v4 w'=>∃ (qw:Int),v4=.int .i64 qw∧ae (aA.l0 kq jH qw=some r)∧ae (kq≤kj8)∧bz w w')
                case atStart=>exact ⟨(0),(by first|rfl|(simp;done)|(simp [*];done)),H',⟨Nat.le_refl _⟩,by repeat (first|exact bz.refl _|apply bz.step)⟩
                case round =>
                  clear H'
                  try clear c1
                  try clear p1
                  try clear q1
                  try clear hx1
                  try clear qi1
                  try clear p2
                  try clear c3
                  try clear rW
                  try clear Bf
                  try clear c4
                  try clear uo
                  try clear wY
                  try clear c5
                  try clear p5
                  try clear q5
                  try clear hx5
                  try clear TU
                  try clear c7
                  try clear c8
                  try clear ry
                  try clear Be
                  try clear c10
                  try clear mM
                  try clear ui
                  try clear c11
                  try clear uF
                  try clear BK
                  try clear p12
                  try clear q12
                  try clear Ux
                  try clear TV
                  try clear c13
                  try clear uh
                  try clear IW
                  try clear c14
                  try clear vH
                  try clear Fq
                  try clear c15
                  try clear p1
                  try clear p12
                  try clear p2
                  try clear p5
                  try clear q1
                  try clear q12
                  try clear q5
                  obtain ⟨qw,rfl,HA,HK4,⟨m4,rfl⟩⟩:=hrel
                  cases gk with
                  | zero=>exact absurd HA.out (by simp [aA.l0])
                  | succ k4 =>
                    have H:=HA.out
                    clear HA
                    simp only [aA.l0] at H
                    by_cases c16:qw < (jH.size:Int)
                    · rw [if_pos c16] at H
                      have BI:decide (qw < (jH.size:Int))=true:=decide_eq_true c16
                      clear c16
                      by_cases c17:0≤qw
                      · rw [if_pos c17] at H
                        have D7:decide (0≤qw)=true:=decide_eq_true c17
                        clear c17
                        by_cases c19:(bt jH qw) < 48
                        · rw [if_pos c19] at H
                          have Si:decide ((bt jH qw) < 48)=true:=decide_eq_true c19
                          clear c19
                          obtain rfl:=Option.some.inj H
                          have Ia:0≤(qw:Int):=of_decide_eq_true (by first|(with_reducible assumption)|assumption)
                          have H7:qw < (jH.size:Int):=of_decide_eq_true (by first|(with_reducible assumption)|assumption)
                          have Qp:=kS jH qw
                          replace Ia:=eq_true Ia
                          replace H7:=eq_true H7
                          go_wp2
                          go_ret
                          exact ⟨by first|rfl|(simp;done)|(simp [*];done),by repeat (first|exact bz.refl _|apply bz.step)⟩
                        · rw [if_neg c19] at H
                          have Si:decide ((bt jH qw) < 48)=false:=decide_eq_false c19
                          clear c19
                          by_cases c21:(bt jH qw) > 57
                          · rw [if_pos c21] at H
                            have aci:decide (57 < (bt jH qw))=true:=decide_eq_true c21
                            clear c21
                            obtain rfl:=Option.some.inj H
                            have Ia:0≤(qw:Int):=of_decide_eq_true (by first|(with_reducible assumption)|assumption)
                            have H7:qw < (jH.size:Int):=of_decide_eq_true (by first|(with_reducible assumption)|assumption)
                            have Qp:=kS jH qw
                            replace Ia:=eq_true Ia
                            replace H7:=eq_true H7
                            have p20:0≤(qw:Int):=of_decide_eq_true (by first|(with_reducible assumption)|assumption)
                            have q20:qw < (jH.size:Int):=of_decide_eq_true (by first|(with_reducible assumption)|assumption)
                            have ajC:=kS jH qw
                            replace p20:=eq_true p20
                            replace q20:=eq_true q20
                            go_wp2
                            go_ret
                            exact ⟨by first|rfl|(simp;done)|(simp [*];done),by repeat (first|exact bz.refl _|apply bz.step)⟩
                          · rw [if_neg c21] at H
                            have aci:decide (57 < (bt jH qw))=false:=decide_eq_false c21
                            clear c21
                            have H':=ae.mk H
                            clear H
                            have Ia:0≤(qw:Int):=of_decide_eq_true (by first|(with_reducible assumption)|assumption)
                            have H7:qw < (jH.size:Int):=of_decide_eq_true (by first|(with_reducible assumption)|assumption)
                            have Qp:=kS jH qw
                            replace Ia:=eq_true Ia
                            replace H7:=eq_true H7
                            have p20:0≤(qw:Int):=of_decide_eq_true (by first|(with_reducible assumption)|assumption)
                            have q20:qw < (jH.size:Int):=of_decide_eq_true (by first|(with_reducible assumption)|assumption)
                            have ajC:=kS jH qw
                            replace p20:=eq_true p20
                            replace q20:=eq_true q20
                            go_wp2
                            go_roundg k4
                            case measure=>have:=YV.out;have:=J4.out;have:=HJ8.out;have:=HK4.out;omega
                            case rel=>exact ⟨(wrap64 (qw+1)),(by first|rfl|(simp;done)|(simp [*];done)),H',⟨by have:=YV.out;have:=J4.out;have:=HJ8.out;have:=HK4.out;omega⟩,by repeat (first|exact bz.refl _|apply bz.step)⟩
                      · rw [if_neg c17] at H
                        exact absurd H (by simp)
                    · rw [if_neg c16] at H
                      have BI:decide (qw < (jH.size:Int))=false:=decide_eq_false c16
                      clear c16
                      obtain rfl:=Option.some.inj H
                      go_wp2
                      go_ret
                      exact ⟨by first|rfl|(simp;done)|(simp [*];done),by repeat (first|exact bz.refl _|apply bz.step)⟩
end Go.Proofs.YtkclndkbccbhaaaGreatDoor.P
end
