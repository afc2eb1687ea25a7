/- Parts of the proof of Both: what the functions that it reaches compute, and plain facts about that. -/
import Derived.Test.YtkclndkbccbhaaaDoorQac
import Derived.Lib.OthersKept
set_option linter.unusedVariables false
set_option linter.unusedSimpArgs false
section
namespace Go.Proofs.YtkclndkbccbhaaaDoor.P
open Go.RowKit Go.Proofs.az.dw Go.Proofs.az.gB Go.Proofs.az.gX
set_option maxRecDepth 100000 in
set_option maxHeartbeats 1600000 in
theorem Xz (a1 a2 a3 a4:Int) (w:World) (kP:Kd.C Kd.string w uZ opsL.length opsL) :
    Calls Tryd.prog 11 #[.agg #[.int .u8 1,.int .u8 a1,.int .u8 a2,.int .u8 a3,.int .i64 a4]] w fun e w'=>e=.returned (.bool (a2 == 0 && a3 == 0))∧Below w.heap.size w w':=by
  have hmf:∀ (fn:Fn) (first cap:Array Value) (w:World),(Instr.makeFunc fn first cap).run Tryd.prog w=.ok (.func fn first cap) w:=fun _ _ _ _=>rfl
  have ht:=kF kP (.cells #[.int .u8 1,.int .u8 a1,.int .u8 a2,.int .u8 a3,.int .i64 a4] 35) 3 (by decide) ⟨#[97,110]⟩ rfl
  have hp:(w.alloc (.cells #[.int .u8 1,.int .u8 a1,.int .u8 a2,.int .u8 a3,.int .i64 a4] 35)).cell? ⟨w.heap.size,0,none⟩=some (.int .u8 (1:Nat)):=by simp
  have hb:Below w.heap.size w (w.alloc (.cells #[.int .u8 1,.int .u8 a1,.int .u8 a2,.int .u8 a3,.int .i64 a4] 35)):=(Below.refl _ w).alloc (Nat.le_refl _) _
  clear kP
  by_cases eb:a2=0
  · have gb:(a2 == 0)=true:=beq_iff_eq.2 eb
    clear eb
    by_cases ec:a3=0
    · have gc:(a3 == 0)=true:=beq_iff_eq.2 ec
      clear ec
      rw [show (a2 == 0 && a3 == 0)=true from by simp [gb,gc]]
      go_enter Tryd.func11,Tryd.ntmps11
      go_wp2_with fail
      refine (vI w.heap.size 1 3 rfl (by decide) _ hp ht).mono ?_
      rintro e w' ⟨rfl,rfl⟩
      go_wp2_with fail
      refine (AV w.heap.size 1 3 rfl (by decide) _ hp ht).mono ?_
      rintro e w' ⟨rfl,rfl⟩
      go_wp2_with fail
      refine (LD w.heap.size 1 3 rfl (by decide) _ hp ht).mono ?_
      rintro e w' ⟨rfl,rfl⟩
      go_wp2_with fail
      refine (LG w.heap.size 1 3 rfl (by decide) _ hp ht).mono ?_
      rintro e w' ⟨rfl,rfl⟩
      go_wp2
      go_ret
      exact ⟨rfl,hb⟩
    · have gc:(a3 == 0)=false:=beq_eq_false_iff_ne.2 ec
      clear ec
      rw [show (a2 == 0 && a3 == 0)=false from by simp [gc]]
      go_enter Tryd.func11,Tryd.ntmps11
      go_wp2_with fail
      refine (vI w.heap.size 1 3 rfl (by decide) _ hp ht).mono ?_
      rintro e w' ⟨rfl,rfl⟩
      go_wp2_with fail
      refine (AV w.heap.size 1 3 rfl (by decide) _ hp ht).mono ?_
      rintro e w' ⟨rfl,rfl⟩
      go_wp2
      go_ret
      exact ⟨rfl,hb⟩
  · have gb:(a2 == 0)=false:=beq_eq_false_iff_ne.2 eb
    clear eb
    rw [show (a2 == 0 && a3 == 0)=false from by simp [gb]]
    go_enter Tryd.func11,Tryd.ntmps11
    go_wp2_with fail
    refine (vI w.heap.size 1 3 rfl (by decide) _ hp ht).mono ?_
    rintro e w' ⟨rfl,rfl⟩
    go_wp2
    go_ret
    exact ⟨rfl,hb⟩
set_option maxRecDepth 100000 in
set_option maxHeartbeats 1600000 in
theorem Xy (a1 a2 a3 a4:Int) (w:World) (kP:Kd.C Kd.string w uZ opsL.length opsL) :
    Calls Tryd.prog 11 #[.agg #[.int .u8 2,.int .u8 a1,.int .u8 a2,.int .u8 a3,.int .i64 a4]] w fun e w'=>e=.returned (.bool (a4 == 0))∧Below w.heap.size w w':=by
  have hmf:∀ (fn:Fn) (first cap:Array Value) (w:World),(Instr.makeFunc fn first cap).run Tryd.prog w=.ok (.func fn first cap) w:=fun _ _ _ _=>rfl
  have ht:=kF kP (.cells #[.int .u8 2,.int .u8 a1,.int .u8 a2,.int .u8 a3,.int .i64 a4] 35) 5 (by decide) ⟨#[97,98,99]⟩ rfl
  have hp:(w.alloc (.cells #[.int .u8 2,.int .u8 a1,.int .u8 a2,.int .u8 a3,.int .i64 a4] 35)).cell? ⟨w.heap.size,0,none⟩=some (.int .u8 (2:Nat)):=by simp
  have hb:Below w.heap.size w (w.alloc (.cells #[.int .u8 2,.int .u8 a1,.int .u8 a2,.int .u8 a3,.int .i64 a4] 35)):=(Below.refl _ w).alloc (Nat.le_refl _) _
  clear kP
  by_cases en:a4=0
  · have gn:(a4 == 0)=true:=beq_iff_eq.2 en
    clear en
    rw [show (a4 == 0)=true from by simp [gn]]
    go_enter Tryd.func11,Tryd.ntmps11
    go_wp2_with fail
    refine (yY w.heap.size 2 5 rfl (by decide) _ hp ht).mono ?_
    rintro e w' ⟨rfl,rfl⟩
    go_wp2_with fail
    refine (yX w.heap.size 2 5 rfl (by decide) _ hp ht).mono ?_
    rintro e w' ⟨rfl,rfl⟩
    go_wp2_with fail
    refine (yV w.heap.size 2 5 rfl (by decide) _ hp ht).mono ?_
    rintro e w' ⟨rfl,rfl⟩
    go_wp2_with fail
    refine (G6 w.heap.size 2 5 rfl (by decide) _ hp ht).mono ?_
    rintro e w' ⟨rfl,rfl⟩
    go_wp2
    go_ret
    exact ⟨rfl,hb⟩
  · have gn:(a4 == 0)=false:=beq_eq_false_iff_ne.2 en
    clear en
    rw [show (a4 == 0)=false from by simp [gn]]
    go_enter Tryd.func11,Tryd.ntmps11
    go_wp2_with fail
    refine (yY w.heap.size 2 5 rfl (by decide) _ hp ht).mono ?_
    rintro e w' ⟨rfl,rfl⟩
    go_wp2_with fail
    refine (yX w.heap.size 2 5 rfl (by decide) _ hp ht).mono ?_
    rintro e w' ⟨rfl,rfl⟩
    go_wp2_with fail
    refine (yV w.heap.size 2 5 rfl (by decide) _ hp ht).mono ?_
    rintro e w' ⟨rfl,rfl⟩
    go_wp2
    go_ret
    exact ⟨rfl,hb⟩
set_option maxRecDepth 100000 in
set_option maxHeartbeats 1600000 in
theorem Xx (a1 a2 a3 a4:Int) (w:World) (kP:Kd.C Kd.string w uZ opsL.length opsL) :
    Calls Tryd.prog 11 #[.agg #[.int .u8 3,.int .u8 a1,.int .u8 a2,.int .u8 a3,.int .i64 a4]] w fun e w'=>e=.returned (.bool (a2 == 0 && a3 == 0 && a1 == 0))∧Below w.heap.size w w':=by
  have hmf:∀ (fn:Fn) (first cap:Array Value) (w:World),(Instr.makeFunc fn first cap).run Tryd.prog w=.ok (.func fn first cap) w:=fun _ _ _ _=>rfl
  have ht:=kF kP (.cells #[.int .u8 3,.int .u8 a1,.int .u8 a2,.int .u8 a3,.int .i64 a4] 35) 7 (by decide) ⟨#[110]⟩ rfl
  have hp:(w.alloc (.cells #[.int .u8 3,.int .u8 a1,.int .u8 a2,.int .u8 a3,.int .i64 a4] 35)).cell? ⟨w.heap.size,0,none⟩=some (.int .u8 (3:Nat)):=by simp
  have hb:Below w.heap.size w (w.alloc (.cells #[.int .u8 3,.int .u8 a1,.int .u8 a2,.int .u8 a3,.int .i64 a4] 35)):=(Below.refl _ w).alloc (Nat.le_refl _) _
  clear kP
  by_cases eb:a2=0
  · have gb:(a2 == 0)=true:=beq_iff_eq.2 eb
    clear eb
    by_cases ec:a3=0
    · have gc:(a3 == 0)=true:=beq_iff_eq.2 ec
      clear ec
      by_cases ea:a1=0
      · have ga:(a1 == 0)=true:=beq_iff_eq.2 ea
        clear ea
        rw [show (a2 == 0 && a3 == 0 && a1 == 0)=true from by simp [gb,gc,ga]]
        go_enter Tryd.func11,Tryd.ntmps11
        go_wp2_with fail
        refine (EC w.heap.size 3 7 rfl (by decide) _ hp ht).mono ?_
        rintro e w' ⟨rfl,rfl⟩
        go_wp2_with fail
        refine (JI w.heap.size 3 7 rfl (by decide) _ hp ht).mono ?_
        rintro e w' ⟨rfl,rfl⟩
        go_wp2_with fail
        refine (P8 w.heap.size 3 7 rfl (by decide) _ hp ht).mono ?_
        rintro e w' ⟨rfl,rfl⟩
        go_wp2_with fail
        refine (P9 w.heap.size 3 7 rfl (by decide) _ hp ht).mono ?_
        rintro e w' ⟨rfl,rfl⟩
        go_wp2
        go_ret
        exact ⟨rfl,hb⟩
      · have ga:(a1 == 0)=false:=beq_eq_false_iff_ne.2 ea
        clear ea
        rw [show (a2 == 0 && a3 == 0 && a1 == 0)=false from by simp [ga]]
        go_enter Tryd.func11,Tryd.ntmps11
        go_wp2_with fail
        refine (EC w.heap.size 3 7 rfl (by decide) _ hp ht).mono ?_
        rintro e w' ⟨rfl,rfl⟩
        go_wp2_with fail
        refine (JI w.heap.size 3 7 rfl (by decide) _ hp ht).mono ?_
        rintro e w' ⟨rfl,rfl⟩
        go_wp2_with fail
        refine (P8 w.heap.size 3 7 rfl (by decide) _ hp ht).mono ?_
        rintro e w' ⟨rfl,rfl⟩
        go_wp2_with fail
        refine (P9 w.heap.size 3 7 rfl (by decide) _ hp ht).mono ?_
        rintro e w' ⟨rfl,rfl⟩
        go_wp2
        go_ret
        exact ⟨rfl,hb⟩
    · have gc:(a3 == 0)=false:=beq_eq_false_iff_ne.2 ec
      clear ec
      rw [show (a2 == 0 && a3 == 0 && a1 == 0)=false from by simp [gc]]
      go_enter Tryd.func11,Tryd.ntmps11
      go_wp2_with fail
      refine (EC w.heap.size 3 7 rfl (by decide) _ hp ht).mono ?_
      rintro e w' ⟨rfl,rfl⟩
      go_wp2_with fail
      refine (JI w.heap.size 3 7 rfl (by decide) _ hp ht).mono ?_
      rintro e w' ⟨rfl,rfl⟩
      go_wp2
      go_ret
      exact ⟨rfl,hb⟩
  · have gb:(a2 == 0)=false:=beq_eq_false_iff_ne.2 eb
    clear eb
    rw [show (a2 == 0 && a3 == 0 && a1 == 0)=false from by simp [gb]]
    go_enter Tryd.func11,Tryd.ntmps11
    go_wp2_with fail
    refine (EC w.heap.size 3 7 rfl (by decide) _ hp ht).mono ?_
    rintro e w' ⟨rfl,rfl⟩
    go_wp2
    go_ret
    exact ⟨rfl,hb⟩
set_option maxRecDepth 100000 in
set_option maxHeartbeats 1600000 in
theorem Xw (a1 a2 a3 a4:Int) (w:World) (kP:Kd.C Kd.string w uZ opsL.length opsL) :
    Calls Tryd.prog 11 #[.agg #[.int .u8 4,.int .u8 a1,.int .u8 a2,.int .u8 a3,.int .i64 a4]] w fun e w'=>e=.returned (.bool (a2 == 0 && a3 == 0))∧Below w.heap.size w w':=by
  have hmf:∀ (fn:Fn) (first cap:Array Value) (w:World),(Instr.makeFunc fn first cap).run Tryd.prog w=.ok (.func fn first cap) w:=fun _ _ _ _=>rfl
  have ht:=kF kP (.cells #[.int .u8 4,.int .u8 a1,.int .u8 a2,.int .u8 a3,.int .i64 a4] 35) 9 (by decide) ⟨#[97,110]⟩ rfl
  have hp:(w.alloc (.cells #[.int .u8 4,.int .u8 a1,.int .u8 a2,.int .u8 a3,.int .i64 a4] 35)).cell? ⟨w.heap.size,0,none⟩=some (.int .u8 (4:Nat)):=by simp
  have hb:Below w.heap.size w (w.alloc (.cells #[.int .u8 4,.int .u8 a1,.int .u8 a2,.int .u8 a3,.int .i64 a4] 35)):=(Below.refl _ w).alloc (Nat.le_refl _) _
  clear kP
  by_cases eb:a2=0
  · have gb:(a2 == 0)=true:=beq_iff_eq.2 eb
    clear eb
    by_cases ec:a3=0
    · have gc:(a3 == 0)=true:=beq_iff_eq.2 ec
      clear ec
      rw [show (a2 == 0 && a3 == 0)=true from by simp [gb,gc]]
      go_enter Tryd.func11,Tryd.ntmps11
      go_wp2_with fail
      refine (vI w.heap.size 4 9 rfl (by decide) _ hp ht).mono ?_
      rintro e w' ⟨rfl,rfl⟩
      go_wp2_with fail
      refine (AV w.heap.size 4 9 rfl (by decide) _ hp ht).mono ?_
      rintro e w' ⟨rfl,rfl⟩
      go_wp2_with fail
      refine (LD w.heap.size 4 9 rfl (by decide) _ hp ht).mono ?_
      rintro e w' ⟨rfl,rfl⟩
      go_wp2_with fail
      refine (LG w.heap.size 4 9 rfl (by decide) _ hp ht).mono ?_
      rintro e w' ⟨rfl,rfl⟩
      go_wp2
      go_ret
      exact ⟨rfl,hb⟩
    · have gc:(a3 == 0)=false:=beq_eq_false_iff_ne.2 ec
      clear ec
      rw [show (a2 == 0 && a3 == 0)=false from by simp [gc]]
      go_enter Tryd.func11,Tryd.ntmps11
      go_wp2_with fail
      refine (vI w.heap.size 4 9 rfl (by decide) _ hp ht).mono ?_
      rintro e w' ⟨rfl,rfl⟩
      go_wp2_with fail
      refine (AV w.heap.size 4 9 rfl (by decide) _ hp ht).mono ?_
      rintro e w' ⟨rfl,rfl⟩
      go_wp2
      go_ret
      exact ⟨rfl,hb⟩
  · have gb:(a2 == 0)=false:=beq_eq_false_iff_ne.2 eb
    clear eb
    rw [show (a2 == 0 && a3 == 0)=false from by simp [gb]]
    go_enter Tryd.func11,Tryd.ntmps11
    go_wp2_with fail
    refine (vI w.heap.size 4 9 rfl (by decide) _ hp ht).mono ?_
    rintro e w' ⟨rfl,rfl⟩
    go_wp2
    go_ret
    exact ⟨rfl,hb⟩
set_option maxRecDepth 100000 in
set_option maxHeartbeats 1600000 in
theorem Xv (a1 a2 a3 a4:Int) (w:World) (kP:Kd.C Kd.string w uZ opsL.length opsL) :
    Calls Tryd.prog 11 #[.agg #[.int .u8 5,.int .u8 a1,.int .u8 a2,.int .u8 a3,.int .i64 a4]] w fun e w'=>e=.returned (.bool (a2 == 0 && a3 == 0 && a4 == 0))∧Below w.heap.size w w':=by
  have hmf:∀ (fn:Fn) (first cap:Array Value) (w:World),(Instr.makeFunc fn first cap).run Tryd.prog w=.ok (.func fn first cap) w:=fun _ _ _ _=>rfl
  have ht:=kF kP (.cells #[.int .u8 5,.int .u8 a1,.int .u8 a2,.int .u8 a3,.int .i64 a4] 35) 11 (by decide) ⟨#[97]⟩ rfl
  have hp:(w.alloc (.cells #[.int .u8 5,.int .u8 a1,.int .u8 a2,.int .u8 a3,.int .i64 a4] 35)).cell? ⟨w.heap.size,0,none⟩=some (.int .u8 (5:Nat)):=by simp
  have hb:Below w.heap.size w (w.alloc (.cells #[.int .u8 5,.int .u8 a1,.int .u8 a2,.int .u8 a3,.int .i64 a4] 35)):=(Below.refl _ w).alloc (Nat.le_refl _) _
  clear kP
  by_cases eb:a2=0
  · have gb:(a2 == 0)=true:=beq_iff_eq.2 eb
    clear eb
    by_cases ec:a3=0
    · have gc:(a3 == 0)=true:=beq_iff_eq.2 ec
      clear ec
      by_cases en:a4=0
      · have gn:(a4 == 0)=true:=beq_iff_eq.2 en
        clear en
        rw [show (a2 == 0 && a3 == 0 && a4 == 0)=true from by simp [gb,gc,gn]]
        go_enter Tryd.func11,Tryd.ntmps11
        go_wp2_with fail
        refine (oQ w.heap.size 5 11 rfl (by decide) _ hp ht).mono ?_
        rintro e w' ⟨rfl,rfl⟩
        go_wp2_with fail
        refine (sD w.heap.size 5 11 rfl (by decide) _ hp ht).mono ?_
        rintro e w' ⟨rfl,rfl⟩
        go_wp2_with fail
        refine (yZ w.heap.size 5 11 rfl (by decide) _ hp ht).mono ?_
        rintro e w' ⟨rfl,rfl⟩
        go_wp2_with fail
        refine (JJ w.heap.size 5 11 rfl (by decide) _ hp ht).mono ?_
        rintro e w' ⟨rfl,rfl⟩
        go_wp2
        go_ret
        exact ⟨rfl,hb⟩
      · have gn:(a4 == 0)=false:=beq_eq_false_iff_ne.2 en
        clear en
        rw [show (a2 == 0 && a3 == 0 && a4 == 0)=false from by simp [gn]]
        go_enter Tryd.func11,Tryd.ntmps11
        go_wp2_with fail
        refine (oQ w.heap.size 5 11 rfl (by decide) _ hp ht).mono ?_
        rintro e w' ⟨rfl,rfl⟩
        go_wp2_with fail
        refine (sD w.heap.size 5 11 rfl (by decide) _ hp ht).mono ?_
        rintro e w' ⟨rfl,rfl⟩
        go_wp2_with fail
        refine (yZ w.heap.size 5 11 rfl (by decide) _ hp ht).mono ?_
        rintro e w' ⟨rfl,rfl⟩
        go_wp2
        go_ret
        exact ⟨rfl,hb⟩
    · have gc:(a3 == 0)=false:=beq_eq_false_iff_ne.2 ec
      clear ec
      rw [show (a2 == 0 && a3 == 0 && a4 == 0)=false from by simp [gc]]
      go_enter Tryd.func11,Tryd.ntmps11
      go_wp2_with fail
      refine (oQ w.heap.size 5 11 rfl (by decide) _ hp ht).mono ?_
      rintro e w' ⟨rfl,rfl⟩
      go_wp2_with fail
      refine (sD w.heap.size 5 11 rfl (by decide) _ hp ht).mono ?_
      rintro e w' ⟨rfl,rfl⟩
      go_wp2
      go_ret
      exact ⟨rfl,hb⟩
  · have gb:(a2 == 0)=false:=beq_eq_false_iff_ne.2 eb
    clear eb
    rw [show (a2 == 0 && a3 == 0 && a4 == 0)=false from by simp [gb]]
    go_enter Tryd.func11,Tryd.ntmps11
    go_wp2_with fail
    refine (oQ w.heap.size 5 11 rfl (by decide) _ hp ht).mono ?_
    rintro e w' ⟨rfl,rfl⟩
    go_wp2
    go_ret
    exact ⟨rfl,hb⟩
set_option maxRecDepth 100000 in
set_option maxHeartbeats 1600000 in
theorem Xu (a1 a2 a3 a4:Int) (w:World) (kP:Kd.C Kd.string w uZ opsL.length opsL) :
    Calls Tryd.prog 11 #[.agg #[.int .u8 6,.int .u8 a1,.int .u8 a2,.int .u8 a3,.int .i64 a4]] w fun e w'=>e=.returned (.bool (a2 == 0 && a3 == 0 && a4 == 0))∧Below w.heap.size w w':=by
  have hmf:∀ (fn:Fn) (first cap:Array Value) (w:World),(Instr.makeFunc fn first cap).run Tryd.prog w=.ok (.func fn first cap) w:=fun _ _ _ _=>rfl
  have ht:=kF kP (.cells #[.int .u8 6,.int .u8 a1,.int .u8 a2,.int .u8 a3,.int .i64 a4] 35) 13 (by decide) ⟨#[97]⟩ rfl
  have hp:(w.alloc (.cells #[.int .u8 6,.int .u8 a1,.int .u8 a2,.int .u8 a3,.int .i64 a4] 35)).cell? ⟨w.heap.size,0,none⟩=some (.int .u8 (6:Nat)):=by simp
  have hb:Below w.heap.size w (w.alloc (.cells #[.int .u8 6,.int .u8 a1,.int .u8 a2,.int .u8 a3,.int .i64 a4] 35)):=(Below.refl _ w).alloc (Nat.le_refl _) _
  clear kP
  by_cases eb:a2=0
  · have gb:(a2 == 0)=true:=beq_iff_eq.2 eb
    clear eb
    by_cases ec:a3=0
    · have gc:(a3 == 0)=true:=beq_iff_eq.2 ec
      clear ec
      by_cases en:a4=0
      · have gn:(a4 == 0)=true:=beq_iff_eq.2 en
        clear en
        rw [show (a2 == 0 && a3 == 0 && a4 == 0)=true from by simp [gb,gc,gn]]
        go_enter Tryd.func11,Tryd.ntmps11
        go_wp2_with fail
        refine (oQ w.heap.size 6 13 rfl (by decide) _ hp ht).mono ?_
        rintro e w' ⟨rfl,rfl⟩
        go_wp2_with fail
        refine (sD w.heap.size 6 13 rfl (by decide) _ hp ht).mono ?_
        rintro e w' ⟨rfl,rfl⟩
        go_wp2_with fail
        refine (yZ w.heap.size 6 13 rfl (by decide) _ hp ht).mono ?_
        rintro e w' ⟨rfl,rfl⟩
        go_wp2_with fail
        refine (JJ w.heap.size 6 13 rfl (by decide) _ hp ht).mono ?_
        rintro e w' ⟨rfl,rfl⟩
        go_wp2
        go_ret
        exact ⟨rfl,hb⟩
      · have gn:(a4 == 0)=false:=beq_eq_false_iff_ne.2 en
        clear en
        rw [show (a2 == 0 && a3 == 0 && a4 == 0)=false from by simp [gn]]
        go_enter Tryd.func11,Tryd.ntmps11
        go_wp2_with fail
        refine (oQ w.heap.size 6 13 rfl (by decide) _ hp ht).mono ?_
        rintro e w' ⟨rfl,rfl⟩
        go_wp2_with fail
        refine (sD w.heap.size 6 13 rfl (by decide) _ hp ht).mono ?_
        rintro e w' ⟨rfl,rfl⟩
        go_wp2_with fail
        refine (yZ w.heap.size 6 13 rfl (by decide) _ hp ht).mono ?_
        rintro e w' ⟨rfl,rfl⟩
        go_wp2
        go_ret
        exact ⟨rfl,hb⟩
    · have gc:(a3 == 0)=false:=beq_eq_false_iff_ne.2 ec
      clear ec
      rw [show (a2 == 0 && a3 == 0 && a4 == 0)=false from by simp [gc]]
      go_enter Tryd.func11,Tryd.ntmps11
      go_wp2_with fail
      refine (oQ w.heap.size 6 13 rfl (by decide) _ hp ht).mono ?_
      rintro e w' ⟨rfl,rfl⟩
      go_wp2_with fail
      refine (sD w.heap.size 6 13 rfl (by decide) _ hp ht).mono ?_
      rintro e w' ⟨rfl,rfl⟩
      go_wp2
      go_ret
      exact ⟨rfl,hb⟩
  · have gb:(a2 == 0)=false:=beq_eq_false_iff_ne.2 eb
    clear eb
    rw [show (a2 == 0 && a3 == 0 && a4 == 0)=false from by simp [gb]]
    go_enter Tryd.func11,Tryd.ntmps11
    go_wp2_with fail
    refine (oQ w.heap.size 6 13 rfl (by decide) _ hp ht).mono ?_
    rintro e w' ⟨rfl,rfl⟩
    go_wp2
    go_ret
    exact ⟨rfl,hb⟩
set_option maxRecDepth 100000 in
set_option maxHeartbeats 1600000 in
theorem Xt (a1 a2 a3 a4:Int) (w:World) (kP:Kd.C Kd.string w uZ opsL.length opsL) :
    Calls Tryd.prog 11 #[.agg #[.int .u8 7,.int .u8 a1,.int .u8 a2,.int .u8 a3,.int .i64 a4]] w fun e w'=>e=.returned (.bool (a3 == 0 && a4 == 0))∧Below w.heap.size w w':=by
  have hmf:∀ (fn:Fn) (first cap:Array Value) (w:World),(Instr.makeFunc fn first cap).run Tryd.prog w=.ok (.func fn first cap) w:=fun _ _ _ _=>rfl
  have ht:=kF kP (.cells #[.int .u8 7,.int .u8 a1,.int .u8 a2,.int .u8 a3,.int .i64 a4] 35) 15 (by decide) ⟨#[97,98]⟩ rfl
  have hp:(w.alloc (.cells #[.int .u8 7,.int .u8 a1,.int .u8 a2,.int .u8 a3,.int .i64 a4] 35)).cell? ⟨w.heap.size,0,none⟩=some (.int .u8 (7:Nat)):=by simp
  have hb:Below w.heap.size w (w.alloc (.cells #[.int .u8 7,.int .u8 a1,.int .u8 a2,.int .u8 a3,.int .i64 a4] 35)):=(Below.refl _ w).alloc (Nat.le_refl _) _
  clear kP
  by_cases ec:a3=0
  · have gc:(a3 == 0)=true:=beq_iff_eq.2 ec
    clear ec
    by_cases en:a4=0
    · have gn:(a4 == 0)=true:=beq_iff_eq.2 en
      clear en
      rw [show (a3 == 0 && a4 == 0)=true from by simp [gc,gn]]
      go_enter Tryd.func11,Tryd.ntmps11
      go_wp2_with fail
      refine (qc w.heap.size 7 15 rfl (by decide) _ hp ht).mono ?_
      rintro e w' ⟨rfl,rfl⟩
      go_wp2_with fail
      refine (pY w.heap.size 7 15 rfl (by decide) _ hp ht).mono ?_
      rintro e w' ⟨rfl,rfl⟩
      go_wp2_with fail
      refine (vJ w.heap.size 7 15 rfl (by decide) _ hp ht).mono ?_
      rintro e w' ⟨rfl,rfl⟩
      go_wp2_with fail
      refine (Fq w.heap.size 7 15 rfl (by decide) _ hp ht).mono ?_
      rintro e w' ⟨rfl,rfl⟩
      go_wp2
      go_ret
      exact ⟨rfl,hb⟩
    · have gn:(a4 == 0)=false:=beq_eq_false_iff_ne.2 en
      clear en
      rw [show (a3 == 0 && a4 == 0)=false from by simp [gn]]
      go_enter Tryd.func11,Tryd.ntmps11
      go_wp2_with fail
      refine (qc w.heap.size 7 15 rfl (by decide) _ hp ht).mono ?_
      rintro e w' ⟨rfl,rfl⟩
      go_wp2_with fail
      refine (pY w.heap.size 7 15 rfl (by decide) _ hp ht).mono ?_
      rintro e w' ⟨rfl,rfl⟩
      go_wp2_with fail
      refine (vJ w.heap.size 7 15 rfl (by decide) _ hp ht).mono ?_
      rintro e w' ⟨rfl,rfl⟩
      go_wp2
      go_ret
      exact ⟨rfl,hb⟩
  · have gc:(a3 == 0)=false:=beq_eq_false_iff_ne.2 ec
    clear ec
    rw [show (a3 == 0 && a4 == 0)=false from by simp [gc]]
    go_enter Tryd.func11,Tryd.ntmps11
    go_wp2_with fail
    refine (qc w.heap.size 7 15 rfl (by decide) _ hp ht).mono ?_
    rintro e w' ⟨rfl,rfl⟩
    go_wp2_with fail
    refine (pY w.heap.size 7 15 rfl (by decide) _ hp ht).mono ?_
    rintro e w' ⟨rfl,rfl⟩
    go_wp2
    go_ret
    exact ⟨rfl,hb⟩
set_option maxRecDepth 100000 in
set_option maxHeartbeats 1600000 in
theorem Xr (a1 a2 a3 a4:Int) (w:World) (kP:Kd.C Kd.string w uZ opsL.length opsL) :
    Calls Tryd.prog 11 #[.agg #[.int .u8 8,.int .u8 a1,.int .u8 a2,.int .u8 a3,.int .i64 a4]] w fun e w'=>e=.returned (.bool (a3 == 0))∧Below w.heap.size w w':=by
  have hmf:∀ (fn:Fn) (first cap:Array Value) (w:World),(Instr.makeFunc fn first cap).run Tryd.prog w=.ok (.func fn first cap) w:=fun _ _ _ _=>rfl
  have ht:=kF kP (.cells #[.int .u8 8,.int .u8 a1,.int .u8 a2,.int .u8 a3,.int .i64 a4] 35) 17 (by decide) ⟨#[97,98,110]⟩ rfl
  have hp:(w.alloc (.cells #[.int .u8 8,.int .u8 a1,.int .u8 a2,.int .u8 a3,.int .i64 a4] 35)).cell? ⟨w.heap.size,0,none⟩=some (.int .u8 (8:Nat)):=by simp
  have hb:Below w.heap.size w (w.alloc (.cells #[.int .u8 8,.int .u8 a1,.int .u8 a2,.int .u8 a3,.int .i64 a4] 35)):=(Below.refl _ w).alloc (Nat.le_refl _) _
  clear kP
  by_cases ec:a3=0
  · have gc:(a3 == 0)=true:=beq_iff_eq.2 ec
    clear ec
    rw [show (a3 == 0)=true from by simp [gc]]
    go_enter Tryd.func11,Tryd.ntmps11
    go_wp2_with fail
    refine (yU w.heap.size 8 17 rfl (by decide) _ hp ht).mono ?_
    rintro e w' ⟨rfl,rfl⟩
    go_wp2_with fail
    refine (yT w.heap.size 8 17 rfl (by decide) _ hp ht).mono ?_
    rintro e w' ⟨rfl,rfl⟩
    go_wp2_with fail
    refine (GZ w.heap.size 8 17 rfl (by decide) _ hp ht).mono ?_
    rintro e w' ⟨rfl,rfl⟩
    go_wp2_with fail
    refine (G5 w.heap.size 8 17 rfl (by decide) _ hp ht).mono ?_
    rintro e w' ⟨rfl,rfl⟩
    go_wp2
    go_ret
    exact ⟨rfl,hb⟩
  · have gc:(a3 == 0)=false:=beq_eq_false_iff_ne.2 ec
    clear ec
    rw [show (a3 == 0)=false from by simp [gc]]
    go_enter Tryd.func11,Tryd.ntmps11
    go_wp2_with fail
    refine (yU w.heap.size 8 17 rfl (by decide) _ hp ht).mono ?_
    rintro e w' ⟨rfl,rfl⟩
    go_wp2_with fail
    refine (yT w.heap.size 8 17 rfl (by decide) _ hp ht).mono ?_
    rintro e w' ⟨rfl,rfl⟩
    go_wp2
    go_ret
    exact ⟨rfl,hb⟩
set_option maxRecDepth 100000 in
set_option maxHeartbeats 1600000 in
theorem Xq (a1 a2 a3 a4:Int) (w:World) (kP:Kd.C Kd.string w uZ opsL.length opsL) :
    Calls Tryd.prog 11 #[.agg #[.int .u8 9,.int .u8 a1,.int .u8 a2,.int .u8 a3,.int .i64 a4]] w fun e w'=>e=.returned (.bool (a3 == 0))∧Below w.heap.size w w':=by
  have hmf:∀ (fn:Fn) (first cap:Array Value) (w:World),(Instr.makeFunc fn first cap).run Tryd.prog w=.ok (.func fn first cap) w:=fun _ _ _ _=>rfl
  have ht:=kF kP (.cells #[.int .u8 9,.int .u8 a1,.int .u8 a2,.int .u8 a3,.int .i64 a4] 35) 19 (by decide) ⟨#[97,110,98]⟩ rfl
  have hp:(w.alloc (.cells #[.int .u8 9,.int .u8 a1,.int .u8 a2,.int .u8 a3,.int .i64 a4] 35)).cell? ⟨w.heap.size,0,none⟩=some (.int .u8 (9:Nat)):=by simp
  have hb:Below w.heap.size w (w.alloc (.cells #[.int .u8 9,.int .u8 a1,.int .u8 a2,.int .u8 a3,.int .i64 a4] 35)):=(Below.refl _ w).alloc (Nat.le_refl _) _
  clear kP
  by_cases ec:a3=0
  · have gc:(a3 == 0)=true:=beq_iff_eq.2 ec
    clear ec
    rw [show (a3 == 0)=true from by simp [gc]]
    go_enter Tryd.func11,Tryd.ntmps11
    go_wp2_with fail
    refine (yS w.heap.size 9 19 rfl (by decide) _ hp ht).mono ?_
    rintro e w' ⟨rfl,rfl⟩
    go_wp2_with fail
    refine (yR w.heap.size 9 19 rfl (by decide) _ hp ht).mono ?_
    rintro e w' ⟨rfl,rfl⟩
    go_wp2_with fail
    refine (GX w.heap.size 9 19 rfl (by decide) _ hp ht).mono ?_
    rintro e w' ⟨rfl,rfl⟩
    go_wp2_with fail
    refine (GY w.heap.size 9 19 rfl (by decide) _ hp ht).mono ?_
    rintro e w' ⟨rfl,rfl⟩
    go_wp2
    go_ret
    exact ⟨rfl,hb⟩
  · have gc:(a3 == 0)=false:=beq_eq_false_iff_ne.2 ec
    clear ec
    rw [show (a3 == 0)=false from by simp [gc]]
    go_enter Tryd.func11,Tryd.ntmps11
    go_wp2_with fail
    refine (yS w.heap.size 9 19 rfl (by decide) _ hp ht).mono ?_
    rintro e w' ⟨rfl,rfl⟩
    go_wp2_with fail
    refine (yR w.heap.size 9 19 rfl (by decide) _ hp ht).mono ?_
    rintro e w' ⟨rfl,rfl⟩
    go_wp2
    go_ret
    exact ⟨rfl,hb⟩
set_option maxRecDepth 100000 in
set_option maxHeartbeats 1600000 in
theorem SA (a1 a2 a3 a4:Int) (w:World) (kP:Kd.C Kd.string w uZ opsL.length opsL) :
    Calls Tryd.prog 11 #[.agg #[.int .u8 10,.int .u8 a1,.int .u8 a2,.int .u8 a3,.int .i64 a4]] w fun e w'=>e=.returned (.bool (a3 == 0))∧Below w.heap.size w w':=by
  have hmf:∀ (fn:Fn) (first cap:Array Value) (w:World),(Instr.makeFunc fn first cap).run Tryd.prog w=.ok (.func fn first cap) w:=fun _ _ _ _=>rfl
  have ht:=kF kP (.cells #[.int .u8 10,.int .u8 a1,.int .u8 a2,.int .u8 a3,.int .i64 a4] 35) 21 (by decide) ⟨#[97,98,110]⟩ rfl
  have hp:(w.alloc (.cells #[.int .u8 10,.int .u8 a1,.int .u8 a2,.int .u8 a3,.int .i64 a4] 35)).cell? ⟨w.heap.size,0,none⟩=some (.int .u8 (10:Nat)):=by simp
  have hb:Below w.heap.size w (w.alloc (.cells #[.int .u8 10,.int .u8 a1,.int .u8 a2,.int .u8 a3,.int .i64 a4] 35)):=(Below.refl _ w).alloc (Nat.le_refl _) _
  clear kP
  by_cases ec:a3=0
  · have gc:(a3 == 0)=true:=beq_iff_eq.2 ec
    clear ec
    rw [show (a3 == 0)=true from by simp [gc]]
    go_enter Tryd.func11,Tryd.ntmps11
    go_wp2_with fail
    refine (yU w.heap.size 10 21 rfl (by decide) _ hp ht).mono ?_
    rintro e w' ⟨rfl,rfl⟩
    go_wp2_with fail
    refine (yT w.heap.size 10 21 rfl (by decide) _ hp ht).mono ?_
    rintro e w' ⟨rfl,rfl⟩
    go_wp2_with fail
    refine (GZ w.heap.size 10 21 rfl (by decide) _ hp ht).mono ?_
    rintro e w' ⟨rfl,rfl⟩
    go_wp2_with fail
    refine (G5 w.heap.size 10 21 rfl (by decide) _ hp ht).mono ?_
    rintro e w' ⟨rfl,rfl⟩
    go_wp2
    go_ret
    exact ⟨rfl,hb⟩
  · have gc:(a3 == 0)=false:=beq_eq_false_iff_ne.2 ec
    clear ec
    rw [show (a3 == 0)=false from by simp [gc]]
    go_enter Tryd.func11,Tryd.ntmps11
    go_wp2_with fail
    refine (yU w.heap.size 10 21 rfl (by decide) _ hp ht).mono ?_
    rintro e w' ⟨rfl,rfl⟩
    go_wp2_with fail
    refine (yT w.heap.size 10 21 rfl (by decide) _ hp ht).mono ?_
    rintro e w' ⟨rfl,rfl⟩
    go_wp2
    go_ret
    exact ⟨rfl,hb⟩
set_option maxRecDepth 100000 in
set_option maxHeartbeats 1600000 in
theorem Sz (a1 a2 a3 a4:Int) (w:World) (kP:Kd.C Kd.string w uZ opsL.length opsL) :
    Calls Tryd.prog 11 #[.agg #[.int .u8 11,.int .u8 a1,.int .u8 a2,.int .u8 a3,.int .i64 a4]] w fun e w'=>e=.returned (.bool (a3 == 0))∧Below w.heap.size w w':=by
  have hmf:∀ (fn:Fn) (first cap:Array Value) (w:World),(Instr.makeFunc fn first cap).run Tryd.prog w=.ok (.func fn first cap) w:=fun _ _ _ _=>rfl
  have ht:=kF kP (.cells #[.int .u8 11,.int .u8 a1,.int .u8 a2,.int .u8 a3,.int .i64 a4] 35) 23 (by decide) ⟨#[97,110,98]⟩ rfl
  have hp:(w.alloc (.cells #[.int .u8 11,.int .u8 a1,.int .u8 a2,.int .u8 a3,.int .i64 a4] 35)).cell? ⟨w.heap.size,0,none⟩=some (.int .u8 (11:Nat)):=by simp
  have hb:Below w.heap.size w (w.alloc (.cells #[.int .u8 11,.int .u8 a1,.int .u8 a2,.int .u8 a3,.int .i64 a4] 35)):=(Below.refl _ w).alloc (Nat.le_refl _) _
  clear kP
  by_cases ec:a3=0
  · have gc:(a3 == 0)=true:=beq_iff_eq.2 ec
    clear ec
    rw [show (a3 == 0)=true from by simp [gc]]
    go_enter Tryd.func11,Tryd.ntmps11
    go_wp2_with fail
    refine (yS w.heap.size 11 23 rfl (by decide) _ hp ht).mono ?_
    rintro e w' ⟨rfl,rfl⟩
    go_wp2_with fail
    refine (yR w.heap.size 11 23 rfl (by decide) _ hp ht).mono ?_
    rintro e w' ⟨rfl,rfl⟩
    go_wp2_with fail
    refine (GX w.heap.size 11 23 rfl (by decide) _ hp ht).mono ?_
    rintro e w' ⟨rfl,rfl⟩
    go_wp2_with fail
    refine (GY w.heap.size 11 23 rfl (by decide) _ hp ht).mono ?_
    rintro e w' ⟨rfl,rfl⟩
    go_wp2
    go_ret
    exact ⟨rfl,hb⟩
  · have gc:(a3 == 0)=false:=beq_eq_false_iff_ne.2 ec
    clear ec
    rw [show (a3 == 0)=false from by simp [gc]]
    go_enter Tryd.func11,Tryd.ntmps11
    go_wp2_with fail
    refine (yS w.heap.size 11 23 rfl (by decide) _ hp ht).mono ?_
    rintro e w' ⟨rfl,rfl⟩
    go_wp2_with fail
    refine (yR w.heap.size 11 23 rfl (by decide) _ hp ht).mono ?_
    rintro e w' ⟨rfl,rfl⟩
    go_wp2
    go_ret
    exact ⟨rfl,hb⟩
set_option maxRecDepth 100000 in
set_option maxHeartbeats 1600000 in
theorem Sv (a1 a2 a3 a4:Int) (w:World) (kP:Kd.C Kd.string w uZ opsL.length opsL) :
    Calls Tryd.prog 11 #[.agg #[.int .u8 12,.int .u8 a1,.int .u8 a2,.int .u8 a3,.int .i64 a4]] w fun e w'=>e=.returned (.bool (a3 == 0 && a4 == 0))∧Below w.heap.size w w':=by
  have hmf:∀ (fn:Fn) (first cap:Array Value) (w:World),(Instr.makeFunc fn first cap).run Tryd.prog w=.ok (.func fn first cap) w:=fun _ _ _ _=>rfl
  have ht:=kF kP (.cells #[.int .u8 12,.int .u8 a1,.int .u8 a2,.int .u8 a3,.int .i64 a4] 35) 25 (by decide) ⟨#[97,98]⟩ rfl
  have hp:(w.alloc (.cells #[.int .u8 12,.int .u8 a1,.int .u8 a2,.int .u8 a3,.int .i64 a4] 35)).cell? ⟨w.heap.size,0,none⟩=some (.int .u8 (12:Nat)):=by simp
  have hb:Below w.heap.size w (w.alloc (.cells #[.int .u8 12,.int .u8 a1,.int .u8 a2,.int .u8 a3,.int .i64 a4] 35)):=(Below.refl _ w).alloc (Nat.le_refl _) _
  clear kP
  by_cases ec:a3=0
  · have gc:(a3 == 0)=true:=beq_iff_eq.2 ec
    clear ec
    by_cases en:a4=0
    · have gn:(a4 == 0)=true:=beq_iff_eq.2 en
      clear en
      rw [show (a3 == 0 && a4 == 0)=true from by simp [gc,gn]]
      go_enter Tryd.func11,Tryd.ntmps11
      go_wp2_with fail
      refine (qc w.heap.size 12 25 rfl (by decide) _ hp ht).mono ?_
      rintro e w' ⟨rfl,rfl⟩
      go_wp2_with fail
      refine (pY w.heap.size 12 25 rfl (by decide) _ hp ht).mono ?_
      rintro e w' ⟨rfl,rfl⟩
      go_wp2_with fail
      refine (vJ w.heap.size 12 25 rfl (by decide) _ hp ht).mono ?_
      rintro e w' ⟨rfl,rfl⟩
      go_wp2_with fail
      refine (Fq w.heap.size 12 25 rfl (by decide) _ hp ht).mono ?_
      rintro e w' ⟨rfl,rfl⟩
      go_wp2
      go_ret
      exact ⟨rfl,hb⟩
    · have gn:(a4 == 0)=false:=beq_eq_false_iff_ne.2 en
      clear en
      rw [show (a3 == 0 && a4 == 0)=false from by simp [gn]]
      go_enter Tryd.func11,Tryd.ntmps11
      go_wp2_with fail
      refine (qc w.heap.size 12 25 rfl (by decide) _ hp ht).mono ?_
      rintro e w' ⟨rfl,rfl⟩
      go_wp2_with fail
      refine (pY w.heap.size 12 25 rfl (by decide) _ hp ht).mono ?_
      rintro e w' ⟨rfl,rfl⟩
      go_wp2_with fail
      refine (vJ w.heap.size 12 25 rfl (by decide) _ hp ht).mono ?_
      rintro e w' ⟨rfl,rfl⟩
      go_wp2
      go_ret
      exact ⟨rfl,hb⟩
  · have gc:(a3 == 0)=false:=beq_eq_false_iff_ne.2 ec
    clear ec
    rw [show (a3 == 0 && a4 == 0)=false from by simp [gc]]
    go_enter Tryd.func11,Tryd.ntmps11
    go_wp2_with fail
    refine (qc w.heap.size 12 25 rfl (by decide) _ hp ht).mono ?_
    rintro e w' ⟨rfl,rfl⟩
    go_wp2_with fail
    refine (pY w.heap.size 12 25 rfl (by decide) _ hp ht).mono ?_
    rintro e w' ⟨rfl,rfl⟩
    go_wp2
    go_ret
    exact ⟨rfl,hb⟩
set_option maxRecDepth 100000 in
set_option maxHeartbeats 1600000 in
theorem Su (a1 a2 a3 a4:Int) (w:World) (kP:Kd.C Kd.string w uZ opsL.length opsL) :
    Calls Tryd.prog 11 #[.agg #[.int .u8 13,.int .u8 a1,.int .u8 a2,.int .u8 a3,.int .i64 a4]] w fun e w'=>e=.returned (.bool (a3 == 0 && a4 == 0))∧Below w.heap.size w w':=by
  have hmf:∀ (fn:Fn) (first cap:Array Value) (w:World),(Instr.makeFunc fn first cap).run Tryd.prog w=.ok (.func fn first cap) w:=fun _ _ _ _=>rfl
  have ht:=kF kP (.cells #[.int .u8 13,.int .u8 a1,.int .u8 a2,.int .u8 a3,.int .i64 a4] 35) 27 (by decide) ⟨#[97,98]⟩ rfl
  have hp:(w.alloc (.cells #[.int .u8 13,.int .u8 a1,.int .u8 a2,.int .u8 a3,.int .i64 a4] 35)).cell? ⟨w.heap.size,0,none⟩=some (.int .u8 (13:Nat)):=by simp
  have hb:Below w.heap.size w (w.alloc (.cells #[.int .u8 13,.int .u8 a1,.int .u8 a2,.int .u8 a3,.int .i64 a4] 35)):=(Below.refl _ w).alloc (Nat.le_refl _) _
  clear kP
  by_cases ec:a3=0
  · have gc:(a3 == 0)=true:=beq_iff_eq.2 ec
    clear ec
    by_cases en:a4=0
    · have gn:(a4 == 0)=true:=beq_iff_eq.2 en
      clear en
      rw [show (a3 == 0 && a4 == 0)=true from by simp [gc,gn]]
      go_enter Tryd.func11,Tryd.ntmps11
      go_wp2_with fail
      refine (qc w.heap.size 13 27 rfl (by decide) _ hp ht).mono ?_
      rintro e w' ⟨rfl,rfl⟩
      go_wp2_with fail
      refine (pY w.heap.size 13 27 rfl (by decide) _ hp ht).mono ?_
      rintro e w' ⟨rfl,rfl⟩
      go_wp2_with fail
      refine (vJ w.heap.size 13 27 rfl (by decide) _ hp ht).mono ?_
      rintro e w' ⟨rfl,rfl⟩
      go_wp2_with fail
      refine (Fq w.heap.size 13 27 rfl (by decide) _ hp ht).mono ?_
      rintro e w' ⟨rfl,rfl⟩
      go_wp2
      go_ret
      exact ⟨rfl,hb⟩
    · have gn:(a4 == 0)=false:=beq_eq_false_iff_ne.2 en
      clear en
      rw [show (a3 == 0 && a4 == 0)=false from by simp [gn]]
      go_enter Tryd.func11,Tryd.ntmps11
      go_wp2_with fail
      refine (qc w.heap.size 13 27 rfl (by decide) _ hp ht).mono ?_
      rintro e w' ⟨rfl,rfl⟩
      go_wp2_with fail
      refine (pY w.heap.size 13 27 rfl (by decide) _ hp ht).mono ?_
      rintro e w' ⟨rfl,rfl⟩
      go_wp2_with fail
      refine (vJ w.heap.size 13 27 rfl (by decide) _ hp ht).mono ?_
      rintro e w' ⟨rfl,rfl⟩
      go_wp2
      go_ret
      exact ⟨rfl,hb⟩
  · have gc:(a3 == 0)=false:=beq_eq_false_iff_ne.2 ec
    clear ec
    rw [show (a3 == 0 && a4 == 0)=false from by simp [gc]]
    go_enter Tryd.func11,Tryd.ntmps11
    go_wp2_with fail
    refine (qc w.heap.size 13 27 rfl (by decide) _ hp ht).mono ?_
    rintro e w' ⟨rfl,rfl⟩
    go_wp2_with fail
    refine (pY w.heap.size 13 27 rfl (by decide) _ hp ht).mono ?_
    rintro e w' ⟨rfl,rfl⟩
    go_wp2
    go_ret
    exact ⟨rfl,hb⟩
set_option maxRecDepth 100000 in
set_option maxHeartbeats 1600000 in
theorem Sr (a1 a2 a3 a4:Int) (w:World) (kP:Kd.C Kd.string w uZ opsL.length opsL) :
    Calls Tryd.prog 11 #[.agg #[.int .u8 14,.int .u8 a1,.int .u8 a2,.int .u8 a3,.int .i64 a4]] w fun e w'=>e=.returned (.bool (a2 == 0 && a3 == 0 && a4 == 0))∧Below w.heap.size w w':=by
  have hmf:∀ (fn:Fn) (first cap:Array Value) (w:World),(Instr.makeFunc fn first cap).run Tryd.prog w=.ok (.func fn first cap) w:=fun _ _ _ _=>rfl
  have ht:=kF kP (.cells #[.int .u8 14,.int .u8 a1,.int .u8 a2,.int .u8 a3,.int .i64 a4] 35) 29 (by decide) ⟨#[97]⟩ rfl
  have hp:(w.alloc (.cells #[.int .u8 14,.int .u8 a1,.int .u8 a2,.int .u8 a3,.int .i64 a4] 35)).cell? ⟨w.heap.size,0,none⟩=some (.int .u8 (14:Nat)):=by simp
  have hb:Below w.heap.size w (w.alloc (.cells #[.int .u8 14,.int .u8 a1,.int .u8 a2,.int .u8 a3,.int .i64 a4] 35)):=(Below.refl _ w).alloc (Nat.le_refl _) _
  clear kP
  by_cases eb:a2=0
  · have gb:(a2 == 0)=true:=beq_iff_eq.2 eb
    clear eb
    by_cases ec:a3=0
    · have gc:(a3 == 0)=true:=beq_iff_eq.2 ec
      clear ec
      by_cases en:a4=0
      · have gn:(a4 == 0)=true:=beq_iff_eq.2 en
        clear en
        rw [show (a2 == 0 && a3 == 0 && a4 == 0)=true from by simp [gb,gc,gn]]
        go_enter Tryd.func11,Tryd.ntmps11
        go_wp2_with fail
        refine (oQ w.heap.size 14 29 rfl (by decide) _ hp ht).mono ?_
        rintro e w' ⟨rfl,rfl⟩
        go_wp2_with fail
        refine (sD w.heap.size 14 29 rfl (by decide) _ hp ht).mono ?_
        rintro e w' ⟨rfl,rfl⟩
        go_wp2_with fail
        refine (yZ w.heap.size 14 29 rfl (by decide) _ hp ht).mono ?_
        rintro e w' ⟨rfl,rfl⟩
        go_wp2_with fail
        refine (JJ w.heap.size 14 29 rfl (by decide) _ hp ht).mono ?_
        rintro e w' ⟨rfl,rfl⟩
        go_wp2
        go_ret
        exact ⟨rfl,hb⟩
      · have gn:(a4 == 0)=false:=beq_eq_false_iff_ne.2 en
        clear en
        rw [show (a2 == 0 && a3 == 0 && a4 == 0)=false from by simp [gn]]
        go_enter Tryd.func11,Tryd.ntmps11
        go_wp2_with fail
        refine (oQ w.heap.size 14 29 rfl (by decide) _ hp ht).mono ?_
        rintro e w' ⟨rfl,rfl⟩
        go_wp2_with fail
        refine (sD w.heap.size 14 29 rfl (by decide) _ hp ht).mono ?_
        rintro e w' ⟨rfl,rfl⟩
        go_wp2_with fail
        refine (yZ w.heap.size 14 29 rfl (by decide) _ hp ht).mono ?_
        rintro e w' ⟨rfl,rfl⟩
        go_wp2
        go_ret
        exact ⟨rfl,hb⟩
    · have gc:(a3 == 0)=false:=beq_eq_false_iff_ne.2 ec
      clear ec
      rw [show (a2 == 0 && a3 == 0 && a4 == 0)=false from by simp [gc]]
      go_enter Tryd.func11,Tryd.ntmps11
      go_wp2_with fail
      refine (oQ w.heap.size 14 29 rfl (by decide) _ hp ht).mono ?_
      rintro e w' ⟨rfl,rfl⟩
      go_wp2_with fail
      refine (sD w.heap.size 14 29 rfl (by decide) _ hp ht).mono ?_
      rintro e w' ⟨rfl,rfl⟩
      go_wp2
      go_ret
      exact ⟨rfl,hb⟩
  · have gb:(a2 == 0)=false:=beq_eq_false_iff_ne.2 eb
    clear eb
    rw [show (a2 == 0 && a3 == 0 && a4 == 0)=false from by simp [gb]]
    go_enter Tryd.func11,Tryd.ntmps11
    go_wp2_with fail
    refine (oQ w.heap.size 14 29 rfl (by decide) _ hp ht).mono ?_
    rintro e w' ⟨rfl,rfl⟩
    go_wp2
    go_ret
    exact ⟨rfl,hb⟩
set_option maxRecDepth 100000 in
set_option maxHeartbeats 1600000 in
theorem Sm (a1 a2 a3 a4:Int) (w:World) (kP:Kd.C Kd.string w uZ opsL.length opsL) :
    Calls Tryd.prog 11 #[.agg #[.int .u8 15,.int .u8 a1,.int .u8 a2,.int .u8 a3,.int .i64 a4]] w fun e w'=>e=.returned (.bool (a4 == 0))∧Below w.heap.size w w':=by
  have hmf:∀ (fn:Fn) (first cap:Array Value) (w:World),(Instr.makeFunc fn first cap).run Tryd.prog w=.ok (.func fn first cap) w:=fun _ _ _ _=>rfl
  have ht:=kF kP (.cells #[.int .u8 15,.int .u8 a1,.int .u8 a2,.int .u8 a3,.int .i64 a4] 35) 31 (by decide) ⟨#[97,98,99]⟩ rfl
  have hp:(w.alloc (.cells #[.int .u8 15,.int .u8 a1,.int .u8 a2,.int .u8 a3,.int .i64 a4] 35)).cell? ⟨w.heap.size,0,none⟩=some (.int .u8 (15:Nat)):=by simp
  have hb:Below w.heap.size w (w.alloc (.cells #[.int .u8 15,.int .u8 a1,.int .u8 a2,.int .u8 a3,.int .i64 a4] 35)):=(Below.refl _ w).alloc (Nat.le_refl _) _
  clear kP
  by_cases en:a4=0
  · have gn:(a4 == 0)=true:=beq_iff_eq.2 en
    clear en
    rw [show (a4 == 0)=true from by simp [gn]]
    go_enter Tryd.func11,Tryd.ntmps11
    go_wp2_with fail
    refine (yY w.heap.size 15 31 rfl (by decide) _ hp ht).mono ?_
    rintro e w' ⟨rfl,rfl⟩
    go_wp2_with fail
    refine (yX w.heap.size 15 31 rfl (by decide) _ hp ht).mono ?_
    rintro e w' ⟨rfl,rfl⟩
    go_wp2_with fail
    refine (yV w.heap.size 15 31 rfl (by decide) _ hp ht).mono ?_
    rintro e w' ⟨rfl,rfl⟩
    go_wp2_with fail
    refine (G6 w.heap.size 15 31 rfl (by decide) _ hp ht).mono ?_
    rintro e w' ⟨rfl,rfl⟩
    go_wp2
    go_ret
    exact ⟨rfl,hb⟩
  · have gn:(a4 == 0)=false:=beq_eq_false_iff_ne.2 en
    clear en
    rw [show (a4 == 0)=false from by simp [gn]]
    go_enter Tryd.func11,Tryd.ntmps11
    go_wp2_with fail
    refine (yY w.heap.size 15 31 rfl (by decide) _ hp ht).mono ?_
    rintro e w' ⟨rfl,rfl⟩
    go_wp2_with fail
    refine (yX w.heap.size 15 31 rfl (by decide) _ hp ht).mono ?_
    rintro e w' ⟨rfl,rfl⟩
    go_wp2_with fail
    refine (yV w.heap.size 15 31 rfl (by decide) _ hp ht).mono ?_
    rintro e w' ⟨rfl,rfl⟩
    go_wp2
    go_ret
    exact ⟨rfl,hb⟩
theorem BN (lV:Int) (aX:Int) (aZ:Int) (jL:Int) (kH:Int) (r:Bool) (w:World) (kP:Kd.C Kd.string w uZ opsL.length opsL) (h:gu.f lV aX aZ jL kH=some r) :
    Calls Tryd.prog 11 #[.agg #[.int .u8 lV,.int .u8 aX,.int .u8 aZ,.int .u8 jL,.int .i64 kH]] w fun e w'=>e=.returned (.bool r)∧Below w.heap.size w w':=by
  have hb:Below w.heap.size w (w.alloc (.cells #[.int .u8 lV,.int .u8 aX,.int .u8 aZ,.int .u8 jL,.int .i64 kH] 35)):=(Below.refl _ w).alloc (Nat.le_refl _) _
  unfold gu.f at h
  by_cases h1:lV < 1
  · rw [if_pos h1] at h
    injection h with h
    subst h
    have h1':decide (lV < 1)=true:=decide_eq_true h1
    clear h1 kP
    go_enter Tryd.func11,Tryd.ntmps11
    go_wp2
    go_ret
    exact ⟨rfl,hb⟩
  rw [if_neg h1] at h
  by_cases h2:lV > 15
  · rw [if_pos h2] at h
    injection h with h
    subst h
    have h1':decide (lV < 1)=false:=decide_eq_false h1
    have h2':decide (15 < lV)=true:=decide_eq_true h2
    clear h1 h2 kP
    go_enter Tryd.func11,Tryd.ntmps11
    go_wp2
    go_ret
    exact ⟨rfl,hb⟩
  rw [if_neg h2] at h
  injection h with h
  subst h
  have hk:lV=1 ∨ lV=2 ∨ lV=3 ∨ lV=4 ∨ lV=5 ∨ lV=6 ∨ lV=7 ∨ lV=8 ∨ lV=9 ∨ lV=10 ∨ lV=11 ∨ lV=12 ∨ lV=13 ∨ lV=14 ∨ lV=15:=by omega
  rcases hk with rfl|rfl|rfl|rfl|rfl|rfl|rfl|rfl|rfl|rfl|rfl|rfl|rfl|rfl|rfl
  · rw [show ((hasB 1 98 || aZ == 0) && (hasB 1 99 || jL == 0) && (hasB 1 110 || kH == 0) && (hasB 1 97 || aX == 0))=(aZ == 0 && jL == 0) from by simp [hasB,letters]]
    exact Xz aX aZ jL kH w kP
  · rw [show ((hasB 2 98 || aZ == 0) && (hasB 2 99 || jL == 0) && (hasB 2 110 || kH == 0) && (hasB 2 97 || aX == 0))=(kH == 0) from by simp [hasB,letters]]
    exact Xy aX aZ jL kH w kP
  · rw [show ((hasB 3 98 || aZ == 0) && (hasB 3 99 || jL == 0) && (hasB 3 110 || kH == 0) && (hasB 3 97 || aX == 0))=(aZ == 0 && jL == 0 && aX == 0) from by simp [hasB,letters]]
    exact Xx aX aZ jL kH w kP
  · rw [show ((hasB 4 98 || aZ == 0) && (hasB 4 99 || jL == 0) && (hasB 4 110 || kH == 0) && (hasB 4 97 || aX == 0))=(aZ == 0 && jL == 0) from by simp [hasB,letters]]
    exact Xw aX aZ jL kH w kP
  · rw [show ((hasB 5 98 || aZ == 0) && (hasB 5 99 || jL == 0) && (hasB 5 110 || kH == 0) && (hasB 5 97 || aX == 0))=(aZ == 0 && jL == 0 && kH == 0) from by simp [hasB,letters]]
    exact Xv aX aZ jL kH w kP
  · rw [show ((hasB 6 98 || aZ == 0) && (hasB 6 99 || jL == 0) && (hasB 6 110 || kH == 0) && (hasB 6 97 || aX == 0))=(aZ == 0 && jL == 0 && kH == 0) from by simp [hasB,letters]]
    exact Xu aX aZ jL kH w kP
  · rw [show ((hasB 7 98 || aZ == 0) && (hasB 7 99 || jL == 0) && (hasB 7 110 || kH == 0) && (hasB 7 97 || aX == 0))=(jL == 0 && kH == 0) from by simp [hasB,letters]]
    exact Xt aX aZ jL kH w kP
  · rw [show ((hasB 8 98 || aZ == 0) && (hasB 8 99 || jL == 0) && (hasB 8 110 || kH == 0) && (hasB 8 97 || aX == 0))=(jL == 0) from by simp [hasB,letters]]
    exact Xr aX aZ jL kH w kP
  · rw [show ((hasB 9 98 || aZ == 0) && (hasB 9 99 || jL == 0) && (hasB 9 110 || kH == 0) && (hasB 9 97 || aX == 0))=(jL == 0) from by simp [hasB,letters]]
    exact Xq aX aZ jL kH w kP
  · rw [show ((hasB 10 98 || aZ == 0) && (hasB 10 99 || jL == 0) && (hasB 10 110 || kH == 0) && (hasB 10 97 || aX == 0))=(jL == 0) from by simp [hasB,letters]]
    exact SA aX aZ jL kH w kP
  · rw [show ((hasB 11 98 || aZ == 0) && (hasB 11 99 || jL == 0) && (hasB 11 110 || kH == 0) && (hasB 11 97 || aX == 0))=(jL == 0) from by simp [hasB,letters]]
    exact Sz aX aZ jL kH w kP
  · rw [show ((hasB 12 98 || aZ == 0) && (hasB 12 99 || jL == 0) && (hasB 12 110 || kH == 0) && (hasB 12 97 || aX == 0))=(jL == 0 && kH == 0) from by simp [hasB,letters]]
    exact Sv aX aZ jL kH w kP
  · rw [show ((hasB 13 98 || aZ == 0) && (hasB 13 99 || jL == 0) && (hasB 13 110 || kH == 0) && (hasB 13 97 || aX == 0))=(jL == 0 && kH == 0) from by simp [hasB,letters]]
    exact Su aX aZ jL kH w kP
  · rw [show ((hasB 14 98 || aZ == 0) && (hasB 14 99 || jL == 0) && (hasB 14 110 || kH == 0) && (hasB 14 97 || aX == 0))=(aZ == 0 && jL == 0 && kH == 0) from by simp [hasB,letters]]
    exact Sr aX aZ jL kH w kP
  · rw [show ((hasB 15 98 || aZ == 0) && (hasB 15 99 || jL == 0) && (hasB 15 110 || kH == 0) && (hasB 15 97 || aX == 0))=(kH == 0) from by simp [hasB,letters]]
    exact Sm aX aZ jL kH w kP
theorem gu.calls (lV:Int) (aX:Int) (aZ:Int) (jL:Int) (kH:Int) (r:Bool) (w:World) (kP:Kd.C xu w xw mX.length mX) (h:gu.f lV aX aZ jL kH=some r) :
    Calls Tryd.prog 11 #[.agg #[.int .u8 lV,.int .u8 aX,.int .u8 aZ,.int .u8 jL,.int .i64 kH]] w fun e w'=>e=.returned (.bool r)∧Below w.heap.size w w':=BN lV aX aZ jL kH r w (xC kP).ops h
end Go.Proofs.YtkclndkbccbhaaaDoor.P
end
section
namespace Go.Proofs.YtkclndkbccbhaaaDoor.P
open Go.RowKit Go.Proofs.az.dw Go.Proofs.az.gB Go.Proofs.az.gX
def qg (a b c n:Int) (ch:Nat):Int:=if ch=97 then a else if ch=98 then b else if ch=99 then c else n
def nameOf (o:Nat):ByteArray:=opsL.getD (o * 2) ByteArray.empty
def pX (o:Nat):ByteArray:=opsL.getD (o * 2+1) ByteArray.empty
def rV (n:Int):ByteArray:=⟨(Lib.itoa n).toArray⟩
def vW (o:Nat) (a b c n:Int):List ByteArray:=nameOf o :: (pX o).data.toList.map fun ch=>rV (qg a b c n ch.toNat)
def o6.f (lV aX aZ jL kH:Int):Option (List ByteArray) :=
  if (1≤lV∧lV≤15)∧(0≤aX∧aX≤255)∧(0≤aZ∧aZ≤255)∧(0≤jL∧jL≤255)∧(-9223372036854775808≤kH∧kH≤9223372036854775807) then some (vW lV.toNat aX aZ jL kH) else none
structure JS (G it pos:Nat) (I:Array Value) (s:ByteArray) (v:Value) (xs:List ByteArray) (w0 w:World):Prop where
  bk:w.heap[G]? = some (.cells I 35 (0,0))
  row:Kd.R Kd.string 9 w G (fun _=>True) v xs
  iter:w.heap[it]? = some (.stringIter s pos)
  bel:Below G w0 w
  lo:G≤it
section
variable {G it pos:Nat} {I:Array Value} {s:ByteArray} {v:Value} {xs:List ByteArray} {w0 w w1:World}
theorem JS.size (h:JS G it pos I s v xs w0 w):G < w.heap.size:=(Array.getElem?_eq_some_iff.1 h.bk).1
theorem JS.cell (h:JS G it pos I s v xs w0 w) (j:Nat):w.cell? ⟨G,j,none⟩=I[j]?:=by simp [World.cell?,h.bk]
theorem JS.below (h:JS G it pos I s v xs w0 w) (hb:Below w.heap.size w w1):JS G it pos I s v xs w0 w1 :=
  ⟨(hb.block G h.size).trans h.bk,Kd.bu h.row hb,(hb.block it (Array.getElem?_eq_some_iff.1 h.iter).1).trans h.iter,h.bel.trans (hb.mono (Nat.le_of_lt h.size)),h.lo⟩
theorem JS.alloc (h:JS G it pos I s v xs w0 w) (o:Obj):JS G it pos I s v xs w0 (w.alloc o):=h.below ((Below.refl _ w).alloc (Nat.le_refl _) o)
theorem JS.next (h:JS G it pos I s v xs w0 w) (pos':Nat):JS G it pos' I s v xs w0 (w.iterAt it s pos'):=by
  have hG:G ≠ it:=by
    rintro rfl
    have q:=h.iter
    rw [h.bk] at q
    cases q
  have far:∀ j,j ≠ it→(w.iterAt it s pos').heap[j]? = w.heap[j]?:=fun j hj=>Lib.iterAt_other w it j s pos' hj
  refine ⟨(far G hG).trans h.bk,Kd.bP (Kd.vg (Kd.mF h.row) fun k hk _=>far k ?_) fun k hk=>hk.1,Lib.iterAt_heap w it s pos pos' h.iter,Lib.below_iterAt h.bel h.lo s pos',h.lo⟩
  obtain ⟨_,_,_,q,_,cs,hc⟩:=hk
  rintro rfl
  rw [h.iter] at hc
  cases hc
theorem JS.grown {v1:Value} {ys:List ByteArray} (h:JS G it pos I s v xs w0 w) (hr:Kd.R Kd.string 9 w1 G (fun _=>True) v1 ys) (hb:Below G w0 w1) (hg:w.grownBy w1 v.ownBlock):JS G it pos I s v1 ys w0 w1:=by
  have hit:=(Array.getElem?_eq_some_iff.1 h.iter).1
  have n1:some G ≠ v.ownBlock:=fun e=>by
    obtain ⟨cs,hc⟩:=Kd.xh h.row G e.symm
    rw [h.bk] at hc
    injection hc with hc
    injection hc with _ hc _
    exact absurd hc (by decide)
  have n2:some it ≠ v.ownBlock:=fun e=>by
    obtain ⟨cs,hc⟩:=Kd.xh h.row it e.symm
    rw [h.iter] at hc
    cases hc
  exact ⟨(hg.block G h.size n1).trans h.bk,hr,(hg.block it hit n2).trans h.iter,hb,h.lo⟩
end
theorem Qy (s:ByteArray) (pos:Nat) (h:pos < s.size):s.data.toList.take (pos+1)=s.data.toList.take pos++[s[pos]'h]:=by
  have hl:pos < s.data.toList.length:=by simpa using h
  rw [List.take_succ_eq_append_getElem hl]
  rfl
theorem CJ:∀ o:Nat,1≤o→o≤15→(pX o).size≤3∧∀ ch ∈ (pX o).data.toList,ch.toNat < 128:=by
  intro o h1 h2
  obtain rfl|rfl|rfl|rfl|rfl|rfl|rfl|rfl|rfl|rfl|rfl|rfl|rfl|rfl|rfl:o=1 ∨ o=2 ∨ o=3 ∨ o=4 ∨ o=5 ∨ o=6 ∨ o=7 ∨ o=8 ∨ o=9 ∨ o=10 ∨ o=11 ∨ o=12 ∨ o=13 ∨ o=14 ∨ o=15:=by omega
  all_goals exact ⟨by decide,by decide⟩
set_option maxRecDepth 100000 in
set_option maxHeartbeats 3200000 in
theorem J7 (o:Nat) (a b c n:Int) (h1:1≤o) (h2:o≤15) (ha:0≤a∧a≤255) (hb:0≤b∧b≤255) (hc:0≤c∧c≤255) (hn:-9223372036854775808≤n∧n≤9223372036854775807) (w:World) (kP:Kd.C xu w xw mX.length mX) :
    Calls Tryd.prog 14 #[.agg #[.int .u8 o,.int .u8 a,.int .u8 b,.int .u8 c,.int .i64 n]] w fun e w'=>∃ Oo:Value,e=.returned (Oo)∧Kd.R Kd.string 9 w' w.heap.size (fun _=>True) Oo (vW o a b c n)∧Below w.heap.size w w':=by
  obtain ⟨hh3,hasc⟩:=CJ o h1 h2
  obtain ⟨nm,hnm⟩:∃ nm,nameOf o=nm:=⟨_,rfl⟩
  obtain ⟨hs,TN⟩:∃ hs,pX o=hs:=⟨_,rfl⟩
  obtain ⟨G,hG⟩:∃ G,w.heap.size=G:=⟨_,rfl⟩
  obtain ⟨w1,hw1⟩:∃ w1,w.alloc (.cells #[.int .u8 o,.int .u8 a,.int .u8 b,.int .u8 c,.int .i64 n] 35)=w1:=⟨_,rfl⟩
  obtain ⟨w2,hw2⟩:∃ w2,w1.alloc (.cells #[.string nm] 9)=w2:=⟨_,rfl⟩
  obtain ⟨w3,hw3⟩:∃ w3,w2.iter hs 0=w3:=⟨_,rfl⟩
  have hsz1:w1.heap.size=G+1:=by rw [← hw1,← hG];simp
  have hsz2:w2.heap.size=G+2:=by rw [← hw2];simp [hsz1]
  have hB1:Below G w w1:=by rw [← hw1,← hG];exact (Below.refl _ w).alloc (Nat.le_refl _) _
  have hB2:Below G w w2:=by rw [← hw2];exact hB1.alloc (by omega) _
  have hB3:Below G w w3:=by rw [← hw3];exact hB2.alloc (by omega) _
  have hT:=(xC kP).ops
  have hn1:w.cell? ⟨0,o * 2,none⟩=some (.string nm):=by rw [Aw hT (o * 2) (by omega),← hnm];rfl
  have hn2:w.cell? ⟨0,o * 2+1,none⟩=some (.string hs):=by rw [Aw hT (o * 2+1) (by omega),← TN];rfl
  have hlt0:0 < G:=by rw [← hG];exact World.block_lt_of_cell? w _ hn1
  have n1:w1.cell? ⟨0,o * 2,none⟩=some (.string nm):=(hB1.cell (p:=⟨0,o * 2,none⟩) hlt0).trans hn1
  have n2:w2.cell? ⟨0,o * 2+1,none⟩=some (.string hs):=(hB2.cell (p:=⟨0,o * 2+1,none⟩) hlt0).trans hn2
  have k0:w1.heap[G]? = some (.cells #[.int .u8 o,.int .u8 a,.int .u8 b,.int .u8 c,.int .i64 n] 35 (0,0)):=by rw [← hw1,← hG];exact heap_alloc_new w _
  have k1:w2.heap[G]? = some (.cells #[.int .u8 o,.int .u8 a,.int .u8 b,.int .u8 c,.int .i64 n] 35 (0,0)):=by rw [← hw2];exact (Below.heap_alloc w1 _ G (by omega)).trans k0
  have k2:w3.heap[G]? = some (.cells #[.int .u8 o,.int .u8 a,.int .u8 b,.int .u8 c,.int .i64 n] 35 (0,0)):=by rw [← hw3];exact (Below.heap_alloc w2 _ G (by omega)).trans k1
  have c1:w1.cell? ⟨G,0,none⟩=some (.int .u8 (o:Nat)):=by simp [World.cell?,k0]
  have c2:w2.cell? ⟨G,0,none⟩=some (.int .u8 (o:Nat)):=by simp [World.cell?,k1]
  have hR2:Kd.R Kd.string 9 w2 G (fun _=>True) (.slice (some ⟨G+1,0,none⟩) 1 1) [nm]:=by
    rw [← hw2,← hsz1]
    exact ⟨fun _ _=>trivial,kN.lit w1 G (ps:=[nm]) (Kd.Cf (enc:=Value.string) _) (by omega) (by simp)⟩
  have hW:JS G (G+2) 0 #[.int .u8 o,.int .u8 a,.int .u8 b,.int .u8 c,.int .i64 n] hs (.slice (some ⟨G+1,0,none⟩) 1 1) [nm] w w3 :=
    ⟨k2,by rw [← hw3];exact Kd.aC hR2 _,by rw [← hw3,← hsz2];exact World.iter_heap w2 hs 0,hB3,by omega⟩
  have ho1:(o:Int) < 16:=by omega
  have HA:=ah.mk hasc
  have HW:=ah.mk hW
  have HT:=ah.mk kP
  rw [TN] at HA hh3
  have H3:=Lib.hid hh3
  have e1:IntKind.i64.wrap a=a:=IntWalk.i64_in _ (by omega)
  have e2:IntKind.i64.wrap b=b:=IntWalk.i64_in _ (by omega)
  have e3:IntKind.i64.wrap c=c:=IntWalk.i64_in _ (by omega)
  have HWF:=Lib.hid (show vW o a b c n=nm :: hs.data.toList.map fun ch=>rV (qg a b c n ch.toNat) by rw [vW,hnm,TN])
  have HAB:=Lib.hid (show (0≤a∧a≤255)∧(0≤b∧b≤255)∧(0≤c∧c≤255)∧(-9223372036854775808≤n∧n≤9223372036854775807) from ⟨ha,hb,hc,hn⟩)
  clear hasc kP hT hn1 hn2 hlt0 k0 k1 k2 hR2 hW hB1 hB2 hB3 hh3 ha hb hc hn hnm TN h1 h2
  go_enter Tryd.func14,Tryd.ntmps14
  go_wp2
  clear hw1 hw2 hw3 n1 n2 c1 c2
  go_loopg [3] hs.size (fun kq v wr=>∃ (pos:Nat),kq+pos=hs.size∧ah (JS G (G+2) pos #[.int .u8 o,.int .u8 a,.int .u8 b,.int .u8 c,.int .i64 n] hs v (nm :: (hs.data.toList.take pos).map fun ch=>rV (qg a b c n ch.toNat)) w wr))
  case atStart=>exact ⟨0,Nat.add_zero _,HW⟩
  case round =>
  clear HW
  obtain ⟨pos,hpk,HX⟩:=hrel
  by_cases hp:pos < hs.size
  case neg =>
    have hnx:∀ ty,(Instr.next (.pointer (some ⟨G+2,0,none⟩)) true ty).run Tryd.prog wr=.ok (.tuple #[.bool false]) wr:=fun ty=>Lib.run_next_end_at wr (G+2) hs pos ty HX.out.iter hp
    have hall:(nm :: (hs.data.toList.take pos).map fun ch=>rV (qg a b c n ch.toNat))=vW o a b c n:=by
      rw [HWF.out,List.take_of_length_le (by simp;omega)]
    have hR:=HX.out.row
    rw [hall] at hR
    have HR:=ah.mk hR
    have HB:=ah.mk HX.out.bel
    clear hp hpk hall hR HX HWF
    go_wp2
    go_ret
    exact ⟨_,rfl,by have q:=HR.out;first|exact q|(rw [hG];exact q),by have q:=HB.out;first|exact q|(rw [hG];exact q)⟩
  have hch:=HA.out (hs[pos]'hp) (by simp [ByteArray.getElem_eq_getElem_data])
  obtain ⟨Wn,hWn⟩:∃ Wn,wr.iterAt (G+2) hs (pos+1)=Wn:=⟨_,rfl⟩
  have hnx:∀ ty,(Instr.next (.pointer (some ⟨G+2,0,none⟩)) true ty).run Tryd.prog wr=.ok (.tuple #[.bool true,.int .i64 pos,.int .i32 (hs[pos]'hp).toNat]) Wn:=fun ty=>by rw [← hWn];exact Lib.run_next_ascii_at wr (G+2) hs pos ty HX.out.iter hp hch
  replace HX:=ah.mk (show JS G (G+2) (pos+1) #[.int .u8 o,.int .u8 a,.int .u8 b,.int .u8 c,.int .i64 n] hs u3 (nm :: (hs.data.toList.take pos).map fun ch=>rV (qg a b c n ch.toNat)) w Wn from by rw [← hWn];exact HX.out.next (pos+1))
  obtain ⟨z,hz⟩:∃ z,qg a b c n (hs[pos]'hp).toNat=z:=⟨_,rfl⟩
  have hxs:(nm :: (hs.data.toList.take (pos+1)).map fun ch=>rV (qg a b c n ch.toNat))=(nm :: (hs.data.toList.take pos).map fun ch=>rV (qg a b c n ch.toNat))++[rV z]:=by
    rw [Qy hs pos hp,List.map_append,List.map_singleton,hz]
    rfl
  have hln:(nm :: (hs.data.toList.take pos).map fun ch=>rV (qg a b c n ch.toNat)).length≤4:=by
    have:=H3.out
    simp
    omega
  obtain ⟨xs,hxe⟩:∃ xs,(nm :: (hs.data.toList.take pos).map fun ch=>rV (qg a b c n ch.toNat))=xs:=⟨_,rfl⟩
  rw [hxe] at HX hxs hln
  have HXS:=Lib.hid hxs
  have Gq:=Lib.hid hln
  have Wp:=Lib.hid (show hs.size=gk+pos∧pos < hs.size from ⟨hpk.symm,hp⟩)
  obtain ⟨x,hx⟩:∃ x:Nat,(hs[pos]'hp).toNat=x:=⟨_,rfl⟩
  rw [hx] at hz hnx
  have c1:Wn.cell? ⟨G,1,none⟩=some (.int .u8 a):=HX.out.cell 1
  have c2:Wn.cell? ⟨G,2,none⟩=some (.int .u8 b):=HX.out.cell 2
  have c3:Wn.cell? ⟨G,3,none⟩=some (.int .u8 c):=HX.out.cell 3
  have c4:Wn.cell? ⟨G,4,none⟩=some (.int .i64 n):=HX.out.cell 4
  have hzb:-9223372036854775808≤z∧z≤9223372036854775807:=by
    have:=HAB.out
    rw [← hz,qg]
    split
    · omega
    · split
      · omega
      · split <;> omega
  have HZB:=Lib.hid hzb
  clear hWn hch hpk hxs hln hxe hzb hx
  by_cases d1:x=97
  case' pos =>
    subst d1
    obtain rfl:a=z:=by rw [← hz];rfl
  case' neg =>
    have b1:((x:Int) == 97)=false:=beq_eq_false_iff_ne.2 (by omega)
    by_cases d2:x=98
    case' pos =>
      subst d2
      obtain rfl:b=z:=by rw [← hz];rfl
    case' neg =>
      have b2:((x:Int) == 98)=false:=beq_eq_false_iff_ne.2 (by omega)
      by_cases d3:x=99
      case' pos =>
        subst d3
        obtain rfl:c=z:=by rw [← hz];rfl
      case' neg =>
        have b3:((x:Int) == 99)=false:=beq_eq_false_iff_ne.2 (by omega)
        obtain rfl:n=z:=by rw [← hz,qg,if_neg d1,if_neg d2,if_neg d3]
        clear d3
      clear d2
    clear d1
  all_goals
    clear hz
    go_wp2_with (first|(go_at_call 24;refine (kL.calls _ 10 (rV _) _ (Kd.dB HT.out (by rw [hG];exact HX.out.bel)) (by rw [kL.f,if_pos rfl,if_pos HZB.out];rfl)).mono ?_;rintro e w4 ⟨rfl,hb4⟩;replace HX:=ah.mk (HX.out.below hb4);clear hb4)|((with_reducible refine lH (b:=.append) (xs:=#[.tmp 40,.tmp 43]) rfl ?_);at_builtin;refine Kd.uf Kd.string (w0:=w) G rfl (.tmp 40) (.tmp 43) 22 9 (.string ⟨#[]⟩) 16 rfl Tryd.underlying22 info9 rfl (by decide) (by omega) u3 xs (rV _) [.string (rV _)] (fun _=>True) (fun _=>False) rfl rfl rfl (fun _ hk=>hk.elim) (fun _ _=>trivial) HX.out.row HX.out.bel (Nat.le_of_lt HX.out.size) (by have:=Gq.out;omega) ?_;intro v1 w5 ho hb5 hg5 acF;have HY:=ah.mk (HX.out.grown ho hb5 hg5);clear ho hb5 hg5 acF))
  all_goals go_roundg (gk - 1)
  all_goals first|(have:=Wp.out;omega)|exact ⟨pos+1,by have:=Wp.out;omega,by rw [HXS.out];exact HY⟩
theorem o6.calls (lV aX aZ jL kH:Int) (r:List ByteArray) (w:World) (kP:Kd.C xu w xw mX.length mX) (h:o6.f lV aX aZ jL kH=some r) :
    Calls Tryd.prog 14 #[.agg #[.int .u8 lV,.int .u8 aX,.int .u8 aZ,.int .u8 jL,.int .i64 kH]] w fun e w'=>∃ Oo:Value,e=.returned (Oo)∧Kd.R Kd.string 9 w' w.heap.size (fun _=>True) Oo r∧Below w.heap.size w w':=by
  unfold o6.f at h
  split at h
  · rename_i hc
    obtain ⟨h1,h2,h3,h4,h5⟩:=hc
    obtain ⟨o,rfl⟩:=Int.eq_ofNat_of_zero_le (show 0≤lV by omega)
    injection h with h
    subst h
    exact J7 o aX aZ jL kH (by omega) (by omega) h2 h3 h4 h5 w kP
  · cases h
end Go.Proofs.YtkclndkbccbhaaaDoor.P
end
