/- Parts of the proof of CodeParses: what the functions that it reaches compute, and plain facts about that. -/
import Derived.Test.YtkclndkbccbhaaaGreatDoorRac
import Derived.Lib.OthersKept
set_option linter.unusedVariables false
set_option linter.unusedSimpArgs false
section
namespace Go.Proofs.YtkclndkbccbhaaaGreatDoor.P
open Go.RowKit Go.Proofs.ag.bK Go.Proofs.ag.dV Go.Proofs.ag.fE
set_option maxRecDepth 100000 in
set_option maxHeartbeats 1600000 in
theorem TS (a1 a2 a3 a4:Int) (w:World) (lC:Kd.C Kd.string w uQ opsL.length opsL) :
    Calls Tryz.prog 11 #[.agg #[.int .u8 1,.int .u8 a1,.int .u8 a2,.int .u8 a3,.int .i64 a4]] w fun e w'=>e=.returned (.bool (a2 == 0 && a3 == 0))∧Below w.heap.size w w':=by
  have hmf:∀ (fn:Fn) (first cap:Array Value) (w:World),(Instr.makeFunc fn first cap).run Tryz.prog w=.ok (.func fn first cap) w:=fun _ _ _ _=>rfl
  have ht:=kN lC (.cells #[.int .u8 1,.int .u8 a1,.int .u8 a2,.int .u8 a3,.int .i64 a4] 27) 3 (by decide) ⟨#[97,110]⟩ rfl
  have hp:(w.alloc (.cells #[.int .u8 1,.int .u8 a1,.int .u8 a2,.int .u8 a3,.int .i64 a4] 27)).cell? ⟨w.heap.size,0,none⟩=some (.int .u8 (1:Nat)):=by simp
  have hb:Below w.heap.size w (w.alloc (.cells #[.int .u8 1,.int .u8 a1,.int .u8 a2,.int .u8 a3,.int .i64 a4] 27)):=(Below.refl _ w).alloc (Nat.le_refl _) _
  clear lC
  by_cases eb:a2=0
  · have gb:(a2 == 0)=true:=beq_iff_eq.2 eb
    clear eb
    by_cases ec:a3=0
    · have gc:(a3 == 0)=true:=beq_iff_eq.2 ec
      clear ec
      rw [show (a2 == 0 && a3 == 0)=true from by simp [gb,gc]]
      go_enter Tryz.func11,Tryz.ntmps11
      go_wp2_with fail
      refine (vw w.heap.size 1 3 rfl (by decide) _ hp ht).mono ?_
      rintro e w' ⟨rfl,rfl⟩
      go_wp2_with fail
      refine (zZ w.heap.size 1 3 rfl (by decide) _ hp ht).mono ?_
      rintro e w' ⟨rfl,rfl⟩
      go_wp2_with fail
      refine (II w.heap.size 1 3 rfl (by decide) _ hp ht).mono ?_
      rintro e w' ⟨rfl,rfl⟩
      go_wp2_with fail
      refine (IJ w.heap.size 1 3 rfl (by decide) _ hp ht).mono ?_
      rintro e w' ⟨rfl,rfl⟩
      go_wp2
      go_ret
      exact ⟨rfl,hb⟩
    · have gc:(a3 == 0)=false:=beq_eq_false_iff_ne.2 ec
      clear ec
      rw [show (a2 == 0 && a3 == 0)=false from by simp [gc]]
      go_enter Tryz.func11,Tryz.ntmps11
      go_wp2_with fail
      refine (vw w.heap.size 1 3 rfl (by decide) _ hp ht).mono ?_
      rintro e w' ⟨rfl,rfl⟩
      go_wp2_with fail
      refine (zZ w.heap.size 1 3 rfl (by decide) _ hp ht).mono ?_
      rintro e w' ⟨rfl,rfl⟩
      go_wp2
      go_ret
      exact ⟨rfl,hb⟩
  · have gb:(a2 == 0)=false:=beq_eq_false_iff_ne.2 eb
    clear eb
    rw [show (a2 == 0 && a3 == 0)=false from by simp [gb]]
    go_enter Tryz.func11,Tryz.ntmps11
    go_wp2_with fail
    refine (vw w.heap.size 1 3 rfl (by decide) _ hp ht).mono ?_
    rintro e w' ⟨rfl,rfl⟩
    go_wp2
    go_ret
    exact ⟨rfl,hb⟩
set_option maxRecDepth 100000 in
set_option maxHeartbeats 1600000 in
theorem TR (a1 a2 a3 a4:Int) (w:World) (lC:Kd.C Kd.string w uQ opsL.length opsL) :
    Calls Tryz.prog 11 #[.agg #[.int .u8 2,.int .u8 a1,.int .u8 a2,.int .u8 a3,.int .i64 a4]] w fun e w'=>e=.returned (.bool (a4 == 0))∧Below w.heap.size w w':=by
  have hmf:∀ (fn:Fn) (first cap:Array Value) (w:World),(Instr.makeFunc fn first cap).run Tryz.prog w=.ok (.func fn first cap) w:=fun _ _ _ _=>rfl
  have ht:=kN lC (.cells #[.int .u8 2,.int .u8 a1,.int .u8 a2,.int .u8 a3,.int .i64 a4] 27) 5 (by decide) ⟨#[97,98,99]⟩ rfl
  have hp:(w.alloc (.cells #[.int .u8 2,.int .u8 a1,.int .u8 a2,.int .u8 a3,.int .i64 a4] 27)).cell? ⟨w.heap.size,0,none⟩=some (.int .u8 (2:Nat)):=by simp
  have hb:Below w.heap.size w (w.alloc (.cells #[.int .u8 2,.int .u8 a1,.int .u8 a2,.int .u8 a3,.int .i64 a4] 27)):=(Below.refl _ w).alloc (Nat.le_refl _) _
  clear lC
  by_cases en:a4=0
  · have gn:(a4 == 0)=true:=beq_iff_eq.2 en
    clear en
    rw [show (a4 == 0)=true from by simp [gn]]
    go_enter Tryz.func11,Tryz.ntmps11
    go_wp2_with fail
    refine (yG w.heap.size 2 5 rfl (by decide) _ hp ht).mono ?_
    rintro e w' ⟨rfl,rfl⟩
    go_wp2_with fail
    refine (yF w.heap.size 2 5 rfl (by decide) _ hp ht).mono ?_
    rintro e w' ⟨rfl,rfl⟩
    go_wp2_with fail
    refine (yE w.heap.size 2 5 rfl (by decide) _ hp ht).mono ?_
    rintro e w' ⟨rfl,rfl⟩
    go_wp2_with fail
    refine (Fg w.heap.size 2 5 rfl (by decide) _ hp ht).mono ?_
    rintro e w' ⟨rfl,rfl⟩
    go_wp2
    go_ret
    exact ⟨rfl,hb⟩
  · have gn:(a4 == 0)=false:=beq_eq_false_iff_ne.2 en
    clear en
    rw [show (a4 == 0)=false from by simp [gn]]
    go_enter Tryz.func11,Tryz.ntmps11
    go_wp2_with fail
    refine (yG w.heap.size 2 5 rfl (by decide) _ hp ht).mono ?_
    rintro e w' ⟨rfl,rfl⟩
    go_wp2_with fail
    refine (yF w.heap.size 2 5 rfl (by decide) _ hp ht).mono ?_
    rintro e w' ⟨rfl,rfl⟩
    go_wp2_with fail
    refine (yE w.heap.size 2 5 rfl (by decide) _ hp ht).mono ?_
    rintro e w' ⟨rfl,rfl⟩
    go_wp2
    go_ret
    exact ⟨rfl,hb⟩
set_option maxRecDepth 100000 in
set_option maxHeartbeats 1600000 in
theorem TQ (a1 a2 a3 a4:Int) (w:World) (lC:Kd.C Kd.string w uQ opsL.length opsL) :
    Calls Tryz.prog 11 #[.agg #[.int .u8 3,.int .u8 a1,.int .u8 a2,.int .u8 a3,.int .i64 a4]] w fun e w'=>e=.returned (.bool (a2 == 0 && a3 == 0 && a1 == 0))∧Below w.heap.size w w':=by
  have hmf:∀ (fn:Fn) (first cap:Array Value) (w:World),(Instr.makeFunc fn first cap).run Tryz.prog w=.ok (.func fn first cap) w:=fun _ _ _ _=>rfl
  have ht:=kN lC (.cells #[.int .u8 3,.int .u8 a1,.int .u8 a2,.int .u8 a3,.int .i64 a4] 27) 7 (by decide) ⟨#[110]⟩ rfl
  have hp:(w.alloc (.cells #[.int .u8 3,.int .u8 a1,.int .u8 a2,.int .u8 a3,.int .i64 a4] 27)).cell? ⟨w.heap.size,0,none⟩=some (.int .u8 (3:Nat)):=by simp
  have hb:Below w.heap.size w (w.alloc (.cells #[.int .u8 3,.int .u8 a1,.int .u8 a2,.int .u8 a3,.int .i64 a4] 27)):=(Below.refl _ w).alloc (Nat.le_refl _) _
  clear lC
  by_cases eb:a2=0
  · have gb:(a2 == 0)=true:=beq_iff_eq.2 eb
    clear eb
    by_cases ec:a3=0
    · have gc:(a3 == 0)=true:=beq_iff_eq.2 ec
      clear ec
      by_cases ea:a1=0
      · have ga:(a1 == 0)=true:=beq_iff_eq.2 ea
        clear ea
        rw [show (a2 == 0 && a3 == 0 && a1 == 0)=true from by simp [gb,gc,ga]]
        go_enter Tryz.func11,Tryz.ntmps11
        go_wp2_with fail
        refine (CU w.heap.size 3 7 rfl (by decide) _ hp ht).mono ?_
        rintro e w' ⟨rfl,rfl⟩
        go_wp2_with fail
        refine (GH w.heap.size 3 7 rfl (by decide) _ hp ht).mono ?_
        rintro e w' ⟨rfl,rfl⟩
        go_wp2_with fail
        refine (Nb w.heap.size 3 7 rfl (by decide) _ hp ht).mono ?_
        rintro e w' ⟨rfl,rfl⟩
        go_wp2_with fail
        refine (Nc w.heap.size 3 7 rfl (by decide) _ hp ht).mono ?_
        rintro e w' ⟨rfl,rfl⟩
        go_wp2
        go_ret
        exact ⟨rfl,hb⟩
      · have ga:(a1 == 0)=false:=beq_eq_false_iff_ne.2 ea
        clear ea
        rw [show (a2 == 0 && a3 == 0 && a1 == 0)=false from by simp [ga]]
        go_enter Tryz.func11,Tryz.ntmps11
        go_wp2_with fail
        refine (CU w.heap.size 3 7 rfl (by decide) _ hp ht).mono ?_
        rintro e w' ⟨rfl,rfl⟩
        go_wp2_with fail
        refine (GH w.heap.size 3 7 rfl (by decide) _ hp ht).mono ?_
        rintro e w' ⟨rfl,rfl⟩
        go_wp2_with fail
        refine (Nb w.heap.size 3 7 rfl (by decide) _ hp ht).mono ?_
        rintro e w' ⟨rfl,rfl⟩
        go_wp2_with fail
        refine (Nc w.heap.size 3 7 rfl (by decide) _ hp ht).mono ?_
        rintro e w' ⟨rfl,rfl⟩
        go_wp2
        go_ret
        exact ⟨rfl,hb⟩
    · have gc:(a3 == 0)=false:=beq_eq_false_iff_ne.2 ec
      clear ec
      rw [show (a2 == 0 && a3 == 0 && a1 == 0)=false from by simp [gc]]
      go_enter Tryz.func11,Tryz.ntmps11
      go_wp2_with fail
      refine (CU w.heap.size 3 7 rfl (by decide) _ hp ht).mono ?_
      rintro e w' ⟨rfl,rfl⟩
      go_wp2_with fail
      refine (GH w.heap.size 3 7 rfl (by decide) _ hp ht).mono ?_
      rintro e w' ⟨rfl,rfl⟩
      go_wp2
      go_ret
      exact ⟨rfl,hb⟩
  · have gb:(a2 == 0)=false:=beq_eq_false_iff_ne.2 eb
    clear eb
    rw [show (a2 == 0 && a3 == 0 && a1 == 0)=false from by simp [gb]]
    go_enter Tryz.func11,Tryz.ntmps11
    go_wp2_with fail
    refine (CU w.heap.size 3 7 rfl (by decide) _ hp ht).mono ?_
    rintro e w' ⟨rfl,rfl⟩
    go_wp2
    go_ret
    exact ⟨rfl,hb⟩
set_option maxRecDepth 100000 in
set_option maxHeartbeats 1600000 in
theorem TP (a1 a2 a3 a4:Int) (w:World) (lC:Kd.C Kd.string w uQ opsL.length opsL) :
    Calls Tryz.prog 11 #[.agg #[.int .u8 4,.int .u8 a1,.int .u8 a2,.int .u8 a3,.int .i64 a4]] w fun e w'=>e=.returned (.bool (a2 == 0 && a3 == 0))∧Below w.heap.size w w':=by
  have hmf:∀ (fn:Fn) (first cap:Array Value) (w:World),(Instr.makeFunc fn first cap).run Tryz.prog w=.ok (.func fn first cap) w:=fun _ _ _ _=>rfl
  have ht:=kN lC (.cells #[.int .u8 4,.int .u8 a1,.int .u8 a2,.int .u8 a3,.int .i64 a4] 27) 9 (by decide) ⟨#[97,110]⟩ rfl
  have hp:(w.alloc (.cells #[.int .u8 4,.int .u8 a1,.int .u8 a2,.int .u8 a3,.int .i64 a4] 27)).cell? ⟨w.heap.size,0,none⟩=some (.int .u8 (4:Nat)):=by simp
  have hb:Below w.heap.size w (w.alloc (.cells #[.int .u8 4,.int .u8 a1,.int .u8 a2,.int .u8 a3,.int .i64 a4] 27)):=(Below.refl _ w).alloc (Nat.le_refl _) _
  clear lC
  by_cases eb:a2=0
  · have gb:(a2 == 0)=true:=beq_iff_eq.2 eb
    clear eb
    by_cases ec:a3=0
    · have gc:(a3 == 0)=true:=beq_iff_eq.2 ec
      clear ec
      rw [show (a2 == 0 && a3 == 0)=true from by simp [gb,gc]]
      go_enter Tryz.func11,Tryz.ntmps11
      go_wp2_with fail
      refine (vw w.heap.size 4 9 rfl (by decide) _ hp ht).mono ?_
      rintro e w' ⟨rfl,rfl⟩
      go_wp2_with fail
      refine (zZ w.heap.size 4 9 rfl (by decide) _ hp ht).mono ?_
      rintro e w' ⟨rfl,rfl⟩
      go_wp2_with fail
      refine (II w.heap.size 4 9 rfl (by decide) _ hp ht).mono ?_
      rintro e w' ⟨rfl,rfl⟩
      go_wp2_with fail
      refine (IJ w.heap.size 4 9 rfl (by decide) _ hp ht).mono ?_
      rintro e w' ⟨rfl,rfl⟩
      go_wp2
      go_ret
      exact ⟨rfl,hb⟩
    · have gc:(a3 == 0)=false:=beq_eq_false_iff_ne.2 ec
      clear ec
      rw [show (a2 == 0 && a3 == 0)=false from by simp [gc]]
      go_enter Tryz.func11,Tryz.ntmps11
      go_wp2_with fail
      refine (vw w.heap.size 4 9 rfl (by decide) _ hp ht).mono ?_
      rintro e w' ⟨rfl,rfl⟩
      go_wp2_with fail
      refine (zZ w.heap.size 4 9 rfl (by decide) _ hp ht).mono ?_
      rintro e w' ⟨rfl,rfl⟩
      go_wp2
      go_ret
      exact ⟨rfl,hb⟩
  · have gb:(a2 == 0)=false:=beq_eq_false_iff_ne.2 eb
    clear eb
    rw [show (a2 == 0 && a3 == 0)=false from by simp [gb]]
    go_enter Tryz.func11,Tryz.ntmps11
    go_wp2_with fail
    refine (vw w.heap.size 4 9 rfl (by decide) _ hp ht).mono ?_
    rintro e w' ⟨rfl,rfl⟩
    go_wp2
    go_ret
    exact ⟨rfl,hb⟩
set_option maxRecDepth 100000 in
set_option maxHeartbeats 1600000 in
theorem TN (a1 a2 a3 a4:Int) (w:World) (lC:Kd.C Kd.string w uQ opsL.length opsL) :
    Calls Tryz.prog 11 #[.agg #[.int .u8 5,.int .u8 a1,.int .u8 a2,.int .u8 a3,.int .i64 a4]] w fun e w'=>e=.returned (.bool (a2 == 0 && a3 == 0 && a4 == 0))∧Below w.heap.size w w':=by
  have hmf:∀ (fn:Fn) (first cap:Array Value) (w:World),(Instr.makeFunc fn first cap).run Tryz.prog w=.ok (.func fn first cap) w:=fun _ _ _ _=>rfl
  have ht:=kN lC (.cells #[.int .u8 5,.int .u8 a1,.int .u8 a2,.int .u8 a3,.int .i64 a4] 27) 11 (by decide) ⟨#[97]⟩ rfl
  have hp:(w.alloc (.cells #[.int .u8 5,.int .u8 a1,.int .u8 a2,.int .u8 a3,.int .i64 a4] 27)).cell? ⟨w.heap.size,0,none⟩=some (.int .u8 (5:Nat)):=by simp
  have hb:Below w.heap.size w (w.alloc (.cells #[.int .u8 5,.int .u8 a1,.int .u8 a2,.int .u8 a3,.int .i64 a4] 27)):=(Below.refl _ w).alloc (Nat.le_refl _) _
  clear lC
  by_cases eb:a2=0
  · have gb:(a2 == 0)=true:=beq_iff_eq.2 eb
    clear eb
    by_cases ec:a3=0
    · have gc:(a3 == 0)=true:=beq_iff_eq.2 ec
      clear ec
      by_cases en:a4=0
      · have gn:(a4 == 0)=true:=beq_iff_eq.2 en
        clear en
        rw [show (a2 == 0 && a3 == 0 && a4 == 0)=true from by simp [gb,gc,gn]]
        go_enter Tryz.func11,Tryz.ntmps11
        go_wp2_with fail
        refine (qc w.heap.size 5 11 rfl (by decide) _ hp ht).mono ?_
        rintro e w' ⟨rfl,rfl⟩
        go_wp2_with fail
        refine (tq w.heap.size 5 11 rfl (by decide) _ hp ht).mono ?_
        rintro e w' ⟨rfl,rfl⟩
        go_wp2_with fail
        refine (yH w.heap.size 5 11 rfl (by decide) _ hp ht).mono ?_
        rintro e w' ⟨rfl,rfl⟩
        go_wp2_with fail
        refine (GI w.heap.size 5 11 rfl (by decide) _ hp ht).mono ?_
        rintro e w' ⟨rfl,rfl⟩
        go_wp2
        go_ret
        exact ⟨rfl,hb⟩
      · have gn:(a4 == 0)=false:=beq_eq_false_iff_ne.2 en
        clear en
        rw [show (a2 == 0 && a3 == 0 && a4 == 0)=false from by simp [gn]]
        go_enter Tryz.func11,Tryz.ntmps11
        go_wp2_with fail
        refine (qc w.heap.size 5 11 rfl (by decide) _ hp ht).mono ?_
        rintro e w' ⟨rfl,rfl⟩
        go_wp2_with fail
        refine (tq w.heap.size 5 11 rfl (by decide) _ hp ht).mono ?_
        rintro e w' ⟨rfl,rfl⟩
        go_wp2_with fail
        refine (yH w.heap.size 5 11 rfl (by decide) _ hp ht).mono ?_
        rintro e w' ⟨rfl,rfl⟩
        go_wp2
        go_ret
        exact ⟨rfl,hb⟩
    · have gc:(a3 == 0)=false:=beq_eq_false_iff_ne.2 ec
      clear ec
      rw [show (a2 == 0 && a3 == 0 && a4 == 0)=false from by simp [gc]]
      go_enter Tryz.func11,Tryz.ntmps11
      go_wp2_with fail
      refine (qc w.heap.size 5 11 rfl (by decide) _ hp ht).mono ?_
      rintro e w' ⟨rfl,rfl⟩
      go_wp2_with fail
      refine (tq w.heap.size 5 11 rfl (by decide) _ hp ht).mono ?_
      rintro e w' ⟨rfl,rfl⟩
      go_wp2
      go_ret
      exact ⟨rfl,hb⟩
  · have gb:(a2 == 0)=false:=beq_eq_false_iff_ne.2 eb
    clear eb
    rw [show (a2 == 0 && a3 == 0 && a4 == 0)=false from by simp [gb]]
    go_enter Tryz.func11,Tryz.ntmps11
    go_wp2_with fail
    refine (qc w.heap.size 5 11 rfl (by decide) _ hp ht).mono ?_
    rintro e w' ⟨rfl,rfl⟩
    go_wp2
    go_ret
    exact ⟨rfl,hb⟩
set_option maxRecDepth 100000 in
set_option maxHeartbeats 1600000 in
theorem TM (a1 a2 a3 a4:Int) (w:World) (lC:Kd.C Kd.string w uQ opsL.length opsL) :
    Calls Tryz.prog 11 #[.agg #[.int .u8 6,.int .u8 a1,.int .u8 a2,.int .u8 a3,.int .i64 a4]] w fun e w'=>e=.returned (.bool (a2 == 0 && a3 == 0 && a4 == 0))∧Below w.heap.size w w':=by
  have hmf:∀ (fn:Fn) (first cap:Array Value) (w:World),(Instr.makeFunc fn first cap).run Tryz.prog w=.ok (.func fn first cap) w:=fun _ _ _ _=>rfl
  have ht:=kN lC (.cells #[.int .u8 6,.int .u8 a1,.int .u8 a2,.int .u8 a3,.int .i64 a4] 27) 13 (by decide) ⟨#[97]⟩ rfl
  have hp:(w.alloc (.cells #[.int .u8 6,.int .u8 a1,.int .u8 a2,.int .u8 a3,.int .i64 a4] 27)).cell? ⟨w.heap.size,0,none⟩=some (.int .u8 (6:Nat)):=by simp
  have hb:Below w.heap.size w (w.alloc (.cells #[.int .u8 6,.int .u8 a1,.int .u8 a2,.int .u8 a3,.int .i64 a4] 27)):=(Below.refl _ w).alloc (Nat.le_refl _) _
  clear lC
  by_cases eb:a2=0
  · have gb:(a2 == 0)=true:=beq_iff_eq.2 eb
    clear eb
    by_cases ec:a3=0
    · have gc:(a3 == 0)=true:=beq_iff_eq.2 ec
      clear ec
      by_cases en:a4=0
      · have gn:(a4 == 0)=true:=beq_iff_eq.2 en
        clear en
        rw [show (a2 == 0 && a3 == 0 && a4 == 0)=true from by simp [gb,gc,gn]]
        go_enter Tryz.func11,Tryz.ntmps11
        go_wp2_with fail
        refine (qc w.heap.size 6 13 rfl (by decide) _ hp ht).mono ?_
        rintro e w' ⟨rfl,rfl⟩
        go_wp2_with fail
        refine (tq w.heap.size 6 13 rfl (by decide) _ hp ht).mono ?_
        rintro e w' ⟨rfl,rfl⟩
        go_wp2_with fail
        refine (yH w.heap.size 6 13 rfl (by decide) _ hp ht).mono ?_
        rintro e w' ⟨rfl,rfl⟩
        go_wp2_with fail
        refine (GI w.heap.size 6 13 rfl (by decide) _ hp ht).mono ?_
        rintro e w' ⟨rfl,rfl⟩
        go_wp2
        go_ret
        exact ⟨rfl,hb⟩
      · have gn:(a4 == 0)=false:=beq_eq_false_iff_ne.2 en
        clear en
        rw [show (a2 == 0 && a3 == 0 && a4 == 0)=false from by simp [gn]]
        go_enter Tryz.func11,Tryz.ntmps11
        go_wp2_with fail
        refine (qc w.heap.size 6 13 rfl (by decide) _ hp ht).mono ?_
        rintro e w' ⟨rfl,rfl⟩
        go_wp2_with fail
        refine (tq w.heap.size 6 13 rfl (by decide) _ hp ht).mono ?_
        rintro e w' ⟨rfl,rfl⟩
        go_wp2_with fail
        refine (yH w.heap.size 6 13 rfl (by decide) _ hp ht).mono ?_
        rintro e w' ⟨rfl,rfl⟩
        go_wp2
        go_ret
        exact ⟨rfl,hb⟩
    · have gc:(a3 == 0)=false:=beq_eq_false_iff_ne.2 ec
      clear ec
      rw [show (a2 == 0 && a3 == 0 && a4 == 0)=false from by simp [gc]]
      go_enter Tryz.func11,Tryz.ntmps11
      go_wp2_with fail
      refine (qc w.heap.size 6 13 rfl (by decide) _ hp ht).mono ?_
      rintro e w' ⟨rfl,rfl⟩
      go_wp2_with fail
      refine (tq w.heap.size 6 13 rfl (by decide) _ hp ht).mono ?_
      rintro e w' ⟨rfl,rfl⟩
      go_wp2
      go_ret
      exact ⟨rfl,hb⟩
  · have gb:(a2 == 0)=false:=beq_eq_false_iff_ne.2 eb
    clear eb
    rw [show (a2 == 0 && a3 == 0 && a4 == 0)=false from by simp [gb]]
    go_enter Tryz.func11,Tryz.ntmps11
    go_wp2_with fail
    refine (qc w.heap.size 6 13 rfl (by decide) _ hp ht).mono ?_
    rintro e w' ⟨rfl,rfl⟩
    go_wp2
    go_ret
    exact ⟨rfl,hb⟩
set_option maxRecDepth 100000 in
set_option maxHeartbeats 1600000 in
theorem TL (a1 a2 a3 a4:Int) (w:World) (lC:Kd.C Kd.string w uQ opsL.length opsL) :
    Calls Tryz.prog 11 #[.agg #[.int .u8 7,.int .u8 a1,.int .u8 a2,.int .u8 a3,.int .i64 a4]] w fun e w'=>e=.returned (.bool (a3 == 0 && a4 == 0))∧Below w.heap.size w w':=by
  have hmf:∀ (fn:Fn) (first cap:Array Value) (w:World),(Instr.makeFunc fn first cap).run Tryz.prog w=.ok (.func fn first cap) w:=fun _ _ _ _=>rfl
  have ht:=kN lC (.cells #[.int .u8 7,.int .u8 a1,.int .u8 a2,.int .u8 a3,.int .i64 a4] 27) 15 (by decide) ⟨#[97,98]⟩ rfl
  have hp:(w.alloc (.cells #[.int .u8 7,.int .u8 a1,.int .u8 a2,.int .u8 a3,.int .i64 a4] 27)).cell? ⟨w.heap.size,0,none⟩=some (.int .u8 (7:Nat)):=by simp
  have hb:Below w.heap.size w (w.alloc (.cells #[.int .u8 7,.int .u8 a1,.int .u8 a2,.int .u8 a3,.int .i64 a4] 27)):=(Below.refl _ w).alloc (Nat.le_refl _) _
  clear lC
  by_cases ec:a3=0
  · have gc:(a3 == 0)=true:=beq_iff_eq.2 ec
    clear ec
    by_cases en:a4=0
    · have gn:(a4 == 0)=true:=beq_iff_eq.2 en
      clear en
      rw [show (a3 == 0 && a4 == 0)=true from by simp [gc,gn]]
      go_enter Tryz.func11,Tryz.ntmps11
      go_wp2_with fail
      refine (qO w.heap.size 7 15 rfl (by decide) _ hp ht).mono ?_
      rintro e w' ⟨rfl,rfl⟩
      go_wp2_with fail
      refine (qN w.heap.size 7 15 rfl (by decide) _ hp ht).mono ?_
      rintro e w' ⟨rfl,rfl⟩
      go_wp2_with fail
      refine (vz w.heap.size 7 15 rfl (by decide) _ hp ht).mono ?_
      rintro e w' ⟨rfl,rfl⟩
      go_wp2_with fail
      refine (DX w.heap.size 7 15 rfl (by decide) _ hp ht).mono ?_
      rintro e w' ⟨rfl,rfl⟩
      go_wp2
      go_ret
      exact ⟨rfl,hb⟩
    · have gn:(a4 == 0)=false:=beq_eq_false_iff_ne.2 en
      clear en
      rw [show (a3 == 0 && a4 == 0)=false from by simp [gn]]
      go_enter Tryz.func11,Tryz.ntmps11
      go_wp2_with fail
      refine (qO w.heap.size 7 15 rfl (by decide) _ hp ht).mono ?_
      rintro e w' ⟨rfl,rfl⟩
      go_wp2_with fail
      refine (qN w.heap.size 7 15 rfl (by decide) _ hp ht).mono ?_
      rintro e w' ⟨rfl,rfl⟩
      go_wp2_with fail
      refine (vz w.heap.size 7 15 rfl (by decide) _ hp ht).mono ?_
      rintro e w' ⟨rfl,rfl⟩
      go_wp2
      go_ret
      exact ⟨rfl,hb⟩
  · have gc:(a3 == 0)=false:=beq_eq_false_iff_ne.2 ec
    clear ec
    rw [show (a3 == 0 && a4 == 0)=false from by simp [gc]]
    go_enter Tryz.func11,Tryz.ntmps11
    go_wp2_with fail
    refine (qO w.heap.size 7 15 rfl (by decide) _ hp ht).mono ?_
    rintro e w' ⟨rfl,rfl⟩
    go_wp2_with fail
    refine (qN w.heap.size 7 15 rfl (by decide) _ hp ht).mono ?_
    rintro e w' ⟨rfl,rfl⟩
    go_wp2
    go_ret
    exact ⟨rfl,hb⟩
set_option maxRecDepth 100000 in
set_option maxHeartbeats 1600000 in
theorem TK (a1 a2 a3 a4:Int) (w:World) (lC:Kd.C Kd.string w uQ opsL.length opsL) :
    Calls Tryz.prog 11 #[.agg #[.int .u8 8,.int .u8 a1,.int .u8 a2,.int .u8 a3,.int .i64 a4]] w fun e w'=>e=.returned (.bool (a3 == 0))∧Below w.heap.size w w':=by
  have hmf:∀ (fn:Fn) (first cap:Array Value) (w:World),(Instr.makeFunc fn first cap).run Tryz.prog w=.ok (.func fn first cap) w:=fun _ _ _ _=>rfl
  have ht:=kN lC (.cells #[.int .u8 8,.int .u8 a1,.int .u8 a2,.int .u8 a3,.int .i64 a4] 27) 17 (by decide) ⟨#[97,98,110]⟩ rfl
  have hp:(w.alloc (.cells #[.int .u8 8,.int .u8 a1,.int .u8 a2,.int .u8 a3,.int .i64 a4] 27)).cell? ⟨w.heap.size,0,none⟩=some (.int .u8 (8:Nat)):=by simp
  have hb:Below w.heap.size w (w.alloc (.cells #[.int .u8 8,.int .u8 a1,.int .u8 a2,.int .u8 a3,.int .i64 a4] 27)):=(Below.refl _ w).alloc (Nat.le_refl _) _
  clear lC
  by_cases ec:a3=0
  · have gc:(a3 == 0)=true:=beq_iff_eq.2 ec
    clear ec
    rw [show (a3 == 0)=true from by simp [gc]]
    go_enter Tryz.func11,Tryz.ntmps11
    go_wp2_with fail
    refine (yD w.heap.size 8 17 rfl (by decide) _ hp ht).mono ?_
    rintro e w' ⟨rfl,rfl⟩
    go_wp2_with fail
    refine (yC w.heap.size 8 17 rfl (by decide) _ hp ht).mono ?_
    rintro e w' ⟨rfl,rfl⟩
    go_wp2_with fail
    refine (Fe w.heap.size 8 17 rfl (by decide) _ hp ht).mono ?_
    rintro e w' ⟨rfl,rfl⟩
    go_wp2_with fail
    refine (Ff w.heap.size 8 17 rfl (by decide) _ hp ht).mono ?_
    rintro e w' ⟨rfl,rfl⟩
    go_wp2
    go_ret
    exact ⟨rfl,hb⟩
  · have gc:(a3 == 0)=false:=beq_eq_false_iff_ne.2 ec
    clear ec
    rw [show (a3 == 0)=false from by simp [gc]]
    go_enter Tryz.func11,Tryz.ntmps11
    go_wp2_with fail
    refine (yD w.heap.size 8 17 rfl (by decide) _ hp ht).mono ?_
    rintro e w' ⟨rfl,rfl⟩
    go_wp2_with fail
    refine (yC w.heap.size 8 17 rfl (by decide) _ hp ht).mono ?_
    rintro e w' ⟨rfl,rfl⟩
    go_wp2
    go_ret
    exact ⟨rfl,hb⟩
set_option maxRecDepth 100000 in
set_option maxHeartbeats 1600000 in
theorem TJ (a1 a2 a3 a4:Int) (w:World) (lC:Kd.C Kd.string w uQ opsL.length opsL) :
    Calls Tryz.prog 11 #[.agg #[.int .u8 9,.int .u8 a1,.int .u8 a2,.int .u8 a3,.int .i64 a4]] w fun e w'=>e=.returned (.bool (a3 == 0))∧Below w.heap.size w w':=by
  have hmf:∀ (fn:Fn) (first cap:Array Value) (w:World),(Instr.makeFunc fn first cap).run Tryz.prog w=.ok (.func fn first cap) w:=fun _ _ _ _=>rfl
  have ht:=kN lC (.cells #[.int .u8 9,.int .u8 a1,.int .u8 a2,.int .u8 a3,.int .i64 a4] 27) 19 (by decide) ⟨#[97,110,98]⟩ rfl
  have hp:(w.alloc (.cells #[.int .u8 9,.int .u8 a1,.int .u8 a2,.int .u8 a3,.int .i64 a4] 27)).cell? ⟨w.heap.size,0,none⟩=some (.int .u8 (9:Nat)):=by simp
  have hb:Below w.heap.size w (w.alloc (.cells #[.int .u8 9,.int .u8 a1,.int .u8 a2,.int .u8 a3,.int .i64 a4] 27)):=(Below.refl _ w).alloc (Nat.le_refl _) _
  clear lC
  by_cases ec:a3=0
  · have gc:(a3 == 0)=true:=beq_iff_eq.2 ec
    clear ec
    rw [show (a3 == 0)=true from by simp [gc]]
    go_enter Tryz.func11,Tryz.ntmps11
    go_wp2_with fail
    refine (yB w.heap.size 9 19 rfl (by decide) _ hp ht).mono ?_
    rintro e w' ⟨rfl,rfl⟩
    go_wp2_with fail
    refine (yA w.heap.size 9 19 rfl (by decide) _ hp ht).mono ?_
    rintro e w' ⟨rfl,rfl⟩
    go_wp2_with fail
    refine (Fa w.heap.size 9 19 rfl (by decide) _ hp ht).mono ?_
    rintro e w' ⟨rfl,rfl⟩
    go_wp2_with fail
    refine (Fb w.heap.size 9 19 rfl (by decide) _ hp ht).mono ?_
    rintro e w' ⟨rfl,rfl⟩
    go_wp2
    go_ret
    exact ⟨rfl,hb⟩
  · have gc:(a3 == 0)=false:=beq_eq_false_iff_ne.2 ec
    clear ec
    rw [show (a3 == 0)=false from by simp [gc]]
    go_enter Tryz.func11,Tryz.ntmps11
    go_wp2_with fail
    refine (yB w.heap.size 9 19 rfl (by decide) _ hp ht).mono ?_
    rintro e w' ⟨rfl,rfl⟩
    go_wp2_with fail
    refine (yA w.heap.size 9 19 rfl (by decide) _ hp ht).mono ?_
    rintro e w' ⟨rfl,rfl⟩
    go_wp2
    go_ret
    exact ⟨rfl,hb⟩
set_option maxRecDepth 100000 in
set_option maxHeartbeats 1600000 in
theorem PT (a1 a2 a3 a4:Int) (w:World) (lC:Kd.C Kd.string w uQ opsL.length opsL) :
    Calls Tryz.prog 11 #[.agg #[.int .u8 10,.int .u8 a1,.int .u8 a2,.int .u8 a3,.int .i64 a4]] w fun e w'=>e=.returned (.bool (a3 == 0))∧Below w.heap.size w w':=by
  have hmf:∀ (fn:Fn) (first cap:Array Value) (w:World),(Instr.makeFunc fn first cap).run Tryz.prog w=.ok (.func fn first cap) w:=fun _ _ _ _=>rfl
  have ht:=kN lC (.cells #[.int .u8 10,.int .u8 a1,.int .u8 a2,.int .u8 a3,.int .i64 a4] 27) 21 (by decide) ⟨#[97,98,110]⟩ rfl
  have hp:(w.alloc (.cells #[.int .u8 10,.int .u8 a1,.int .u8 a2,.int .u8 a3,.int .i64 a4] 27)).cell? ⟨w.heap.size,0,none⟩=some (.int .u8 (10:Nat)):=by simp
  have hb:Below w.heap.size w (w.alloc (.cells #[.int .u8 10,.int .u8 a1,.int .u8 a2,.int .u8 a3,.int .i64 a4] 27)):=(Below.refl _ w).alloc (Nat.le_refl _) _
  clear lC
  by_cases ec:a3=0
  · have gc:(a3 == 0)=true:=beq_iff_eq.2 ec
    clear ec
    rw [show (a3 == 0)=true from by simp [gc]]
    go_enter Tryz.func11,Tryz.ntmps11
    go_wp2_with fail
    refine (yD w.heap.size 10 21 rfl (by decide) _ hp ht).mono ?_
    rintro e w' ⟨rfl,rfl⟩
    go_wp2_with fail
    refine (yC w.heap.size 10 21 rfl (by decide) _ hp ht).mono ?_
    rintro e w' ⟨rfl,rfl⟩
    go_wp2_with fail
    refine (Fe w.heap.size 10 21 rfl (by decide) _ hp ht).mono ?_
    rintro e w' ⟨rfl,rfl⟩
    go_wp2_with fail
    refine (Ff w.heap.size 10 21 rfl (by decide) _ hp ht).mono ?_
    rintro e w' ⟨rfl,rfl⟩
    go_wp2
    go_ret
    exact ⟨rfl,hb⟩
  · have gc:(a3 == 0)=false:=beq_eq_false_iff_ne.2 ec
    clear ec
    rw [show (a3 == 0)=false from by simp [gc]]
    go_enter Tryz.func11,Tryz.ntmps11
    go_wp2_with fail
    refine (yD w.heap.size 10 21 rfl (by decide) _ hp ht).mono ?_
    rintro e w' ⟨rfl,rfl⟩
    go_wp2_with fail
    refine (yC w.heap.size 10 21 rfl (by decide) _ hp ht).mono ?_
    rintro e w' ⟨rfl,rfl⟩
    go_wp2
    go_ret
    exact ⟨rfl,hb⟩
set_option maxRecDepth 100000 in
set_option maxHeartbeats 1600000 in
theorem PS (a1 a2 a3 a4:Int) (w:World) (lC:Kd.C Kd.string w uQ opsL.length opsL) :
    Calls Tryz.prog 11 #[.agg #[.int .u8 11,.int .u8 a1,.int .u8 a2,.int .u8 a3,.int .i64 a4]] w fun e w'=>e=.returned (.bool (a3 == 0))∧Below w.heap.size w w':=by
  have hmf:∀ (fn:Fn) (first cap:Array Value) (w:World),(Instr.makeFunc fn first cap).run Tryz.prog w=.ok (.func fn first cap) w:=fun _ _ _ _=>rfl
  have ht:=kN lC (.cells #[.int .u8 11,.int .u8 a1,.int .u8 a2,.int .u8 a3,.int .i64 a4] 27) 23 (by decide) ⟨#[97,110,98]⟩ rfl
  have hp:(w.alloc (.cells #[.int .u8 11,.int .u8 a1,.int .u8 a2,.int .u8 a3,.int .i64 a4] 27)).cell? ⟨w.heap.size,0,none⟩=some (.int .u8 (11:Nat)):=by simp
  have hb:Below w.heap.size w (w.alloc (.cells #[.int .u8 11,.int .u8 a1,.int .u8 a2,.int .u8 a3,.int .i64 a4] 27)):=(Below.refl _ w).alloc (Nat.le_refl _) _
  clear lC
  by_cases ec:a3=0
  · have gc:(a3 == 0)=true:=beq_iff_eq.2 ec
    clear ec
    rw [show (a3 == 0)=true from by simp [gc]]
    go_enter Tryz.func11,Tryz.ntmps11
    go_wp2_with fail
    refine (yB w.heap.size 11 23 rfl (by decide) _ hp ht).mono ?_
    rintro e w' ⟨rfl,rfl⟩
    go_wp2_with fail
    refine (yA w.heap.size 11 23 rfl (by decide) _ hp ht).mono ?_
    rintro e w' ⟨rfl,rfl⟩
    go_wp2_with fail
    refine (Fa w.heap.size 11 23 rfl (by decide) _ hp ht).mono ?_
    rintro e w' ⟨rfl,rfl⟩
    go_wp2_with fail
    refine (Fb w.heap.size 11 23 rfl (by decide) _ hp ht).mono ?_
    rintro e w' ⟨rfl,rfl⟩
    go_wp2
    go_ret
    exact ⟨rfl,hb⟩
  · have gc:(a3 == 0)=false:=beq_eq_false_iff_ne.2 ec
    clear ec
    rw [show (a3 == 0)=false from by simp [gc]]
    go_enter Tryz.func11,Tryz.ntmps11
    go_wp2_with fail
    refine (yB w.heap.size 11 23 rfl (by decide) _ hp ht).mono ?_
    rintro e w' ⟨rfl,rfl⟩
    go_wp2_with fail
    refine (yA w.heap.size 11 23 rfl (by decide) _ hp ht).mono ?_
    rintro e w' ⟨rfl,rfl⟩
    go_wp2
    go_ret
    exact ⟨rfl,hb⟩
set_option maxRecDepth 100000 in
set_option maxHeartbeats 1600000 in
theorem PR (a1 a2 a3 a4:Int) (w:World) (lC:Kd.C Kd.string w uQ opsL.length opsL) :
    Calls Tryz.prog 11 #[.agg #[.int .u8 12,.int .u8 a1,.int .u8 a2,.int .u8 a3,.int .i64 a4]] w fun e w'=>e=.returned (.bool (a3 == 0 && a4 == 0))∧Below w.heap.size w w':=by
  have hmf:∀ (fn:Fn) (first cap:Array Value) (w:World),(Instr.makeFunc fn first cap).run Tryz.prog w=.ok (.func fn first cap) w:=fun _ _ _ _=>rfl
  have ht:=kN lC (.cells #[.int .u8 12,.int .u8 a1,.int .u8 a2,.int .u8 a3,.int .i64 a4] 27) 25 (by decide) ⟨#[97,98]⟩ rfl
  have hp:(w.alloc (.cells #[.int .u8 12,.int .u8 a1,.int .u8 a2,.int .u8 a3,.int .i64 a4] 27)).cell? ⟨w.heap.size,0,none⟩=some (.int .u8 (12:Nat)):=by simp
  have hb:Below w.heap.size w (w.alloc (.cells #[.int .u8 12,.int .u8 a1,.int .u8 a2,.int .u8 a3,.int .i64 a4] 27)):=(Below.refl _ w).alloc (Nat.le_refl _) _
  clear lC
  by_cases ec:a3=0
  · have gc:(a3 == 0)=true:=beq_iff_eq.2 ec
    clear ec
    by_cases en:a4=0
    · have gn:(a4 == 0)=true:=beq_iff_eq.2 en
      clear en
      rw [show (a3 == 0 && a4 == 0)=true from by simp [gc,gn]]
      go_enter Tryz.func11,Tryz.ntmps11
      go_wp2_with fail
      refine (qO w.heap.size 12 25 rfl (by decide) _ hp ht).mono ?_
      rintro e w' ⟨rfl,rfl⟩
      go_wp2_with fail
      refine (qN w.heap.size 12 25 rfl (by decide) _ hp ht).mono ?_
      rintro e w' ⟨rfl,rfl⟩
      go_wp2_with fail
      refine (vz w.heap.size 12 25 rfl (by decide) _ hp ht).mono ?_
      rintro e w' ⟨rfl,rfl⟩
      go_wp2_with fail
      refine (DX w.heap.size 12 25 rfl (by decide) _ hp ht).mono ?_
      rintro e w' ⟨rfl,rfl⟩
      go_wp2
      go_ret
      exact ⟨rfl,hb⟩
    · have gn:(a4 == 0)=false:=beq_eq_false_iff_ne.2 en
      clear en
      rw [show (a3 == 0 && a4 == 0)=false from by simp [gn]]
      go_enter Tryz.func11,Tryz.ntmps11
      go_wp2_with fail
      refine (qO w.heap.size 12 25 rfl (by decide) _ hp ht).mono ?_
      rintro e w' ⟨rfl,rfl⟩
      go_wp2_with fail
      refine (qN w.heap.size 12 25 rfl (by decide) _ hp ht).mono ?_
      rintro e w' ⟨rfl,rfl⟩
      go_wp2_with fail
      refine (vz w.heap.size 12 25 rfl (by decide) _ hp ht).mono ?_
      rintro e w' ⟨rfl,rfl⟩
      go_wp2
      go_ret
      exact ⟨rfl,hb⟩
  · have gc:(a3 == 0)=false:=beq_eq_false_iff_ne.2 ec
    clear ec
    rw [show (a3 == 0 && a4 == 0)=false from by simp [gc]]
    go_enter Tryz.func11,Tryz.ntmps11
    go_wp2_with fail
    refine (qO w.heap.size 12 25 rfl (by decide) _ hp ht).mono ?_
    rintro e w' ⟨rfl,rfl⟩
    go_wp2_with fail
    refine (qN w.heap.size 12 25 rfl (by decide) _ hp ht).mono ?_
    rintro e w' ⟨rfl,rfl⟩
    go_wp2
    go_ret
    exact ⟨rfl,hb⟩
set_option maxRecDepth 100000 in
set_option maxHeartbeats 1600000 in
theorem PQ (a1 a2 a3 a4:Int) (w:World) (lC:Kd.C Kd.string w uQ opsL.length opsL) :
    Calls Tryz.prog 11 #[.agg #[.int .u8 13,.int .u8 a1,.int .u8 a2,.int .u8 a3,.int .i64 a4]] w fun e w'=>e=.returned (.bool (a3 == 0 && a4 == 0))∧Below w.heap.size w w':=by
  have hmf:∀ (fn:Fn) (first cap:Array Value) (w:World),(Instr.makeFunc fn first cap).run Tryz.prog w=.ok (.func fn first cap) w:=fun _ _ _ _=>rfl
  have ht:=kN lC (.cells #[.int .u8 13,.int .u8 a1,.int .u8 a2,.int .u8 a3,.int .i64 a4] 27) 27 (by decide) ⟨#[97,98]⟩ rfl
  have hp:(w.alloc (.cells #[.int .u8 13,.int .u8 a1,.int .u8 a2,.int .u8 a3,.int .i64 a4] 27)).cell? ⟨w.heap.size,0,none⟩=some (.int .u8 (13:Nat)):=by simp
  have hb:Below w.heap.size w (w.alloc (.cells #[.int .u8 13,.int .u8 a1,.int .u8 a2,.int .u8 a3,.int .i64 a4] 27)):=(Below.refl _ w).alloc (Nat.le_refl _) _
  clear lC
  by_cases ec:a3=0
  · have gc:(a3 == 0)=true:=beq_iff_eq.2 ec
    clear ec
    by_cases en:a4=0
    · have gn:(a4 == 0)=true:=beq_iff_eq.2 en
      clear en
      rw [show (a3 == 0 && a4 == 0)=true from by simp [gc,gn]]
      go_enter Tryz.func11,Tryz.ntmps11
      go_wp2_with fail
      refine (qO w.heap.size 13 27 rfl (by decide) _ hp ht).mono ?_
      rintro e w' ⟨rfl,rfl⟩
      go_wp2_with fail
      refine (qN w.heap.size 13 27 rfl (by decide) _ hp ht).mono ?_
      rintro e w' ⟨rfl,rfl⟩
      go_wp2_with fail
      refine (vz w.heap.size 13 27 rfl (by decide) _ hp ht).mono ?_
      rintro e w' ⟨rfl,rfl⟩
      go_wp2_with fail
      refine (DX w.heap.size 13 27 rfl (by decide) _ hp ht).mono ?_
      rintro e w' ⟨rfl,rfl⟩
      go_wp2
      go_ret
      exact ⟨rfl,hb⟩
    · have gn:(a4 == 0)=false:=beq_eq_false_iff_ne.2 en
      clear en
      rw [show (a3 == 0 && a4 == 0)=false from by simp [gn]]
      go_enter Tryz.func11,Tryz.ntmps11
      go_wp2_with fail
      refine (qO w.heap.size 13 27 rfl (by decide) _ hp ht).mono ?_
      rintro e w' ⟨rfl,rfl⟩
      go_wp2_with fail
      refine (qN w.heap.size 13 27 rfl (by decide) _ hp ht).mono ?_
      rintro e w' ⟨rfl,rfl⟩
      go_wp2_with fail
      refine (vz w.heap.size 13 27 rfl (by decide) _ hp ht).mono ?_
      rintro e w' ⟨rfl,rfl⟩
      go_wp2
      go_ret
      exact ⟨rfl,hb⟩
  · have gc:(a3 == 0)=false:=beq_eq_false_iff_ne.2 ec
    clear ec
    rw [show (a3 == 0 && a4 == 0)=false from by simp [gc]]
    go_enter Tryz.func11,Tryz.ntmps11
    go_wp2_with fail
    refine (qO w.heap.size 13 27 rfl (by decide) _ hp ht).mono ?_
    rintro e w' ⟨rfl,rfl⟩
    go_wp2_with fail
    refine (qN w.heap.size 13 27 rfl (by decide) _ hp ht).mono ?_
    rintro e w' ⟨rfl,rfl⟩
    go_wp2
    go_ret
    exact ⟨rfl,hb⟩
set_option maxRecDepth 100000 in
set_option maxHeartbeats 1600000 in
theorem PO (a1 a2 a3 a4:Int) (w:World) (lC:Kd.C Kd.string w uQ opsL.length opsL) :
    Calls Tryz.prog 11 #[.agg #[.int .u8 14,.int .u8 a1,.int .u8 a2,.int .u8 a3,.int .i64 a4]] w fun e w'=>e=.returned (.bool (a2 == 0 && a3 == 0 && a4 == 0))∧Below w.heap.size w w':=by
  have hmf:∀ (fn:Fn) (first cap:Array Value) (w:World),(Instr.makeFunc fn first cap).run Tryz.prog w=.ok (.func fn first cap) w:=fun _ _ _ _=>rfl
  have ht:=kN lC (.cells #[.int .u8 14,.int .u8 a1,.int .u8 a2,.int .u8 a3,.int .i64 a4] 27) 29 (by decide) ⟨#[97]⟩ rfl
  have hp:(w.alloc (.cells #[.int .u8 14,.int .u8 a1,.int .u8 a2,.int .u8 a3,.int .i64 a4] 27)).cell? ⟨w.heap.size,0,none⟩=some (.int .u8 (14:Nat)):=by simp
  have hb:Below w.heap.size w (w.alloc (.cells #[.int .u8 14,.int .u8 a1,.int .u8 a2,.int .u8 a3,.int .i64 a4] 27)):=(Below.refl _ w).alloc (Nat.le_refl _) _
  clear lC
  by_cases eb:a2=0
  · have gb:(a2 == 0)=true:=beq_iff_eq.2 eb
    clear eb
    by_cases ec:a3=0
    · have gc:(a3 == 0)=true:=beq_iff_eq.2 ec
      clear ec
      by_cases en:a4=0
      · have gn:(a4 == 0)=true:=beq_iff_eq.2 en
        clear en
        rw [show (a2 == 0 && a3 == 0 && a4 == 0)=true from by simp [gb,gc,gn]]
        go_enter Tryz.func11,Tryz.ntmps11
        go_wp2_with fail
        refine (qc w.heap.size 14 29 rfl (by decide) _ hp ht).mono ?_
        rintro e w' ⟨rfl,rfl⟩
        go_wp2_with fail
        refine (tq w.heap.size 14 29 rfl (by decide) _ hp ht).mono ?_
        rintro e w' ⟨rfl,rfl⟩
        go_wp2_with fail
        refine (yH w.heap.size 14 29 rfl (by decide) _ hp ht).mono ?_
        rintro e w' ⟨rfl,rfl⟩
        go_wp2_with fail
        refine (GI w.heap.size 14 29 rfl (by decide) _ hp ht).mono ?_
        rintro e w' ⟨rfl,rfl⟩
        go_wp2
        go_ret
        exact ⟨rfl,hb⟩
      · have gn:(a4 == 0)=false:=beq_eq_false_iff_ne.2 en
        clear en
        rw [show (a2 == 0 && a3 == 0 && a4 == 0)=false from by simp [gn]]
        go_enter Tryz.func11,Tryz.ntmps11
        go_wp2_with fail
        refine (qc w.heap.size 14 29 rfl (by decide) _ hp ht).mono ?_
        rintro e w' ⟨rfl,rfl⟩
        go_wp2_with fail
        refine (tq w.heap.size 14 29 rfl (by decide) _ hp ht).mono ?_
        rintro e w' ⟨rfl,rfl⟩
        go_wp2_with fail
        refine (yH w.heap.size 14 29 rfl (by decide) _ hp ht).mono ?_
        rintro e w' ⟨rfl,rfl⟩
        go_wp2
        go_ret
        exact ⟨rfl,hb⟩
    · have gc:(a3 == 0)=false:=beq_eq_false_iff_ne.2 ec
      clear ec
      rw [show (a2 == 0 && a3 == 0 && a4 == 0)=false from by simp [gc]]
      go_enter Tryz.func11,Tryz.ntmps11
      go_wp2_with fail
      refine (qc w.heap.size 14 29 rfl (by decide) _ hp ht).mono ?_
      rintro e w' ⟨rfl,rfl⟩
      go_wp2_with fail
      refine (tq w.heap.size 14 29 rfl (by decide) _ hp ht).mono ?_
      rintro e w' ⟨rfl,rfl⟩
      go_wp2
      go_ret
      exact ⟨rfl,hb⟩
  · have gb:(a2 == 0)=false:=beq_eq_false_iff_ne.2 eb
    clear eb
    rw [show (a2 == 0 && a3 == 0 && a4 == 0)=false from by simp [gb]]
    go_enter Tryz.func11,Tryz.ntmps11
    go_wp2_with fail
    refine (qc w.heap.size 14 29 rfl (by decide) _ hp ht).mono ?_
    rintro e w' ⟨rfl,rfl⟩
    go_wp2
    go_ret
    exact ⟨rfl,hb⟩
set_option maxRecDepth 100000 in
set_option maxHeartbeats 1600000 in
theorem PN (a1 a2 a3 a4:Int) (w:World) (lC:Kd.C Kd.string w uQ opsL.length opsL) :
    Calls Tryz.prog 11 #[.agg #[.int .u8 15,.int .u8 a1,.int .u8 a2,.int .u8 a3,.int .i64 a4]] w fun e w'=>e=.returned (.bool (a4 == 0))∧Below w.heap.size w w':=by
  have hmf:∀ (fn:Fn) (first cap:Array Value) (w:World),(Instr.makeFunc fn first cap).run Tryz.prog w=.ok (.func fn first cap) w:=fun _ _ _ _=>rfl
  have ht:=kN lC (.cells #[.int .u8 15,.int .u8 a1,.int .u8 a2,.int .u8 a3,.int .i64 a4] 27) 31 (by decide) ⟨#[97,98,99]⟩ rfl
  have hp:(w.alloc (.cells #[.int .u8 15,.int .u8 a1,.int .u8 a2,.int .u8 a3,.int .i64 a4] 27)).cell? ⟨w.heap.size,0,none⟩=some (.int .u8 (15:Nat)):=by simp
  have hb:Below w.heap.size w (w.alloc (.cells #[.int .u8 15,.int .u8 a1,.int .u8 a2,.int .u8 a3,.int .i64 a4] 27)):=(Below.refl _ w).alloc (Nat.le_refl _) _
  clear lC
  by_cases en:a4=0
  · have gn:(a4 == 0)=true:=beq_iff_eq.2 en
    clear en
    rw [show (a4 == 0)=true from by simp [gn]]
    go_enter Tryz.func11,Tryz.ntmps11
    go_wp2_with fail
    refine (yG w.heap.size 15 31 rfl (by decide) _ hp ht).mono ?_
    rintro e w' ⟨rfl,rfl⟩
    go_wp2_with fail
    refine (yF w.heap.size 15 31 rfl (by decide) _ hp ht).mono ?_
    rintro e w' ⟨rfl,rfl⟩
    go_wp2_with fail
    refine (yE w.heap.size 15 31 rfl (by decide) _ hp ht).mono ?_
    rintro e w' ⟨rfl,rfl⟩
    go_wp2_with fail
    refine (Fg w.heap.size 15 31 rfl (by decide) _ hp ht).mono ?_
    rintro e w' ⟨rfl,rfl⟩
    go_wp2
    go_ret
    exact ⟨rfl,hb⟩
  · have gn:(a4 == 0)=false:=beq_eq_false_iff_ne.2 en
    clear en
    rw [show (a4 == 0)=false from by simp [gn]]
    go_enter Tryz.func11,Tryz.ntmps11
    go_wp2_with fail
    refine (yG w.heap.size 15 31 rfl (by decide) _ hp ht).mono ?_
    rintro e w' ⟨rfl,rfl⟩
    go_wp2_with fail
    refine (yF w.heap.size 15 31 rfl (by decide) _ hp ht).mono ?_
    rintro e w' ⟨rfl,rfl⟩
    go_wp2_with fail
    refine (yE w.heap.size 15 31 rfl (by decide) _ hp ht).mono ?_
    rintro e w' ⟨rfl,rfl⟩
    go_wp2
    go_ret
    exact ⟨rfl,hb⟩
theorem Bd (gW:Int) (bU:Int) (bV:Int) (ik:Int) (iI:Int) (r:Bool) (w:World) (lC:Kd.C Kd.string w uQ opsL.length opsL) (h:ig.f gW bU bV ik iI=some r) :
    Calls Tryz.prog 11 #[.agg #[.int .u8 gW,.int .u8 bU,.int .u8 bV,.int .u8 ik,.int .i64 iI]] w fun e w'=>e=.returned (.bool r)∧Below w.heap.size w w':=by
  have hb:Below w.heap.size w (w.alloc (.cells #[.int .u8 gW,.int .u8 bU,.int .u8 bV,.int .u8 ik,.int .i64 iI] 27)):=(Below.refl _ w).alloc (Nat.le_refl _) _
  unfold ig.f at h
  by_cases h1:gW < 1
  · rw [if_pos h1] at h
    injection h with h
    subst h
    have h1':decide (gW < 1)=true:=decide_eq_true h1
    clear h1 lC
    go_enter Tryz.func11,Tryz.ntmps11
    go_wp2
    go_ret
    exact ⟨rfl,hb⟩
  rw [if_neg h1] at h
  by_cases h2:gW > 15
  · rw [if_pos h2] at h
    injection h with h
    subst h
    have h1':decide (gW < 1)=false:=decide_eq_false h1
    have h2':decide (15 < gW)=true:=decide_eq_true h2
    clear h1 h2 lC
    go_enter Tryz.func11,Tryz.ntmps11
    go_wp2
    go_ret
    exact ⟨rfl,hb⟩
  rw [if_neg h2] at h
  injection h with h
  subst h
  have hk:gW=1 ∨ gW=2 ∨ gW=3 ∨ gW=4 ∨ gW=5 ∨ gW=6 ∨ gW=7 ∨ gW=8 ∨ gW=9 ∨ gW=10 ∨ gW=11 ∨ gW=12 ∨ gW=13 ∨ gW=14 ∨ gW=15:=by omega
  rcases hk with rfl|rfl|rfl|rfl|rfl|rfl|rfl|rfl|rfl|rfl|rfl|rfl|rfl|rfl|rfl
  · rw [show ((hasB 1 98 || bV == 0) && (hasB 1 99 || ik == 0) && (hasB 1 110 || iI == 0) && (hasB 1 97 || bU == 0))=(bV == 0 && ik == 0) from by simp [hasB,letters]]
    exact TS bU bV ik iI w lC
  · rw [show ((hasB 2 98 || bV == 0) && (hasB 2 99 || ik == 0) && (hasB 2 110 || iI == 0) && (hasB 2 97 || bU == 0))=(iI == 0) from by simp [hasB,letters]]
    exact TR bU bV ik iI w lC
  · rw [show ((hasB 3 98 || bV == 0) && (hasB 3 99 || ik == 0) && (hasB 3 110 || iI == 0) && (hasB 3 97 || bU == 0))=(bV == 0 && ik == 0 && bU == 0) from by simp [hasB,letters]]
    exact TQ bU bV ik iI w lC
  · rw [show ((hasB 4 98 || bV == 0) && (hasB 4 99 || ik == 0) && (hasB 4 110 || iI == 0) && (hasB 4 97 || bU == 0))=(bV == 0 && ik == 0) from by simp [hasB,letters]]
    exact TP bU bV ik iI w lC
  · rw [show ((hasB 5 98 || bV == 0) && (hasB 5 99 || ik == 0) && (hasB 5 110 || iI == 0) && (hasB 5 97 || bU == 0))=(bV == 0 && ik == 0 && iI == 0) from by simp [hasB,letters]]
    exact TN bU bV ik iI w lC
  · rw [show ((hasB 6 98 || bV == 0) && (hasB 6 99 || ik == 0) && (hasB 6 110 || iI == 0) && (hasB 6 97 || bU == 0))=(bV == 0 && ik == 0 && iI == 0) from by simp [hasB,letters]]
    exact TM bU bV ik iI w lC
  · rw [show ((hasB 7 98 || bV == 0) && (hasB 7 99 || ik == 0) && (hasB 7 110 || iI == 0) && (hasB 7 97 || bU == 0))=(ik == 0 && iI == 0) from by simp [hasB,letters]]
    exact TL bU bV ik iI w lC
  · rw [show ((hasB 8 98 || bV == 0) && (hasB 8 99 || ik == 0) && (hasB 8 110 || iI == 0) && (hasB 8 97 || bU == 0))=(ik == 0) from by simp [hasB,letters]]
    exact TK bU bV ik iI w lC
  · rw [show ((hasB 9 98 || bV == 0) && (hasB 9 99 || ik == 0) && (hasB 9 110 || iI == 0) && (hasB 9 97 || bU == 0))=(ik == 0) from by simp [hasB,letters]]
    exact TJ bU bV ik iI w lC
  · rw [show ((hasB 10 98 || bV == 0) && (hasB 10 99 || ik == 0) && (hasB 10 110 || iI == 0) && (hasB 10 97 || bU == 0))=(ik == 0) from by simp [hasB,letters]]
    exact PT bU bV ik iI w lC
  · rw [show ((hasB 11 98 || bV == 0) && (hasB 11 99 || ik == 0) && (hasB 11 110 || iI == 0) && (hasB 11 97 || bU == 0))=(ik == 0) from by simp [hasB,letters]]
    exact PS bU bV ik iI w lC
  · rw [show ((hasB 12 98 || bV == 0) && (hasB 12 99 || ik == 0) && (hasB 12 110 || iI == 0) && (hasB 12 97 || bU == 0))=(ik == 0 && iI == 0) from by simp [hasB,letters]]
    exact PR bU bV ik iI w lC
  · rw [show ((hasB 13 98 || bV == 0) && (hasB 13 99 || ik == 0) && (hasB 13 110 || iI == 0) && (hasB 13 97 || bU == 0))=(ik == 0 && iI == 0) from by simp [hasB,letters]]
    exact PQ bU bV ik iI w lC
  · rw [show ((hasB 14 98 || bV == 0) && (hasB 14 99 || ik == 0) && (hasB 14 110 || iI == 0) && (hasB 14 97 || bU == 0))=(bV == 0 && ik == 0 && iI == 0) from by simp [hasB,letters]]
    exact PO bU bV ik iI w lC
  · rw [show ((hasB 15 98 || bV == 0) && (hasB 15 99 || ik == 0) && (hasB 15 110 || iI == 0) && (hasB 15 97 || bU == 0))=(iI == 0) from by simp [hasB,letters]]
    exact PN bU bV ik iI w lC
theorem ig.calls (gW:Int) (bU:Int) (bV:Int) (ik:Int) (iI:Int) (r:Bool) (w:World) (lC:Kd.C xE w xG oL.length oL) (h:ig.f gW bU bV ik iI=some r) :
    Calls Tryz.prog 11 #[.agg #[.int .u8 gW,.int .u8 bU,.int .u8 bV,.int .u8 ik,.int .i64 iI]] w fun e w'=>e=.returned (.bool r)∧Below w.heap.size w w':=Bd gW bU bV ik iI r w (xC lC).ops h
end Go.Proofs.YtkclndkbccbhaaaGreatDoor.P
end
section
namespace Go.Proofs.YtkclndkbccbhaaaGreatDoor.P
open Go.RowKit Go.Proofs.ag.bK Go.Proofs.ag.dV Go.Proofs.ag.fE
def vK (a b c n:Int) (ch:Nat):Int:=if ch=97 then a else if ch=98 then b else if ch=99 then c else n
def nameOf (o:Nat):ByteArray:=opsL.getD (o * 2) ByteArray.empty
def pF (o:Nat):ByteArray:=opsL.getD (o * 2+1) ByteArray.empty
def rU (n:Int):ByteArray:=⟨(Lib.itoa n).toArray⟩
def AA (o:Nat) (a b c n:Int):List ByteArray:=nameOf o :: (pF o).data.toList.map fun ch=>rU (vK a b c n ch.toNat)
def uf.f (gW bU bV ik iI:Int):Option (List ByteArray) :=
  if (1≤gW∧gW≤15)∧(0≤bU∧bU≤255)∧(0≤bV∧bV≤255)∧(0≤ik∧ik≤255)∧(-9223372036854775808≤iI∧iI≤9223372036854775807) then some (AA gW.toNat bU bV ik iI) else none
structure GV (G it pos:Nat) (I:Array Value) (s:ByteArray) (v:Value) (xs:List ByteArray) (w0 w:World):Prop where
  bk:w.heap[G]? = some (.cells I 27 (0,0))
  row:Kd.R Kd.string 9 w G (fun _=>True) v xs
  iter:w.heap[it]? = some (.stringIter s pos)
  bel:Below G w0 w
  lo:G≤it
section
variable {G it pos:Nat} {I:Array Value} {s:ByteArray} {v:Value} {xs:List ByteArray} {w0 w w1:World}
theorem GV.size (h:GV G it pos I s v xs w0 w):G < w.heap.size:=(Array.getElem?_eq_some_iff.1 h.bk).1
theorem GV.cell (h:GV G it pos I s v xs w0 w) (j:Nat):w.cell? ⟨G,j,none⟩=I[j]?:=by simp [World.cell?,h.bk]
theorem GV.below (h:GV G it pos I s v xs w0 w) (hb:Below w.heap.size w w1):GV G it pos I s v xs w0 w1 :=
  ⟨(hb.block G h.size).trans h.bk,Kd.dD h.row hb,(hb.block it (Array.getElem?_eq_some_iff.1 h.iter).1).trans h.iter,h.bel.trans (hb.mono (Nat.le_of_lt h.size)),h.lo⟩
theorem GV.alloc (h:GV G it pos I s v xs w0 w) (o:Obj):GV G it pos I s v xs w0 (w.alloc o):=h.below ((Below.refl _ w).alloc (Nat.le_refl _) o)
theorem GV.next (h:GV G it pos I s v xs w0 w) (pos':Nat):GV G it pos' I s v xs w0 (w.iterAt it s pos'):=by
  have hG:G ≠ it:=by
    rintro rfl
    have q:=h.iter
    rw [h.bk] at q
    cases q
  have far:∀ j,j ≠ it→(w.iterAt it s pos').heap[j]? = w.heap[j]?:=fun j hj=>Lib.iterAt_other w it j s pos' hj
  refine ⟨(far G hG).trans h.bk,Kd.dm (Kd.uT (Kd.nM h.row) fun k hk _=>far k ?_) fun k hk=>hk.1,Lib.iterAt_heap w it s pos pos' h.iter,Lib.below_iterAt h.bel h.lo s pos',h.lo⟩
  obtain ⟨_,_,_,q,_,cs,hc⟩:=hk
  rintro rfl
  rw [h.iter] at hc
  cases hc
theorem GV.grown {v1:Value} {ys:List ByteArray} (h:GV G it pos I s v xs w0 w) (hr:Kd.R Kd.string 9 w1 G (fun _=>True) v1 ys) (hb:Below G w0 w1) (hg:w.grownBy w1 v.ownBlock):GV G it pos I s v1 ys w0 w1:=by
  have hit:=(Array.getElem?_eq_some_iff.1 h.iter).1
  have n1:some G ≠ v.ownBlock:=fun e=>by
    obtain ⟨cs,hc⟩:=Kd.rF h.row G e.symm
    rw [h.bk] at hc
    injection hc with hc
    injection hc with _ hc _
    exact absurd hc (by decide)
  have n2:some it ≠ v.ownBlock:=fun e=>by
    obtain ⟨cs,hc⟩:=Kd.rF h.row it e.symm
    rw [h.iter] at hc
    cases hc
  exact ⟨(hg.block G h.size n1).trans h.bk,hr,(hg.block it hit n2).trans h.iter,hb,h.lo⟩
end
theorem NT (s:ByteArray) (pos:Nat) (h:pos < s.size):s.data.toList.take (pos+1)=s.data.toList.take pos++[s[pos]'h]:=by
  have hl:pos < s.data.toList.length:=by simpa using h
  rw [List.take_succ_eq_append_getElem hl]
  rfl
theorem BH:∀ o:Nat,1≤o→o≤15→(pF o).size≤3∧∀ ch ∈ (pF o).data.toList,ch.toNat < 128:=by
  intro o h1 h2
  obtain rfl|rfl|rfl|rfl|rfl|rfl|rfl|rfl|rfl|rfl|rfl|rfl|rfl|rfl|rfl:o=1 ∨ o=2 ∨ o=3 ∨ o=4 ∨ o=5 ∨ o=6 ∨ o=7 ∨ o=8 ∨ o=9 ∨ o=10 ∨ o=11 ∨ o=12 ∨ o=13 ∨ o=14 ∨ o=15:=by omega
  all_goals exact ⟨by decide,by decide⟩
set_option maxRecDepth 100000 in
set_option maxHeartbeats 3200000 in
theorem He (o:Nat) (a b c n:Int) (h1:1≤o) (h2:o≤15) (ha:0≤a∧a≤255) (hb:0≤b∧b≤255) (hc:0≤c∧c≤255) (hn:-9223372036854775808≤n∧n≤9223372036854775807) (w:World) (lC:Kd.C xE w xG oL.length oL) :
    Calls Tryz.prog 20 #[.agg #[.int .u8 o,.int .u8 a,.int .u8 b,.int .u8 c,.int .i64 n]] w fun e w'=>∃ Df:Value,e=.returned (Df)∧Kd.R Kd.string 9 w' w.heap.size (fun _=>True) Df (AA o a b c n)∧Below w.heap.size w w':=by
  obtain ⟨hh3,hasc⟩:=BH o h1 h2
  obtain ⟨nm,hnm⟩:∃ nm,nameOf o=nm:=⟨_,rfl⟩
  obtain ⟨hs,Qv⟩:∃ hs,pF o=hs:=⟨_,rfl⟩
  obtain ⟨G,hG⟩:∃ G,w.heap.size=G:=⟨_,rfl⟩
  obtain ⟨w1,hw1⟩:∃ w1,w.alloc (.cells #[.int .u8 o,.int .u8 a,.int .u8 b,.int .u8 c,.int .i64 n] 27)=w1:=⟨_,rfl⟩
  obtain ⟨w2,hw2⟩:∃ w2,w1.alloc (.cells #[.string nm] 9)=w2:=⟨_,rfl⟩
  obtain ⟨w3,hw3⟩:∃ w3,w2.iter hs 0=w3:=⟨_,rfl⟩
  have hsz1:w1.heap.size=G+1:=by rw [← hw1,← hG];simp
  have hsz2:w2.heap.size=G+2:=by rw [← hw2];simp [hsz1]
  have hB1:Below G w w1:=by rw [← hw1,← hG];exact (Below.refl _ w).alloc (Nat.le_refl _) _
  have hB2:Below G w w2:=by rw [← hw2];exact hB1.alloc (by omega) _
  have hB3:Below G w w3:=by rw [← hw3];exact hB2.alloc (by omega) _
  have hT:=(xC lC).ops
  have hn1:w.cell? ⟨0,o * 2,none⟩=some (.string nm):=by rw [zJ hT (o * 2) (by omega),← hnm];rfl
  have hn2:w.cell? ⟨0,o * 2+1,none⟩=some (.string hs):=by rw [zJ hT (o * 2+1) (by omega),← Qv];rfl
  have hlt0:0 < G:=by rw [← hG];exact World.block_lt_of_cell? w _ hn1
  have n1:w1.cell? ⟨0,o * 2,none⟩=some (.string nm):=(hB1.cell (p:=⟨0,o * 2,none⟩) hlt0).trans hn1
  have n2:w2.cell? ⟨0,o * 2+1,none⟩=some (.string hs):=(hB2.cell (p:=⟨0,o * 2+1,none⟩) hlt0).trans hn2
  have k0:w1.heap[G]? = some (.cells #[.int .u8 o,.int .u8 a,.int .u8 b,.int .u8 c,.int .i64 n] 27 (0,0)):=by rw [← hw1,← hG];exact heap_alloc_new w _
  have k1:w2.heap[G]? = some (.cells #[.int .u8 o,.int .u8 a,.int .u8 b,.int .u8 c,.int .i64 n] 27 (0,0)):=by rw [← hw2];exact (Below.heap_alloc w1 _ G (by omega)).trans k0
  have k2:w3.heap[G]? = some (.cells #[.int .u8 o,.int .u8 a,.int .u8 b,.int .u8 c,.int .i64 n] 27 (0,0)):=by rw [← hw3];exact (Below.heap_alloc w2 _ G (by omega)).trans k1
  have c1:w1.cell? ⟨G,0,none⟩=some (.int .u8 (o:Nat)):=by simp [World.cell?,k0]
  have c2:w2.cell? ⟨G,0,none⟩=some (.int .u8 (o:Nat)):=by simp [World.cell?,k1]
  have hR2:Kd.R Kd.string 9 w2 G (fun _=>True) (.slice (some ⟨G+1,0,none⟩) 1 1) [nm]:=by
    rw [← hw2,← hsz1]
    exact ⟨fun _ _=>trivial,kY.lit w1 G (ps:=[nm]) (Kd.Bo (enc:=Value.string) _) (by omega) (by simp)⟩
  have hW:GV G (G+2) 0 #[.int .u8 o,.int .u8 a,.int .u8 b,.int .u8 c,.int .i64 n] hs (.slice (some ⟨G+1,0,none⟩) 1 1) [nm] w w3 :=
    ⟨k2,by rw [← hw3];exact Kd.aX hR2 _,by rw [← hw3,← hsz2];exact World.iter_heap w2 hs 0,hB3,by omega⟩
  have ho1:(o:Int) < 16:=by omega
  have HA:=ae.mk hasc
  have HW:=ae.mk hW
  have HT:=ae.mk lC
  rw [Qv] at HA hh3
  have H3:=Lib.hid hh3
  have e1:IntKind.i64.wrap a=a:=IntWalk.i64_in _ (by omega)
  have e2:IntKind.i64.wrap b=b:=IntWalk.i64_in _ (by omega)
  have e3:IntKind.i64.wrap c=c:=IntWalk.i64_in _ (by omega)
  have HWF:=Lib.hid (show AA o a b c n=nm :: hs.data.toList.map fun ch=>rU (vK a b c n ch.toNat) by rw [AA,hnm,Qv])
  have HAB:=Lib.hid (show (0≤a∧a≤255)∧(0≤b∧b≤255)∧(0≤c∧c≤255)∧(-9223372036854775808≤n∧n≤9223372036854775807) from ⟨ha,hb,hc,hn⟩)
  clear hasc lC hT hn1 hn2 hlt0 k0 k1 k2 hR2 hW hB1 hB2 hB3 hh3 ha hb hc hn hnm Qv h1 h2
  go_enter Tryz.func20,Tryz.ntmps20
  go_wp2
  clear hw1 hw2 hw3 n1 n2 c1 c2
  go_loopg [3] hs.size (fun kq v wr=>∃ (pos:Nat),kq+pos=hs.size∧ae (GV G (G+2) pos #[.int .u8 o,.int .u8 a,.int .u8 b,.int .u8 c,.int .i64 n] hs v (nm :: (hs.data.toList.take pos).map fun ch=>rU (vK a b c n ch.toNat)) w wr))
  case atStart=>exact ⟨0,Nat.add_zero _,HW⟩
  case round =>
  clear HW
  obtain ⟨pos,hpk,HX⟩:=hrel
  by_cases hp:pos < hs.size
  case neg =>
    have hnx:∀ ty,(Instr.next (.pointer (some ⟨G+2,0,none⟩)) true ty).run Tryz.prog wr=.ok (.tuple #[.bool false]) wr:=fun ty=>Lib.run_next_end_at wr (G+2) hs pos ty HX.out.iter hp
    have hall:(nm :: (hs.data.toList.take pos).map fun ch=>rU (vK a b c n ch.toNat))=AA o a b c n:=by
      rw [HWF.out,List.take_of_length_le (by simp;omega)]
    have hR:=HX.out.row
    rw [hall] at hR
    have HR:=ae.mk hR
    have HB:=ae.mk HX.out.bel
    clear hp hpk hall hR HX HWF
    go_wp2
    go_ret
    exact ⟨_,rfl,by have q:=HR.out;first|exact q|(rw [hG];exact q),by have q:=HB.out;first|exact q|(rw [hG];exact q)⟩
  have hch:=HA.out (hs[pos]'hp) (by simp [ByteArray.getElem_eq_getElem_data])
  obtain ⟨Wn,ZY⟩:∃ Wn,wr.iterAt (G+2) hs (pos+1)=Wn:=⟨_,rfl⟩
  have hnx:∀ ty,(Instr.next (.pointer (some ⟨G+2,0,none⟩)) true ty).run Tryz.prog wr=.ok (.tuple #[.bool true,.int .i64 pos,.int .i32 (hs[pos]'hp).toNat]) Wn:=fun ty=>by rw [← ZY];exact Lib.run_next_ascii_at wr (G+2) hs pos ty HX.out.iter hp hch
  replace HX:=ae.mk (show GV G (G+2) (pos+1) #[.int .u8 o,.int .u8 a,.int .u8 b,.int .u8 c,.int .i64 n] hs u3 (nm :: (hs.data.toList.take pos).map fun ch=>rU (vK a b c n ch.toNat)) w Wn from by rw [← ZY];exact HX.out.next (pos+1))
  obtain ⟨z,hz⟩:∃ z,vK a b c n (hs[pos]'hp).toNat=z:=⟨_,rfl⟩
  have hxs:(nm :: (hs.data.toList.take (pos+1)).map fun ch=>rU (vK a b c n ch.toNat))=(nm :: (hs.data.toList.take pos).map fun ch=>rU (vK a b c n ch.toNat))++[rU z]:=by
    rw [NT hs pos hp,List.map_append,List.map_singleton,hz]
    rfl
  have hln:(nm :: (hs.data.toList.take pos).map fun ch=>rU (vK a b c n ch.toNat)).length≤4:=by
    have:=H3.out
    simp
    omega
  obtain ⟨xs,hxe⟩:∃ xs,(nm :: (hs.data.toList.take pos).map fun ch=>rU (vK a b c n ch.toNat))=xs:=⟨_,rfl⟩
  rw [hxe] at HX hxs hln
  have HXS:=Lib.hid hxs
  have EK:=Lib.hid hln
  have SN:=Lib.hid (show hs.size=gk+pos∧pos < hs.size from ⟨hpk.symm,hp⟩)
  obtain ⟨x,hx⟩:∃ x:Nat,(hs[pos]'hp).toNat=x:=⟨_,rfl⟩
  rw [hx] at hz hnx
  have c1:Wn.cell? ⟨G,1,none⟩=some (.int .u8 a):=HX.out.cell 1
  have c2:Wn.cell? ⟨G,2,none⟩=some (.int .u8 b):=HX.out.cell 2
  have c3:Wn.cell? ⟨G,3,none⟩=some (.int .u8 c):=HX.out.cell 3
  have c4:Wn.cell? ⟨G,4,none⟩=some (.int .i64 n):=HX.out.cell 4
  have hzb:-9223372036854775808≤z∧z≤9223372036854775807:=by
    have:=HAB.out
    rw [← hz,vK]
    split
    · omega
    · split
      · omega
      · split <;> omega
  have HZB:=Lib.hid hzb
  clear ZY hch hpk hxs hln hxe hzb hx
  by_cases d1:x=97
  case' pos =>
    subst d1
    obtain rfl:a=z:=by rw [← hz];rfl
  case' neg =>
    have b1:((x:Int) == 97)=false:=beq_eq_false_iff_ne.2 (by omega)
    by_cases d2:x=98
    case' pos =>
      subst d2
      obtain rfl:b=z:=by rw [← hz];rfl
    case' neg =>
      have b2:((x:Int) == 98)=false:=beq_eq_false_iff_ne.2 (by omega)
      by_cases d3:x=99
      case' pos =>
        subst d3
        obtain rfl:c=z:=by rw [← hz];rfl
      case' neg =>
        have b3:((x:Int) == 99)=false:=beq_eq_false_iff_ne.2 (by omega)
        obtain rfl:n=z:=by rw [← hz,vK,if_neg d1,if_neg d2,if_neg d3]
        clear d3
      clear d2
    clear d1
  all_goals
    clear hz
    go_wp2_with (first|(go_at_call 38;refine (jI.calls _ 10 (rU _) _ (Kd.gY HT.out (by rw [hG];exact HX.out.bel)) (by rw [jI.f,if_pos rfl,if_pos HZB.out];rfl)).mono ?_;rintro e w4 ⟨rfl,hb4⟩;replace HX:=ae.mk (HX.out.below hb4);clear hb4)|((with_reducible refine jm (b:=.append) (xs:=#[.tmp 40,.tmp 43]) rfl ?_);at_builtin;refine Kd.oz Kd.string (w0:=w) G rfl (.tmp 40) (.tmp 43) 22 9 (.string ⟨#[]⟩) 16 rfl Tryz.underlying22 info9 rfl (by decide) (by omega) u3 xs (rU _) [.string (rU _)] (fun _=>True) (fun _=>False) rfl rfl rfl (fun _ hk=>hk.elim) (fun _ _=>trivial) HX.out.row HX.out.bel (Nat.le_of_lt HX.out.size) (by have:=EK.out;omega) ?_;intro v1 w5 ho hb5 hg5 ZV;have HY:=ae.mk (HX.out.grown ho hb5 hg5);clear ho hb5 hg5 ZV))
  all_goals go_roundg (gk - 1)
  all_goals first|(have:=SN.out;omega)|exact ⟨pos+1,by have:=SN.out;omega,by rw [HXS.out];exact HY⟩
theorem uf.calls (gW bU bV ik iI:Int) (r:List ByteArray) (w:World) (lC:Kd.C xE w xG oL.length oL) (h:uf.f gW bU bV ik iI=some r) :
    Calls Tryz.prog 20 #[.agg #[.int .u8 gW,.int .u8 bU,.int .u8 bV,.int .u8 ik,.int .i64 iI]] w fun e w'=>∃ Df:Value,e=.returned (Df)∧Kd.R Kd.string 9 w' w.heap.size (fun _=>True) Df r∧Below w.heap.size w w':=by
  unfold uf.f at h
  split at h
  · rename_i hc
    obtain ⟨h1,h2,h3,h4,h5⟩:=hc
    obtain ⟨o,rfl⟩:=Int.eq_ofNat_of_zero_le (show 0≤gW by omega)
    injection h with h
    subst h
    exact He o bU bV ik iI (by omega) (by omega) h2 h3 h4 h5 w lC
  · cases h
end Go.Proofs.YtkclndkbccbhaaaGreatDoor.P
end
