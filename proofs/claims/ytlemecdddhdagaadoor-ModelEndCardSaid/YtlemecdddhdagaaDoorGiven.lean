/-
  code.Right: each operation; then all of them.
-/
import Derived.Test.YtlemecdddhdagaaDoorGivenA
namespace Go.Proofs.YtlemecdddhdagaaDoor.P
open Go.RowKit Go.Proofs.YtlemecdddhdagaaDoorW.PrintWords Go.Proofs.YtlemecdddhdagaaDoorW.PrintLast Go.Proofs.YtlemecdddhdagaaDoorW.PrintMore

set_option maxRecDepth 100000 in
set_option maxHeartbeats 1600000 in
theorem right_1 (a1 a2 a3 a4 : Int) (w : World) (hrT : Kd.C Kd.string w tabA tabL.length tabL) :
    Calls Tryd.prog 33 #[.agg #[.int .u8 1, .int .u8 a1, .int .u8 a2, .int .u8 a3, .int .i64 a4]] w fun e w' => e = .returned (.bool (a2 == 0 && a3 == 0)) ∧ Below w.heap.size w w' := by
  have hmf : ∀ (fn : Fn) (first cap : Array Value) (w : World), (Instr.makeFunc fn first cap).run Tryd.prog w = .ok (.func fn first cap) w := fun _ _ _ _ => rfl
  have ht := tab_later hrT (.cells #[.int .u8 1, .int .u8 a1, .int .u8 a2, .int .u8 a3, .int .i64 a4] 55) 3 (by decide) ⟨#[97, 110]⟩ rfl
  have hp : (w.alloc (.cells #[.int .u8 1, .int .u8 a1, .int .u8 a2, .int .u8 a3, .int .i64 a4] 55)).cell? ⟨w.heap.size, 0, none⟩ = some (.int .u8 (1 : Nat)) := by simp
  have hb : Below w.heap.size w (w.alloc (.cells #[.int .u8 1, .int .u8 a1, .int .u8 a2, .int .u8 a3, .int .i64 a4] 55)) := (Below.refl _ w).alloc (Nat.le_refl _) _
  clear hrT
  by_cases eb : a2 = 0
  · have gb : (a2 == 0) = true := beq_iff_eq.2 eb
    clear eb
    by_cases ec : a3 = 0
    · have gc : (a3 == 0) = true := beq_iff_eq.2 ec
      clear ec
      rw [show (a2 == 0 && a3 == 0) = true from by simp [gb, gc]]
      go_enter Tryd.func33, Tryd.ntmps33
      go_wp2_with fail
      refine (fun_an_b w.heap.size 1 3 rfl (by decide) _ hp ht).mono ?_
      rintro e w' ⟨rfl, rfl⟩
      go_wp2_with fail
      refine (fun_an_c w.heap.size 1 3 rfl (by decide) _ hp ht).mono ?_
      rintro e w' ⟨rfl, rfl⟩
      go_wp2_with fail
      refine (fun_an_n w.heap.size 1 3 rfl (by decide) _ hp ht).mono ?_
      rintro e w' ⟨rfl, rfl⟩
      go_wp2_with fail
      refine (fun_an_a w.heap.size 1 3 rfl (by decide) _ hp ht).mono ?_
      rintro e w' ⟨rfl, rfl⟩
      go_wp2
      go_ret
      exact ⟨rfl, hb⟩
    · have gc : (a3 == 0) = false := beq_eq_false_iff_ne.2 ec
      clear ec
      rw [show (a2 == 0 && a3 == 0) = false from by simp [gc]]
      go_enter Tryd.func33, Tryd.ntmps33
      go_wp2_with fail
      refine (fun_an_b w.heap.size 1 3 rfl (by decide) _ hp ht).mono ?_
      rintro e w' ⟨rfl, rfl⟩
      go_wp2_with fail
      refine (fun_an_c w.heap.size 1 3 rfl (by decide) _ hp ht).mono ?_
      rintro e w' ⟨rfl, rfl⟩
      go_wp2
      go_ret
      exact ⟨rfl, hb⟩
  · have gb : (a2 == 0) = false := beq_eq_false_iff_ne.2 eb
    clear eb
    rw [show (a2 == 0 && a3 == 0) = false from by simp [gb]]
    go_enter Tryd.func33, Tryd.ntmps33
    go_wp2_with fail
    refine (fun_an_b w.heap.size 1 3 rfl (by decide) _ hp ht).mono ?_
    rintro e w' ⟨rfl, rfl⟩
    go_wp2
    go_ret
    exact ⟨rfl, hb⟩

set_option maxRecDepth 100000 in
set_option maxHeartbeats 1600000 in
theorem right_2 (a1 a2 a3 a4 : Int) (w : World) (hrT : Kd.C Kd.string w tabA tabL.length tabL) :
    Calls Tryd.prog 33 #[.agg #[.int .u8 2, .int .u8 a1, .int .u8 a2, .int .u8 a3, .int .i64 a4]] w fun e w' => e = .returned (.bool (a4 == 0)) ∧ Below w.heap.size w w' := by
  have hmf : ∀ (fn : Fn) (first cap : Array Value) (w : World), (Instr.makeFunc fn first cap).run Tryd.prog w = .ok (.func fn first cap) w := fun _ _ _ _ => rfl
  have ht := tab_later hrT (.cells #[.int .u8 2, .int .u8 a1, .int .u8 a2, .int .u8 a3, .int .i64 a4] 55) 5 (by decide) ⟨#[97, 98, 99]⟩ rfl
  have hp : (w.alloc (.cells #[.int .u8 2, .int .u8 a1, .int .u8 a2, .int .u8 a3, .int .i64 a4] 55)).cell? ⟨w.heap.size, 0, none⟩ = some (.int .u8 (2 : Nat)) := by simp
  have hb : Below w.heap.size w (w.alloc (.cells #[.int .u8 2, .int .u8 a1, .int .u8 a2, .int .u8 a3, .int .i64 a4] 55)) := (Below.refl _ w).alloc (Nat.le_refl _) _
  clear hrT
  by_cases en : a4 = 0
  · have gn : (a4 == 0) = true := beq_iff_eq.2 en
    clear en
    rw [show (a4 == 0) = true from by simp [gn]]
    go_enter Tryd.func33, Tryd.ntmps33
    go_wp2_with fail
    refine (fun_abc_b w.heap.size 2 5 rfl (by decide) _ hp ht).mono ?_
    rintro e w' ⟨rfl, rfl⟩
    go_wp2_with fail
    refine (fun_abc_c w.heap.size 2 5 rfl (by decide) _ hp ht).mono ?_
    rintro e w' ⟨rfl, rfl⟩
    go_wp2_with fail
    refine (fun_abc_n w.heap.size 2 5 rfl (by decide) _ hp ht).mono ?_
    rintro e w' ⟨rfl, rfl⟩
    go_wp2_with fail
    refine (fun_abc_a w.heap.size 2 5 rfl (by decide) _ hp ht).mono ?_
    rintro e w' ⟨rfl, rfl⟩
    go_wp2
    go_ret
    exact ⟨rfl, hb⟩
  · have gn : (a4 == 0) = false := beq_eq_false_iff_ne.2 en
    clear en
    rw [show (a4 == 0) = false from by simp [gn]]
    go_enter Tryd.func33, Tryd.ntmps33
    go_wp2_with fail
    refine (fun_abc_b w.heap.size 2 5 rfl (by decide) _ hp ht).mono ?_
    rintro e w' ⟨rfl, rfl⟩
    go_wp2_with fail
    refine (fun_abc_c w.heap.size 2 5 rfl (by decide) _ hp ht).mono ?_
    rintro e w' ⟨rfl, rfl⟩
    go_wp2_with fail
    refine (fun_abc_n w.heap.size 2 5 rfl (by decide) _ hp ht).mono ?_
    rintro e w' ⟨rfl, rfl⟩
    go_wp2
    go_ret
    exact ⟨rfl, hb⟩

set_option maxRecDepth 100000 in
set_option maxHeartbeats 1600000 in
theorem right_3 (a1 a2 a3 a4 : Int) (w : World) (hrT : Kd.C Kd.string w tabA tabL.length tabL) :
    Calls Tryd.prog 33 #[.agg #[.int .u8 3, .int .u8 a1, .int .u8 a2, .int .u8 a3, .int .i64 a4]] w fun e w' => e = .returned (.bool (a2 == 0 && a3 == 0 && a1 == 0)) ∧ Below w.heap.size w w' := by
  have hmf : ∀ (fn : Fn) (first cap : Array Value) (w : World), (Instr.makeFunc fn first cap).run Tryd.prog w = .ok (.func fn first cap) w := fun _ _ _ _ => rfl
  have ht := tab_later hrT (.cells #[.int .u8 3, .int .u8 a1, .int .u8 a2, .int .u8 a3, .int .i64 a4] 55) 7 (by decide) ⟨#[110]⟩ rfl
  have hp : (w.alloc (.cells #[.int .u8 3, .int .u8 a1, .int .u8 a2, .int .u8 a3, .int .i64 a4] 55)).cell? ⟨w.heap.size, 0, none⟩ = some (.int .u8 (3 : Nat)) := by simp
  have hb : Below w.heap.size w (w.alloc (.cells #[.int .u8 3, .int .u8 a1, .int .u8 a2, .int .u8 a3, .int .i64 a4] 55)) := (Below.refl _ w).alloc (Nat.le_refl _) _
  clear hrT
  by_cases eb : a2 = 0
  · have gb : (a2 == 0) = true := beq_iff_eq.2 eb
    clear eb
    by_cases ec : a3 = 0
    · have gc : (a3 == 0) = true := beq_iff_eq.2 ec
      clear ec
      by_cases ea : a1 = 0
      · have ga : (a1 == 0) = true := beq_iff_eq.2 ea
        clear ea
        rw [show (a2 == 0 && a3 == 0 && a1 == 0) = true from by simp [gb, gc, ga]]
        go_enter Tryd.func33, Tryd.ntmps33
        go_wp2_with fail
        refine (fun_n_b w.heap.size 3 7 rfl (by decide) _ hp ht).mono ?_
        rintro e w' ⟨rfl, rfl⟩
        go_wp2_with fail
        refine (fun_n_c w.heap.size 3 7 rfl (by decide) _ hp ht).mono ?_
        rintro e w' ⟨rfl, rfl⟩
        go_wp2_with fail
        refine (fun_n_n w.heap.size 3 7 rfl (by decide) _ hp ht).mono ?_
        rintro e w' ⟨rfl, rfl⟩
        go_wp2_with fail
        refine (fun_n_a w.heap.size 3 7 rfl (by decide) _ hp ht).mono ?_
        rintro e w' ⟨rfl, rfl⟩
        go_wp2
        go_ret
        exact ⟨rfl, hb⟩
      · have ga : (a1 == 0) = false := beq_eq_false_iff_ne.2 ea
        clear ea
        rw [show (a2 == 0 && a3 == 0 && a1 == 0) = false from by simp [ga]]
        go_enter Tryd.func33, Tryd.ntmps33
        go_wp2_with fail
        refine (fun_n_b w.heap.size 3 7 rfl (by decide) _ hp ht).mono ?_
        rintro e w' ⟨rfl, rfl⟩
        go_wp2_with fail
        refine (fun_n_c w.heap.size 3 7 rfl (by decide) _ hp ht).mono ?_
        rintro e w' ⟨rfl, rfl⟩
        go_wp2_with fail
        refine (fun_n_n w.heap.size 3 7 rfl (by decide) _ hp ht).mono ?_
        rintro e w' ⟨rfl, rfl⟩
        go_wp2_with fail
        refine (fun_n_a w.heap.size 3 7 rfl (by decide) _ hp ht).mono ?_
        rintro e w' ⟨rfl, rfl⟩
        go_wp2
        go_ret
        exact ⟨rfl, hb⟩
    · have gc : (a3 == 0) = false := beq_eq_false_iff_ne.2 ec
      clear ec
      rw [show (a2 == 0 && a3 == 0 && a1 == 0) = false from by simp [gc]]
      go_enter Tryd.func33, Tryd.ntmps33
      go_wp2_with fail
      refine (fun_n_b w.heap.size 3 7 rfl (by decide) _ hp ht).mono ?_
      rintro e w' ⟨rfl, rfl⟩
      go_wp2_with fail
      refine (fun_n_c w.heap.size 3 7 rfl (by decide) _ hp ht).mono ?_
      rintro e w' ⟨rfl, rfl⟩
      go_wp2
      go_ret
      exact ⟨rfl, hb⟩
  · have gb : (a2 == 0) = false := beq_eq_false_iff_ne.2 eb
    clear eb
    rw [show (a2 == 0 && a3 == 0 && a1 == 0) = false from by simp [gb]]
    go_enter Tryd.func33, Tryd.ntmps33
    go_wp2_with fail
    refine (fun_n_b w.heap.size 3 7 rfl (by decide) _ hp ht).mono ?_
    rintro e w' ⟨rfl, rfl⟩
    go_wp2
    go_ret
    exact ⟨rfl, hb⟩

set_option maxRecDepth 100000 in
set_option maxHeartbeats 1600000 in
theorem right_4 (a1 a2 a3 a4 : Int) (w : World) (hrT : Kd.C Kd.string w tabA tabL.length tabL) :
    Calls Tryd.prog 33 #[.agg #[.int .u8 4, .int .u8 a1, .int .u8 a2, .int .u8 a3, .int .i64 a4]] w fun e w' => e = .returned (.bool (a2 == 0 && a3 == 0)) ∧ Below w.heap.size w w' := by
  have hmf : ∀ (fn : Fn) (first cap : Array Value) (w : World), (Instr.makeFunc fn first cap).run Tryd.prog w = .ok (.func fn first cap) w := fun _ _ _ _ => rfl
  have ht := tab_later hrT (.cells #[.int .u8 4, .int .u8 a1, .int .u8 a2, .int .u8 a3, .int .i64 a4] 55) 9 (by decide) ⟨#[97, 110]⟩ rfl
  have hp : (w.alloc (.cells #[.int .u8 4, .int .u8 a1, .int .u8 a2, .int .u8 a3, .int .i64 a4] 55)).cell? ⟨w.heap.size, 0, none⟩ = some (.int .u8 (4 : Nat)) := by simp
  have hb : Below w.heap.size w (w.alloc (.cells #[.int .u8 4, .int .u8 a1, .int .u8 a2, .int .u8 a3, .int .i64 a4] 55)) := (Below.refl _ w).alloc (Nat.le_refl _) _
  clear hrT
  by_cases eb : a2 = 0
  · have gb : (a2 == 0) = true := beq_iff_eq.2 eb
    clear eb
    by_cases ec : a3 = 0
    · have gc : (a3 == 0) = true := beq_iff_eq.2 ec
      clear ec
      rw [show (a2 == 0 && a3 == 0) = true from by simp [gb, gc]]
      go_enter Tryd.func33, Tryd.ntmps33
      go_wp2_with fail
      refine (fun_an_b w.heap.size 4 9 rfl (by decide) _ hp ht).mono ?_
      rintro e w' ⟨rfl, rfl⟩
      go_wp2_with fail
      refine (fun_an_c w.heap.size 4 9 rfl (by decide) _ hp ht).mono ?_
      rintro e w' ⟨rfl, rfl⟩
      go_wp2_with fail
      refine (fun_an_n w.heap.size 4 9 rfl (by decide) _ hp ht).mono ?_
      rintro e w' ⟨rfl, rfl⟩
      go_wp2_with fail
      refine (fun_an_a w.heap.size 4 9 rfl (by decide) _ hp ht).mono ?_
      rintro e w' ⟨rfl, rfl⟩
      go_wp2
      go_ret
      exact ⟨rfl, hb⟩
    · have gc : (a3 == 0) = false := beq_eq_false_iff_ne.2 ec
      clear ec
      rw [show (a2 == 0 && a3 == 0) = false from by simp [gc]]
      go_enter Tryd.func33, Tryd.ntmps33
      go_wp2_with fail
      refine (fun_an_b w.heap.size 4 9 rfl (by decide) _ hp ht).mono ?_
      rintro e w' ⟨rfl, rfl⟩
      go_wp2_with fail
      refine (fun_an_c w.heap.size 4 9 rfl (by decide) _ hp ht).mono ?_
      rintro e w' ⟨rfl, rfl⟩
      go_wp2
      go_ret
      exact ⟨rfl, hb⟩
  · have gb : (a2 == 0) = false := beq_eq_false_iff_ne.2 eb
    clear eb
    rw [show (a2 == 0 && a3 == 0) = false from by simp [gb]]
    go_enter Tryd.func33, Tryd.ntmps33
    go_wp2_with fail
    refine (fun_an_b w.heap.size 4 9 rfl (by decide) _ hp ht).mono ?_
    rintro e w' ⟨rfl, rfl⟩
    go_wp2
    go_ret
    exact ⟨rfl, hb⟩

set_option maxRecDepth 100000 in
set_option maxHeartbeats 1600000 in
theorem right_5 (a1 a2 a3 a4 : Int) (w : World) (hrT : Kd.C Kd.string w tabA tabL.length tabL) :
    Calls Tryd.prog 33 #[.agg #[.int .u8 5, .int .u8 a1, .int .u8 a2, .int .u8 a3, .int .i64 a4]] w fun e w' => e = .returned (.bool (a2 == 0 && a3 == 0 && a4 == 0)) ∧ Below w.heap.size w w' := by
  have hmf : ∀ (fn : Fn) (first cap : Array Value) (w : World), (Instr.makeFunc fn first cap).run Tryd.prog w = .ok (.func fn first cap) w := fun _ _ _ _ => rfl
  have ht := tab_later hrT (.cells #[.int .u8 5, .int .u8 a1, .int .u8 a2, .int .u8 a3, .int .i64 a4] 55) 11 (by decide) ⟨#[97]⟩ rfl
  have hp : (w.alloc (.cells #[.int .u8 5, .int .u8 a1, .int .u8 a2, .int .u8 a3, .int .i64 a4] 55)).cell? ⟨w.heap.size, 0, none⟩ = some (.int .u8 (5 : Nat)) := by simp
  have hb : Below w.heap.size w (w.alloc (.cells #[.int .u8 5, .int .u8 a1, .int .u8 a2, .int .u8 a3, .int .i64 a4] 55)) := (Below.refl _ w).alloc (Nat.le_refl _) _
  clear hrT
  by_cases eb : a2 = 0
  · have gb : (a2 == 0) = true := beq_iff_eq.2 eb
    clear eb
    by_cases ec : a3 = 0
    · have gc : (a3 == 0) = true := beq_iff_eq.2 ec
      clear ec
      by_cases en : a4 = 0
      · have gn : (a4 == 0) = true := beq_iff_eq.2 en
        clear en
        rw [show (a2 == 0 && a3 == 0 && a4 == 0) = true from by simp [gb, gc, gn]]
        go_enter Tryd.func33, Tryd.ntmps33
        go_wp2_with fail
        refine (fun_a_b w.heap.size 5 11 rfl (by decide) _ hp ht).mono ?_
        rintro e w' ⟨rfl, rfl⟩
        go_wp2_with fail
        refine (fun_a_c w.heap.size 5 11 rfl (by decide) _ hp ht).mono ?_
        rintro e w' ⟨rfl, rfl⟩
        go_wp2_with fail
        refine (fun_a_n w.heap.size 5 11 rfl (by decide) _ hp ht).mono ?_
        rintro e w' ⟨rfl, rfl⟩
        go_wp2_with fail
        refine (fun_a_a w.heap.size 5 11 rfl (by decide) _ hp ht).mono ?_
        rintro e w' ⟨rfl, rfl⟩
        go_wp2
        go_ret
        exact ⟨rfl, hb⟩
      · have gn : (a4 == 0) = false := beq_eq_false_iff_ne.2 en
        clear en
        rw [show (a2 == 0 && a3 == 0 && a4 == 0) = false from by simp [gn]]
        go_enter Tryd.func33, Tryd.ntmps33
        go_wp2_with fail
        refine (fun_a_b w.heap.size 5 11 rfl (by decide) _ hp ht).mono ?_
        rintro e w' ⟨rfl, rfl⟩
        go_wp2_with fail
        refine (fun_a_c w.heap.size 5 11 rfl (by decide) _ hp ht).mono ?_
        rintro e w' ⟨rfl, rfl⟩
        go_wp2_with fail
        refine (fun_a_n w.heap.size 5 11 rfl (by decide) _ hp ht).mono ?_
        rintro e w' ⟨rfl, rfl⟩
        go_wp2
        go_ret
        exact ⟨rfl, hb⟩
    · have gc : (a3 == 0) = false := beq_eq_false_iff_ne.2 ec
      clear ec
      rw [show (a2 == 0 && a3 == 0 && a4 == 0) = false from by simp [gc]]
      go_enter Tryd.func33, Tryd.ntmps33
      go_wp2_with fail
      refine (fun_a_b w.heap.size 5 11 rfl (by decide) _ hp ht).mono ?_
      rintro e w' ⟨rfl, rfl⟩
      go_wp2_with fail
      refine (fun_a_c w.heap.size 5 11 rfl (by decide) _ hp ht).mono ?_
      rintro e w' ⟨rfl, rfl⟩
      go_wp2
      go_ret
      exact ⟨rfl, hb⟩
  · have gb : (a2 == 0) = false := beq_eq_false_iff_ne.2 eb
    clear eb
    rw [show (a2 == 0 && a3 == 0 && a4 == 0) = false from by simp [gb]]
    go_enter Tryd.func33, Tryd.ntmps33
    go_wp2_with fail
    refine (fun_a_b w.heap.size 5 11 rfl (by decide) _ hp ht).mono ?_
    rintro e w' ⟨rfl, rfl⟩
    go_wp2
    go_ret
    exact ⟨rfl, hb⟩

set_option maxRecDepth 100000 in
set_option maxHeartbeats 1600000 in
theorem right_6 (a1 a2 a3 a4 : Int) (w : World) (hrT : Kd.C Kd.string w tabA tabL.length tabL) :
    Calls Tryd.prog 33 #[.agg #[.int .u8 6, .int .u8 a1, .int .u8 a2, .int .u8 a3, .int .i64 a4]] w fun e w' => e = .returned (.bool (a2 == 0 && a3 == 0 && a4 == 0)) ∧ Below w.heap.size w w' := by
  have hmf : ∀ (fn : Fn) (first cap : Array Value) (w : World), (Instr.makeFunc fn first cap).run Tryd.prog w = .ok (.func fn first cap) w := fun _ _ _ _ => rfl
  have ht := tab_later hrT (.cells #[.int .u8 6, .int .u8 a1, .int .u8 a2, .int .u8 a3, .int .i64 a4] 55) 13 (by decide) ⟨#[97]⟩ rfl
  have hp : (w.alloc (.cells #[.int .u8 6, .int .u8 a1, .int .u8 a2, .int .u8 a3, .int .i64 a4] 55)).cell? ⟨w.heap.size, 0, none⟩ = some (.int .u8 (6 : Nat)) := by simp
  have hb : Below w.heap.size w (w.alloc (.cells #[.int .u8 6, .int .u8 a1, .int .u8 a2, .int .u8 a3, .int .i64 a4] 55)) := (Below.refl _ w).alloc (Nat.le_refl _) _
  clear hrT
  by_cases eb : a2 = 0
  · have gb : (a2 == 0) = true := beq_iff_eq.2 eb
    clear eb
    by_cases ec : a3 = 0
    · have gc : (a3 == 0) = true := beq_iff_eq.2 ec
      clear ec
      by_cases en : a4 = 0
      · have gn : (a4 == 0) = true := beq_iff_eq.2 en
        clear en
        rw [show (a2 == 0 && a3 == 0 && a4 == 0) = true from by simp [gb, gc, gn]]
        go_enter Tryd.func33, Tryd.ntmps33
        go_wp2_with fail
        refine (fun_a_b w.heap.size 6 13 rfl (by decide) _ hp ht).mono ?_
        rintro e w' ⟨rfl, rfl⟩
        go_wp2_with fail
        refine (fun_a_c w.heap.size 6 13 rfl (by decide) _ hp ht).mono ?_
        rintro e w' ⟨rfl, rfl⟩
        go_wp2_with fail
        refine (fun_a_n w.heap.size 6 13 rfl (by decide) _ hp ht).mono ?_
        rintro e w' ⟨rfl, rfl⟩
        go_wp2_with fail
        refine (fun_a_a w.heap.size 6 13 rfl (by decide) _ hp ht).mono ?_
        rintro e w' ⟨rfl, rfl⟩
        go_wp2
        go_ret
        exact ⟨rfl, hb⟩
      · have gn : (a4 == 0) = false := beq_eq_false_iff_ne.2 en
        clear en
        rw [show (a2 == 0 && a3 == 0 && a4 == 0) = false from by simp [gn]]
        go_enter Tryd.func33, Tryd.ntmps33
        go_wp2_with fail
        refine (fun_a_b w.heap.size 6 13 rfl (by decide) _ hp ht).mono ?_
        rintro e w' ⟨rfl, rfl⟩
        go_wp2_with fail
        refine (fun_a_c w.heap.size 6 13 rfl (by decide) _ hp ht).mono ?_
        rintro e w' ⟨rfl, rfl⟩
        go_wp2_with fail
        refine (fun_a_n w.heap.size 6 13 rfl (by decide) _ hp ht).mono ?_
        rintro e w' ⟨rfl, rfl⟩
        go_wp2
        go_ret
        exact ⟨rfl, hb⟩
    · have gc : (a3 == 0) = false := beq_eq_false_iff_ne.2 ec
      clear ec
      rw [show (a2 == 0 && a3 == 0 && a4 == 0) = false from by simp [gc]]
      go_enter Tryd.func33, Tryd.ntmps33
      go_wp2_with fail
      refine (fun_a_b w.heap.size 6 13 rfl (by decide) _ hp ht).mono ?_
      rintro e w' ⟨rfl, rfl⟩
      go_wp2_with fail
      refine (fun_a_c w.heap.size 6 13 rfl (by decide) _ hp ht).mono ?_
      rintro e w' ⟨rfl, rfl⟩
      go_wp2
      go_ret
      exact ⟨rfl, hb⟩
  · have gb : (a2 == 0) = false := beq_eq_false_iff_ne.2 eb
    clear eb
    rw [show (a2 == 0 && a3 == 0 && a4 == 0) = false from by simp [gb]]
    go_enter Tryd.func33, Tryd.ntmps33
    go_wp2_with fail
    refine (fun_a_b w.heap.size 6 13 rfl (by decide) _ hp ht).mono ?_
    rintro e w' ⟨rfl, rfl⟩
    go_wp2
    go_ret
    exact ⟨rfl, hb⟩

set_option maxRecDepth 100000 in
set_option maxHeartbeats 1600000 in
theorem right_7 (a1 a2 a3 a4 : Int) (w : World) (hrT : Kd.C Kd.string w tabA tabL.length tabL) :
    Calls Tryd.prog 33 #[.agg #[.int .u8 7, .int .u8 a1, .int .u8 a2, .int .u8 a3, .int .i64 a4]] w fun e w' => e = .returned (.bool (a3 == 0 && a4 == 0)) ∧ Below w.heap.size w w' := by
  have hmf : ∀ (fn : Fn) (first cap : Array Value) (w : World), (Instr.makeFunc fn first cap).run Tryd.prog w = .ok (.func fn first cap) w := fun _ _ _ _ => rfl
  have ht := tab_later hrT (.cells #[.int .u8 7, .int .u8 a1, .int .u8 a2, .int .u8 a3, .int .i64 a4] 55) 15 (by decide) ⟨#[97, 98]⟩ rfl
  have hp : (w.alloc (.cells #[.int .u8 7, .int .u8 a1, .int .u8 a2, .int .u8 a3, .int .i64 a4] 55)).cell? ⟨w.heap.size, 0, none⟩ = some (.int .u8 (7 : Nat)) := by simp
  have hb : Below w.heap.size w (w.alloc (.cells #[.int .u8 7, .int .u8 a1, .int .u8 a2, .int .u8 a3, .int .i64 a4] 55)) := (Below.refl _ w).alloc (Nat.le_refl _) _
  clear hrT
  by_cases ec : a3 = 0
  · have gc : (a3 == 0) = true := beq_iff_eq.2 ec
    clear ec
    by_cases en : a4 = 0
    · have gn : (a4 == 0) = true := beq_iff_eq.2 en
      clear en
      rw [show (a3 == 0 && a4 == 0) = true from by simp [gc, gn]]
      go_enter Tryd.func33, Tryd.ntmps33
      go_wp2_with fail
      refine (fun_ab_b w.heap.size 7 15 rfl (by decide) _ hp ht).mono ?_
      rintro e w' ⟨rfl, rfl⟩
      go_wp2_with fail
      refine (fun_ab_c w.heap.size 7 15 rfl (by decide) _ hp ht).mono ?_
      rintro e w' ⟨rfl, rfl⟩
      go_wp2_with fail
      refine (fun_ab_n w.heap.size 7 15 rfl (by decide) _ hp ht).mono ?_
      rintro e w' ⟨rfl, rfl⟩
      go_wp2_with fail
      refine (fun_ab_a w.heap.size 7 15 rfl (by decide) _ hp ht).mono ?_
      rintro e w' ⟨rfl, rfl⟩
      go_wp2
      go_ret
      exact ⟨rfl, hb⟩
    · have gn : (a4 == 0) = false := beq_eq_false_iff_ne.2 en
      clear en
      rw [show (a3 == 0 && a4 == 0) = false from by simp [gn]]
      go_enter Tryd.func33, Tryd.ntmps33
      go_wp2_with fail
      refine (fun_ab_b w.heap.size 7 15 rfl (by decide) _ hp ht).mono ?_
      rintro e w' ⟨rfl, rfl⟩
      go_wp2_with fail
      refine (fun_ab_c w.heap.size 7 15 rfl (by decide) _ hp ht).mono ?_
      rintro e w' ⟨rfl, rfl⟩
      go_wp2_with fail
      refine (fun_ab_n w.heap.size 7 15 rfl (by decide) _ hp ht).mono ?_
      rintro e w' ⟨rfl, rfl⟩
      go_wp2
      go_ret
      exact ⟨rfl, hb⟩
  · have gc : (a3 == 0) = false := beq_eq_false_iff_ne.2 ec
    clear ec
    rw [show (a3 == 0 && a4 == 0) = false from by simp [gc]]
    go_enter Tryd.func33, Tryd.ntmps33
    go_wp2_with fail
    refine (fun_ab_b w.heap.size 7 15 rfl (by decide) _ hp ht).mono ?_
    rintro e w' ⟨rfl, rfl⟩
    go_wp2_with fail
    refine (fun_ab_c w.heap.size 7 15 rfl (by decide) _ hp ht).mono ?_
    rintro e w' ⟨rfl, rfl⟩
    go_wp2
    go_ret
    exact ⟨rfl, hb⟩

set_option maxRecDepth 100000 in
set_option maxHeartbeats 1600000 in
theorem right_8 (a1 a2 a3 a4 : Int) (w : World) (hrT : Kd.C Kd.string w tabA tabL.length tabL) :
    Calls Tryd.prog 33 #[.agg #[.int .u8 8, .int .u8 a1, .int .u8 a2, .int .u8 a3, .int .i64 a4]] w fun e w' => e = .returned (.bool (a3 == 0)) ∧ Below w.heap.size w w' := by
  have hmf : ∀ (fn : Fn) (first cap : Array Value) (w : World), (Instr.makeFunc fn first cap).run Tryd.prog w = .ok (.func fn first cap) w := fun _ _ _ _ => rfl
  have ht := tab_later hrT (.cells #[.int .u8 8, .int .u8 a1, .int .u8 a2, .int .u8 a3, .int .i64 a4] 55) 17 (by decide) ⟨#[97, 98, 110]⟩ rfl
  have hp : (w.alloc (.cells #[.int .u8 8, .int .u8 a1, .int .u8 a2, .int .u8 a3, .int .i64 a4] 55)).cell? ⟨w.heap.size, 0, none⟩ = some (.int .u8 (8 : Nat)) := by simp
  have hb : Below w.heap.size w (w.alloc (.cells #[.int .u8 8, .int .u8 a1, .int .u8 a2, .int .u8 a3, .int .i64 a4] 55)) := (Below.refl _ w).alloc (Nat.le_refl _) _
  clear hrT
  by_cases ec : a3 = 0
  · have gc : (a3 == 0) = true := beq_iff_eq.2 ec
    clear ec
    rw [show (a3 == 0) = true from by simp [gc]]
    go_enter Tryd.func33, Tryd.ntmps33
    go_wp2_with fail
    refine (fun_abn_b w.heap.size 8 17 rfl (by decide) _ hp ht).mono ?_
    rintro e w' ⟨rfl, rfl⟩
    go_wp2_with fail
    refine (fun_abn_c w.heap.size 8 17 rfl (by decide) _ hp ht).mono ?_
    rintro e w' ⟨rfl, rfl⟩
    go_wp2_with fail
    refine (fun_abn_n w.heap.size 8 17 rfl (by decide) _ hp ht).mono ?_
    rintro e w' ⟨rfl, rfl⟩
    go_wp2_with fail
    refine (fun_abn_a w.heap.size 8 17 rfl (by decide) _ hp ht).mono ?_
    rintro e w' ⟨rfl, rfl⟩
    go_wp2
    go_ret
    exact ⟨rfl, hb⟩
  · have gc : (a3 == 0) = false := beq_eq_false_iff_ne.2 ec
    clear ec
    rw [show (a3 == 0) = false from by simp [gc]]
    go_enter Tryd.func33, Tryd.ntmps33
    go_wp2_with fail
    refine (fun_abn_b w.heap.size 8 17 rfl (by decide) _ hp ht).mono ?_
    rintro e w' ⟨rfl, rfl⟩
    go_wp2_with fail
    refine (fun_abn_c w.heap.size 8 17 rfl (by decide) _ hp ht).mono ?_
    rintro e w' ⟨rfl, rfl⟩
    go_wp2
    go_ret
    exact ⟨rfl, hb⟩

set_option maxRecDepth 100000 in
set_option maxHeartbeats 1600000 in
theorem right_9 (a1 a2 a3 a4 : Int) (w : World) (hrT : Kd.C Kd.string w tabA tabL.length tabL) :
    Calls Tryd.prog 33 #[.agg #[.int .u8 9, .int .u8 a1, .int .u8 a2, .int .u8 a3, .int .i64 a4]] w fun e w' => e = .returned (.bool (a3 == 0)) ∧ Below w.heap.size w w' := by
  have hmf : ∀ (fn : Fn) (first cap : Array Value) (w : World), (Instr.makeFunc fn first cap).run Tryd.prog w = .ok (.func fn first cap) w := fun _ _ _ _ => rfl
  have ht := tab_later hrT (.cells #[.int .u8 9, .int .u8 a1, .int .u8 a2, .int .u8 a3, .int .i64 a4] 55) 19 (by decide) ⟨#[97, 110, 98]⟩ rfl
  have hp : (w.alloc (.cells #[.int .u8 9, .int .u8 a1, .int .u8 a2, .int .u8 a3, .int .i64 a4] 55)).cell? ⟨w.heap.size, 0, none⟩ = some (.int .u8 (9 : Nat)) := by simp
  have hb : Below w.heap.size w (w.alloc (.cells #[.int .u8 9, .int .u8 a1, .int .u8 a2, .int .u8 a3, .int .i64 a4] 55)) := (Below.refl _ w).alloc (Nat.le_refl _) _
  clear hrT
  by_cases ec : a3 = 0
  · have gc : (a3 == 0) = true := beq_iff_eq.2 ec
    clear ec
    rw [show (a3 == 0) = true from by simp [gc]]
    go_enter Tryd.func33, Tryd.ntmps33
    go_wp2_with fail
    refine (fun_anb_b w.heap.size 9 19 rfl (by decide) _ hp ht).mono ?_
    rintro e w' ⟨rfl, rfl⟩
    go_wp2_with fail
    refine (fun_anb_c w.heap.size 9 19 rfl (by decide) _ hp ht).mono ?_
    rintro e w' ⟨rfl, rfl⟩
    go_wp2_with fail
    refine (fun_anb_n w.heap.size 9 19 rfl (by decide) _ hp ht).mono ?_
    rintro e w' ⟨rfl, rfl⟩
    go_wp2_with fail
    refine (fun_anb_a w.heap.size 9 19 rfl (by decide) _ hp ht).mono ?_
    rintro e w' ⟨rfl, rfl⟩
    go_wp2
    go_ret
    exact ⟨rfl, hb⟩
  · have gc : (a3 == 0) = false := beq_eq_false_iff_ne.2 ec
    clear ec
    rw [show (a3 == 0) = false from by simp [gc]]
    go_enter Tryd.func33, Tryd.ntmps33
    go_wp2_with fail
    refine (fun_anb_b w.heap.size 9 19 rfl (by decide) _ hp ht).mono ?_
    rintro e w' ⟨rfl, rfl⟩
    go_wp2_with fail
    refine (fun_anb_c w.heap.size 9 19 rfl (by decide) _ hp ht).mono ?_
    rintro e w' ⟨rfl, rfl⟩
    go_wp2
    go_ret
    exact ⟨rfl, hb⟩

set_option maxRecDepth 100000 in
set_option maxHeartbeats 1600000 in
theorem right_10 (a1 a2 a3 a4 : Int) (w : World) (hrT : Kd.C Kd.string w tabA tabL.length tabL) :
    Calls Tryd.prog 33 #[.agg #[.int .u8 10, .int .u8 a1, .int .u8 a2, .int .u8 a3, .int .i64 a4]] w fun e w' => e = .returned (.bool (a3 == 0)) ∧ Below w.heap.size w w' := by
  have hmf : ∀ (fn : Fn) (first cap : Array Value) (w : World), (Instr.makeFunc fn first cap).run Tryd.prog w = .ok (.func fn first cap) w := fun _ _ _ _ => rfl
  have ht := tab_later hrT (.cells #[.int .u8 10, .int .u8 a1, .int .u8 a2, .int .u8 a3, .int .i64 a4] 55) 21 (by decide) ⟨#[97, 98, 110]⟩ rfl
  have hp : (w.alloc (.cells #[.int .u8 10, .int .u8 a1, .int .u8 a2, .int .u8 a3, .int .i64 a4] 55)).cell? ⟨w.heap.size, 0, none⟩ = some (.int .u8 (10 : Nat)) := by simp
  have hb : Below w.heap.size w (w.alloc (.cells #[.int .u8 10, .int .u8 a1, .int .u8 a2, .int .u8 a3, .int .i64 a4] 55)) := (Below.refl _ w).alloc (Nat.le_refl _) _
  clear hrT
  by_cases ec : a3 = 0
  · have gc : (a3 == 0) = true := beq_iff_eq.2 ec
    clear ec
    rw [show (a3 == 0) = true from by simp [gc]]
    go_enter Tryd.func33, Tryd.ntmps33
    go_wp2_with fail
    refine (fun_abn_b w.heap.size 10 21 rfl (by decide) _ hp ht).mono ?_
    rintro e w' ⟨rfl, rfl⟩
    go_wp2_with fail
    refine (fun_abn_c w.heap.size 10 21 rfl (by decide) _ hp ht).mono ?_
    rintro e w' ⟨rfl, rfl⟩
    go_wp2_with fail
    refine (fun_abn_n w.heap.size 10 21 rfl (by decide) _ hp ht).mono ?_
    rintro e w' ⟨rfl, rfl⟩
    go_wp2_with fail
    refine (fun_abn_a w.heap.size 10 21 rfl (by decide) _ hp ht).mono ?_
    rintro e w' ⟨rfl, rfl⟩
    go_wp2
    go_ret
    exact ⟨rfl, hb⟩
  · have gc : (a3 == 0) = false := beq_eq_false_iff_ne.2 ec
    clear ec
    rw [show (a3 == 0) = false from by simp [gc]]
    go_enter Tryd.func33, Tryd.ntmps33
    go_wp2_with fail
    refine (fun_abn_b w.heap.size 10 21 rfl (by decide) _ hp ht).mono ?_
    rintro e w' ⟨rfl, rfl⟩
    go_wp2_with fail
    refine (fun_abn_c w.heap.size 10 21 rfl (by decide) _ hp ht).mono ?_
    rintro e w' ⟨rfl, rfl⟩
    go_wp2
    go_ret
    exact ⟨rfl, hb⟩

set_option maxRecDepth 100000 in
set_option maxHeartbeats 1600000 in
theorem right_11 (a1 a2 a3 a4 : Int) (w : World) (hrT : Kd.C Kd.string w tabA tabL.length tabL) :
    Calls Tryd.prog 33 #[.agg #[.int .u8 11, .int .u8 a1, .int .u8 a2, .int .u8 a3, .int .i64 a4]] w fun e w' => e = .returned (.bool (a3 == 0)) ∧ Below w.heap.size w w' := by
  have hmf : ∀ (fn : Fn) (first cap : Array Value) (w : World), (Instr.makeFunc fn first cap).run Tryd.prog w = .ok (.func fn first cap) w := fun _ _ _ _ => rfl
  have ht := tab_later hrT (.cells #[.int .u8 11, .int .u8 a1, .int .u8 a2, .int .u8 a3, .int .i64 a4] 55) 23 (by decide) ⟨#[97, 110, 98]⟩ rfl
  have hp : (w.alloc (.cells #[.int .u8 11, .int .u8 a1, .int .u8 a2, .int .u8 a3, .int .i64 a4] 55)).cell? ⟨w.heap.size, 0, none⟩ = some (.int .u8 (11 : Nat)) := by simp
  have hb : Below w.heap.size w (w.alloc (.cells #[.int .u8 11, .int .u8 a1, .int .u8 a2, .int .u8 a3, .int .i64 a4] 55)) := (Below.refl _ w).alloc (Nat.le_refl _) _
  clear hrT
  by_cases ec : a3 = 0
  · have gc : (a3 == 0) = true := beq_iff_eq.2 ec
    clear ec
    rw [show (a3 == 0) = true from by simp [gc]]
    go_enter Tryd.func33, Tryd.ntmps33
    go_wp2_with fail
    refine (fun_anb_b w.heap.size 11 23 rfl (by decide) _ hp ht).mono ?_
    rintro e w' ⟨rfl, rfl⟩
    go_wp2_with fail
    refine (fun_anb_c w.heap.size 11 23 rfl (by decide) _ hp ht).mono ?_
    rintro e w' ⟨rfl, rfl⟩
    go_wp2_with fail
    refine (fun_anb_n w.heap.size 11 23 rfl (by decide) _ hp ht).mono ?_
    rintro e w' ⟨rfl, rfl⟩
    go_wp2_with fail
    refine (fun_anb_a w.heap.size 11 23 rfl (by decide) _ hp ht).mono ?_
    rintro e w' ⟨rfl, rfl⟩
    go_wp2
    go_ret
    exact ⟨rfl, hb⟩
  · have gc : (a3 == 0) = false := beq_eq_false_iff_ne.2 ec
    clear ec
    rw [show (a3 == 0) = false from by simp [gc]]
    go_enter Tryd.func33, Tryd.ntmps33
    go_wp2_with fail
    refine (fun_anb_b w.heap.size 11 23 rfl (by decide) _ hp ht).mono ?_
    rintro e w' ⟨rfl, rfl⟩
    go_wp2_with fail
    refine (fun_anb_c w.heap.size 11 23 rfl (by decide) _ hp ht).mono ?_
    rintro e w' ⟨rfl, rfl⟩
    go_wp2
    go_ret
    exact ⟨rfl, hb⟩

set_option maxRecDepth 100000 in
set_option maxHeartbeats 1600000 in
theorem right_12 (a1 a2 a3 a4 : Int) (w : World) (hrT : Kd.C Kd.string w tabA tabL.length tabL) :
    Calls Tryd.prog 33 #[.agg #[.int .u8 12, .int .u8 a1, .int .u8 a2, .int .u8 a3, .int .i64 a4]] w fun e w' => e = .returned (.bool (a3 == 0 && a4 == 0)) ∧ Below w.heap.size w w' := by
  have hmf : ∀ (fn : Fn) (first cap : Array Value) (w : World), (Instr.makeFunc fn first cap).run Tryd.prog w = .ok (.func fn first cap) w := fun _ _ _ _ => rfl
  have ht := tab_later hrT (.cells #[.int .u8 12, .int .u8 a1, .int .u8 a2, .int .u8 a3, .int .i64 a4] 55) 25 (by decide) ⟨#[97, 98]⟩ rfl
  have hp : (w.alloc (.cells #[.int .u8 12, .int .u8 a1, .int .u8 a2, .int .u8 a3, .int .i64 a4] 55)).cell? ⟨w.heap.size, 0, none⟩ = some (.int .u8 (12 : Nat)) := by simp
  have hb : Below w.heap.size w (w.alloc (.cells #[.int .u8 12, .int .u8 a1, .int .u8 a2, .int .u8 a3, .int .i64 a4] 55)) := (Below.refl _ w).alloc (Nat.le_refl _) _
  clear hrT
  by_cases ec : a3 = 0
  · have gc : (a3 == 0) = true := beq_iff_eq.2 ec
    clear ec
    by_cases en : a4 = 0
    · have gn : (a4 == 0) = true := beq_iff_eq.2 en
      clear en
      rw [show (a3 == 0 && a4 == 0) = true from by simp [gc, gn]]
      go_enter Tryd.func33, Tryd.ntmps33
      go_wp2_with fail
      refine (fun_ab_b w.heap.size 12 25 rfl (by decide) _ hp ht).mono ?_
      rintro e w' ⟨rfl, rfl⟩
      go_wp2_with fail
      refine (fun_ab_c w.heap.size 12 25 rfl (by decide) _ hp ht).mono ?_
      rintro e w' ⟨rfl, rfl⟩
      go_wp2_with fail
      refine (fun_ab_n w.heap.size 12 25 rfl (by decide) _ hp ht).mono ?_
      rintro e w' ⟨rfl, rfl⟩
      go_wp2_with fail
      refine (fun_ab_a w.heap.size 12 25 rfl (by decide) _ hp ht).mono ?_
      rintro e w' ⟨rfl, rfl⟩
      go_wp2
      go_ret
      exact ⟨rfl, hb⟩
    · have gn : (a4 == 0) = false := beq_eq_false_iff_ne.2 en
      clear en
      rw [show (a3 == 0 && a4 == 0) = false from by simp [gn]]
      go_enter Tryd.func33, Tryd.ntmps33
      go_wp2_with fail
      refine (fun_ab_b w.heap.size 12 25 rfl (by decide) _ hp ht).mono ?_
      rintro e w' ⟨rfl, rfl⟩
      go_wp2_with fail
      refine (fun_ab_c w.heap.size 12 25 rfl (by decide) _ hp ht).mono ?_
      rintro e w' ⟨rfl, rfl⟩
      go_wp2_with fail
      refine (fun_ab_n w.heap.size 12 25 rfl (by decide) _ hp ht).mono ?_
      rintro e w' ⟨rfl, rfl⟩
      go_wp2
      go_ret
      exact ⟨rfl, hb⟩
  · have gc : (a3 == 0) = false := beq_eq_false_iff_ne.2 ec
    clear ec
    rw [show (a3 == 0 && a4 == 0) = false from by simp [gc]]
    go_enter Tryd.func33, Tryd.ntmps33
    go_wp2_with fail
    refine (fun_ab_b w.heap.size 12 25 rfl (by decide) _ hp ht).mono ?_
    rintro e w' ⟨rfl, rfl⟩
    go_wp2_with fail
    refine (fun_ab_c w.heap.size 12 25 rfl (by decide) _ hp ht).mono ?_
    rintro e w' ⟨rfl, rfl⟩
    go_wp2
    go_ret
    exact ⟨rfl, hb⟩

set_option maxRecDepth 100000 in
set_option maxHeartbeats 1600000 in
theorem right_13 (a1 a2 a3 a4 : Int) (w : World) (hrT : Kd.C Kd.string w tabA tabL.length tabL) :
    Calls Tryd.prog 33 #[.agg #[.int .u8 13, .int .u8 a1, .int .u8 a2, .int .u8 a3, .int .i64 a4]] w fun e w' => e = .returned (.bool (a3 == 0 && a4 == 0)) ∧ Below w.heap.size w w' := by
  have hmf : ∀ (fn : Fn) (first cap : Array Value) (w : World), (Instr.makeFunc fn first cap).run Tryd.prog w = .ok (.func fn first cap) w := fun _ _ _ _ => rfl
  have ht := tab_later hrT (.cells #[.int .u8 13, .int .u8 a1, .int .u8 a2, .int .u8 a3, .int .i64 a4] 55) 27 (by decide) ⟨#[97, 98]⟩ rfl
  have hp : (w.alloc (.cells #[.int .u8 13, .int .u8 a1, .int .u8 a2, .int .u8 a3, .int .i64 a4] 55)).cell? ⟨w.heap.size, 0, none⟩ = some (.int .u8 (13 : Nat)) := by simp
  have hb : Below w.heap.size w (w.alloc (.cells #[.int .u8 13, .int .u8 a1, .int .u8 a2, .int .u8 a3, .int .i64 a4] 55)) := (Below.refl _ w).alloc (Nat.le_refl _) _
  clear hrT
  by_cases ec : a3 = 0
  · have gc : (a3 == 0) = true := beq_iff_eq.2 ec
    clear ec
    by_cases en : a4 = 0
    · have gn : (a4 == 0) = true := beq_iff_eq.2 en
      clear en
      rw [show (a3 == 0 && a4 == 0) = true from by simp [gc, gn]]
      go_enter Tryd.func33, Tryd.ntmps33
      go_wp2_with fail
      refine (fun_ab_b w.heap.size 13 27 rfl (by decide) _ hp ht).mono ?_
      rintro e w' ⟨rfl, rfl⟩
      go_wp2_with fail
      refine (fun_ab_c w.heap.size 13 27 rfl (by decide) _ hp ht).mono ?_
      rintro e w' ⟨rfl, rfl⟩
      go_wp2_with fail
      refine (fun_ab_n w.heap.size 13 27 rfl (by decide) _ hp ht).mono ?_
      rintro e w' ⟨rfl, rfl⟩
      go_wp2_with fail
      refine (fun_ab_a w.heap.size 13 27 rfl (by decide) _ hp ht).mono ?_
      rintro e w' ⟨rfl, rfl⟩
      go_wp2
      go_ret
      exact ⟨rfl, hb⟩
    · have gn : (a4 == 0) = false := beq_eq_false_iff_ne.2 en
      clear en
      rw [show (a3 == 0 && a4 == 0) = false from by simp [gn]]
      go_enter Tryd.func33, Tryd.ntmps33
      go_wp2_with fail
      refine (fun_ab_b w.heap.size 13 27 rfl (by decide) _ hp ht).mono ?_
      rintro e w' ⟨rfl, rfl⟩
      go_wp2_with fail
      refine (fun_ab_c w.heap.size 13 27 rfl (by decide) _ hp ht).mono ?_
      rintro e w' ⟨rfl, rfl⟩
      go_wp2_with fail
      refine (fun_ab_n w.heap.size 13 27 rfl (by decide) _ hp ht).mono ?_
      rintro e w' ⟨rfl, rfl⟩
      go_wp2
      go_ret
      exact ⟨rfl, hb⟩
  · have gc : (a3 == 0) = false := beq_eq_false_iff_ne.2 ec
    clear ec
    rw [show (a3 == 0 && a4 == 0) = false from by simp [gc]]
    go_enter Tryd.func33, Tryd.ntmps33
    go_wp2_with fail
    refine (fun_ab_b w.heap.size 13 27 rfl (by decide) _ hp ht).mono ?_
    rintro e w' ⟨rfl, rfl⟩
    go_wp2_with fail
    refine (fun_ab_c w.heap.size 13 27 rfl (by decide) _ hp ht).mono ?_
    rintro e w' ⟨rfl, rfl⟩
    go_wp2
    go_ret
    exact ⟨rfl, hb⟩

set_option maxRecDepth 100000 in
set_option maxHeartbeats 1600000 in
theorem right_14 (a1 a2 a3 a4 : Int) (w : World) (hrT : Kd.C Kd.string w tabA tabL.length tabL) :
    Calls Tryd.prog 33 #[.agg #[.int .u8 14, .int .u8 a1, .int .u8 a2, .int .u8 a3, .int .i64 a4]] w fun e w' => e = .returned (.bool (a2 == 0 && a3 == 0 && a4 == 0)) ∧ Below w.heap.size w w' := by
  have hmf : ∀ (fn : Fn) (first cap : Array Value) (w : World), (Instr.makeFunc fn first cap).run Tryd.prog w = .ok (.func fn first cap) w := fun _ _ _ _ => rfl
  have ht := tab_later hrT (.cells #[.int .u8 14, .int .u8 a1, .int .u8 a2, .int .u8 a3, .int .i64 a4] 55) 29 (by decide) ⟨#[97]⟩ rfl
  have hp : (w.alloc (.cells #[.int .u8 14, .int .u8 a1, .int .u8 a2, .int .u8 a3, .int .i64 a4] 55)).cell? ⟨w.heap.size, 0, none⟩ = some (.int .u8 (14 : Nat)) := by simp
  have hb : Below w.heap.size w (w.alloc (.cells #[.int .u8 14, .int .u8 a1, .int .u8 a2, .int .u8 a3, .int .i64 a4] 55)) := (Below.refl _ w).alloc (Nat.le_refl _) _
  clear hrT
  by_cases eb : a2 = 0
  · have gb : (a2 == 0) = true := beq_iff_eq.2 eb
    clear eb
    by_cases ec : a3 = 0
    · have gc : (a3 == 0) = true := beq_iff_eq.2 ec
      clear ec
      by_cases en : a4 = 0
      · have gn : (a4 == 0) = true := beq_iff_eq.2 en
        clear en
        rw [show (a2 == 0 && a3 == 0 && a4 == 0) = true from by simp [gb, gc, gn]]
        go_enter Tryd.func33, Tryd.ntmps33
        go_wp2_with fail
        refine (fun_a_b w.heap.size 14 29 rfl (by decide) _ hp ht).mono ?_
        rintro e w' ⟨rfl, rfl⟩
        go_wp2_with fail
        refine (fun_a_c w.heap.size 14 29 rfl (by decide) _ hp ht).mono ?_
        rintro e w' ⟨rfl, rfl⟩
        go_wp2_with fail
        refine (fun_a_n w.heap.size 14 29 rfl (by decide) _ hp ht).mono ?_
        rintro e w' ⟨rfl, rfl⟩
        go_wp2_with fail
        refine (fun_a_a w.heap.size 14 29 rfl (by decide) _ hp ht).mono ?_
        rintro e w' ⟨rfl, rfl⟩
        go_wp2
        go_ret
        exact ⟨rfl, hb⟩
      · have gn : (a4 == 0) = false := beq_eq_false_iff_ne.2 en
        clear en
        rw [show (a2 == 0 && a3 == 0 && a4 == 0) = false from by simp [gn]]
        go_enter Tryd.func33, Tryd.ntmps33
        go_wp2_with fail
        refine (fun_a_b w.heap.size 14 29 rfl (by decide) _ hp ht).mono ?_
        rintro e w' ⟨rfl, rfl⟩
        go_wp2_with fail
        refine (fun_a_c w.heap.size 14 29 rfl (by decide) _ hp ht).mono ?_
        rintro e w' ⟨rfl, rfl⟩
        go_wp2_with fail
        refine (fun_a_n w.heap.size 14 29 rfl (by decide) _ hp ht).mono ?_
        rintro e w' ⟨rfl, rfl⟩
        go_wp2
        go_ret
        exact ⟨rfl, hb⟩
    · have gc : (a3 == 0) = false := beq_eq_false_iff_ne.2 ec
      clear ec
      rw [show (a2 == 0 && a3 == 0 && a4 == 0) = false from by simp [gc]]
      go_enter Tryd.func33, Tryd.ntmps33
      go_wp2_with fail
      refine (fun_a_b w.heap.size 14 29 rfl (by decide) _ hp ht).mono ?_
      rintro e w' ⟨rfl, rfl⟩
      go_wp2_with fail
      refine (fun_a_c w.heap.size 14 29 rfl (by decide) _ hp ht).mono ?_
      rintro e w' ⟨rfl, rfl⟩
      go_wp2
      go_ret
      exact ⟨rfl, hb⟩
  · have gb : (a2 == 0) = false := beq_eq_false_iff_ne.2 eb
    clear eb
    rw [show (a2 == 0 && a3 == 0 && a4 == 0) = false from by simp [gb]]
    go_enter Tryd.func33, Tryd.ntmps33
    go_wp2_with fail
    refine (fun_a_b w.heap.size 14 29 rfl (by decide) _ hp ht).mono ?_
    rintro e w' ⟨rfl, rfl⟩
    go_wp2
    go_ret
    exact ⟨rfl, hb⟩

set_option maxRecDepth 100000 in
set_option maxHeartbeats 1600000 in
theorem right_15 (a1 a2 a3 a4 : Int) (w : World) (hrT : Kd.C Kd.string w tabA tabL.length tabL) :
    Calls Tryd.prog 33 #[.agg #[.int .u8 15, .int .u8 a1, .int .u8 a2, .int .u8 a3, .int .i64 a4]] w fun e w' => e = .returned (.bool (a4 == 0)) ∧ Below w.heap.size w w' := by
  have hmf : ∀ (fn : Fn) (first cap : Array Value) (w : World), (Instr.makeFunc fn first cap).run Tryd.prog w = .ok (.func fn first cap) w := fun _ _ _ _ => rfl
  have ht := tab_later hrT (.cells #[.int .u8 15, .int .u8 a1, .int .u8 a2, .int .u8 a3, .int .i64 a4] 55) 31 (by decide) ⟨#[97, 98, 99]⟩ rfl
  have hp : (w.alloc (.cells #[.int .u8 15, .int .u8 a1, .int .u8 a2, .int .u8 a3, .int .i64 a4] 55)).cell? ⟨w.heap.size, 0, none⟩ = some (.int .u8 (15 : Nat)) := by simp
  have hb : Below w.heap.size w (w.alloc (.cells #[.int .u8 15, .int .u8 a1, .int .u8 a2, .int .u8 a3, .int .i64 a4] 55)) := (Below.refl _ w).alloc (Nat.le_refl _) _
  clear hrT
  by_cases en : a4 = 0
  · have gn : (a4 == 0) = true := beq_iff_eq.2 en
    clear en
    rw [show (a4 == 0) = true from by simp [gn]]
    go_enter Tryd.func33, Tryd.ntmps33
    go_wp2_with fail
    refine (fun_abc_b w.heap.size 15 31 rfl (by decide) _ hp ht).mono ?_
    rintro e w' ⟨rfl, rfl⟩
    go_wp2_with fail
    refine (fun_abc_c w.heap.size 15 31 rfl (by decide) _ hp ht).mono ?_
    rintro e w' ⟨rfl, rfl⟩
    go_wp2_with fail
    refine (fun_abc_n w.heap.size 15 31 rfl (by decide) _ hp ht).mono ?_
    rintro e w' ⟨rfl, rfl⟩
    go_wp2_with fail
    refine (fun_abc_a w.heap.size 15 31 rfl (by decide) _ hp ht).mono ?_
    rintro e w' ⟨rfl, rfl⟩
    go_wp2
    go_ret
    exact ⟨rfl, hb⟩
  · have gn : (a4 == 0) = false := beq_eq_false_iff_ne.2 en
    clear en
    rw [show (a4 == 0) = false from by simp [gn]]
    go_enter Tryd.func33, Tryd.ntmps33
    go_wp2_with fail
    refine (fun_abc_b w.heap.size 15 31 rfl (by decide) _ hp ht).mono ?_
    rintro e w' ⟨rfl, rfl⟩
    go_wp2_with fail
    refine (fun_abc_c w.heap.size 15 31 rfl (by decide) _ hp ht).mono ?_
    rintro e w' ⟨rfl, rfl⟩
    go_wp2_with fail
    refine (fun_abc_n w.heap.size 15 31 rfl (by decide) _ hp ht).mono ?_
    rintro e w' ⟨rfl, rfl⟩
    go_wp2
    go_ret
    exact ⟨rfl, hb⟩

theorem code_Right.calls (a0_0 : Int) (a0_1 : Int) (a0_2 : Int) (a0_3 : Int) (a0_4 : Int) (r : Bool) (w : World) (hrT : Kd.C Kd.string w tabA tabL.length tabL) (h : code_Right.f a0_0 a0_1 a0_2 a0_3 a0_4 = some r) :
    Calls Tryd.prog 33 #[.agg #[.int .u8 a0_0, .int .u8 a0_1, .int .u8 a0_2, .int .u8 a0_3, .int .i64 a0_4]] w fun e w' => e = .returned (.bool r) ∧ Below w.heap.size w w' := by
  have hb : Below w.heap.size w (w.alloc (.cells #[.int .u8 a0_0, .int .u8 a0_1, .int .u8 a0_2, .int .u8 a0_3, .int .i64 a0_4] 55)) := (Below.refl _ w).alloc (Nat.le_refl _) _
  unfold code_Right.f at h
  by_cases h1 : a0_0 < 1
  · rw [if_pos h1] at h
    injection h with h
    subst h
    have h1' : decide (a0_0 < 1) = true := decide_eq_true h1
    clear h1 hrT
    go_enter Tryd.func33, Tryd.ntmps33
    go_wp2
    go_ret
    exact ⟨rfl, hb⟩
  rw [if_neg h1] at h
  by_cases h2 : a0_0 > 15
  · rw [if_pos h2] at h
    injection h with h
    subst h
    have h1' : decide (a0_0 < 1) = false := decide_eq_false h1
    have h2' : decide (15 < a0_0) = true := decide_eq_true h2
    clear h1 h2 hrT
    go_enter Tryd.func33, Tryd.ntmps33
    go_wp2
    go_ret
    exact ⟨rfl, hb⟩
  rw [if_neg h2] at h
  injection h with h
  subst h
  have hk : a0_0 = 1 ∨ a0_0 = 2 ∨ a0_0 = 3 ∨ a0_0 = 4 ∨ a0_0 = 5 ∨ a0_0 = 6 ∨ a0_0 = 7 ∨ a0_0 = 8 ∨ a0_0 = 9 ∨ a0_0 = 10 ∨ a0_0 = 11 ∨ a0_0 = 12 ∨ a0_0 = 13 ∨ a0_0 = 14 ∨ a0_0 = 15 := by omega
  rcases hk with rfl | rfl | rfl | rfl | rfl | rfl | rfl | rfl | rfl | rfl | rfl | rfl | rfl | rfl | rfl
  · rw [show ((hasB 1 98 || a0_2 == 0) && (hasB 1 99 || a0_3 == 0) && (hasB 1 110 || a0_4 == 0) && (hasB 1 97 || a0_1 == 0)) = (a0_2 == 0 && a0_3 == 0) from by simp [hasB, letters]]
    exact right_1 a0_1 a0_2 a0_3 a0_4 w hrT
  · rw [show ((hasB 2 98 || a0_2 == 0) && (hasB 2 99 || a0_3 == 0) && (hasB 2 110 || a0_4 == 0) && (hasB 2 97 || a0_1 == 0)) = (a0_4 == 0) from by simp [hasB, letters]]
    exact right_2 a0_1 a0_2 a0_3 a0_4 w hrT
  · rw [show ((hasB 3 98 || a0_2 == 0) && (hasB 3 99 || a0_3 == 0) && (hasB 3 110 || a0_4 == 0) && (hasB 3 97 || a0_1 == 0)) = (a0_2 == 0 && a0_3 == 0 && a0_1 == 0) from by simp [hasB, letters]]
    exact right_3 a0_1 a0_2 a0_3 a0_4 w hrT
  · rw [show ((hasB 4 98 || a0_2 == 0) && (hasB 4 99 || a0_3 == 0) && (hasB 4 110 || a0_4 == 0) && (hasB 4 97 || a0_1 == 0)) = (a0_2 == 0 && a0_3 == 0) from by simp [hasB, letters]]
    exact right_4 a0_1 a0_2 a0_3 a0_4 w hrT
  · rw [show ((hasB 5 98 || a0_2 == 0) && (hasB 5 99 || a0_3 == 0) && (hasB 5 110 || a0_4 == 0) && (hasB 5 97 || a0_1 == 0)) = (a0_2 == 0 && a0_3 == 0 && a0_4 == 0) from by simp [hasB, letters]]
    exact right_5 a0_1 a0_2 a0_3 a0_4 w hrT
  · rw [show ((hasB 6 98 || a0_2 == 0) && (hasB 6 99 || a0_3 == 0) && (hasB 6 110 || a0_4 == 0) && (hasB 6 97 || a0_1 == 0)) = (a0_2 == 0 && a0_3 == 0 && a0_4 == 0) from by simp [hasB, letters]]
    exact right_6 a0_1 a0_2 a0_3 a0_4 w hrT
  · rw [show ((hasB 7 98 || a0_2 == 0) && (hasB 7 99 || a0_3 == 0) && (hasB 7 110 || a0_4 == 0) && (hasB 7 97 || a0_1 == 0)) = (a0_3 == 0 && a0_4 == 0) from by simp [hasB, letters]]
    exact right_7 a0_1 a0_2 a0_3 a0_4 w hrT
  · rw [show ((hasB 8 98 || a0_2 == 0) && (hasB 8 99 || a0_3 == 0) && (hasB 8 110 || a0_4 == 0) && (hasB 8 97 || a0_1 == 0)) = (a0_3 == 0) from by simp [hasB, letters]]
    exact right_8 a0_1 a0_2 a0_3 a0_4 w hrT
  · rw [show ((hasB 9 98 || a0_2 == 0) && (hasB 9 99 || a0_3 == 0) && (hasB 9 110 || a0_4 == 0) && (hasB 9 97 || a0_1 == 0)) = (a0_3 == 0) from by simp [hasB, letters]]
    exact right_9 a0_1 a0_2 a0_3 a0_4 w hrT
  · rw [show ((hasB 10 98 || a0_2 == 0) && (hasB 10 99 || a0_3 == 0) && (hasB 10 110 || a0_4 == 0) && (hasB 10 97 || a0_1 == 0)) = (a0_3 == 0) from by simp [hasB, letters]]
    exact right_10 a0_1 a0_2 a0_3 a0_4 w hrT
  · rw [show ((hasB 11 98 || a0_2 == 0) && (hasB 11 99 || a0_3 == 0) && (hasB 11 110 || a0_4 == 0) && (hasB 11 97 || a0_1 == 0)) = (a0_3 == 0) from by simp [hasB, letters]]
    exact right_11 a0_1 a0_2 a0_3 a0_4 w hrT
  · rw [show ((hasB 12 98 || a0_2 == 0) && (hasB 12 99 || a0_3 == 0) && (hasB 12 110 || a0_4 == 0) && (hasB 12 97 || a0_1 == 0)) = (a0_3 == 0 && a0_4 == 0) from by simp [hasB, letters]]
    exact right_12 a0_1 a0_2 a0_3 a0_4 w hrT
  · rw [show ((hasB 13 98 || a0_2 == 0) && (hasB 13 99 || a0_3 == 0) && (hasB 13 110 || a0_4 == 0) && (hasB 13 97 || a0_1 == 0)) = (a0_3 == 0 && a0_4 == 0) from by simp [hasB, letters]]
    exact right_13 a0_1 a0_2 a0_3 a0_4 w hrT
  · rw [show ((hasB 14 98 || a0_2 == 0) && (hasB 14 99 || a0_3 == 0) && (hasB 14 110 || a0_4 == 0) && (hasB 14 97 || a0_1 == 0)) = (a0_2 == 0 && a0_3 == 0 && a0_4 == 0) from by simp [hasB, letters]]
    exact right_14 a0_1 a0_2 a0_3 a0_4 w hrT
  · rw [show ((hasB 15 98 || a0_2 == 0) && (hasB 15 99 || a0_3 == 0) && (hasB 15 110 || a0_4 == 0) && (hasB 15 97 || a0_1 == 0)) = (a0_4 == 0) from by simp [hasB, letters]]
    exact right_15 a0_1 a0_2 a0_3 a0_4 w hrT
end Go.Proofs.YtlemecdddhdagaaDoor.P
