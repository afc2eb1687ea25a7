/-
  THE COUNT: contracts of Add, Swap, Try, Max and Get of a count whose cell holds a number.
-/
import Derived.Test.YthnllejpoklgbaaRows
import Derived.Test.YthnllejpoklgbaaOwn
import Derived.WalkKit
import Derived.Defers
import Derived.Laws.Pointers
import Derived.Laws.LoneSync
import Derived.Laws.NewBlocks
import Derived.RegionTactic
import Derived.RegionCalls
import Derived.IntWalk
import Derived.Lib.Hide
import Derived.LoopN
namespace Go.Proofs.Ythnllejpoklgbaa
open Go.RowKit

theorem run_call_swap {P : Program} {f : FuncId} {fn : Func} (hf : P.funcs[f]? = some fn) (hname : (fn.name == "runtime.NumGoroutine") = false) (hb : fn.body.isNone = true) (hn : Extern.findNext fn = none) (k : IntKind)
    (he : Extern.find fn = some (Extern.Atomic.swapT (.int k))) {a : Addr} {x y : Int} {w : World} (hc : w.cell? a = some (.int k x)) (hz : w.frozen? a = false) :
    (callFunc f #[.pointer (some a), .int k y]).run P w = .ok (.value (.int k x)) (w.setCell a (.int k y)) := by
  rw [run_callFunc_extern hf hname hb hn he]
  change (Sem.run P (do
    let a' ← asAddr (.pointer (some a))
    let old ← Extern.Atomic.read (.int k) a'
    store a' (.int k y) .atomic
    pure old) w).andThen _ = _
  simp [Extern.Atomic.read, asAddr, hc, hz, run_store P w a (.int k y) .atomic rfl, Result.andThen]

theorem count_get (b off : Nat) (x : Int) (w : World) (hc : w.cell? ⟨b, off, none⟩ = some (.int .i64 x)) :
    Calls Try.prog 18 #[.pointer (some ⟨b, off, none⟩)] w fun e w' => e = .returned (.int .i64 x) ∧ w = w' := by
  have hl := run_call_load (P := Try.prog) Try.func54 (by kernel_rfl) (by kernel_rfl) (by kernel_rfl) .i64 (by kernel_rfl) hc
  go_enter Try.func18, Try.ntmps18
  go_wp2
  go_ret
  exact ⟨rfl, rfl⟩

theorem count_add (b off : Nat) (x y : Int) (w : World) (hc : w.cell? ⟨b, off, none⟩ = some (.int .i64 x)) (hz : w.frozen? ⟨b, off, none⟩ = false) :
    Calls Try.prog 14 #[.pointer (some ⟨b, off, none⟩), .int .i64 y] w fun e w' => e = .returned (.int .i64 (wrap64 (x + y))) ∧ w.setCell ⟨b, off, none⟩ (.int .i64 (wrap64 (x + y))) = w' := by
  have hadd := run_call_add (P := Try.prog) Try.func51 (by kernel_rfl) (by kernel_rfl) (by kernel_rfl) .i64 (by kernel_rfl) (y := y) (s := wrap64 (x + y)) hc hz (by simp [go_sem, IntWalk.i64_left])
  go_enter Try.func14, Try.ntmps14
  go_wp2
  go_ret
  exact ⟨rfl, rfl⟩

theorem count_swap (b off : Nat) (x y : Int) (w : World) (hc : w.cell? ⟨b, off, none⟩ = some (.int .i64 x)) (hz : w.frozen? ⟨b, off, none⟩ = false) :
    Calls Try.prog 15 #[.pointer (some ⟨b, off, none⟩), .int .i64 y] w fun e w' => e = .returned (.int .i64 x) ∧ w.setCell ⟨b, off, none⟩ (.int .i64 y) = w' := by
  have hadd := run_call_swap (P := Try.prog) Try.func52 (by kernel_rfl) (by kernel_rfl) (by kernel_rfl) .i64 (by kernel_rfl) (y := y) hc hz
  go_enter Try.func15, Try.ntmps15
  go_wp2
  go_ret
  exact ⟨rfl, rfl⟩

theorem count_try_hit (b off : Nat) (x y : Int) (w : World) (hc : w.cell? ⟨b, off, none⟩ = some (.int .i64 x)) (hz : w.frozen? ⟨b, off, none⟩ = false) :
    Calls Try.prog 16 #[.pointer (some ⟨b, off, none⟩), .int .i64 x, .int .i64 y] w fun e w' => e = .returned (.bool true) ∧ w.setCell ⟨b, off, none⟩ (.int .i64 y) = w' := by
  have hcas := run_call_cas_hit (P := Try.prog) Try.func53 (by kernel_rfl) (by kernel_rfl) (by kernel_rfl) .i64 (by kernel_rfl) (y := y) hc hz
  go_enter Try.func16, Try.ntmps16
  go_wp2
  go_ret
  exact ⟨rfl, rfl⟩

theorem count_try_miss (b off : Nat) (x o y : Int) (hne : ¬ x = o) (w : World) (hc : w.cell? ⟨b, off, none⟩ = some (.int .i64 x)) (hz : w.frozen? ⟨b, off, none⟩ = false) :
    Calls Try.prog 16 #[.pointer (some ⟨b, off, none⟩), .int .i64 o, .int .i64 y] w fun e w' => e = .returned (.bool false) ∧ w = w' := by
  have hcas := run_call_cas_miss (P := Try.prog) Try.func53 (by kernel_rfl) (by kernel_rfl) (by kernel_rfl) .i64 (by kernel_rfl) (y := y) hc hz hne
  clear hne
  go_enter Try.func16, Try.ntmps16
  go_wp2
  go_ret
  exact ⟨rfl, rfl⟩

/-- What a call of a count does, told of the count's block. -/
def Counts (k : Nat) (y : Int) (w w' : World) : Prop := Own (· = k) w w' ∧ Blk w' k 30 #[.int .i64 y]

theorem get_blk (k : Nat) (x : Int) (w : World) (h : Blk w k 30 #[.int .i64 x]) : Calls Try.prog 18 #[.pointer (some ⟨k, 0, none⟩)] w fun e w' => e = .returned (.int .i64 x) ∧ w = w' := count_get k 0 x w ((h.cell 0).trans rfl)
theorem add_blk (k : Nat) (x y : Int) (w : World) (h : Blk w k 30 #[.int .i64 x]) : Calls Try.prog 14 #[.pointer (some ⟨k, 0, none⟩), .int .i64 y] w fun e w' => e = .returned (.int .i64 (wrap64 (x + y))) ∧ Counts k (wrap64 (x + y)) w w' :=
  (count_add k 0 x y w ((h.cell 0).trans rfl) (h.frozen 0)).mono fun e w' ⟨he, hw⟩ => by subst hw; exact ⟨he, (Own.refl _ w).set _ _ (fun _ => rfl), h.set 0 (.int .i64 (wrap64 (x + y)))⟩
theorem swap_blk (k : Nat) (x y : Int) (w : World) (h : Blk w k 30 #[.int .i64 x]) : Calls Try.prog 15 #[.pointer (some ⟨k, 0, none⟩), .int .i64 y] w fun e w' => e = .returned (.int .i64 x) ∧ Counts k y w w' :=
  (count_swap k 0 x y w ((h.cell 0).trans rfl) (h.frozen 0)).mono fun e w' ⟨he, hw⟩ => by subst hw; exact ⟨he, (Own.refl _ w).set _ _ (fun _ => rfl), h.set 0 (.int .i64 y)⟩
theorem try_hit_blk (k : Nat) (x y : Int) (w : World) (h : Blk w k 30 #[.int .i64 x]) : Calls Try.prog 16 #[.pointer (some ⟨k, 0, none⟩), .int .i64 x, .int .i64 y] w fun e w' => e = .returned (.bool true) ∧ Counts k y w w' :=
  (count_try_hit k 0 x y w ((h.cell 0).trans rfl) (h.frozen 0)).mono fun e w' ⟨he, hw⟩ => by subst hw; exact ⟨he, (Own.refl _ w).set _ _ (fun _ => rfl), h.set 0 (.int .i64 y)⟩
theorem try_miss_blk (k : Nat) (x o y : Int) (hne : ¬ x = o) (w : World) (h : Blk w k 30 #[.int .i64 x]) : Calls Try.prog 16 #[.pointer (some ⟨k, 0, none⟩), .int .i64 o, .int .i64 y] w fun e w' => e = .returned (.bool false) ∧ Counts k x w w' :=
  (count_try_miss k 0 x o y hne w ((h.cell 0).trans rfl) (h.frozen 0)).mono fun e w' ⟨he, hw⟩ => by subst hw; exact ⟨he, Own.refl _ w, h⟩
/-- Try, either way. -/
theorem try_blk (k : Nat) (x o y : Int) (w : World) (h : Blk w k 30 #[.int .i64 x]) : Calls Try.prog 16 #[.pointer (some ⟨k, 0, none⟩), .int .i64 o, .int .i64 y] w fun e w' => e = .returned (.bool (decide (x = o))) ∧ Counts k (if x = o then y else x) w w' := by
  by_cases e : x = o
  · subst e
    simpa using try_hit_blk k x y w h
  · simpa [e] using try_miss_blk k x o y e w h

set_option maxHeartbeats 800000 in
theorem max_blk (k : Nat) (x n : Int) (w : World) (h : Blk w k 30 #[.int .i64 x]) : Calls Try.prog 17 #[.pointer (some ⟨k, 0, none⟩), .int .i64 n] w fun e w' => e = .returned (.int .i64 (max x n)) ∧ Counts k (max x n) w w' := by
  have hc := (h.cell 0).trans rfl
  have hz := h.frozen 0
  have hl := run_call_load (P := Try.prog) Try.func54 (by kernel_rfl) (by kernel_rfl) (by kernel_rfl) .i64 (by kernel_rfl) hc
  have hcas := run_call_cas_hit (P := Try.prog) Try.func53 (by kernel_rfl) (by kernel_rfl) (by kernel_rfl) .i64 (by kernel_rfl) (y := n) hc hz
  by_cases e : n ≤ x
  · have em : max x n = x := by omega
    rw [em]
    have HM := Lib.hid em
    clear em
    have e' : decide (n ≤ x) = true := decide_eq_true e
    go_enter Try.func17, Try.ntmps17
    go_wp2
    refine wp_loop_rounds 1 ?_
    rw [rounds_succ]
    go_wp2
    go_ret
    exact ⟨rfl, Own.refl _ w, h⟩
  · have em : max x n = n := by omega
    rw [em]
    have HM := Lib.hid em
    clear em
    have e' : decide (n ≤ x) = false := decide_eq_false e
    go_enter Try.func17, Try.ntmps17
    go_wp2
    refine wp_loop_rounds 1 ?_
    rw [rounds_succ]
    go_wp2
    go_ret
    exact ⟨rfl, (Own.refl _ w).set _ _ (fun _ => rfl), h.set 0 (.int .i64 n)⟩
end Go.Proofs.Ythnllejpoklgbaa
