/-
  alive: THE ANSWERS THAT THE DOCUMENT FIXES: it tells true, and leaves what was there as it was.
-/
import Derived.Test.YthnllejpoklgbaaGet
import Derived.Test.YthnllejpoklgbaaCount
import Derived.Lib.Hide
import Derived.Outline
namespace Go.Proofs.Ythnllejpoklgbaa
open Go.RowKit

/-- 'func() int64 { calls++; return 7 }'. -/
theorem alive_fun (c : Nat) (n : Int) (w : World) (hc : Blk w c 3 #[.int .i64 n]) :
    Calls Try.prog 35 #[.pointer (some ⟨c, 0, none⟩)] w fun e w' => e = .returned (.int .i64 7) ∧ w.setCell ⟨c, 0, none⟩ (.int .i64 (wrap64 (n + 1))) = w' := by
  have c0 : w.cell? ⟨c, 0, none⟩ = some (.int .i64 n) := (hc.cell 0).trans rfl
  have z0 := hc.frozen 0
  go_enter Try.func35, Try.ntmps35
  go_wp2
  go_ret
  exact ⟨rfl, rfl⟩

theorem new64_nil (w : World) : Calls Try.prog 19 #[.nilFunc] w fun e w' => e = .returned (.pointer none) ∧ w = w' := by
  have hnil : ∀ W : World, (binOp .eql 37 .nilFunc .nilFunc).run Try.prog W = .ok (.bool true) W := fun W => by kernel_rfl
  go_enter Try.func19, Try.ntmps19
  go_wp2
  go_ret
  exact ⟨rfl, rfl⟩

theorem alive_makes (c bv : Nat) (hne : c ≠ bv) (w : World) (hc : Blk w c 3 #[.int .i64 0]) :
    Makes bv 35 #[.pointer (some ⟨c, 0, none⟩)] (.int .i64 7) (· = c) (fun W => Blk W c 3 #[.int .i64 1]) w :=
  ⟨fun W => by kernel_rfl, fun W hW => (alive_fun c 0 W (hc.own hW hne)).mono fun e W' ⟨he, hw⟩ => by
    subst hw
    rw [show wrap64 (0 + 1) = 1 from by unfold wrap64; omega]
    exact ⟨he, (Own.refl _ _).set1 0 _, (hc.own hW hne).set 0 (.int .i64 1)⟩, fun h => hne h.symm⟩

set_option maxRecDepth 100000 in
set_option maxHeartbeats 1600000 in
theorem alive_calls (w : World) : Calls Try.prog 12 #[] w fun e w' => e = .returned (.bool true) ∧ Below w.heap.size w w' := by
  have hmf : ∀ (fn : Fn) (first cap : Array Value) (w : World), (Instr.makeFunc fn first cap).run Try.prog w = .ok (.func fn first cap) w := fun _ _ _ _ => rfl
  have hnot : ∀ (x : Bool) (w : World), (Op.unary .not (.bool x)).run Try.prog w = .ok (.bool (!x)) w := fun _ _ => rfl
  obtain ⟨B, hB⟩ : ∃ B, w.heap.size = B := ⟨_, rfl⟩
  have HB := Lib.hid hB
  have c0 : Blk (w.alloc (.cells #[.int .i64 0] 3)) B 3 #[.int .i64 0] := by have := Blk.new w 3 #[.int .i64 0]; rw [hB] at this; exact this
  have o0 : Own (B ≤ ·) w (w.alloc (.cells #[.int .i64 0] 3)) := (Own.refl _ w).alloc _
  have s0 : (w.alloc (.cells #[.int .i64 0] 3)).heap.size = B + 1 := by simp [hB]
  clear hB
  go_enter Try.func12, Try.ntmps12
  go_wp2_with fail
  rw [HB.out]
  generalize w.alloc (.cells #[.int .i64 0] 3) = W0 at *
  refine (new64 35 _ _).mono ?_
  rintro e w1 ⟨rfl, o1, v1⟩
  rw [s0] at v1
  rw [s0]
  have c1 := c0.own o1 (fun h => h)
  replace o0 := o0.step o1 (fun _ _ h => h.elim)
  clear c0 o1 s0
  go_wp2_with fail
  refine (made64 (B + 1) 35 _ _ _ _ _ 0 _ v1).mono ?_
  rintro e w1' ⟨rfl, rfl⟩
  go_wp2_with fail
  refine (new64_nil _).mono ?_
  rintro e w1' ⟨rfl, rfl⟩
  go_wp2_with fail
  refine (get64_first (B + 1) 35 _ 7 0 (· = B) (fun W => Blk W B 3 #[.int .i64 1]) (fun W W' hW h => h.own hW (by omega)) _ v1 (alive_makes B (B + 1) (by omega) _ c1) (fun i hi => by subst hi; exact c1.lt)).mono ?_
  rintro e w2 ⟨rfl, o2, c2, v2⟩
  replace o0 := o0.step o2 (fun _ _ h => by omega)
  clear c1 v1 o2
  go_wp2_with fail
  refine (get64_again (B + 1) 35 _ 7 _ v2).mono ?_
  rintro e w3 ⟨rfl, o3⟩
  have c3 := c2.own o3 (fun h => h)
  have v3 := v2.own o3 (fun h => h)
  replace o0 := o0.step o3 (fun _ _ h => h.elim)
  clear c2 v2 o3
  obtain ⟨k, hk⟩ : ∃ k, w3.heap.size = k := ⟨_, rfl⟩
  have n3 : Blk (w3.alloc (.cells #[.int .i64 0] 30)) k 30 #[.int .i64 0] := by have := Blk.new w3 30 #[.int .i64 0]; rw [hk] at this; exact this
  have o4 : Own (B ≤ ·) w (w3.alloc (.cells #[.int .i64 0] 30)) := o0.alloc _
  have v4 := v3.alloc (.cells #[.int .i64 0] 30)
  have q4 : (w3.alloc (.cells #[.int .i64 0] 30)).cell? ⟨B, 0, none⟩ = some (.int .i64 1) := ((c3.alloc (.cells #[.int .i64 0] 30)).cell 0).trans rfl
  have hkB : B < k := hk ▸ c3.lt
  have HK := Lib.hid hk
  clear hk o0 v3 c3
  go_wp2_with fail
  rw [HK.out]
  generalize w3.alloc (.cells #[.int .i64 0] 30) = w4 at *
  refine (made64 (B + 1) 35 _ _ _ _ _ 1 _ v4).mono ?_
  rintro e w4' ⟨rfl, rfl⟩
  go_wp2_with fail
  refine (add_blk k 0 3 _ n3).mono ?_
  rintro e w5 ⟨rfl, o5, n5⟩
  rw [show wrap64 (0 + 3) = 3 from by unfold wrap64; omega] at n5 ⊢
  go_wp2_with fail
  refine (swap_blk k 3 5 _ n5).mono ?_
  rintro e w6 ⟨rfl, o6, n6⟩
  go_wp2_with fail
  refine (try_hit_blk k 5 7 _ n6).mono ?_
  rintro e w7 ⟨rfl, o7, n7⟩
  go_wp2_with fail
  refine (try_miss_blk k 7 5 7 (by decide) _ n7).mono ?_
  rintro e w8 ⟨rfl, o8, n8⟩
  go_wp2_with fail
  refine (max_blk k 7 6 _ n8).mono ?_
  rintro e w9 ⟨rfl, o9, n9⟩
  rw [show max (7 : Int) 6 = 7 from by omega] at n9 ⊢
  go_wp2_with fail
  refine (get_blk k 7 _ n9).mono ?_
  rintro e w9' ⟨rfl, rfl⟩
  go_wp2
  go_ret
  refine ⟨rfl, ?_⟩
  have hs : ∀ i, i < w.heap.size → i = k → B ≤ i := fun i _ h => by omega
  rw [HB.out]
  exact (((((o4.step o5 hs).step o6 hs).step o7 hs).step o8 hs).step o9 hs).toBelow (Nat.le_of_eq HB.out.symm) (fun i hi h => by omega)
end Go.Proofs.Ythnllejpoklgbaa
