/-
  LazyAdds: THE WALK: to each count comes just what was added to it.
-/
import Derived.Test.YthnllejpoklgbaaAlive
import Derived.Test.YthnllejpoklgbaaOpen
import Derived.LoopTactic
import Derived.BigQuiet
import Derived.Deep.QuietTactic
import Derived.Deep.RegionHeld3
import Derived.Deep.DrawnRows
namespace Go.Proofs.Ythnllejpoklgbaa.lazyAdds
open Go.RowKit
attribute [local go_sem ↓] Go.wp_at_zero Go.wp_at_succ

def Arr3 (w : World) (c t : Nat) (x y z : Int) : Prop := Blk w c t #[.int .i64 x, .int .i64 y, .int .i64 z]

theorem get_q (b off : Nat) (x : Int) (w : World) (hc : w.cell? ⟨b, off, none⟩ = some (.int .i64 x)) :
    Calls Try.prog 18 #[.pointer (some ⟨b, off, none⟩)] w fun e w' => e = .returned (.int .i64 x) ∧ w' = w := (count_get b off x w hc).mono fun _ _ ⟨he, hw⟩ => ⟨he, hw.symm⟩
theorem below_drawn {B : Nat} {w w' : World} (h : Below B w w') (n : Nat) : Below B w (w'.drewN n) := ⟨h.os, h.tape, h.output, h.size, h.block⟩

theorem u8_range {a : Int} (h : (Lit.int .u8 a).wf = true) : 0 ≤ a ∧ a ≤ 255 := by
  simp [Lit.wf] at h
  exact h

set_option maxRecDepth 100000 in
set_option maxHeartbeats 1600000 in
theorem walk (first : Int) (A : Option Addr) (len cap : Nat) (zs : List Int) (A' : Option Addr) (len' cap' : Nat) (zs' : List Int) (w : World) (_hf : (Lit.int .i64 first).wf = true) (hl : len ≤ 9223372036854775807)
    (hz : ∀ k, k < len → ∃ x, A = some x ∧ x.block < w.heap.size ∧ w.cell? (x.add k) = some (.int .i64 (zs.getD k 0)) ∧ (Lit.int .i64 (zs.getD k 0)).wf = true)
    (_hl' : len' ≤ 9223372036854775807)
    (hz' : ∀ k, k < len' → ∃ x, A' = some x ∧ x.block < w.heap.size ∧ w.cell? (x.add k) = some (.int .u8 (zs'.getD k 0)) ∧ (Lit.int .u8 (zs'.getD k 0)).wf = true) :
    Calls Try.prog 6 #[.int .i64 first, .slice A len cap, .slice A' len' cap'] w fun e w' => e = .returned (.bool true) ∧ Below w.heap.size w w' := by
  have HZ := Lib.hid hz
  have HZ' := Lib.hid hz'
  clear hz hz' _hf
  have hnot : ∀ (x : Bool) (w : World), (Op.unary .not (.bool x)).run Try.prog w = .ok (.bool (!x)) w := fun _ _ => rfl
  go_enter Try.func6, Try.ntmps6
  go_wp2_with fail
  refine (alive_calls _).mono ?_
  rintro e w1 ⟨rfl, b1⟩
  obtain ⟨C, hC⟩ : ∃ C, w1.heap.size = C := ⟨_, rfl⟩
  have HC := Lib.hid hC
  clear hC
  by_cases h100 : 100 < len
  · have h100' : decide (100 < (len : Int)) = true := decide_eq_true (by omega)
    go_wp2
    go_ret
    exact ⟨rfl, b1.alloc b1.size _⟩
  have h100' : decide (100 < (len : Int)) = false := decide_eq_false (by omega)
  go_wp2_with fail
  have nc : Blk ((w1.alloc (.cells #[.int .i64 0, .int .i64 0, .int .i64 0] 55)).alloc (.cells #[.int .i64 first, .int .i64 first, .int .i64 first] 56)) C 55 #[.int .i64 0, .int .i64 0, .int .i64 0] := by
    have := (Blk.new w1 55 #[.int .i64 0, .int .i64 0, .int .i64 0]).alloc (.cells #[.int .i64 first, .int .i64 first, .int .i64 first] 56)
    rw [HC.out] at this
    exact this
  have nd : Blk ((w1.alloc (.cells #[.int .i64 0, .int .i64 0, .int .i64 0] 55)).alloc (.cells #[.int .i64 first, .int .i64 first, .int .i64 first] 56)) (C + 1) 56 #[.int .i64 first, .int .i64 first, .int .i64 first] := by
    have := Blk.new (w1.alloc (.cells #[.int .i64 0, .int .i64 0, .int .i64 0] 55)) 56 #[.int .i64 first, .int .i64 first, .int .i64 first]
    rw [show (w1.alloc (.cells #[.int .i64 0, .int .i64 0, .int .i64 0] 55)).heap.size = C + 1 from by simp [HC.out]] at this
    exact this
  have hBC : w.heap.size ≤ C := by rw [← HC.out]; exact b1.size
  have b2 : Below w.heap.size w ((w1.alloc (.cells #[.int .i64 0, .int .i64 0, .int .i64 0] 55)).alloc (.cells #[.int .i64 first, .int .i64 first, .int .i64 first] 56)) := (b1.alloc b1.size _).alloc (by have := b1.size; simp; omega) _
  rw [HC.out]
  clear HC b1
  generalize (w1.alloc (.cells #[.int .i64 0, .int .i64 0, .int .i64 0] 55)).alloc (.cells #[.int .i64 first, .int .i64 first, .int .i64 first] 56) = w2 at *
  clear w1
  go_loopw [22] (fun i wr => ∃ k : Nat, k ≤ 3 ∧ i = .int .i64 k ∧ Blk wr C 55 #[.int .i64 (if 0 < k then first else 0), .int .i64 (if 1 < k then first else 0), .int .i64 (if 2 < k then first else 0)] ∧ Blk wr (C + 1) 56 #[.int .i64 first, .int .i64 first, .int .i64 first] ∧ Below w.heap.size w wr) (fun i _ => 3 - (intOf i).toNat)
  case atStart => exact ⟨0, by omega, rfl, nc, nd, b2⟩
  case round =>
    obtain ⟨k, hk, rfl, hb, hd, hB⟩ := hrel
    clear nc nd b2
    match k, hk with
    | 0, _ =>
      have hb' : Blk wr C 55 #[.int .i64 0, .int .i64 0, .int .i64 0] := hb
      clear hb
      go_wp2_with fail
      refine (count_swap C 0 0 first _ ((hb'.cell 0).trans rfl) (hb'.frozen 0)).mono ?_
      rintro e w4 ⟨rfl, rfl⟩
      go_wp2
      go_roundw
      case rel => exact ⟨1, by omega, rfl, hb'.set 0 (.int .i64 first), hd.set_other _ _ (by simp), (hB.setCell (p := ⟨C, 0, none⟩) hBC _)⟩
      case measure => simp [intOf]
    | 1, _ =>
      have hb' : Blk wr C 55 #[.int .i64 first, .int .i64 0, .int .i64 0] := hb
      clear hb
      go_wp2_with fail
      refine (count_swap C 1 0 first _ ((hb'.cell 1).trans rfl) (hb'.frozen 1)).mono ?_
      rintro e w4 ⟨rfl, rfl⟩
      go_wp2
      go_roundw
      case rel => exact ⟨2, by omega, rfl, hb'.set 1 (.int .i64 first), hd.set_other _ _ (by simp), (hB.setCell (p := ⟨C, 1, none⟩) hBC _)⟩
      case measure => simp [intOf]
    | 2, _ =>
      have hb' : Blk wr C 55 #[.int .i64 first, .int .i64 first, .int .i64 0] := hb
      clear hb
      go_wp2_with fail
      refine (count_swap C 2 0 first _ ((hb'.cell 2).trans rfl) (hb'.frozen 2)).mono ?_
      rintro e w4 ⟨rfl, rfl⟩
      go_wp2
      go_roundw
      case rel => exact ⟨3, by omega, rfl, hb'.set 2 (.int .i64 first), hd.set_other _ _ (by simp), (hB.setCell (p := ⟨C, 2, none⟩) hBC _)⟩
      case measure => simp [intOf]
    | 3, _ =>
      have hc : Blk wr C 55 #[.int .i64 first, .int .i64 first, .int .i64 first] := hb
      clear hb
      go_wp2_with fail
      generalize wr = w3 at *
      go_loopw [32] (fun i wr => ∃ (k : Nat) (s0 s1 s2 : Int), k ≤ len ∧ i = .int .i64 k ∧ Blk wr C 55 #[.int .i64 s0, .int .i64 s1, .int .i64 s2] ∧ Blk wr (C + 1) 56 #[.int .i64 s0, .int .i64 s1, .int .i64 s2] ∧ Below w.heap.size w wr) (fun i _ => len - (intOf i).toNat)
      case atStart => exact ⟨0, first, first, first, by omega, rfl, hc, hd, hB⟩
      case round =>
        clear hc hd hB
        obtain ⟨k, s0, s1, s2, hk, rfl, hc, hd, hB⟩ := hrel
        by_cases hlt : k < len
        · obtain ⟨ad, rfl, hlt', hc0, _⟩ := HZ.out k hlt
          have hq : wr.cell? (ad.add k) = some (.int .i64 (zs.getD k 0)) := by
            rw [hB.cell (by rw [block_add]; exact hlt')]
            exact hc0
          clear hc0
          generalize zs.getD k 0 = n at hq
          by_cases h' : k < len'
          · obtain ⟨ad', rfl, hlt2, hc1, hw1⟩ := HZ'.out k h'
            have hq' : wr.cell? (ad'.add k) = some (.int .u8 (zs'.getD k 0)) := by
              rw [hB.cell (by rw [block_add]; exact hlt2)]
              exact hc1
            obtain ⟨g0, g1⟩ := u8_range hw1
            clear hc1 hw1
            generalize zs'.getD k 0 = t at hq' g0 g1
            have h3 : t % 3 = 0 ∨ t % 3 = 1 ∨ t % 3 = 2 := by omega
            rcases h3 with h3 | h3 | h3
            · have d0 : wr.cell? ⟨C + 1, 0, none⟩ = some (.int .i64 s0) := (hd.cell 0).trans rfl
              have z0 := hd.frozen 0
              have hd2 := hd.set 0 (.int .i64 (wrap64 (s0 + n)))
              have hc2 := hc.set_other ⟨C + 1, 0, none⟩ (.int .i64 (wrap64 (s0 + n))) (by simp)
              have hB2 : Below w.heap.size w (wr.setCell ⟨C + 1, 0, none⟩ (.int .i64 (wrap64 (s0 + n)))) := hB.setCell (p := ⟨C + 1, 0, none⟩) (by simp; omega) _
              go_wp2_with fail
              clear d0 z0 hq
              generalize wr.setCell ⟨C + 1, 0, none⟩ (.int .i64 (wrap64 (s0 + n))) = w5 at *
              clear hc hd hB
              have c5 : w5.drew.cell? ⟨C, 0, none⟩ = some (.int .i64 s0) := (hc2.cell 0).trans rfl
              have z5 : w5.drew.frozen? ⟨C, 0, none⟩ = false := hc2.frozen 0
              have e5 : w5.cell? ⟨C + 1, 0, none⟩ = some (.int .i64 (wrap64 (s0 + n))) := (hd2.cell 0).trans rfl
              have hc3 := hc2.set 0 (.int .i64 (wrap64 (s0 + n)))
              have hd3 := hd2.set_other ⟨C, 0, none⟩ (.int .i64 (wrap64 (s0 + n))) (by simp)
              have hB3 : Below w.heap.size w (w5.setCell ⟨C, 0, none⟩ (.int .i64 (wrap64 (s0 + n)))) := hB2.setCell (p := ⟨C, 0, none⟩) hBC _
              have e6 : (w5.setCell ⟨C, 0, none⟩ (.int .i64 (wrap64 (s0 + n)))).cell? ⟨C + 1, 0, none⟩ = some (.int .i64 (wrap64 (s0 + n))) := (hd3.cell 0).trans rfl
              go_region_held3 (fun w' => w'.cell? ⟨C + 1, 0, none⟩ = some (.int .i64 (wrap64 (s0 + n)))) (first | (go_keep; done) | exact e6) ((go_at_call 14; refine (count_add C 0 s0 n _ c5 z5).mono ?_; rintro e w6 ⟨rfl, rfl⟩))
              all_goals go_wp2
              all_goals go_roundw
              case rel => first | exact ⟨k + 1, (wrap64 (s0 + n)), s1, s2, by omega, by go_num, hc3.drew, hd3.drew, hB3.drew⟩ | ((repeat apply Exists.intro); exact ⟨⟨k + 1, (wrap64 (s0 + n)), s1, s2, by omega, by go_num, hc3.drew, hd3.drew, hB3.drew⟩, rfl⟩)
              case measure => simp [intOf]; omega
            · have d0 : wr.cell? ⟨C + 1, 1, none⟩ = some (.int .i64 s1) := (hd.cell 1).trans rfl
              have z0 := hd.frozen 1
              have hd2 := hd.set 1 (.int .i64 (wrap64 (s1 + n)))
              have hc2 := hc.set_other ⟨C + 1, 1, none⟩ (.int .i64 (wrap64 (s1 + n))) (by simp)
              have hB2 : Below w.heap.size w (wr.setCell ⟨C + 1, 1, none⟩ (.int .i64 (wrap64 (s1 + n)))) := hB.setCell (p := ⟨C + 1, 1, none⟩) (by simp; omega) _
              go_wp2_with fail
              clear d0 z0 hq
              generalize wr.setCell ⟨C + 1, 1, none⟩ (.int .i64 (wrap64 (s1 + n))) = w5 at *
              clear hc hd hB
              have c5 : w5.drew.cell? ⟨C, 1, none⟩ = some (.int .i64 s1) := (hc2.cell 1).trans rfl
              have z5 : w5.drew.frozen? ⟨C, 1, none⟩ = false := hc2.frozen 1
              have e5 : w5.cell? ⟨C + 1, 1, none⟩ = some (.int .i64 (wrap64 (s1 + n))) := (hd2.cell 1).trans rfl
              have hc3 := hc2.set 1 (.int .i64 (wrap64 (s1 + n)))
              have hd3 := hd2.set_other ⟨C, 1, none⟩ (.int .i64 (wrap64 (s1 + n))) (by simp)
              have hB3 : Below w.heap.size w (w5.setCell ⟨C, 1, none⟩ (.int .i64 (wrap64 (s1 + n)))) := hB2.setCell (p := ⟨C, 1, none⟩) hBC _
              have e6 : (w5.setCell ⟨C, 1, none⟩ (.int .i64 (wrap64 (s1 + n)))).cell? ⟨C + 1, 1, none⟩ = some (.int .i64 (wrap64 (s1 + n))) := (hd3.cell 1).trans rfl
              go_region_held3 (fun w' => w'.cell? ⟨C + 1, 1, none⟩ = some (.int .i64 (wrap64 (s1 + n)))) (first | (go_keep; done) | exact e6) ((go_at_call 14; refine (count_add C 1 s1 n _ c5 z5).mono ?_; rintro e w6 ⟨rfl, rfl⟩))
              all_goals go_wp2
              all_goals go_roundw
              case rel => first | exact ⟨k + 1, s0, (wrap64 (s1 + n)), s2, by omega, by go_num, hc3.drew, hd3.drew, hB3.drew⟩ | ((repeat apply Exists.intro); exact ⟨⟨k + 1, s0, (wrap64 (s1 + n)), s2, by omega, by go_num, hc3.drew, hd3.drew, hB3.drew⟩, rfl⟩)
              case measure => simp [intOf]; omega
            · have d0 : wr.cell? ⟨C + 1, 2, none⟩ = some (.int .i64 s2) := (hd.cell 2).trans rfl
              have z0 := hd.frozen 2
              have hd2 := hd.set 2 (.int .i64 (wrap64 (s2 + n)))
              have hc2 := hc.set_other ⟨C + 1, 2, none⟩ (.int .i64 (wrap64 (s2 + n))) (by simp)
              have hB2 : Below w.heap.size w (wr.setCell ⟨C + 1, 2, none⟩ (.int .i64 (wrap64 (s2 + n)))) := hB.setCell (p := ⟨C + 1, 2, none⟩) (by simp; omega) _
              go_wp2_with fail
              clear d0 z0 hq
              generalize wr.setCell ⟨C + 1, 2, none⟩ (.int .i64 (wrap64 (s2 + n))) = w5 at *
              clear hc hd hB
              have c5 : w5.drew.cell? ⟨C, 2, none⟩ = some (.int .i64 s2) := (hc2.cell 2).trans rfl
              have z5 : w5.drew.frozen? ⟨C, 2, none⟩ = false := hc2.frozen 2
              have e5 : w5.cell? ⟨C + 1, 2, none⟩ = some (.int .i64 (wrap64 (s2 + n))) := (hd2.cell 2).trans rfl
              have hc3 := hc2.set 2 (.int .i64 (wrap64 (s2 + n)))
              have hd3 := hd2.set_other ⟨C, 2, none⟩ (.int .i64 (wrap64 (s2 + n))) (by simp)
              have hB3 : Below w.heap.size w (w5.setCell ⟨C, 2, none⟩ (.int .i64 (wrap64 (s2 + n)))) := hB2.setCell (p := ⟨C, 2, none⟩) hBC _
              have e6 : (w5.setCell ⟨C, 2, none⟩ (.int .i64 (wrap64 (s2 + n)))).cell? ⟨C + 1, 2, none⟩ = some (.int .i64 (wrap64 (s2 + n))) := (hd3.cell 2).trans rfl
              go_region_held3 (fun w' => w'.cell? ⟨C + 1, 2, none⟩ = some (.int .i64 (wrap64 (s2 + n)))) (first | (go_keep; done) | exact e6) ((go_at_call 14; refine (count_add C 2 s2 n _ c5 z5).mono ?_; rintro e w6 ⟨rfl, rfl⟩))
              all_goals go_wp2
              all_goals go_roundw
              case rel => first | exact ⟨k + 1, s0, s1, (wrap64 (s2 + n)), by omega, by go_num, hc3.drew, hd3.drew, hB3.drew⟩ | ((repeat apply Exists.intro); exact ⟨⟨k + 1, s0, s1, (wrap64 (s2 + n)), by omega, by go_num, hc3.drew, hd3.drew, hB3.drew⟩, rfl⟩)
              case measure => simp [intOf]; omega
          · 
            have d0 : wr.cell? ⟨C + 1, 0, none⟩ = some (.int .i64 s0) := (hd.cell 0).trans rfl
            have z0 := hd.frozen 0
            have hd2 := hd.set 0 (.int .i64 (wrap64 (s0 + n)))
            have hc2 := hc.set_other ⟨C + 1, 0, none⟩ (.int .i64 (wrap64 (s0 + n))) (by simp)
            have hB2 : Below w.heap.size w (wr.setCell ⟨C + 1, 0, none⟩ (.int .i64 (wrap64 (s0 + n)))) := hB.setCell (p := ⟨C + 1, 0, none⟩) (by simp; omega) _
            go_wp2_with fail
            clear d0 z0 hq
            generalize wr.setCell ⟨C + 1, 0, none⟩ (.int .i64 (wrap64 (s0 + n))) = w5 at *
            clear hc hd hB
            have c5 : w5.drew.cell? ⟨C, 0, none⟩ = some (.int .i64 s0) := (hc2.cell 0).trans rfl
            have z5 : w5.drew.frozen? ⟨C, 0, none⟩ = false := hc2.frozen 0
            have e5 : w5.cell? ⟨C + 1, 0, none⟩ = some (.int .i64 (wrap64 (s0 + n))) := (hd2.cell 0).trans rfl
            have hc3 := hc2.set 0 (.int .i64 (wrap64 (s0 + n)))
            have hd3 := hd2.set_other ⟨C, 0, none⟩ (.int .i64 (wrap64 (s0 + n))) (by simp)
            have hB3 : Below w.heap.size w (w5.setCell ⟨C, 0, none⟩ (.int .i64 (wrap64 (s0 + n)))) := hB2.setCell (p := ⟨C, 0, none⟩) hBC _
            have e6 : (w5.setCell ⟨C, 0, none⟩ (.int .i64 (wrap64 (s0 + n)))).cell? ⟨C + 1, 0, none⟩ = some (.int .i64 (wrap64 (s0 + n))) := (hd3.cell 0).trans rfl
            go_region_held3 (fun w' => w'.cell? ⟨C + 1, 0, none⟩ = some (.int .i64 (wrap64 (s0 + n)))) (first | (go_keep; done) | exact e6) ((go_at_call 14; refine (count_add C 0 s0 n _ c5 z5).mono ?_; rintro e w6 ⟨rfl, rfl⟩))
            all_goals go_wp2
            all_goals go_roundw
            case rel => first | exact ⟨k + 1, (wrap64 (s0 + n)), s1, s2, by omega, by go_num, hc3.drew, hd3.drew, hB3.drew⟩ | ((repeat apply Exists.intro); exact ⟨⟨k + 1, (wrap64 (s0 + n)), s1, s2, by omega, by go_num, hc3.drew, hd3.drew, hB3.drew⟩, rfl⟩)
            case measure => simp [intOf]; omega
        · have g0 : ∀ n, (wr.drewN n).cell? ⟨C, 0, none⟩ = some (.int .i64 s0) := fun n => ((hc.drewN n).cell 0).trans rfl
          have g1 : ∀ n, (wr.drewN n).cell? ⟨C, 1, none⟩ = some (.int .i64 s1) := fun n => ((hc.drewN n).cell 1).trans rfl
          have g2 : ∀ n, (wr.drewN n).cell? ⟨C, 2, none⟩ = some (.int .i64 s2) := fun n => ((hc.drewN n).cell 2).trans rfl
          have d0 : wr.cell? ⟨C + 1, 0, none⟩ = some (.int .i64 s0) := (hd.cell 0).trans rfl
          have d1 : wr.cell? ⟨C + 1, 1, none⟩ = some (.int .i64 s1) := (hd.cell 1).trans rfl
          have d2 : wr.cell? ⟨C + 1, 2, none⟩ = some (.int .i64 s2) := (hd.cell 2).trans rfl
          have G0 := Lib.hid g0
          have G1 := Lib.hid g1
          have G2 := Lib.hid g2
          clear g0 g1 g2
          go_wp2_with fail
          go_quiet ((go_at_call 18; first | (with_reducible exact Calls.quiet_of_same (get_q C 0 s0 _ (G0.out _))) | (with_reducible exact Calls.quiet_of_same (get_q C 1 s1 _ (G1.out _))) | (with_reducible exact Calls.quiet_of_same (get_q C 2 s2 _ (G2.out _)))))
          go_wp2
          go_ret
          exact ⟨rfl, below_drawn hB _⟩
end Go.Proofs.Ythnllejpoklgbaa.lazyAdds
