/-
  LazyMany: THE WALK: of many values each is made by the first who asks, and those alone.
-/
import Derived.Test.YthnllejpoklgbaaManyC
import Derived.Test.YthnllejpoklgbaaAlive
import Derived.Test.YthnllejpoklgbaaOpen
import Derived.BigQuiet
import Derived.OwnWalk
import Derived.Deep.QuietTactic
import Derived.Deep.DrawnRows
namespace Go.Proofs.Ythnllejpoklgbaa.lazyMany
open Go.RowKit Go.Proofs.YthnllejpoklgbaaW.PrintWords
set_option linter.unusedVariables false
set_option linter.unusedSimpArgs false
attribute [local go_sem ↓] Go.wp_at_zero Go.wp_at_succ

theorem under45 : Try.prog.underlying 45 = some (.slice 3) := by kernel_rfl
theorem under46 : Try.prog.underlying 46 = some (.slice 47) := by kernel_rfl
theorem under50 : Try.prog.underlying 50 = some (.slice 4) := by kernel_rfl
theorem info3 : (Try.prog.info? 3).map (fun i => (i.zero, i.size, i.bytes)) = some (some (.int .i64 0), 1, 8) := by kernel_rfl
theorem info4 : (Try.prog.info? 4).map (fun i => (i.zero, i.size, i.bytes)) = some (some (.bool false), 1, 1) := by kernel_rfl
theorem info47 : (Try.prog.info? 47).map (fun i => (i.zero, i.size, i.bytes)) = some (some (.pointer none), 1, 8) := by kernel_rfl
theorem u8_range {a : Int} (h : (Lit.int .u8 a).wf = true) : 0 ≤ a ∧ a ≤ 255 := by
  simp [Lit.wf] at h
  exact h
set_option maxRecDepth 100000 in
set_option maxHeartbeats 3200000 in
theorem walk0 (n0 : Int) (A : Option Addr) (len cap : Nat) (zs : List Int) (w : World) (hn0 : 0 ≤ n0 ∧ n0 ≤ 255) (hl : len ≤ 9223372036854775807)
    (hz : ∀ k, k < len → ∃ x, A = some x ∧ x.block < w.heap.size ∧ w.cell? (x.add k) = some (.int .u8 (zs.getD k 0)) ∧ (Lit.int .u8 (zs.getD k 0)).wf = true) :
    Calls Try.prog 5 #[.int .u8 n0, .slice A len cap] w fun e w' => e = .returned (.bool true) ∧ Below w.heap.size w w' := by
  have HZ := Lib.hid hz
  clear hz
  have hnot : ∀ (x : Bool) (w : World), (Op.unary .not (.bool x)).run Try.prog w = .ok (.bool (!x)) w := fun _ _ => rfl
  obtain ⟨m0, rfl⟩ := Int.eq_ofNat_of_zero_le hn0.1
  obtain ⟨k, hk⟩ : ∃ k, m0 % 8 + 1 = k := ⟨_, rfl⟩
  have hk8 : k ≤ 8 := by omega
  have hk1 : 1 ≤ k := by omega
  have ek : (m0 : Int) % 8 + 1 = (k : Int) := by omega
  have hmk := run_make_row' (P := Try.prog) 45 3 (.int .i64 0) 8 under45 info3 rfl .i64 .i64 k (by omega) (by omega)
  go_enter Try.func5, Try.ntmps5
  go_wp2_with fail
  refine (alive_calls _).mono ?_
  rintro e w1 ⟨rfl, b1⟩
  obtain ⟨R, hR⟩ : ∃ R, w1.heap.size = R := ⟨_, rfl⟩
  obtain ⟨wr0, hwr⟩ : ∃ wr0, w1.alloc (.cells (madeCells #[.int .i64 0] k) 3) = wr0 := ⟨_, rfl⟩
  have sr : wr0.heap.size = R + 1 := by rw [← hwr]; simp [hR]
  have br := b1.alloc b1.size (.cells (madeCells #[.int .i64 0] k) 3)
  rw [hwr] at br
  have Rr : wr0.rowIs R 3 k (cv fun _ => false) := by
    have := World.rowIs_made w1 (.int .i64 0) k 3
    rw [hwr, hR] at this
    exact this
  obtain ⟨wc0, hwc⟩ : ∃ wc0, wr0.alloc (.cells #[.slice (some ⟨R, 0, none⟩) k k] 45) = wc0 := ⟨_, rfl⟩
  have S0 : St wc0 (R + 1) R k 0 (fun _ => 0) (fun _ => 0) (fun _ => false) := by
    refine ⟨?_, ?_, fun j hj => absurd hj (Nat.not_lt_zero _), fun j hj => absurd hj (Nat.not_lt_zero _), fun j hj => absurd hj (Nat.not_lt_zero _)⟩
    · rw [← hwc, ← sr]
      exact Blk.new wr0 _ _
    · rw [← hwc]
      exact Rr.alloc _
  have hRB : w.heap.size ≤ R := by rw [← hR]; exact b1.size
  have bc := br.alloc (by rw [sr]; omega) (.cells #[.slice (some ⟨R, 0, none⟩) k k] 45)
  rw [hwc] at bc
  have sc : w.heap.size ≤ wc0.heap.size := bc.size
  go_wp2_with fail
  clear hmk b1 br Rr hwr hwc hR sr
  go_loopg [7, 25] k (fun kq v iv wr => ∃ (m : Nat) (bi bv : Nat → Nat), kq + m = k ∧ iv = .int .i64 m ∧ St wr (R + 1) R k m bi bv (fun _ => false) ∧ wr.ownsRow w.heap.size 47 1 v m (ptrs bv m) ∧ Below w.heap.size w wr ∧ ∀ j, j < m → w.heap.size ≤ bv j)
  case atStart => exact ⟨0, _, _, rfl, rfl, S0, World.ownsRow_nil _ _ _ _, bc, fun j hj => absurd hj (Nat.not_lt_zero _)⟩
  case round =>
    clear S0 bc sc
    obtain ⟨m, bi, bv, hm, rfl, hS, hV, hB, hbv⟩ := hrel
    cases gk with
    | zero =>
      obtain rfl : m = k := by omega
      have hlt : decide ((m : Int) < (m : Int)) = false := decide_eq_false (by omega)
      by_cases h100 : 100 < len
      · have h100' : decide (100 < (len : Int)) = true := decide_eq_true (by omega)
        clear hS hV
        go_wp2
        go_ret
        exact ⟨rfl, hB⟩
      have h100' : decide (100 < (len : Int)) = false := decide_eq_false (by omega)
      have hmk := run_make_row' (P := Try.prog) 50 4 (.bool false) 1 under50 info4 rfl .i64 .i64 m (by omega) (by omega)
      obtain ⟨D, hD⟩ : ∃ D, wr.heap.size = D := ⟨_, rfl⟩
      obtain ⟨wd, hwd⟩ : ∃ wd, wr.alloc (.cells (madeCells #[.bool false] m) 4) = wd := ⟨_, rfl⟩
      obtain ⟨g, cp, cur, rfl, hgB, hg, hcur⟩ := vs_row hV hk1
      have hAll : All w wd R D g m cur bi bv (fun _ => false) := by
        refine ⟨?_, ?_, ?_, ?_, hRB, by rw [← hD]; exact hB.size, hbv⟩
        · rw [← hwd]
          exact hS.idle ((Own.refl _ wr).alloc _)
        · have := World.rowIs_made wr (.bool false) m 4
          rw [hwd, hD] at this
          exact this
        · rw [← hwd]
          exact hg.alloc _
        · rw [← hwd]
          exact hB.alloc hB.size _
      clear hS hV hB hg hbv
      go_wp2_with fail
      clear hwd hmk hD ek hn0
      go_loopg [41] len (fun kq iv wr => ∃ (i : Nat) (As : Nat → Bool), kq + i = len ∧ iv = .int .i64 i ∧ All w wr R D g m cur bi bv As)
      case atStart => exact ⟨0, _, Nat.add_zero _, rfl, hAll⟩
      case round =>
        clear hAll
        obtain ⟨i, As, hi, rfl, hA⟩ := hrel
        cases gk with
        | zero =>
          obtain rfl : i = len := by omega
          have hlt2 : decide ((i : Int) < (i : Int)) = false := decide_eq_false (by omega)
          have hB := hA.frame
          clear hA
          go_wp2
          go_ret
          exact ⟨rfl, hB⟩
        | succ gk =>
          have hil : i < len := by omega
          have hlt2 : decide ((i : Int) < (len : Int)) = true := decide_eq_true (by omega)
          have i0 : (0 ≤ (i : Int)) = True := eq_true (by omega)
          have i1 : ((i : Int) < (len : Int)) = True := eq_true (by omega)
          have e2 := wrap_succ hil hl
          obtain ⟨ad, rfl, hlt', hc0, hw1⟩ := HZ.out i hil
          have hq : wr.cell? (ad.add i) = some (.int .u8 (zs.getD i 0)) := by
            rw [hA.frame.cell (by rw [block_add]; exact hlt')]
            exact hc0
          clear hc0
          generalize zs.getD i 0 = z at hq hw1
          obtain ⟨z0, z255⟩ := u8_range hw1
          obtain ⟨z, rfl⟩ := Int.eq_ofNat_of_zero_le z0
          obtain ⟨j, hj⟩ : ∃ j, z % m = j := ⟨_, rfl⟩
          have hjm : j < m := by rw [← hj]; exact Nat.mod_lt _ hk1
          have em := wrap_ten j (by omega)
          have m0' : ((m : Int) == 0) = false := beq_eq_false_iff_ne.2 (by omega)
          have j0 : (0 ≤ (j : Int)) = True := eq_true (by omega)
          have j1 : ((j : Int) < (m : Int)) = True := eq_true (by omega)
          have cD : wr.cell? ⟨D, j, none⟩ = some (.bool (As j)) := hA.ask.cell hjm
          have fD : wr.frozen? ⟨D, j, none⟩ = false := hA.ask.frozen j
          obtain ⟨hS2, _, hg2, _⟩ := hA.mark hjm
          have v2 : (wr.setCell ⟨D, j, none⟩ (.bool true)).cell? ⟨g, j, none⟩ = some (.pointer (some ⟨bv j, 0, none⟩)) := (hg2.cell j).trans (hcur j hjm)
          have gv := get_val (R + 1) R m j bi bv As _ hk8 hjm hS2
          have ej := tmod_nat (z := z) (m := m) (by omega) hj
          clear hw1 z0 z255 hj hS2 hg2 hlt'
          go_wp2_with (go_at_call 25; refine gv.mono ?_; rintro e w5 ⟨rfl, hS5, ho5⟩)
          have hA5 := hA.told hjm ho5 hS5
          clear ej em gv v2 hq hS5 ho5 hA cD fD m0' j0 j1 hjm
          refine check_loop w R D g m cp cur bi bv (setA As j) hk8 hcur _ _ _ _ _ _ _ _ _ _ _ _ _ _ _ _ _ _ _ _ _ _ _ _ _ _ _ _ _ _ _ _ _ _ _ _ _ _ _ _ _ _ _ _ _ _ _ _ _ _ _ _ _ _ _ _ _ _ _ _ _ _ _ _ _ _ _ _ _ _ _ _ _ _ _ _ _ _ _ _ _ _ _ _ _ _ _ _ _ _ _ _ _ _ _ _ _ _ _ ?_ w5 hA5
          clear hA5
          intro u4 u15 u69 u70 u71 u72 u73 u74 u75 u76 u77 u78 u79 u80 u81 u82 u83 u84 u85 u86 u87 u88 u89 u90 u91 u92 u93 u94 u95 u96 u97 u98 u99 u100 u101 w6 hA6
          go_wp2
          go_roundg gk
          case measure => omega
          case rel => exact ⟨i + 1, _, by omega, by first | rw [e2] | rfl, hA6⟩
    | succ gk =>
      have hlt : decide ((m : Int) < (k : Int)) = true := decide_eq_true (by omega)
      obtain ⟨b, hb⟩ : ∃ b, wr.heap.size = b := ⟨_, rfl⟩
      obtain ⟨wx, hwx⟩ : ∃ wx, wr.alloc (.cells #[.int .i64 (m : Int)] 3) = wx := ⟨_, rfl⟩
      have hSx : St wx (R + 1) R k m bi bv (fun _ => false) := by
        rw [← hwx]
        exact hS.idle ((Own.refl _ wr).alloc _)
      have bx : Blk wx b 3 #[.int .i64 (m : Int)] := by
        rw [← hwx, ← hb]
        exact Blk.new wr _ _
      have hVx : wx.ownsRow w.heap.size 47 1 u7 m (ptrs bv m) := by
        rw [← hwx]
        exact hV.alloc _
      have hBx : Below w.heap.size w wx := by
        rw [← hwx]
        exact hB.alloc hB.size _
      have hbR : b ≠ R := by rw [← hb]; exact Nat.ne_of_gt hS.row.lt
      have hbi : ∀ j, j < m → bi j ≠ b := fun j hj => by rw [← hb]; exact Nat.ne_of_lt (hS.num j hj).lt
      clear hS hV hB
      go_wp2_with fail
      clear hwx
      refine (newInt 24 _ wx).mono ?_
      rintro e w5 ⟨rfl, ho5, hb5⟩
      obtain ⟨g, hg⟩ : ∃ g, wx.heap.size = g := ⟨_, rfl⟩
      have hgw : w.heap.size ≤ g := by rw [← hg]; exact hBx.size
      rw [hg] at hb5
      rw [hg]
      have hS5 := hSx.idle ho5
      have b5 := bx.own ho5 id
      have hV5 : w5.ownsRow w.heap.size 47 1 u7 m (ptrs bv m) := hVx.kept ⟨ho5.os, ho5.tape, ho5.output, ho5.size, fun k hk _ => ho5.block k hk id⟩ (row := none) (by cases u7.ownBlock <;> simp)
      have hB5 : Below w.heap.size w w5 := ⟨ho5.os.trans hBx.os, ho5.tape.trans hBx.tape, ho5.output.trans hBx.output, Nat.le_trans hBx.size ho5.size, fun i hi => (ho5.block i (Nat.lt_of_lt_of_le hi hBx.size) id).trans (hBx.block i hi)⟩
      clear hSx bx hVx hBx ho5
      go_wp2_with (at_builtin; go_loud (refine print_append_cells (w0 := w) w.heap.size rfl (.tmp 28) (.tmp 31) 46 47 (.pointer none) 1 8 rfl under46 info47 rfl (by decide) (by decide) u7 m (ptrs bv m) [.pointer (some ⟨g, 0, none⟩)] (by first | rfl | (go_simp; done)) (by first | rfl | (go_simp; done)) rfl (by intro u hu; rw [List.mem_singleton.1 hu]; rfl) hV5 hB5 hB5.size (by omega) ?_); intro v1 w6 hV6 hB6 hg6 hat6)
      have hr6 : ∀ r, u7.ownBlock = some r → ∃ cells, w5.heap[r]? = some (.cells cells 47 (0, 0)) := fun r hr => own_typed hV5 r hr
      have hS6 := (hS5.more b5 hbR hb5).grown hg6 hr6
      rw [← ptrs_more] at hV6
      clear hS5 b5 hb5 hV5 hB5 hg6 hat6 hr6
      have hbv6 : ∀ j, j < m + 1 → w.heap.size ≤ upd bv m g j := fun j hj => by
        by_cases e : j = m
        · rw [e, upd_same]
          exact hgw
        · rw [upd_ne e]
          exact hbv j (by omega)
      go_roundg gk
      case measure => omega
      case rel => exact ⟨m + 1, _, _, by omega, rfl, hS6, hV6, hB6, hbv6⟩
end Go.Proofs.Ythnllejpoklgbaa.lazyMany
