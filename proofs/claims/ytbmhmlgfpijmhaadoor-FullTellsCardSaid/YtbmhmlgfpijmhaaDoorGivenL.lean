/-
  ref10.Last, GIVEN TO THE PRINT: the program's call answers as lastR tells (the six cells of 'had' are the bits of a number).
-/
import Derived.Test.YtbmhmlgfpijmhaaDoorGivenR
import Derived.LoopTactic
import Derived.BigQuiet
import Derived.Deep.QuietTactic
import Derived.Deep.RegionHeld3
import Derived.Deep.DrawnRows
import Derived.RegionTactic
import Derived.RegionCalls
import Derived.Lib.Hide
namespace Go.Proofs.YtbmhmlgfpijmhaaDoor.P
open Go.RowKit Go.Proofs.YtbmhmlgfpijmhaaDoorW.PrintWords Go.Proofs.YtbmhmlgfpijmhaaDoorW.PrintLast Go.Proofs.YtbmhmlgfpijmhaaDoorW.PrintMore
set_option linter.unusedVariables false
attribute [local go_sem ↓] Go.wp_at_zero Go.wp_at_succ

theorem passB_of {x : S39} {a : Int} {r : Bool} (h : passB x a = r) : (x.f0 == 1 || x.f0 == 2 || x.f0 == 14 || x.f0 == 15 || ((x.f0 == 6 || x.f0 == 7) && !(x.f1 == a))) = r := h
set_option maxRecDepth 100000 in
theorem passes_calls (x : S39) (a : Int) (w : World) :
    Calls Tryd.prog 19 #[.agg #[.int .u8 x.f0, .int .u8 x.f1, .int .u8 x.f2, .int .u8 x.f3, .int .i64 x.f4], .int .u8 a] w fun e w' => e = .returned (.bool (passB x a)) ∧ Below w.heap.size w w' := by
  obtain ⟨r, hr⟩ : ∃ r, passB x a = r := ⟨_, rfl⟩
  rw [hr]
  replace hr := passB_of hr
  obtain ⟨o, ho⟩ : ∃ o, x.f0 = o := ⟨_, rfl⟩
  obtain ⟨q, hq⟩ : ∃ q, x.f1 = q := ⟨_, rfl⟩
  rw [ho, hq] at hr
  rw [ho, hq]
  clear ho hq
  have HB : ∀ m, Below w.heap.size w ((w.alloc (.cells #[.int .u8 o, .int .u8 q, .int .u8 x.f2, .int .u8 x.f3, .int .i64 x.f4] 39)).drewN m) := fun m => pw_below_drewN (below_alloc (Below.refl _ _) _) m
  have HB := Lib.hid HB
  cases b0 : (o == 1)
  ·
    cases b1 : (o == 2)
    ·
      cases b2 : (o == 14)
      ·
        cases b3 : (o == 15)
        ·
          cases b4 : (o == 6)
          ·
            cases b5 : (o == 7)
            ·
              obtain rfl : false = r := by rw [← hr]; simp [*]
              clear hr
              go_enter Tryd.func19, Tryd.ntmps19
              go_wp2
              all_goals go_ret
              all_goals exact ⟨rfl, HB.out 0⟩
            ·
              obtain rfl : (!(q == a)) = r := by rw [← hr]; simp [*]
              clear hr
              go_enter Tryd.func19, Tryd.ntmps19
              go_wp2
              all_goals go_ret
              all_goals exact ⟨rfl, HB.out 0⟩
          ·
            obtain rfl : (!(q == a)) = r := by rw [← hr]; simp [*]
            clear hr
            go_enter Tryd.func19, Tryd.ntmps19
            go_wp2
            all_goals go_ret
            all_goals exact ⟨rfl, HB.out 0⟩
        ·
          obtain rfl : true = r := by rw [← hr]; simp [*]
          clear hr
          go_enter Tryd.func19, Tryd.ntmps19
          go_wp2
          all_goals go_ret
          all_goals exact ⟨rfl, HB.out 0⟩
      ·
        obtain rfl : true = r := by rw [← hr]; simp [*]
        clear hr
        go_enter Tryd.func19, Tryd.ntmps19
        go_wp2
        all_goals go_ret
        all_goals exact ⟨rfl, HB.out 0⟩
    ·
      obtain rfl : true = r := by rw [← hr]; simp [*]
      clear hr
      go_enter Tryd.func19, Tryd.ntmps19
      go_wp2
      all_goals go_ret
      all_goals exact ⟨rfl, HB.out 0⟩
  ·
    obtain rfl : true = r := by rw [← hr]; simp [*]
    clear hr
    go_enter Tryd.func19, Tryd.ntmps19
    go_wp2
    all_goals go_ret
    all_goals exact ⟨rfl, HB.out 0⟩

/-! ### The six cells -/
def hadV (h : Nat) : Array Value := #[.bool (h.testBit 0), .bool (h.testBit 1), .bool (h.testBit 2), .bool (h.testBit 3), .bool (h.testBit 4), .bool (h.testBit 5)]
theorem hadV_get (h n : Nat) (hn : n < 6) : (hadV h)[n]? = some (.bool (h.testBit n)) := by
  match n, hn with
  | 0, _ => rfl
  | 1, _ => rfl
  | 2, _ => rfl
  | 3, _ => rfl
  | 4, _ => rfl
  | 5, _ => rfl
theorem or_bit : ∀ h : Fin 64, ∀ n : Fin 6, h.val ||| 2 ^ n.val < 64 ∧ ∀ m : Fin 6, (h.val ||| 2 ^ n.val).testBit m.val = if m = n then true else h.val.testBit m.val := by decide +kernel
theorem hadV_set (h n : Nat) (hh : h < 64) (hn : n < 6) : (hadV h).setIfInBounds n (.bool true) = hadV (h ||| 2 ^ n) := by
  have ob := (or_bit ⟨h, hh⟩ ⟨n, hn⟩).2
  dsimp only at ob
  unfold hadV
  rw [ob 0 |> fun e => (show (h ||| 2 ^ n).testBit 0 = _ from e), ob 1 |> fun e => (show (h ||| 2 ^ n).testBit 1 = _ from e), ob 2 |> fun e => (show (h ||| 2 ^ n).testBit 2 = _ from e), ob 3 |> fun e => (show (h ||| 2 ^ n).testBit 3 = _ from e), ob 4 |> fun e => (show (h ||| 2 ^ n).testBit 4 = _ from e), ob 5 |> fun e => (show (h ||| 2 ^ n).testBit 5 = _ from e)]
  match n, hn with
  | 0, _ => rfl
  | 1, _ => rfl
  | 2, _ => rfl
  | 3, _ => rfl
  | 4, _ => rfl
  | 5, _ => rfl

/-! ### The walk -/
set_option maxRecDepth 100000 in
set_option maxHeartbeats 3200000 in
theorem lockstitchref10_Last.calls (k : Nat) (A0_0 : Option Addr) (c0_0 : Nat) (l0_0 : List ByteArray) (a0_1 : ByteArray) (a0_2 : ByteArray) (A0_3 : Option Addr) (c0_3 : Nat) (l0_3 : List (S39)) (a1 : Int) (r : Int) (w : World) (hr0_0 : Kd.C Kd.string w A0_0 l0_0.length l0_0) (hc0_0 : l0_0.length ≤ c0_0) (hr0_3 : Kd.C k39 w A0_3 l0_3.length l0_3) (hc0_3 : l0_3.length ≤ c0_3) (h : lockstitchref10_Last.f k l0_0 a0_1 a0_2 l0_3 a1 = some r) :
    Calls Tryd.prog 10 #[.agg #[.slice A0_0 l0_0.length c0_0, .string a0_1, .string a0_2, .slice A0_3 l0_3.length c0_3], .int .i64 a1] w fun e w' => e = .returned (.int .i64 r) ∧ Below w.heap.size w w' := by
  have hu25 := Tryd.underlying25
  have hu39 := Tryd.underlying39
  have HR0 := Aside0.mk hr0_0
  have HR3 := Aside0.mk hr0_3
  have HC0 := Aside0.mk hc0_0
  have HC3 := Aside0.mk hc0_3
  have hlen := hr0_3.2.1
  clear hr0_0 hr0_3 hc0_0 hc0_3
  obtain ⟨G, hG⟩ : ∃ G, w.heap.size = G := ⟨_, rfl⟩
  obtain ⟨wb, hwb⟩ : ∃ wb, w.alloc (.cells #[.slice A0_0 l0_0.length c0_0, .string a0_1, .string a0_2, .slice A0_3 l0_3.length c0_3] 25) = wb := ⟨_, rfl⟩
  have BK : wb.heap[G]? = some (.cells #[.slice A0_0 l0_0.length c0_0, .string a0_1, .string a0_2, .slice A0_3 l0_3.length c0_3] 25 (0, 0)) := by
    rw [← hwb, ← hG]
    exact blk_new w _
  have HB : Below w.heap.size w wb := by
    rw [← hwb]
    exact below_alloc (Below.refl _ _) _
  unfold lockstitchref10_Last.f at h
  by_cases h0 : a1 < 0
  · rw [if_pos h0] at h
    obtain rfl := Option.some.inj h
    have h0' : decide (a1 < 0) = true := decide_eq_true h0
    clear h h0 hlen
    have hc0 : wb.cell? ⟨G, 3, none⟩ = some (.slice A0_3 l0_3.length c0_3) := (blk_cell BK 3).trans rfl
    skip
    go_enter Tryd.func10, Tryd.ntmps10
    go_wp2
    go_ret
    exact ⟨rfl, HB⟩
  rw [if_neg h0] at h
  have h0' : decide (a1 < 0) = false := decide_eq_false h0
  have cz0 : wb.cell? ⟨G, 0, none⟩ = some (.slice A0_0 l0_0.length c0_0) := (blk_cell BK 0).trans rfl
  have cz1 : wb.cell? ⟨G, 1, none⟩ = some (.string a0_1) := (blk_cell BK 1).trans rfl
  have cz2 : wb.cell? ⟨G, 2, none⟩ = some (.string a0_2) := (blk_cell BK 2).trans rfl
  have cz3 : wb.cell? ⟨G, 3, none⟩ = some (.slice A0_3 l0_3.length c0_3) := (blk_cell BK 3).trans rfl
  by_cases h1 : (l0_3.length : Int) ≤ a1
  · rw [if_pos h1] at h
    obtain rfl := Option.some.inj h
    have h1' : decide (a1 ≥ (l0_3.length : Int)) = true := decide_eq_true h1
    clear h h0 h1 hlen
    skip
    go_enter Tryd.func10, Tryd.ntmps10
    go_wp2
    go_ret
    exact ⟨rfl, HB⟩
  rw [if_neg h1] at h
  have h1' : decide (a1 ≥ (l0_3.length : Int)) = false := decide_eq_false h1
  have p1 : 0 ≤ a1 := Int.not_lt.1 h0
  have q1 : a1 < (l0_3.length : Int) := Int.not_le.1 h1
  obtain ⟨ad, e1, x0, x1, x2, x3, x4⟩ := at_T39 HR3.out a1 p1 q1
  replace x0 := (HB.cell (World.block_lt_of_cell? w _ x0)).trans x0
  replace x1 := (HB.cell (World.block_lt_of_cell? w _ x1)).trans x1
  subst e1
  clear x2 x3 x4
  have p1' := eq_true p1
  have q1' := eq_true q1
  by_cases h5 : (rd_T39 l0_3 a1).f0 = 5
  rotate_left
  · rw [if_neg h5] at h
    obtain rfl := Option.some.inj h
    have h5' : ((rd_T39 l0_3 a1).f0 != 5) = true := bne_iff_ne.2 h5
    clear h h0 h1 hlen h5 p1 q1
    skip
    skip
    go_enter Tryd.func10, Tryd.ntmps10
    go_wp2
    go_ret
    exact ⟨rfl, HB⟩
  rw [if_pos h5] at h
  have h5' : ((rd_T39 l0_3 a1).f0 != 5) = false := by rw [h5]; rfl
  obtain ⟨i, hi, h⟩ := Option.bind_eq_some_iff.1 h
  obtain ⟨s, hs, h⟩ := Option.bind_eq_some_iff.1 h
  clear h5 h0 h1
  have hGB : w.heap.size ≤ G := by omega
  skip
  skip
  go_enter Tryd.func10, Tryd.ntmps10
  go_wp2_with fail
  go_region_held3 (fun w' => w'.cell? ⟨G, 0, none⟩ = some (.slice A0_0 l0_0.length c0_0) ∧ w'.cell? ⟨G, 1, none⟩ = some (.string a0_1) ∧ w'.cell? ⟨G, 2, none⟩ = some (.string a0_2) ∧ w'.cell? ⟨G, 3, none⟩ = some (.slice (some ad) l0_3.length c0_3)) (first | (go_keep; done) | exact ⟨(blk_cell BK1.out 0).trans rfl, (blk_cell BK1.out 1).trans rfl, (blk_cell BK1.out 2).trans rfl, (blk_cell BK1.out 3).trans rfl⟩ | exact ⟨(blk_cell BK2.out 0).trans rfl, (blk_cell BK2.out 1).trans rfl, (blk_cell BK2.out 2).trans rfl, (blk_cell BK2.out 3).trans rfl⟩) (first | (go_at_call 15; (with_reducible refine (lockstitchref05_Local.calls k _ _ l0_0 a0_1 a0_2 _ _ l0_3 _ i _ ?side1 ?side2 ?side3 ?side4 hi).mono ?_); (case side1 => repeat (first | exact (Kd.C_below HR0.out HB) | (with_reducible refine Kd.C_alloc ?_ _) | (with_reducible refine Kd.C_drewN ?_ _) | (with_reducible refine Kd.C_drew ?_))); (case side2 => exact HC0.out); (case side3 => repeat (first | exact (Kd.C_below HR3.out HB) | (with_reducible refine Kd.C_alloc ?_ _) | (with_reducible refine Kd.C_drewN ?_ _) | (with_reducible refine Kd.C_drew ?_))); (case side4 => exact HC3.out); rintro e w1 ⟨rfl, hb1⟩; have BK1 := Aside0.mk (blk_below (g := G) (o := .cells #[.slice A0_0 l0_0.length c0_0, .string a0_1, .string a0_2, .slice (some ad) l0_3.length c0_3] 25 (0, 0)) (by (with_reducible repeat (first | refine blk_drewN ?_ _ | refine blk_drew ?_ | refine blk_alloc ?_ _)); exact BK) hb1); have B1 := Aside0.mk (below_step (by repeat (first | (with_reducible first | exact HB | apply below_alloc | apply pw_below_drewN | apply below_drew1) | exact HB)) hb1); clear hb1) | (go_at_call 14; (with_reducible refine (lockstitchref03_Size.calls k _ _ l0_0 i s _ ?q1 ?q2 hs).mono ?_); (case q1 => repeat (first | exact (Kd.C_below HR0.out B1.out) | (with_reducible refine Kd.C_alloc ?_ _) | (with_reducible refine Kd.C_drewN ?_ _) | (with_reducible refine Kd.C_drew ?_))); (case q2 => exact HC0.out); rintro e w2 ⟨rfl, hb2⟩; obtain ⟨n2, hb2⟩ := hb2; subst hb2; have BK2 := Aside0.mk (blk_drewN BK1.out n2); have B2 := Aside0.mk (pw_below_drewN B1.out n2)))
  clear BK1 B1 cz0 cz1 cz2 cz3 x0 x1 hs hi h5' BK
  rename_i hHeld
  generalize w1.drewN n2 = w2 at *
  clear hHeld
  obtain ⟨H, hH⟩ : ∃ H, w2.heap.size = H := ⟨_, rfl⟩
  have hGH : G < H := by rw [← hH]; exact blk_lt BK2.out
  obtain ⟨wh, hwh⟩ : ∃ wh, w2.alloc (.cells #[.bool false, .bool false, .bool false, .bool false, .bool false, .bool false] 47) = wh := ⟨_, rfl⟩
  have BG : wh.heap[G]? = some (.cells #[.slice A0_0 l0_0.length c0_0, .string a0_1, .string a0_2, .slice (some ad) l0_3.length c0_3] 25 (0, 0)) := by
    rw [← hwh]
    exact blk_alloc BK2.out _
  have BH : wh.heap[H]? = some (.cells (hadV 0) 47 (0, 0)) := by
    rw [← hwh, ← hH]
    exact blk_new w2 _
  have Bh : Below w.heap.size w wh := by
    rw [← hwh]
    exact below_alloc B2.out _
  have e1 : wrap64 (a1 + 1) = a1 + 1 := by
    unfold wrap64
    omega
  have z3 : wh.cell? ⟨G, 3, none⟩ = some (.slice (some ad) l0_3.length c0_3) := (blk_cell BG 3).trans rfl
  go_wp2_with fail
  clear z3 hwh BK2 B2 hwb HB
  go_loopw [6, 8] (fun l i wr => ∃ (left n : Int) (b : Nat), l = .int .i64 left ∧ i = .int .i64 n ∧ 0 ≤ n ∧ n ≤ l0_3.length ∧ b < 64 ∧ wr.heap[G]? = some (.cells #[.slice A0_0 l0_0.length c0_0, .string a0_1, .string a0_2, .slice (some ad) l0_3.length c0_3] 25 (0, 0)) ∧ wr.heap[H]? = some (.cells (hadV b) 47 (0, 0)) ∧ Below w.heap.size w wr ∧ lastR (rd_T39 l0_3 a1).f1 l0_3 (l0_3.length - n.toNat) n.toNat left b = some r) (fun _ i _ => l0_3.length - (intOf i).toNat)
  case atStart => exact ⟨s, a1 + 1, 0, rfl, rfl, by omega, by omega, by decide, BG, BH, Bh, by rw [show (a1 + 1).toNat = a1.toNat + 1 from by omega]; exact h⟩
  case round =>
    obtain ⟨left, n, b, rfl, rfl, n0, nl, hb, bg, bh, hB, hR⟩ := hrel
    clear BG BH Bh h
    have z3 : wr.cell? ⟨G, 3, none⟩ = some (.slice (some ad) l0_3.length c0_3) := (blk_cell bg 3).trans rfl
    by_cases hlt : n < (l0_3.length : Int)
    rotate_left
    · have hlt' : decide (n < (l0_3.length : Int)) = false := decide_eq_false hlt
      rw [show l0_3.length - n.toNat = 0 from by omega] at hR
      obtain rfl : (-1 : Int) = r := Option.some.inj hR
      clear hR hlt
      go_wp2
      go_ret
      exact ⟨rfl, hB⟩
    have hlt' : decide (n < (l0_3.length : Int)) = true := decide_eq_true hlt
    obtain ⟨ad', e1', x0, x1, x2, x3, x4⟩ := at_T39 HR3.out n n0 hlt
    cases e1'
    replace x0 := (hB.cell (World.block_lt_of_cell? w _ x0)).trans x0
    replace x1 := (hB.cell (World.block_lt_of_cell? w _ x1)).trans x1
    replace x2 := (hB.cell (World.block_lt_of_cell? w _ x2)).trans x2
    replace x3 := (hB.cell (World.block_lt_of_cell? w _ x3)).trans x3
    replace x4 := (hB.cell (World.block_lt_of_cell? w _ x4)).trans x4
    obtain ⟨d, hd⟩ : ∃ d, l0_3.length - n.toNat = d + 1 := ⟨l0_3.length - n.toNat - 1, by omega⟩
    have hd' : d = l0_3.length - (n + 1).toNat := by omega
    have en : n.toNat + 1 = (n + 1).toNat := by omega
    have e2 : wrap64 (n + 1) = n + 1 := by
      unfold wrap64
      omega
    rw [hd] at hR
    unfold lastR at hR
    change (if ((rd_T39 l0_3 n).f0 = 9 ∨ (rd_T39 l0_3 n).f0 = 11) ∧ (rd_T39 l0_3 n).f1 = (rd_T39 l0_3 a1).f1 then (if 0 ≤ (rd_T39 l0_3 n).f4 ∧ (rd_T39 l0_3 n).f4 < 6 then (if leftOf (rd_T39 l0_3 n).f4.toNat left b = 0 then some (n.toNat : Int) else lastR (rd_T39 l0_3 a1).f1 l0_3 d (n.toNat + 1) (leftOf (rd_T39 l0_3 n).f4.toNat left b) (b ||| 2 ^ (rd_T39 l0_3 n).f4.toNat)) else none) else if passB (rd_T39 l0_3 n) (rd_T39 l0_3 a1).f1 = true then lastR (rd_T39 l0_3 a1).f1 l0_3 d (n.toNat + 1) left b else some (-1)) = some r at hR
    rw [hd', en, show ((n.toNat : Nat) : Int) = n from by omega] at hR
    generalize rd_T39 l0_3 n = x at *
    generalize (rd_T39 l0_3 a1).f1 = av at *
    obtain ⟨o, q, fb, fc, fn⟩ := x
    dsimp only at *
    have n0' := eq_true n0
    have nl' := eq_true hlt
    have HD := Lib.hid hd
    have HD' : l0_3.length - (n + 1).toNat < l0_3.length - n.toNat := by clear hR; omega
    have hn1 : 0 ≤ n + 1 ∧ n + 1 ≤ (l0_3.length : Int) := by clear hR; omega
    clear hd hd' en hlt n0
    obtain ⟨X, hX⟩ : ∃ X, wr.heap.size = X := ⟨_, rfl⟩
    have hGX : G < X := by rw [← hX]; exact blk_lt bg
    have hHX : H < X := by rw [← hX]; exact blk_lt bh
    by_cases b9 : o = 9
    ·
      subst b9
      by_cases ba : q = av
      ·
        subst ba
        rw [if_pos ⟨.inl rfl, rfl⟩] at hR
        by_cases h6 : 0 ≤ fn ∧ fn < 6
        rotate_left
        · rw [if_neg h6] at hR
          cases hR
        rw [if_pos h6] at hR
        obtain ⟨m, hm⟩ : ∃ m, fn.toNat = m := ⟨_, rfl⟩
        have hm6 : m < 6 := by rw [← hm]; have := h6.1; have := h6.2; clear hR; omega
        have h60 := eq_true h6.1
        have h61 := eq_true h6.2
        clear h6
        obtain ⟨wx, hwx⟩ : ∃ wx, wr.alloc (.cells #[.int .u8 9, .int .u8 q, .int .u8 fb, .int .u8 fc, .int .i64 fn] 39) = wx := ⟨_, rfl⟩
        have bX : wx.heap[X]? = some (.cells #[.int .u8 9, .int .u8 q, .int .u8 fb, .int .u8 fc, .int .i64 fn] 39 (0, 0)) := by
          rw [← hwx, ← hX]
          exact blk_new wr _
        have bG : wx.heap[G]? = some (.cells #[.slice A0_0 l0_0.length c0_0, .string a0_1, .string a0_2, .slice (some ad) l0_3.length c0_3] 25 (0, 0)) := by
          rw [← hwx]
          exact blk_alloc bg _
        have bH : wx.heap[H]? = some (.cells (hadV b) 47 (0, 0)) := by
          rw [← hwx]
          exact blk_alloc bh _
        have hBx : Below w.heap.size w wx := by
          rw [← hwx]
          exact below_alloc hB _
        have y0 : wx.cell? ⟨X, 0, none⟩ = some (.int .u8 9) := (blk_cell bX 0).trans rfl
        have y1 : wx.cell? ⟨X, 1, none⟩ = some (.int .u8 q) := (blk_cell bX 1).trans rfl
        have y2 : wx.cell? ⟨X, 2, none⟩ = some (.int .u8 fb) := (blk_cell bX 2).trans rfl
        have y3 : wx.cell? ⟨X, 3, none⟩ = some (.int .u8 fc) := (blk_cell bX 3).trans rfl
        have y4 : wx.cell? ⟨X, 4, none⟩ = some (.int .i64 fn) := (blk_cell bX 4).trans rfl
        clear bg bh hB
        rw [hm] at hR
        have yh : wx.cell? ⟨H, m, none⟩ = some (.bool (b.testBit m)) := (blk_cell bH m).trans (hadV_get b m hm6)
        have yf : wx.frozen? ⟨H, m, none⟩ = false := blk_frozen bH m
        have bH2 := blk_set bH m (.bool true)
        rw [hadV_set b m hb hm6] at bH2
        have bG2 := blk_far bG (p := ⟨H, m, none⟩) (Nat.ne_of_lt hGH) (.bool true)
        have hB2 : Below w.heap.size w (wx.setCell ⟨H, m, none⟩ (.bool true)) := hBx.setCell (p := ⟨H, m, none⟩) (by show w.heap.size ≤ H; omega) _
        have hb2 : b ||| 2 ^ m < 64 := (or_bit ⟨b, hb⟩ ⟨m, hm6⟩).1
        clear hG hGH hGX hHX bX bG bH hBx
        cases bt : b.testBit m
        ·
          rw [bt] at yh
          rw [show leftOf m left b = wrap64 (left - 1) from by unfold leftOf; rw [bt]; rfl] at hR
          by_cases lz : wrap64 (left - 1) = 0
          · rw [if_pos lz] at hR
            obtain rfl := Option.some.inj hR
            have lz' : (wrap64 (left - 1) == 0) = true := beq_iff_eq.2 lz
            clear hR lz
            skip
            go_wp2
            go_ret
            exact ⟨rfl, hB2⟩
          · rw [if_neg lz] at hR
            have lz' : (wrap64 (left - 1) == 0) = false := beq_eq_false_iff_ne.2 lz
            clear lz
            go_wp2
            go_roundw
            case rel => exact ⟨_, n + 1, b ||| 2 ^ m, rfl, rfl, hn1.1, hn1.2, hb2, bG2, bH2, hB2, hR⟩
            case measure => exact HD'
        ·
          rw [bt] at yh
          rw [show leftOf m left b = left from by unfold leftOf; rw [bt]; rfl] at hR
          by_cases lz : left = 0
          · rw [if_pos lz] at hR
            obtain rfl := Option.some.inj hR
            have lz' : (left == 0) = true := beq_iff_eq.2 lz
            clear hR 
            subst lz
            go_wp2
            go_ret
            exact ⟨rfl, hB2⟩
          · rw [if_neg lz] at hR
            have lz' : (left == 0) = false := beq_eq_false_iff_ne.2 lz
            clear lz
            go_wp2
            go_roundw
            case rel => exact ⟨_, n + 1, b ||| 2 ^ m, rfl, rfl, hn1.1, hn1.2, hb2, bG2, bH2, hB2, hR⟩
            case measure => exact HD'
      ·
        have ba' : (q == av) = false := beq_eq_false_iff_ne.2 ba
        rw [if_neg (fun h_ => ba h_.2)] at hR
        clear ba
        obtain ⟨wx, hwx⟩ : ∃ wx, wr.alloc (.cells #[.int .u8 9, .int .u8 q, .int .u8 fb, .int .u8 fc, .int .i64 fn] 39) = wx := ⟨_, rfl⟩
        have bX : wx.heap[X]? = some (.cells #[.int .u8 9, .int .u8 q, .int .u8 fb, .int .u8 fc, .int .i64 fn] 39 (0, 0)) := by
          rw [← hwx, ← hX]
          exact blk_new wr _
        have bG : wx.heap[G]? = some (.cells #[.slice A0_0 l0_0.length c0_0, .string a0_1, .string a0_2, .slice (some ad) l0_3.length c0_3] 25 (0, 0)) := by
          rw [← hwx]
          exact blk_alloc bg _
        have bH : wx.heap[H]? = some (.cells (hadV b) 47 (0, 0)) := by
          rw [← hwx]
          exact blk_alloc bh _
        have hBx : Below w.heap.size w wx := by
          rw [← hwx]
          exact below_alloc hB _
        have y0 : wx.cell? ⟨X, 0, none⟩ = some (.int .u8 9) := (blk_cell bX 0).trans rfl
        have y1 : wx.cell? ⟨X, 1, none⟩ = some (.int .u8 q) := (blk_cell bX 1).trans rfl
        have y2 : wx.cell? ⟨X, 2, none⟩ = some (.int .u8 fb) := (blk_cell bX 2).trans rfl
        have y3 : wx.cell? ⟨X, 3, none⟩ = some (.int .u8 fc) := (blk_cell bX 3).trans rfl
        have y4 : wx.cell? ⟨X, 4, none⟩ = some (.int .i64 fn) := (blk_cell bX 4).trans rfl
        clear bg bh hB
        obtain ⟨pv, hp⟩ : ∃ pv, passB ⟨9, q, fb, fc, fn⟩ av = pv := ⟨_, rfl⟩
        rw [hp] at hR
        have hpc := passes_calls ⟨9, q, fb, fc, fn⟩ av
        rw [hp] at hpc
        dsimp only at hpc
        cases pv
        ·
          go_wp2_with (go_at_call 19; refine (hpc _).mono ?_; rintro e w5 ⟨rfl, hb5⟩; have bG5 := blk_below bG hb5; have bH5 := blk_below bH hb5; have hB5 := below_step hBx hb5; clear hb5)
          obtain rfl : (-1 : Int) = r := Option.some.inj hR
          go_ret
          exact ⟨rfl, hB5⟩
        ·
          rw [if_pos rfl] at hR
          go_wp2_with (go_at_call 19; refine (hpc _).mono ?_; rintro e w5 ⟨rfl, hb5⟩; have bG5 := blk_below bG hb5; have bH5 := blk_below bH hb5; have hB5 := below_step hBx hb5; clear hb5)
          go_roundw
          case rel => exact ⟨left, n + 1, b, rfl, rfl, hn1.1, hn1.2, hb, bG5, bH5, hB5, hR⟩
          case measure => exact HD'
    by_cases b11 : o = 11
    ·
      subst b11
      by_cases ba : q = av
      ·
        subst ba
        rw [if_pos ⟨.inr rfl, rfl⟩] at hR
        by_cases h6 : 0 ≤ fn ∧ fn < 6
        rotate_left
        · rw [if_neg h6] at hR
          cases hR
        rw [if_pos h6] at hR
        obtain ⟨m, hm⟩ : ∃ m, fn.toNat = m := ⟨_, rfl⟩
        have hm6 : m < 6 := by rw [← hm]; have := h6.1; have := h6.2; clear hR; omega
        have h60 := eq_true h6.1
        have h61 := eq_true h6.2
        clear h6
        obtain ⟨wx, hwx⟩ : ∃ wx, wr.alloc (.cells #[.int .u8 11, .int .u8 q, .int .u8 fb, .int .u8 fc, .int .i64 fn] 39) = wx := ⟨_, rfl⟩
        have bX : wx.heap[X]? = some (.cells #[.int .u8 11, .int .u8 q, .int .u8 fb, .int .u8 fc, .int .i64 fn] 39 (0, 0)) := by
          rw [← hwx, ← hX]
          exact blk_new wr _
        have bG : wx.heap[G]? = some (.cells #[.slice A0_0 l0_0.length c0_0, .string a0_1, .string a0_2, .slice (some ad) l0_3.length c0_3] 25 (0, 0)) := by
          rw [← hwx]
          exact blk_alloc bg _
        have bH : wx.heap[H]? = some (.cells (hadV b) 47 (0, 0)) := by
          rw [← hwx]
          exact blk_alloc bh _
        have hBx : Below w.heap.size w wx := by
          rw [← hwx]
          exact below_alloc hB _
        have y0 : wx.cell? ⟨X, 0, none⟩ = some (.int .u8 11) := (blk_cell bX 0).trans rfl
        have y1 : wx.cell? ⟨X, 1, none⟩ = some (.int .u8 q) := (blk_cell bX 1).trans rfl
        have y2 : wx.cell? ⟨X, 2, none⟩ = some (.int .u8 fb) := (blk_cell bX 2).trans rfl
        have y3 : wx.cell? ⟨X, 3, none⟩ = some (.int .u8 fc) := (blk_cell bX 3).trans rfl
        have y4 : wx.cell? ⟨X, 4, none⟩ = some (.int .i64 fn) := (blk_cell bX 4).trans rfl
        clear bg bh hB
        rw [hm] at hR
        have yh : wx.cell? ⟨H, m, none⟩ = some (.bool (b.testBit m)) := (blk_cell bH m).trans (hadV_get b m hm6)
        have yf : wx.frozen? ⟨H, m, none⟩ = false := blk_frozen bH m
        have bH2 := blk_set bH m (.bool true)
        rw [hadV_set b m hb hm6] at bH2
        have bG2 := blk_far bG (p := ⟨H, m, none⟩) (Nat.ne_of_lt hGH) (.bool true)
        have hB2 : Below w.heap.size w (wx.setCell ⟨H, m, none⟩ (.bool true)) := hBx.setCell (p := ⟨H, m, none⟩) (by show w.heap.size ≤ H; omega) _
        have hb2 : b ||| 2 ^ m < 64 := (or_bit ⟨b, hb⟩ ⟨m, hm6⟩).1
        clear hG hGH hGX hHX bX bG bH hBx
        cases bt : b.testBit m
        ·
          rw [bt] at yh
          rw [show leftOf m left b = wrap64 (left - 1) from by unfold leftOf; rw [bt]; rfl] at hR
          by_cases lz : wrap64 (left - 1) = 0
          · rw [if_pos lz] at hR
            obtain rfl := Option.some.inj hR
            have lz' : (wrap64 (left - 1) == 0) = true := beq_iff_eq.2 lz
            clear hR lz
            skip
            go_wp2
            go_ret
            exact ⟨rfl, hB2⟩
          · rw [if_neg lz] at hR
            have lz' : (wrap64 (left - 1) == 0) = false := beq_eq_false_iff_ne.2 lz
            clear lz
            go_wp2
            go_roundw
            case rel => exact ⟨_, n + 1, b ||| 2 ^ m, rfl, rfl, hn1.1, hn1.2, hb2, bG2, bH2, hB2, hR⟩
            case measure => exact HD'
        ·
          rw [bt] at yh
          rw [show leftOf m left b = left from by unfold leftOf; rw [bt]; rfl] at hR
          by_cases lz : left = 0
          · rw [if_pos lz] at hR
            obtain rfl := Option.some.inj hR
            have lz' : (left == 0) = true := beq_iff_eq.2 lz
            clear hR 
            subst lz
            go_wp2
            go_ret
            exact ⟨rfl, hB2⟩
          · rw [if_neg lz] at hR
            have lz' : (left == 0) = false := beq_eq_false_iff_ne.2 lz
            clear lz
            go_wp2
            go_roundw
            case rel => exact ⟨_, n + 1, b ||| 2 ^ m, rfl, rfl, hn1.1, hn1.2, hb2, bG2, bH2, hB2, hR⟩
            case measure => exact HD'
      ·
        have ba' : (q == av) = false := beq_eq_false_iff_ne.2 ba
        rw [if_neg (fun h_ => ba h_.2)] at hR
        clear ba
        obtain ⟨wx, hwx⟩ : ∃ wx, wr.alloc (.cells #[.int .u8 11, .int .u8 q, .int .u8 fb, .int .u8 fc, .int .i64 fn] 39) = wx := ⟨_, rfl⟩
        have bX : wx.heap[X]? = some (.cells #[.int .u8 11, .int .u8 q, .int .u8 fb, .int .u8 fc, .int .i64 fn] 39 (0, 0)) := by
          rw [← hwx, ← hX]
          exact blk_new wr _
        have bG : wx.heap[G]? = some (.cells #[.slice A0_0 l0_0.length c0_0, .string a0_1, .string a0_2, .slice (some ad) l0_3.length c0_3] 25 (0, 0)) := by
          rw [← hwx]
          exact blk_alloc bg _
        have bH : wx.heap[H]? = some (.cells (hadV b) 47 (0, 0)) := by
          rw [← hwx]
          exact blk_alloc bh _
        have hBx : Below w.heap.size w wx := by
          rw [← hwx]
          exact below_alloc hB _
        have y0 : wx.cell? ⟨X, 0, none⟩ = some (.int .u8 11) := (blk_cell bX 0).trans rfl
        have y1 : wx.cell? ⟨X, 1, none⟩ = some (.int .u8 q) := (blk_cell bX 1).trans rfl
        have y2 : wx.cell? ⟨X, 2, none⟩ = some (.int .u8 fb) := (blk_cell bX 2).trans rfl
        have y3 : wx.cell? ⟨X, 3, none⟩ = some (.int .u8 fc) := (blk_cell bX 3).trans rfl
        have y4 : wx.cell? ⟨X, 4, none⟩ = some (.int .i64 fn) := (blk_cell bX 4).trans rfl
        clear bg bh hB
        obtain ⟨pv, hp⟩ : ∃ pv, passB ⟨11, q, fb, fc, fn⟩ av = pv := ⟨_, rfl⟩
        rw [hp] at hR
        have hpc := passes_calls ⟨11, q, fb, fc, fn⟩ av
        rw [hp] at hpc
        dsimp only at hpc
        cases pv
        ·
          go_wp2_with (go_at_call 19; refine (hpc _).mono ?_; rintro e w5 ⟨rfl, hb5⟩; have bG5 := blk_below bG hb5; have bH5 := blk_below bH hb5; have hB5 := below_step hBx hb5; clear hb5)
          obtain rfl : (-1 : Int) = r := Option.some.inj hR
          go_ret
          exact ⟨rfl, hB5⟩
        ·
          rw [if_pos rfl] at hR
          go_wp2_with (go_at_call 19; refine (hpc _).mono ?_; rintro e w5 ⟨rfl, hb5⟩; have bG5 := blk_below bG hb5; have bH5 := blk_below bH hb5; have hB5 := below_step hBx hb5; clear hb5)
          go_roundw
          case rel => exact ⟨left, n + 1, b, rfl, rfl, hn1.1, hn1.2, hb, bG5, bH5, hB5, hR⟩
          case measure => exact HD'
    have b9' : (o == 9) = false := beq_eq_false_iff_ne.2 b9
    have b11' : (o == 11) = false := beq_eq_false_iff_ne.2 b11
    rw [if_neg (fun h_ => h_.1.elim b9 b11)] at hR
    clear b9 b11
    obtain ⟨wx, hwx⟩ : ∃ wx, wr.alloc (.cells #[.int .u8 o, .int .u8 q, .int .u8 fb, .int .u8 fc, .int .i64 fn] 39) = wx := ⟨_, rfl⟩
    have bX : wx.heap[X]? = some (.cells #[.int .u8 o, .int .u8 q, .int .u8 fb, .int .u8 fc, .int .i64 fn] 39 (0, 0)) := by
      rw [← hwx, ← hX]
      exact blk_new wr _
    have bG : wx.heap[G]? = some (.cells #[.slice A0_0 l0_0.length c0_0, .string a0_1, .string a0_2, .slice (some ad) l0_3.length c0_3] 25 (0, 0)) := by
      rw [← hwx]
      exact blk_alloc bg _
    have bH : wx.heap[H]? = some (.cells (hadV b) 47 (0, 0)) := by
      rw [← hwx]
      exact blk_alloc bh _
    have hBx : Below w.heap.size w wx := by
      rw [← hwx]
      exact below_alloc hB _
    have y0 : wx.cell? ⟨X, 0, none⟩ = some (.int .u8 o) := (blk_cell bX 0).trans rfl
    have y1 : wx.cell? ⟨X, 1, none⟩ = some (.int .u8 q) := (blk_cell bX 1).trans rfl
    have y2 : wx.cell? ⟨X, 2, none⟩ = some (.int .u8 fb) := (blk_cell bX 2).trans rfl
    have y3 : wx.cell? ⟨X, 3, none⟩ = some (.int .u8 fc) := (blk_cell bX 3).trans rfl
    have y4 : wx.cell? ⟨X, 4, none⟩ = some (.int .i64 fn) := (blk_cell bX 4).trans rfl
    clear bg bh hB
    obtain ⟨pv, hp⟩ : ∃ pv, passB ⟨o, q, fb, fc, fn⟩ av = pv := ⟨_, rfl⟩
    rw [hp] at hR
    have hpc := passes_calls ⟨o, q, fb, fc, fn⟩ av
    rw [hp] at hpc
    dsimp only at hpc
    cases pv
    ·
      go_wp2_with (go_at_call 19; refine (hpc _).mono ?_; rintro e w5 ⟨rfl, hb5⟩; have bG5 := blk_below bG hb5; have bH5 := blk_below bH hb5; have hB5 := below_step hBx hb5; clear hb5)
      obtain rfl : (-1 : Int) = r := Option.some.inj hR
      go_ret
      exact ⟨rfl, hB5⟩
    ·
      rw [if_pos rfl] at hR
      go_wp2_with (go_at_call 19; refine (hpc _).mono ?_; rintro e w5 ⟨rfl, hb5⟩; have bG5 := blk_below bG hb5; have bH5 := blk_below bH hb5; have hB5 := below_step hBx hb5; clear hb5)
      go_roundw
      case rel => exact ⟨left, n + 1, b, rfl, rfl, hn1.1, hn1.2, hb, bG5, bH5, hB5, hR⟩
      case measure => exact HD'
end Go.Proofs.YtbmhmlgfpijmhaaDoor.P
