/-
  leak.May, GIVEN TO THE PRINT: its call answers as a Lean function does.
-/
import Derived.Test.YtgfnpdfhdgenbaaDoorGivenP
import Derived.Deep.LoopGhost
namespace Go.Proofs.YtgfnpdfhdgenbaaDoor.P
open Go.RowKit Go.Proofs.YtgfnpdfhdgenbaaDoorW.PrintWords Go.Proofs.YtgfnpdfhdgenbaaDoorW.PrintLast Go.Proofs.YtgfnpdfhdgenbaaDoorW.PrintMore
set_option linter.unusedVariables false
set_option linter.unusedSimpArgs false
set_option linter.unusedVariables false
attribute [local go_sem ↓] Go.wp_at_zero Go.wp_at_succ

theorem under28 : Tryd.prog.underlying 28 = some (.slice 40) := by kernel_rfl
theorem under40 : Tryd.prog.underlying 40 = some (.slice 4) := by kernel_rfl
theorem info40 : (Tryd.prog.info? 40).map (fun i => (i.zero, i.size, i.bytes)) = some (some (.slice none 0 0), 1, 24) := by kernel_rfl
theorem info4 : (Tryd.prog.info? 4).map (fun i => (i.zero, i.size, i.bytes)) = some (some (.bool false), 1, 1) := by kernel_rfl

/-- A row of the table, new: half the rows are there. -/
structure Half (w : World) (O r0 n m a : Nat) : Prop where
  out : w.rowIs O 40 n fun j => if j < a then .slice (some ⟨r0 + j, 0, none⟩) m m else .slice none 0 0
  row : ∀ j, j < a → w.rowIs (r0 + j) 4 m fun _ => .bool false
  lt : O < r0
  size : w.heap.size = r0 + a

set_option maxRecDepth 100000 in
set_option maxHeartbeats 3200000 in
theorem leak_May.raw (k : Nat) (A0_0 : Option Addr) (c0_0 : Nat) (l0_0 : List ByteArray) (a0_1 : ByteArray) (a0_2 : ByteArray) (A0_3 : Option Addr) (c0_3 : Nat) (l0_3 : List (S45)) (r : List (List Bool)) (w : World) (hr0_0 : Kd.C Kd.string w A0_0 l0_0.length l0_0) (hc0_0 : l0_0.length ≤ c0_0) (hr0_3 : Kd.C k45 w A0_3 l0_3.length l0_3) (hc0_3 : l0_3.length ≤ c0_3) (h : leak_May.f k l0_0 a0_1 a0_2 l0_3 = some r) :
    Calls Tryd.prog 8 #[.agg #[.slice A0_0 l0_0.length c0_0, .string a0_1, .string a0_2, .slice A0_3 l0_3.length c0_3]] w fun e w' => ∃ O r0 X, e = .returned (.slice (some ⟨O, 0, none⟩) a0_1.size a0_1.size) ∧ r = tabM a0_1.size (l0_3.length + 1) X ∧ Mat w' O r0 a0_1.size (l0_3.length + 1) X ∧ w.heap.size ≤ O ∧ Below w.heap.size w w' := by
  have hu25 := Tryd.underlying25
  have hu45 := Tryd.underlying45
  have HR3 := Aside0.mk hr0_3
  clear hr0_0 hr0_3 hc0_0 hc0_3
  unfold leak_May.f at h
  by_cases hg : a0_1.size ≤ 8 ∧ l0_3.length ≤ 1000 ∧ l0_3.all okU = true
  rotate_left
  · rw [if_neg hg] at h
    cases h
  rw [if_pos hg] at h
  obtain ⟨hn8, hc1000, hU⟩ := hg
  obtain ⟨X, hX, hr⟩ := Option.bind_eq_some_iff.1 h
  obtain rfl := Option.some.inj hr
  clear h hr
  obtain ⟨n, hn⟩ : ∃ n, a0_1.size = n := ⟨_, rfl⟩
  obtain ⟨m, hm⟩ : ∃ m, l0_3.length + 1 = m := ⟨_, rfl⟩
  rw [hn] at hn8 hX ⊢
  rw [hm] at hX ⊢
  obtain ⟨G, hG⟩ : ∃ G, w.heap.size = G := ⟨_, rfl⟩
  obtain ⟨wb, hwb⟩ : ∃ wb, w.alloc (.cells #[.slice A0_0 l0_0.length c0_0, .string a0_1, .string a0_2, .slice A0_3 l0_3.length c0_3] 25) = wb := ⟨_, rfl⟩
  have sb : wb.heap.size = G + 1 := by rw [← hwb, ← hG]; simp
  have BK : wb.heap[G]? = some (.cells #[.slice A0_0 l0_0.length c0_0, .string a0_1, .string a0_2, .slice A0_3 l0_3.length c0_3] 25 (0, 0)) := by
    rw [← hwb, ← hG]
    exact blk_new w _
  have HB : Below w.heap.size w wb := by
    rw [← hwb]
    exact below_alloc (Below.refl _ _) _
  have cz1 : wb.cell? ⟨G, 1, none⟩ = some (.string a0_1) := (blk_cell BK 1).trans rfl
  have hmk := run_make_row' (P := Tryd.prog) 28 40 (.slice none 0 0) 24 under28 info40 rfl .i64 .i64 n (by omega) (by omega)
  obtain ⟨wo, hwo⟩ : ∃ wo, wb.alloc (.cells (madeCells #[.slice none 0 0] n) 40) = wo := ⟨_, rfl⟩
  have so : wo.heap.size = G + 2 := by rw [← hwo]; simp [sb]
  have BKo : wo.heap[G]? = some (.cells #[.slice A0_0 l0_0.length c0_0, .string a0_1, .string a0_2, .slice A0_3 l0_3.length c0_3] 25 (0, 0)) := by
    rw [← hwo]
    exact blk_alloc BK _
  have Oo : wo.rowIs (G + 1) 40 n (fun _ => .slice none 0 0) := by
    have := World.rowIs_made wb (.slice none 0 0) n 40
    rw [hwo, sb] at this
    exact this
  have HBo : Below w.heap.size w wo := by
    rw [← hwo]
    exact below_alloc HB _
  go_enter Tryd.func8, Tryd.ntmps8
  go_wp2_with fail
  obtain ⟨wt, hwt⟩ : ∃ wt, wo.alloc (.cells #[.slice (some ⟨G + 1, 0, none⟩) n n] 28) = wt := ⟨_, rfl⟩
  have BT : wt.heap[G + 2]? = some (.cells #[.slice (some ⟨G + 1, 0, none⟩) n n] 28 (0, 0)) := by
    rw [← hwt, ← so]
    exact blk_new wo _
  have BKt : wt.heap[G]? = some (.cells #[.slice A0_0 l0_0.length c0_0, .string a0_1, .string a0_2, .slice A0_3 l0_3.length c0_3] 25 (0, 0)) := by
    rw [← hwt]
    exact blk_alloc BKo _
  have HBt : Below w.heap.size w wt := by
    rw [← hwt]
    exact below_alloc HBo _
  have H0 : Half wt (G + 1) (G + 3) n m 0 := by
    refine ⟨?_, fun j hj => absurd hj (Nat.not_lt_zero _), by omega, by rw [← hwt]; simp [so]⟩
    rw [← hwt]
    refine (Oo.alloc _).congr fun i _ => ?_
    rw [if_neg (Nat.not_lt_zero _)]
  rw [hwt]
  clear hmk sb BK cz1 so BKo Oo HBo HB hwb hwo
  have hmk := run_make_row' (P := Tryd.prog) 40 4 (.bool false) 1 under40 info4 rfl .i64 .i64 m (by omega) (by omega)
  go_loopw [17] (fun i wr => ∃ a : Nat, a ≤ n ∧ i = .int .i64 a ∧ wr.heap[G + 2]? = some (.cells #[.slice (some ⟨G + 1, 0, none⟩) n n] 28 (0, 0)) ∧ wr.heap[G]? = some (.cells #[.slice A0_0 l0_0.length c0_0, .string a0_1, .string a0_2, .slice A0_3 l0_3.length c0_3] 25 (0, 0)) ∧ Below w.heap.size w wr ∧ Half wr (G + 1) (G + 3) n m a) (fun i _ => n - (intOf i).toNat)
  case atStart => exact ⟨0, Nat.zero_le _, rfl, BT, BKt, HBt, H0⟩
  case round =>
    clear BT BKt HBt H0 hwt
    obtain ⟨a, ha, rfl, BT, BK, HB, hH⟩ := hrel
    have cT : wr.cell? ⟨G + 2, 0, none⟩ = some (.slice (some ⟨G + 1, 0, none⟩) n n) := (blk_cell BT 0).trans rfl
    have c3 : wr.cell? ⟨G, 3, none⟩ = some (.slice A0_3 l0_3.length c0_3) := (blk_cell BK 3).trans rfl
    by_cases hlt : a < n
    rotate_left
    · obtain rfl : a = n := by omega
      have hlt' : decide ((a : Int) < (a : Int)) = false := decide_eq_false (by omega)
      have hM0 : Mat wr (G + 1) (G + 3) a m (fun _ _ => false) := ⟨hH.out.congr fun j hj => if_pos hj, hH.row, by omega⟩
      clear hH hmk hlt
      go_wp2_with fail
      go_loopg [33] l0_3.length (fun kq iv wr => ∃ (i : Nat) (Y : Tb), kq + i = l0_3.length ∧ iv = .int .i64 i ∧ wr.heap[G + 2]? = some (.cells #[.slice (some ⟨G + 1, 0, none⟩) a a] 28 (0, 0)) ∧ wr.heap[G]? = some (.cells #[.slice A0_0 l0_0.length c0_0, .string a0_1, .string a0_2, .slice A0_3 l0_3.length c0_3] 25 (0, 0)) ∧ Below w.heap.size w wr ∧ Mat wr (G + 1) (G + 3) a m Y ∧ roundsL a m l0_3 k (newsL a (l0_3.drop i) i Y) = some X)
      case atStart => exact ⟨0, _, Nat.add_zero _, rfl, BT, BK, HB, hM0, hX⟩
      case round =>
        clear BT BK HB hM0 hX cT c3 hlt'
        obtain ⟨i, Y, hi, rfl, BT, BK, HB, hM, hY⟩ := hrel
        cases gk with
        | zero =>
          obtain rfl : i = l0_3.length := by omega
          have hlt' : decide ((l0_3.length : Int) < (l0_3.length : Int)) = false := decide_eq_false (by omega)
          rw [List.drop_length] at hY
          have hY2 : roundsL a m l0_3 k Y = some X := hY
          clear hY hi
          go_wp2_with fail
          go_loopg [8] k (fun kq v8 wr => ∃ (b : Bool) (Y : Tb), v8 = .bool b ∧ (if b = true then roundsL a m l0_3 kq Y = some X else Y = X) ∧ wr.heap[G + 2]? = some (.cells #[.slice (some ⟨G + 1, 0, none⟩) a a] 28 (0, 0)) ∧ wr.heap[G]? = some (.cells #[.slice A0_0 l0_0.length c0_0, .string a0_1, .string a0_2, .slice A0_3 l0_3.length c0_3] 25 (0, 0)) ∧ Below w.heap.size w wr ∧ Mat wr (G + 1) (G + 3) a m Y)
          case atStart => exact ⟨true, Y, rfl, by rw [if_pos rfl]; exact hY2, BT, BK, HB, hM⟩
          case round =>
            clear BT BK HB hM hY2 hlt'
            obtain ⟨b, Y, rfl, hY, BT, BK, HB, hM⟩ := hrel
            have cT : wr.cell? ⟨G + 2, 0, none⟩ = some (.slice (some ⟨G + 1, 0, none⟩) a a) := (blk_cell BT 0).trans rfl
            have c3 : wr.cell? ⟨G, 3, none⟩ = some (.slice A0_3 l0_3.length c0_3) := (blk_cell BK 3).trans rfl
            cases b
            · obtain rfl : Y = X := hY
              go_wp2
              go_ret
              exact ⟨G + 1, G + 3, _, rfl, rfl, hM, by omega, HB⟩
            · rw [if_pos rfl] at hY
              cases gk with
              | zero =>
                rw [roundsL] at hY
                cases hY
              | succ gk =>
                rw [roundsL] at hY
                obtain ⟨pb, PZ, hp⟩ : ∃ pb PZ, passL a m l0_3 false Y = (pb, PZ) := ⟨_, _, rfl⟩
                rw [hp] at hY
                dsimp only at hY
                go_wp2_with fail
                clear cT c3
                refine pass_loop G a m A0_0 c0_0 l0_0 a0_1 a0_2 A0_3 c0_3 l0_3 w HR3 hc1000 hU hm hG _ pb PZ _ _ _ _ _ _ _ _ _ _ _ _ _ _ _ _ _ _ _ _ _ _ _ _ _ _ _ _ _ _ _ _ _ _ _ _ _ _ _ _ _ _ _ _ _ _ _ _ _ _ _ _ _ _ _ _ _ _ _ _ _ _ _ _ _ _ _ _ _ _ _ _ _ _ _ _ _ _ _ _ _ _ _ _ _ _ _ _ ?_ Y wr BT BK HB hM hp
                clear BT BK HB hM hp
                intro u10 u59 u60 u61 u62 u63 u64 u65 u66 u67 u68 u69 u70 u71 u72 u73 u74 u75 u76 u77 u78 u79 u80 u81 u82 u83 u84 u85 u86 u87 u88 u89 u90 u91 u92 wr ⟨BT, BK, HB, hM⟩
                have hY3 : if pb = true then roundsL a m l0_3 gk PZ = some X else PZ = X := by
                  cases pb
                  · exact Option.some.inj hY
                  · exact hY
                clear hY
                go_wp2
                go_roundg gk
                case measure => omega
                case rel => exact ⟨pb, PZ, rfl, hY3, BT, BK, HB, hM⟩
        | succ gk =>
        have hlt : i < l0_3.length := by omega
        have hgi : gk + (i + 1) = l0_3.length := by omega
        clear hi
        obtain ⟨ad, eA, x0, x1, x2, x3, x4⟩ := at_T45 HR3.out (i : Nat) (Int.natCast_nonneg i) (by omega)
        subst eA
        rw [Int.toNat_natCast] at x0 x1 x2 x3 x4
        replace x0 := (HB.cell (World.block_lt_of_cell? w _ x0)).trans x0
        replace x1 := (HB.cell (World.block_lt_of_cell? w _ x1)).trans x1
        replace x2 := (HB.cell (World.block_lt_of_cell? w _ x2)).trans x2
        replace x3 := (HB.cell (World.block_lt_of_cell? w _ x3)).trans x3
        replace x4 := (HB.cell (World.block_lt_of_cell? w _ x4)).trans x4
        obtain ⟨u1, u2, u3, u4'⟩ := okU_at hU hlt
        rw [drop_cons l0_3 i hlt] at hY
        have hlt' : decide ((i : Int) < (l0_3.length : Int)) = true := decide_eq_true (by omega)
        have k0 : (0 ≤ (i : Int)) = True := eq_true (by omega)
        have k1 : ((i : Int) < (l0_3.length : Int)) = True := eq_true (by omega)
        have e2 : wrap64 ((i : Int) + 1) = ((i + 1 : Nat) : Int) := by
          unfold wrap64
          omega
        generalize rd_T45 l0_3 (i : Nat) = x at *
        obtain ⟨o, f1, f2, f3, f4⟩ := x
        dsimp only at *
        obtain ⟨W, hW⟩ : ∃ W, wr.heap.size = W := ⟨_, rfl⟩
        have hGW : G < W := by rw [← hW]; exact blk_lt BK
        have hTW : G + 2 < W := by rw [← hW]; exact blk_lt BT
        have hRW : ∀ j, j < a → G + 3 + j < W := fun j hj => by rw [← hW]; exact (hM.row j hj).lt
        rw [newsL] at hY
        dsimp only at hY
        by_cases h5 : o = 5
        · subst h5
          by_cases hf : f1 < (a : Int)
          · rw [if_pos ⟨rfl, hf⟩] at hY
            have hf' : decide (f1 < (a : Int)) = true := decide_eq_true hf
            obtain ⟨b, rfl⟩ := Int.eq_ofNat_of_zero_le u1
            rw [Int.toNat_natCast] at hY
            have hb : b < a := by omega
            obtain ⟨wx, hwx⟩ : ∃ wx, wr.alloc (.cells #[.int .u8 5, .int .u8 ((b : Nat) : Int), .int .u8 f2, .int .u8 f3, .int .i64 f4] 45) = wx := ⟨_, rfl⟩
            have bX : wx.heap[W]? = some (.cells #[.int .u8 5, .int .u8 ((b : Nat) : Int), .int .u8 f2, .int .u8 f3, .int .i64 f4] 45 (0, 0)) := by
              rw [← hwx, ← hW]
              exact blk_new wr _
            have bT : wx.heap[G + 2]? = some (.cells #[.slice (some ⟨G + 1, 0, none⟩) a a] 28 (0, 0)) := by
              rw [← hwx]
              exact blk_alloc BT _
            have bK : wx.heap[G]? = some (.cells #[.slice A0_0 l0_0.length c0_0, .string a0_1, .string a0_2, .slice (some ad) l0_3.length c0_3] 25 (0, 0)) := by
              rw [← hwx]
              exact blk_alloc BK _
            have hBx : Below w.heap.size w wx := by
              rw [← hwx]
              exact below_alloc HB _
            have hMx : Mat wx (G + 1) (G + 3) a m Y := by
              rw [← hwx]
              exact hM.alloc _
            have y0 : wx.cell? ⟨W, 0, none⟩ = some (.int .u8 5) := (blk_cell bX 0).trans rfl
            have y1 : wx.cell? ⟨W, 1, none⟩ = some (.int .u8 ((b : Nat) : Int)) := (blk_cell bX 1).trans rfl
            have y2 : wx.cell? ⟨W, 2, none⟩ = some (.int .u8 f2) := (blk_cell bX 2).trans rfl
            have y3 : wx.cell? ⟨W, 3, none⟩ = some (.int .u8 f3) := (blk_cell bX 3).trans rfl
            have y4 : wx.cell? ⟨W, 4, none⟩ = some (.int .i64 f4) := (blk_cell bX 4).trans rfl
            have yT : wx.cell? ⟨G + 2, 0, none⟩ = some (.slice (some ⟨G + 1, 0, none⟩) a a) := (blk_cell bT 0).trans rfl
            clear BT BK HB hM
            have hti := there_calls (G + 2) (G + 1) a ((b : Nat) : Int) u1 u2 wx yT
            rw [hf'] at hti
            have b0 : (0 ≤ ((b : Nat) : Int)) = True := eq_true (by omega)
            have b1 : (((b : Nat) : Int) < (a : Int)) = True := eq_true (by omega)
            have yO : wx.cell? ⟨G + 1, b, none⟩ = some (.slice (some ⟨G + 3 + b, 0, none⟩) m m) := hMx.out.cell hb
            have im : i < m := by omega
            have i1 : ((i : Int) < (m : Int)) = True := eq_true (by omega)
            have yR : wx.cell? ⟨G + 3 + b, i, none⟩ = some (.bool (Y b i)) := (hMx.row b hb).cell im
            have fR : wx.frozen? ⟨G + 3 + b, i, none⟩ = false := (hMx.row b hb).frozen i
            have hM2 := hMx.mark (k := i) hb
            have bT2 := blk_far bT (p := ⟨G + 3 + b, i, none⟩) (by show G + 2 ≠ G + 3 + b; omega) (.bool true)
            have bK2 := blk_far bK (p := ⟨G + 3 + b, i, none⟩) (by show G ≠ G + 3 + b; omega) (.bool true)
            have hB2 : Below w.heap.size w (wx.setCell ⟨G + 3 + b, i, none⟩ (.bool true)) := hBx.setCell (p := ⟨G + 3 + b, i, none⟩) (by show w.heap.size ≤ G + 3 + b; omega) _
            clear bX bT bK hBx hMx hb hf im hG hlt hTW hGW hRW hc1000 u1 u2 u3 u4'
            go_wp2_with (go_at_call 15; refine hti.mono ?_; rintro e w5 ⟨rfl, rfl⟩)
            go_roundg gk
            case rel => exact ⟨i + 1, _, hgi, by rw [e2], bT2, bK2, hB2, hM2, hY⟩
            case measure => omega
          · rw [if_neg (fun h => hf h.2)] at hY
            have hf' : decide (f1 < (a : Int)) = false := decide_eq_false hf
            obtain ⟨wx, hwx⟩ : ∃ wx, wr.alloc (.cells #[.int .u8 5, .int .u8 f1, .int .u8 f2, .int .u8 f3, .int .i64 f4] 45) = wx := ⟨_, rfl⟩
            have bX : wx.heap[W]? = some (.cells #[.int .u8 5, .int .u8 f1, .int .u8 f2, .int .u8 f3, .int .i64 f4] 45 (0, 0)) := by
              rw [← hwx, ← hW]
              exact blk_new wr _
            have bT : wx.heap[G + 2]? = some (.cells #[.slice (some ⟨G + 1, 0, none⟩) a a] 28 (0, 0)) := by
              rw [← hwx]
              exact blk_alloc BT _
            have bK : wx.heap[G]? = some (.cells #[.slice A0_0 l0_0.length c0_0, .string a0_1, .string a0_2, .slice (some ad) l0_3.length c0_3] 25 (0, 0)) := by
              rw [← hwx]
              exact blk_alloc BK _
            have hBx : Below w.heap.size w wx := by
              rw [← hwx]
              exact below_alloc HB _
            have hMx : Mat wx (G + 1) (G + 3) a m Y := by
              rw [← hwx]
              exact hM.alloc _
            have y0 : wx.cell? ⟨W, 0, none⟩ = some (.int .u8 5) := (blk_cell bX 0).trans rfl
            have y1 : wx.cell? ⟨W, 1, none⟩ = some (.int .u8 f1) := (blk_cell bX 1).trans rfl
            have y2 : wx.cell? ⟨W, 2, none⟩ = some (.int .u8 f2) := (blk_cell bX 2).trans rfl
            have y3 : wx.cell? ⟨W, 3, none⟩ = some (.int .u8 f3) := (blk_cell bX 3).trans rfl
            have y4 : wx.cell? ⟨W, 4, none⟩ = some (.int .i64 f4) := (blk_cell bX 4).trans rfl
            have yT : wx.cell? ⟨G + 2, 0, none⟩ = some (.slice (some ⟨G + 1, 0, none⟩) a a) := (blk_cell bT 0).trans rfl
            clear BT BK HB hM
            have hti := there_calls (G + 2) (G + 1) a f1 u1 u2 wx yT
            rw [hf'] at hti
            clear bX hf hG hlt hTW hGW hRW hc1000 u1 u2 u3 u4'
            go_wp2_with (go_at_call 15; refine hti.mono ?_; rintro e w5 ⟨rfl, rfl⟩)
            go_roundg gk
            case rel => exact ⟨i + 1, _, hgi, by rw [e2], bT, bK, hBx, hMx, hY⟩
            case measure => omega
        · rw [if_neg (fun h => h5 h.1)] at hY
          have h5' : (o == 5) = false := beq_eq_false_iff_ne.2 h5
          obtain ⟨wx, hwx⟩ : ∃ wx, wr.alloc (.cells #[.int .u8 o, .int .u8 f1, .int .u8 f2, .int .u8 f3, .int .i64 f4] 45) = wx := ⟨_, rfl⟩
          have bX : wx.heap[W]? = some (.cells #[.int .u8 o, .int .u8 f1, .int .u8 f2, .int .u8 f3, .int .i64 f4] 45 (0, 0)) := by
            rw [← hwx, ← hW]
            exact blk_new wr _
          have bT : wx.heap[G + 2]? = some (.cells #[.slice (some ⟨G + 1, 0, none⟩) a a] 28 (0, 0)) := by
            rw [← hwx]
            exact blk_alloc BT _
          have bK : wx.heap[G]? = some (.cells #[.slice A0_0 l0_0.length c0_0, .string a0_1, .string a0_2, .slice (some ad) l0_3.length c0_3] 25 (0, 0)) := by
            rw [← hwx]
            exact blk_alloc BK _
          have hBx : Below w.heap.size w wx := by
            rw [← hwx]
            exact below_alloc HB _
          have hMx : Mat wx (G + 1) (G + 3) a m Y := by
            rw [← hwx]
            exact hM.alloc _
          have y0 : wx.cell? ⟨W, 0, none⟩ = some (.int .u8 o) := (blk_cell bX 0).trans rfl
          have y1 : wx.cell? ⟨W, 1, none⟩ = some (.int .u8 f1) := (blk_cell bX 1).trans rfl
          have y2 : wx.cell? ⟨W, 2, none⟩ = some (.int .u8 f2) := (blk_cell bX 2).trans rfl
          have y3 : wx.cell? ⟨W, 3, none⟩ = some (.int .u8 f3) := (blk_cell bX 3).trans rfl
          have y4 : wx.cell? ⟨W, 4, none⟩ = some (.int .i64 f4) := (blk_cell bX 4).trans rfl
          have yT : wx.cell? ⟨G + 2, 0, none⟩ = some (.slice (some ⟨G + 1, 0, none⟩) a a) := (blk_cell bT 0).trans rfl
          clear BT BK HB hM
          clear bX h5 hG hlt hTW hGW hRW hc1000 u1 u2 u3 u4'
          go_wp2
          go_roundg gk
          case rel => exact ⟨i + 1, _, hgi, by rw [e2], bT, bK, hBx, hMx, hY⟩
          case measure => omega
    have hlt' : decide ((a : Int) < (n : Int)) = true := decide_eq_true (by omega)
    have k0 : (0 ≤ (a : Int)) = True := eq_true (by omega)
    have k1 : ((a : Int) < (n : Int)) = True := eq_true (by omega)
    have e2 : wrap64 ((a : Int) + 1) = ((a + 1 : Nat) : Int) := by
      unfold wrap64
      omega
    have em : wrap64 ((l0_3.length : Int) + 1) = (m : Int) := by
      unfold wrap64
      omega
    have em' : IntKind.i64.wrap ((l0_3.length : Int) + 1) = (m : Int) := (i64_w _).trans em
    have hs : wr.heap.size = G + 3 + a := hH.size
    obtain ⟨wm, hwm⟩ : ∃ wm, wr.drew.alloc (.cells (madeCells #[.bool false] m) 4) = wm := ⟨_, rfl⟩
    have BTm : wm.heap[G + 2]? = some (.cells #[.slice (some ⟨G + 1, 0, none⟩) n n] 28 (0, 0)) := by
      rw [← hwm]
      exact blk_alloc (blk_drew BT) _
    have BKm : wm.heap[G]? = some (.cells #[.slice A0_0 l0_0.length c0_0, .string a0_1, .string a0_2, .slice A0_3 l0_3.length c0_3] 25 (0, 0)) := by
      rw [← hwm]
      exact blk_alloc (blk_drew BK) _
    have cTm : wm.cell? ⟨G + 2, 0, none⟩ = some (.slice (some ⟨G + 1, 0, none⟩) n n) := (blk_cell BTm 0).trans rfl
    have c3m : wm.cell? ⟨G, 3, none⟩ = some (.slice A0_3 l0_3.length c0_3) := (blk_cell BKm 3).trans rfl
    have Om : wm.rowIs (G + 1) 40 n (fun j => if j < a then .slice (some ⟨G + 3 + j, 0, none⟩) m m else .slice none 0 0) := by
      rw [← hwm]
      exact hH.out.drew.alloc _
    have fO := Om.frozen a
    have cO : wm.cell? ⟨G + 1, a, none⟩ = some (.slice none 0 0) := by rw [Om.cell hlt, if_neg (Nat.lt_irrefl a)]
    have BT2 := blk_far BTm (p := ⟨G + 1, a, none⟩) (by show G + 2 ≠ G + 1; omega) (.slice (some ⟨G + 3 + a, 0, none⟩) m m)
    have BK2 := blk_far BKm (p := ⟨G + 1, a, none⟩) (by show G ≠ G + 1; omega) (.slice (some ⟨G + 3 + a, 0, none⟩) m m)
    have HB2 : Below w.heap.size w (wm.setCell ⟨G + 1, a, none⟩ (.slice (some ⟨G + 3 + a, 0, none⟩) m m)) := by
      rw [← hwm]
      exact below_set (below_alloc (below_drew HB) _) (by omega)
    have hH2 : Half (wm.setCell ⟨G + 1, a, none⟩ (.slice (some ⟨G + 3 + a, 0, none⟩) m m)) (G + 1) (G + 3) n m (a + 1) := by
      refine ⟨(Om.set a _).congr fun j hj => ?_, fun j hj => ?_, by omega, ?_⟩
      · by_cases e : j = a
        · subst e
          rw [if_pos rfl, if_pos (by omega)]
        · rw [if_neg e]
          by_cases e2 : j < a
          · rw [if_pos e2, if_pos (by omega)]
          · rw [if_neg e2, if_neg (by omega)]
      · refine World.rowIs.setOther ?_ (by show G + 3 + j ≠ G + 1; omega) _
        rw [← hwm]
        by_cases e : j = a
        · subst e
          have := World.rowIs_made wr.drew (.bool false) m 4
          rw [show wr.drew.heap.size = G + 3 + j from hs] at this
          exact this
        · exact ((hH.row j (by omega)).drew).alloc _
      · show (wm.heap.modify _ _).size = _
        rw [Array.size_modify, ← hwm]
        simp only [World.alloc, Array.size_push]
        show wr.heap.size + 1 = G + 3 + (a + 1)
        omega
    have ha1 : a + 1 ≤ n := hlt
    have hms : n - (a + 1) < n - a := by omega
    clear HB hH BT BK em Om BTm BKm hlt
    go_wp2_with fail
    go_region_held3 (fun w' => w'.cell? ⟨G + 2, 0, none⟩ = some (.slice (some ⟨G + 1, 0, none⟩) n n) ∧ w'.cell? ⟨G, 3, none⟩ = some (.slice A0_3 l0_3.length c0_3)) (first | (go_keep; done) | exact ⟨cTm, c3m⟩ | exact ⟨(blk_cell BT2 0).trans rfl, (blk_cell BK2 3).trans rfl⟩) (fail)
    go_wp2
    go_roundw
    case rel => exact ⟨a + 1, ha1, rfl, BT2, BK2, HB2, hH2⟩
    case measure => exact hms
theorem leak_May.calls (k : Nat) (A0_0 : Option Addr) (c0_0 : Nat) (l0_0 : List ByteArray) (a0_1 : ByteArray) (a0_2 : ByteArray) (A0_3 : Option Addr) (c0_3 : Nat) (l0_3 : List (S45)) (r : List (List Bool)) (w : World) (hr0_0 : Kd.C Kd.string w A0_0 l0_0.length l0_0) (hc0_0 : l0_0.length ≤ c0_0) (hr0_3 : Kd.C k45 w A0_3 l0_3.length l0_3) (hc0_3 : l0_3.length ≤ c0_3) (h : leak_May.f k l0_0 a0_1 a0_2 l0_3 = some r) :
    Calls Tryd.prog 8 #[.agg #[.slice A0_0 l0_0.length c0_0, .string a0_1, .string a0_2, .slice A0_3 l0_3.length c0_3]] w fun e w' => ∃ v, e = .returned v ∧ Kd.S (Kd.slice 4 Kd.bool) 40 w' w.heap.size (fun _ => True) v r ∧ Below w.heap.size w w' := by
  have hg : a0_1.size ≤ 8 ∧ l0_3.length ≤ 1000 := by
    unfold leak_May.f at h
    by_cases hg : a0_1.size ≤ 8 ∧ l0_3.length ≤ 1000 ∧ l0_3.all okU = true
    · exact ⟨hg.1, hg.2.1⟩
    · rw [if_neg hg] at h
      cases h
  refine (leak_May.raw k A0_0 c0_0 l0_0 a0_1 a0_2 A0_3 c0_3 l0_3 r w hr0_0 hc0_0 hr0_3 hc0_3 h).mono ?_
  rintro e w' ⟨O, r0, X, rfl, rfl, hM, hO, hb⟩
  exact ⟨_, rfl, hM.S hO (by show a0_1.size ≤ maxLen; unfold maxLen; omega) (by show l0_3.length + 1 ≤ maxLen; unfold maxLen; omega), hb⟩
end Go.Proofs.YtgfnpdfhdgenbaaDoor.P
