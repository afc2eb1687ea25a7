/-
  LeakNone: THE WALK: the program without its stores, and all that leak.Leaks tells of both.
-/
import Derived.Test.YtgfnpdfhdgenbaaDoorNoneC
import Derived.Test.YtgfnpdfhdgenbaaDoorPx13
import Derived.Test.YtgfnpdfhdgenbaaDoorPlainF
import Derived.OwnWalk
namespace Go.Proofs.YtgfnpdfhdgenbaaDoor.P
open Go.RowKit Go.Proofs.YtgfnpdfhdgenbaaDoorW.PrintWords Go.Proofs.YtgfnpdfhdgenbaaDoorW.PrintLast Go.Proofs.YtgfnpdfhdgenbaaDoorW.PrintMore
set_option linter.unusedVariables false
set_option linter.unusedSimpArgs false
attribute [local go_sem ↓] Go.wp_at_zero Go.wp_at_succ

/-- What stands while the other program is made: the box of the given one, of the other one, and the row of what it has. -/
structure NS (w0 w : World) (G Q : Nat) (p0 p1 p2 p3 u : Value) (acc : List S45) : Prop where
  g : w.heap[G]? = some (.cells #[p0, p1, p2, p3] 25 (0, 0))
  q : w.heap[Q]? = some (.cells #[p0, p1, p2, u] 25 (0, 0))
  r : Kd.R k45 45 w w0.heap.size (fun _ => True) u acc
  f : Below w0.heap.size w0 w
  ne : G ≠ Q
  hq : w0.heap.size ≤ Q
theorem NS.below {w0 w w' : World} {G Q : Nat} {p0 p1 p2 p3 u : Value} {acc : List S45} (h : NS w0 w G Q p0 p1 p2 p3 u acc) (hb : Below w.heap.size w w') : NS w0 w' G Q p0 p1 p2 p3 u acc :=
  ⟨blk_below h.g hb, blk_below h.q hb, Kd.R_below h.r hb, below_step h.f hb, h.ne, h.hq⟩

set_option maxRecDepth 100000 in
set_option maxHeartbeats 8000000 in
theorem none_walk (K : Nat) (q : Nat) (A0_0 : Option Addr) (c0_0 : Nat) (l0_0 : List ByteArray) (a0_1 : ByteArray) (a0_2 : ByteArray) (A0_3 : Option Addr) (c0_3 : Nat) (l0_3 : List (S45)) (a1 : Int) (w : World) (hr0_0 : Kd.C Kd.string w A0_0 l0_0.length l0_0) (hc0_0 : l0_0.length ≤ c0_0) (hr0_3 : Kd.C k45 w A0_3 l0_3.length l0_3) (hc0_3 : l0_3.length ≤ c0_3) (hrT : Kd.C tabK w tabA tabL.length tabL)
    (hal : lockstitchlaw11_alive.f K = some true) (hso : lockstitchlaw07_Sound.f K l0_0 a0_1 a0_2 l0_3 = some true) (hn1 : 1 ≤ l0_3.length) (hn : l0_3.length ≤ 60) (hq : q < l0_3.length) (hqe : Int.tmod (wrap64 a1) (l0_3.length : Int) = (q : Int))
    (HQ : Aside0 (∀ j : Nat, j < l0_3.length → leak_Leaks.f K l0_0 a0_1 a0_2 (l0_3.map fixI) (j : Nat) = some false))
    (HP : Aside0 ((rd_T45 l0_3 (q : Nat)).f0 ≠ 5 → leak_Leaks.f K l0_0 a0_1 a0_2 l0_3 (q : Nat) = some false))
    (HL : Aside0 ((rd_T45 l0_3 (q : Nat)).f0 = 5 → ∀ i : Nat, i < l0_3.length → ((rd_T45 l0_3 (i : Nat)).f0 = 11 ∨ (rd_T45 l0_3 (i : Nat)).f0 = 13) → (rd_T45 l0_3 (i : Nat)).f2 = (rd_T45 l0_3 (q : Nat)).f1 → leak_Leaks.f K l0_0 a0_1 a0_2 l0_3 (q : Nat) = some true)) :
    Calls Tryd.prog 4 #[.agg #[.slice A0_0 l0_0.length c0_0, .string a0_1, .string a0_2, .slice A0_3 l0_3.length c0_3], .int .u8 a1] w fun e w' => e = .returned (.bool true) ∧ Below w.heap.size w w' := by
  have hu25 := Tryd.underlying25
  have hu45 := Tryd.underlying45
  have hnot : ∀ (x : Bool) (w : World), (Op.unary .not (.bool x)).run Tryd.prog w = .ok (.bool (!x)) w := fun _ _ => rfl
  have HR0 := Aside0.mk hr0_0
  have HR3 := Aside0.mk hr0_3
  have HC0 := Aside0.mk hc0_0
  have HC3 := Aside0.mk hc0_3
  have HQE := Aside0.mk hqe
  have HT := Aside0.mk hrT
  clear hr0_0 hr0_3 hc0_0 hc0_3 hqe hrT
  obtain ⟨G, hG⟩ : ∃ G, w.heap.size = G := ⟨_, rfl⟩
  obtain ⟨wb, hwb⟩ : ∃ wb, w.alloc (.cells #[.slice A0_0 l0_0.length c0_0, .string a0_1, .string a0_2, .slice A0_3 l0_3.length c0_3] 25) = wb := ⟨_, rfl⟩
  have BK : wb.heap[G]? = some (.cells #[.slice A0_0 l0_0.length c0_0, .string a0_1, .string a0_2, .slice A0_3 l0_3.length c0_3] 25 (0, 0)) := by
    rw [← hwb, ← hG]
    exact blk_new w _
  have HB : Below w.heap.size w wb := by
    rw [← hwb]
    exact below_alloc (Below.refl _ _) _
  go_enter Tryd.func4, Tryd.ntmps4
  go_wp2_with fail
  refine (lockstitchlaw11_alive.calls K true _ hal).mono ?_
  rintro e w1 ⟨rfl, hb1⟩
  have BK1 := blk_below BK hb1
  have HB1 := below_step HB hb1
  clear BK HB hb1 hwb
  have z0 : w1.cell? ⟨G, 0, none⟩ = some (.slice A0_0 l0_0.length c0_0) := (blk_cell BK1 0).trans rfl
  have z1 : w1.cell? ⟨G, 1, none⟩ = some (.string a0_1) := (blk_cell BK1 1).trans rfl
  have z2 : w1.cell? ⟨G, 2, none⟩ = some (.string a0_2) := (blk_cell BK1 2).trans rfl
  have z3 : w1.cell? ⟨G, 3, none⟩ = some (.slice A0_3 l0_3.length c0_3) := (blk_cell BK1 3).trans rfl
  go_wp2_with fail
  refine (lockstitchlaw07_Sound.calls K A0_0 c0_0 l0_0 a0_1 a0_2 A0_3 c0_3 l0_3 true w1 (Kd.C_below HR0.out HB1) HC0.out (Kd.C_below HR3.out HB1) HC3.out (Kd.C_below HT.out HB1) hso).mono ?_
  rintro e w2 ⟨rfl, hb2⟩
  have BK2 := blk_below BK1 hb2
  have HB2 := below_step HB1 hb2
  clear BK1 HB1 hb2 z0 z1 z2 z3 HT
  have z0 : w2.cell? ⟨G, 0, none⟩ = some (.slice A0_0 l0_0.length c0_0) := (blk_cell BK2 0).trans rfl
  have z1 : w2.cell? ⟨G, 1, none⟩ = some (.string a0_1) := (blk_cell BK2 1).trans rfl
  have z2 : w2.cell? ⟨G, 2, none⟩ = some (.string a0_2) := (blk_cell BK2 2).trans rfl
  have z3 : w2.cell? ⟨G, 3, none⟩ = some (.slice A0_3 l0_3.length c0_3) := (blk_cell BK2 3).trans rfl
  obtain ⟨Q, hQ⟩ : ∃ Q, w2.heap.size = Q := ⟨_, rfl⟩
  obtain ⟨w3, hw3⟩ : ∃ w3, w2.alloc (.cells #[.slice A0_0 l0_0.length c0_0, .string a0_1, .string a0_2, .slice A0_3 l0_3.length c0_3] 25) = w3 := ⟨_, rfl⟩
  have bQ3 : w3.heap[Q]? = some (.cells #[.slice A0_0 l0_0.length c0_0, .string a0_1, .string a0_2, .slice A0_3 l0_3.length c0_3] 25 (0, 0)) := by
    rw [← hw3, ← hQ]
    exact blk_new w2 _
  have bG3 : w3.heap[G]? = some (.cells #[.slice A0_0 l0_0.length c0_0, .string a0_1, .string a0_2, .slice A0_3 l0_3.length c0_3] 25 (0, 0)) := by
    rw [← hw3]
    exact blk_alloc BK2 _
  have hB3 : Below w.heap.size w w3 := by
    rw [← hw3]
    exact below_alloc HB2 _
  have hGQ : G ≠ Q := by rw [← hQ]; exact Nat.ne_of_lt (blk_lt BK2)
  have hQ0 : w.heap.size ≤ Q := by rw [← hQ]; exact HB2.size
  have y3 : w3.cell? ⟨Q, 3, none⟩ = some (.slice A0_3 l0_3.length c0_3) := (blk_cell bQ3 3).trans rfl
  have yf : w3.frozen? ⟨Q, 3, none⟩ = false := blk_frozen bQ3 3
  have hN4 : NS w (w3.setCell ⟨Q, 3, none⟩ (.slice none 0 0)) G Q (.slice A0_0 l0_0.length c0_0) (.string a0_1) (.string a0_2) (.slice A0_3 l0_3.length c0_3) (.slice none 0 0) [] :=
    ⟨blk_far bG3 (p := ⟨Q, 3, none⟩) hGQ _, blk_put bQ3 3 _ rfl, Kd.R_nil _ _ _ _ _, hB3.setCell (p := ⟨Q, 3, none⟩) hQ0 _, hGQ, hQ0⟩
  have y4 : (w3.setCell ⟨Q, 3, none⟩ (.slice none 0 0)).cell? ⟨G, 3, none⟩ = some (.slice A0_3 l0_3.length c0_3) := (blk_cell hN4.g 3).trans rfl
  clear BK2 HB2 bG3 hB3 bQ3
  go_wp2_with fail
  clear z0 z1 z2 z3 y3 yf y4 hw3 hQ
  go_loopg [22] l0_3.length (fun kq iv wr => ∃ (i : Nat) (u : Value), kq + i = l0_3.length ∧ iv = .int .i64 i ∧ NS w wr G Q (.slice A0_0 l0_0.length c0_0) (.string a0_1) (.string a0_2) (.slice A0_3 l0_3.length c0_3) u ((l0_3.take i).map fixI))
  case atStart => exact ⟨0, _, Nat.add_zero _, rfl, hN4⟩
  case round =>
    clear hN4
    obtain ⟨i, u, hi, rfl, hN⟩ := hrel
    cases gk with
    | zero =>
      obtain rfl : i = l0_3.length := by omega
      have hlt : decide ((l0_3.length : Int) < (l0_3.length : Int)) = false := decide_eq_false (by omega)
      rw [List.take_length] at hN
      obtain ⟨An, cn, rfl, _, _⟩ := Kd.R_reads hN.r
      have el : (l0_3.map fixI).length = l0_3.length := List.length_map _
      have c3 : wr.cell? ⟨Q, 3, none⟩ = some (.slice An (l0_3.map fixI).length cn) := (blk_cell hN.q 3).trans rfl
      rw [el] at c3
      go_wp2_with fail
      clear c3
      go_loopg [45] l0_3.length (fun kq iv wr => ∃ (j : Nat), kq + j = l0_3.length ∧ iv = .int .i64 j ∧ NS w wr G Q (.slice A0_0 l0_0.length c0_0) (.string a0_1) (.string a0_2) (.slice A0_3 l0_3.length c0_3) (.slice An (l0_3.map fixI).length cn) (l0_3.map fixI))
      case atStart => exact ⟨0, Nat.add_zero _, rfl, hN⟩
      case round =>
        clear hN
        obtain ⟨j, hj, rfl, hN⟩ := hrel
        cases gk with
        | succ gk =>
          have hjl : j < l0_3.length := by omega
          have hltj : decide ((j : Int) < (l0_3.length : Int)) = true := decide_eq_true (by omega)
          have e2 : wrap64 ((j : Int) + 1) = ((j + 1 : Nat) : Int) := by
            unfold wrap64
            omega
          have c0 : wr.cell? ⟨Q, 0, none⟩ = some (.slice A0_0 l0_0.length c0_0) := (blk_cell hN.q 0).trans rfl
          have c1 : wr.cell? ⟨Q, 1, none⟩ = some (.string a0_1) := (blk_cell hN.q 1).trans rfl
          have c2 : wr.cell? ⟨Q, 2, none⟩ = some (.string a0_2) := (blk_cell hN.q 2).trans rfl
          have c3 : wr.cell? ⟨Q, 3, none⟩ = some (.slice An (l0_3.map fixI).length cn) := (blk_cell hN.q 3).trans rfl
          have hR := Kd.R_reads' hN.r
          have hlk := leak_Leaks.calls K A0_0 c0_0 l0_0 a0_1 a0_2 An cn (l0_3.map fixI) (j : Nat) false wr (Kd.C_below HR0.out hN.f) HC0.out hR.2.2 hR.2.1 (HQ.out j hjl)
          rw [el] at c3 hlk
          clear hR
          go_wp2_with (go_at_call 10; refine hlk.mono ?_; rintro e w5 ⟨rfl, hb5⟩)
          have hN5 := hN.below hb5
          clear hN hb5 hlk c0 c1 c2 c3
          go_roundg gk
          case measure => omega
          case rel => exact ⟨j + 1, by omega, by first | rw [e2] | rfl, hN5⟩
        | zero =>
          obtain rfl : j = l0_3.length := by omega
          have hltj : decide ((l0_3.length : Int) < (l0_3.length : Int)) = false := decide_eq_false (by omega)
          have BK := hN.g
          have HB := hN.f
          have c0 : wr.cell? ⟨G, 0, none⟩ = some (.slice A0_0 l0_0.length c0_0) := (blk_cell BK 0).trans rfl
          have c1 : wr.cell? ⟨G, 1, none⟩ = some (.string a0_1) := (blk_cell BK 1).trans rfl
          have c2 : wr.cell? ⟨G, 2, none⟩ = some (.string a0_2) := (blk_cell BK 2).trans rfl
          have c3 : wr.cell? ⟨G, 3, none⟩ = some (.slice A0_3 l0_3.length c0_3) := (blk_cell BK 3).trans rfl
          have n0 : ((l0_3.length : Int) == 0) = false := beq_eq_false_iff_ne.2 (by omega)
          have q0 : (0 ≤ (q : Int)) = True := eq_true (by omega)
          have q1 : ((q : Int) < (l0_3.length : Int)) = True := eq_true (by omega)
          obtain ⟨ad, eA, x0, _, _, _, _⟩ := at_T45 HR3.out (q : Nat) (Int.natCast_nonneg q) (by omega)
          have eA' := Aside0.mk eA
          rw [Int.toNat_natCast] at x0
          replace x0 := (HB.cell (World.block_lt_of_cell? w _ x0)).trans x0
          clear hN
          by_cases h5 : (rd_T45 l0_3 (q : Nat)).f0 = 5
          · have h5' : ((rd_T45 l0_3 (q : Nat)).f0 != 5) = false := by rw [h5]; rfl
            have hLL := Aside0.mk (HL.out h5)
            clear h5 eA'
            have hqe := HQE.out
            cases eA
            go_wp2_with fail
            clear hqe c0 c1 c2 c3 x0
            refine none_loop K G q A0_0 c0_0 l0_0 a0_1 a0_2 (some ad) c0_3 l0_3 w HR0 HC0 HR3 HC3 (by omega) hq hLL _ _ _ _ _ _ _ _ _ _ _ _ _ _ _ _ _ _ _ _ _ _ _ _ _ _ _ _ _ _ _ _ _ _ _ _ _ _ _ _ _ _ _ _ _ _ _ _ _ _ _ _ _ _ _ _ _ _ _ _ _ _ _ _ _ _ _ _ _ _ _ _ _ _ _ _ _ _ _ _ _ _ _ _ _ _ _ _ _ _ _ _ _ _ _ _ _ _ ?_ wr BK HB
            clear BK HB
            intro u4 u11 u72 u73 u74 u75 u76 u77 u78 u79 u80 u81 u82 u83 u84 u85 u86 u87 u88 u89 u90 u91 u92 u93 u94 u95 u96 u97 u98 u99 u100 u101 w7 HB7
            go_wp2
            go_ret
            exact ⟨rfl, HB7⟩
          · have h5' : ((rd_T45 l0_3 (q : Nat)).f0 != 5) = true := bne_iff_ne.2 h5
            have hlk := leak_Leaks.calls K A0_0 c0_0 l0_0 a0_1 a0_2 A0_3 c0_3 l0_3 (q : Nat) false wr (Kd.C_below HR0.out HB) HC0.out (Kd.C_below HR3.out HB) HC3.out (HP.out h5)
            clear h5 eA'
            have hqe := HQE.out
            cases eA
            go_wp2_with (go_at_call 10; refine hlk.mono ?_; rintro e w5 ⟨rfl, hb5⟩)
            clear hqe
            have HB5 := below_step HB hb5
            go_ret
            exact ⟨rfl, HB5⟩
    | succ gk =>
      have hil : i < l0_3.length := by omega
      have hlt : decide ((i : Int) < (l0_3.length : Int)) = true := decide_eq_true (by omega)
      have k0 : (0 ≤ (i : Int)) = True := eq_true (by omega)
      have k1 : ((i : Int) < (l0_3.length : Int)) = True := eq_true (by omega)
      have e2 : wrap64 ((i : Int) + 1) = ((i + 1 : Nat) : Int) := by
        unfold wrap64
        omega
      have HB := hN.f
      obtain ⟨ad, eA, x0, x1, x2, x3, x4⟩ := at_T45 HR3.out (i : Nat) (Int.natCast_nonneg i) (by omega)
      subst eA
      rw [Int.toNat_natCast] at x0 x1 x2 x3 x4
      replace x0 := (HB.cell (World.block_lt_of_cell? w _ x0)).trans x0
      replace x1 := (HB.cell (World.block_lt_of_cell? w _ x1)).trans x1
      replace x2 := (HB.cell (World.block_lt_of_cell? w _ x2)).trans x2
      replace x3 := (HB.cell (World.block_lt_of_cell? w _ x3)).trans x3
      replace x4 := (HB.cell (World.block_lt_of_cell? w _ x4)).trans x4
      have htk := take_fix l0_3 i hil
      rw [show l0_3.getD i z45 = rd_T45 l0_3 (i : Nat) from rfl] at htk
      have hlen : ((l0_3.take i).map fixI).length + 1 ≤ 61 := by rw [List.length_map, List.length_take]; omega
      generalize (l0_3.take i).map fixI = acc at *
      generalize rd_T45 l0_3 (i : Nat) = x at *
      obtain ⟨o, f1, f2, f3, f4⟩ := x
      dsimp only at *
      obtain ⟨W, hW⟩ : ∃ W, wr.heap.size = W := ⟨_, rfl⟩
      by_cases h11 : o = 11
      · subst h11
        obtain ⟨wx, hwx⟩ : ∃ wx, wr.alloc (.cells #[.int .u8 11, .int .u8 f1, .int .u8 f2, .int .u8 f3, .int .i64 f4] 45) = wx := ⟨_, rfl⟩
        have bX : wx.heap[W]? = some (.cells #[.int .u8 11, .int .u8 f1, .int .u8 f2, .int .u8 f3, .int .i64 f4] 45 (0, 0)) := by
          rw [← hwx, ← hW]
          exact blk_new wr _
        have gX : wx.heap[G]? = some (.cells #[.slice A0_0 l0_0.length c0_0, .string a0_1, .string a0_2, .slice (some ad) l0_3.length c0_3] 25 (0, 0)) := by
          rw [← hwx]
          exact blk_alloc hN.g _
        have qX : wx.heap[Q]? = some (.cells #[.slice A0_0 l0_0.length c0_0, .string a0_1, .string a0_2, u] 25 (0, 0)) := by
          rw [← hwx]
          exact blk_alloc hN.q _
        have rX : Kd.R k45 45 wx w.heap.size (fun k => k ≠ W) u acc := by
          rw [← hwx]
          exact Kd.R_mono (Kd.R_below (Kd.R_bound hN.r) (below_alloc (Below.refl _ _) _)) (fun k hk => by have := hk.2.2.1; omega)
        have fX : Below w.heap.size w wx := by
          rw [← hwx]
          exact below_alloc HB _
        have hWsz : w.heap.size ≤ W := by rw [← hW]; exact HB.size
        have gW : G ≠ W := by rw [← hW]; exact Nat.ne_of_lt (blk_lt hN.g)
        have qW : Q ≠ W := by rw [← hW]; exact Nat.ne_of_lt (blk_lt hN.q)
        obtain ⟨s0, s1, s2, s3, s4, r0, r1, r2, r3, r4⟩ := all5 bX
        have b0y : (wx.setCell ⟨W, 0, none⟩ (.int .u8 14)).heap[W]? = some (.cells #[.int .u8 14, .int .u8 f1, .int .u8 f2, .int .u8 f3, .int .i64 f4] 45 (0, 0)) := blk_put bX 0 (.int .u8 14) rfl
        have g0y := blk_far gX (p := ⟨W, 0, none⟩) gW (.int .u8 14)
        have q0y := blk_far qX (p := ⟨W, 0, none⟩) qW (.int .u8 14)
        have r0y := Kd.R_far rX (p := ⟨W, 0, none⟩) (fun _ hk => hk) (.int .u8 14)
        have f0y := fX.setCell (p := ⟨W, 0, none⟩) hWsz (.int .u8 14)
        have b1y : ((wx.setCell ⟨W, 0, none⟩ (.int .u8 14)).setCell ⟨W, 1, none⟩ (.int .u8 0)).heap[W]? = some (.cells #[.int .u8 14, .int .u8 0, .int .u8 f2, .int .u8 f3, .int .i64 f4] 45 (0, 0)) := blk_put b0y 1 (.int .u8 0) rfl
        have g1y := blk_far g0y (p := ⟨W, 1, none⟩) gW (.int .u8 0)
        have q1y := blk_far q0y (p := ⟨W, 1, none⟩) qW (.int .u8 0)
        have r1y := Kd.R_far r0y (p := ⟨W, 1, none⟩) (fun _ hk => hk) (.int .u8 0)
        have f1y := f0y.setCell (p := ⟨W, 1, none⟩) hWsz (.int .u8 0)
        have b2y : (((wx.setCell ⟨W, 0, none⟩ (.int .u8 14)).setCell ⟨W, 1, none⟩ (.int .u8 0)).setCell ⟨W, 2, none⟩ (.int .u8 0)).heap[W]? = some (.cells #[.int .u8 14, .int .u8 0, .int .u8 0, .int .u8 f3, .int .i64 f4] 45 (0, 0)) := blk_put b1y 2 (.int .u8 0) rfl
        have g2y := blk_far g1y (p := ⟨W, 2, none⟩) gW (.int .u8 0)
        have q2y := blk_far q1y (p := ⟨W, 2, none⟩) qW (.int .u8 0)
        have r2y := Kd.R_far r1y (p := ⟨W, 2, none⟩) (fun _ hk => hk) (.int .u8 0)
        have f2y := f1y.setCell (p := ⟨W, 2, none⟩) hWsz (.int .u8 0)
        have b3y : ((((wx.setCell ⟨W, 0, none⟩ (.int .u8 14)).setCell ⟨W, 1, none⟩ (.int .u8 0)).setCell ⟨W, 2, none⟩ (.int .u8 0)).setCell ⟨W, 3, none⟩ (.int .u8 0)).heap[W]? = some (.cells #[.int .u8 14, .int .u8 0, .int .u8 0, .int .u8 0, .int .i64 f4] 45 (0, 0)) := blk_put b2y 3 (.int .u8 0) rfl
        have g3y := blk_far g2y (p := ⟨W, 3, none⟩) gW (.int .u8 0)
        have q3y := blk_far q2y (p := ⟨W, 3, none⟩) qW (.int .u8 0)
        have r3y := Kd.R_far r2y (p := ⟨W, 3, none⟩) (fun _ hk => hk) (.int .u8 0)
        have f3y := f2y.setCell (p := ⟨W, 3, none⟩) hWsz (.int .u8 0)
        have b4y : (((((wx.setCell ⟨W, 0, none⟩ (.int .u8 14)).setCell ⟨W, 1, none⟩ (.int .u8 0)).setCell ⟨W, 2, none⟩ (.int .u8 0)).setCell ⟨W, 3, none⟩ (.int .u8 0)).setCell ⟨W, 4, none⟩ (.int .i64 0)).heap[W]? = some (.cells #[.int .u8 14, .int .u8 0, .int .u8 0, .int .u8 0, .int .i64 0] 45 (0, 0)) := blk_put b3y 4 (.int .i64 0) rfl
        have g4y := blk_far g3y (p := ⟨W, 4, none⟩) gW (.int .i64 0)
        have q4y := blk_far q3y (p := ⟨W, 4, none⟩) qW (.int .i64 0)
        have r4y := Kd.R_far r3y (p := ⟨W, 4, none⟩) (fun _ hk => hk) (.int .i64 0)
        have f4y := f3y.setCell (p := ⟨W, 4, none⟩) hWsz (.int .i64 0)
        obtain ⟨wy, hwy⟩ : ∃ wy, (((((wx.setCell ⟨W, 0, none⟩ (.int .u8 14)).setCell ⟨W, 1, none⟩ (.int .u8 0)).setCell ⟨W, 2, none⟩ (.int .u8 0)).setCell ⟨W, 3, none⟩ (.int .u8 0)).setCell ⟨W, 4, none⟩ (.int .i64 0)) = wy := ⟨_, rfl⟩
        have bY := b4y
        have gY := g4y
        have qY := q4y
        have rY := r4y
        have fY := f4y
        rw [hwy] at bY gY qY rY fY
        clear b0y b1y b2y b3y b4y g0y g1y g2y g3y g4y q0y q1y q2y q3y q4y r0y r1y r2y r3y r4y f0y f1y f2y f3y f4y
        have t0 : wy.cell? ⟨W, 0, none⟩ = some (.int .u8 14) := (blk_cell bY 0).trans rfl
        have t1 : wy.cell? ⟨W, 1, none⟩ = some (.int .u8 0) := (blk_cell bY 1).trans rfl
        have t2 : wy.cell? ⟨W, 2, none⟩ = some (.int .u8 0) := (blk_cell bY 2).trans rfl
        have t3 : wy.cell? ⟨W, 3, none⟩ = some (.int .u8 0) := (blk_cell bY 3).trans rfl
        have t4 : wy.cell? ⟨W, 4, none⟩ = some (.int .i64 0) := (blk_cell bY 4).trans rfl
        have tq : wy.cell? ⟨Q, 3, none⟩ = some u := (blk_cell qY 3).trans rfl
        clear bX gX qX rX fX hN HB
        go_wp2_with (at_builtin; go_loud (refine Kd.R_append k45 (w0 := w) w.heap.size rfl (.tmp 36) (.tmp 38) 23 45 (.agg #[(.int .u8 0), (.int .u8 0), (.int .u8 0), (.int .u8 0), (.int .i64 0)]) 16 rfl Tryd.underlying23 info45 rfl (by decide) (by decide) u acc (⟨14, 0, 0, 0, 0⟩ : S45) [.int .u8 14, .int .u8 0, .int .u8 0, .int .u8 0, .int .i64 0] (fun k_ => k_ ≠ W) (fun _ => False) rfl (by first | (go_simp; done) | (go_simp; rfl)) (k45_mkM _ _ _ (⟨14, 0, 0, 0, 0⟩ : S45)) (fun _ hk => hk.elim) (fun k_ hk => by have := blk_lt bY; omega) rY fY fY.size (by omega) ?_); intro v1 w6 hR6 hB6 hg6 hat6; obtain ⟨An, cn, e1⟩ := Kd.R_slice hR6; subst e1; have gu : some G ≠ u.ownBlock := Kd.R_ne rY gY (by decide); have qu : some Q ≠ u.ownBlock := Kd.R_ne rY qY (by decide); have g6 := blk_grown gY hg6 gu; have q6 := blk_grown qY hg6 qu; have c6 : w6.cell? ⟨Q, 3, none⟩ = some u := (blk_cell q6 3).trans rfl; have z6 := blk_frozen q6 3; have hN7 : NS w (w6.setCell ⟨Q, 3, none⟩ _) G Q (.slice A0_0 l0_0.length c0_0) (.string a0_1) (.string a0_2) (.slice (some ad) l0_3.length c0_3) _ (acc ++ [⟨14, 0, 0, 0, 0⟩]) := ⟨blk_far g6 (p := ⟨Q, 3, none⟩) hGQ _, blk_put q6 3 _ rfl, Kd.R_mono (Kd.R_set hR6 q6 (by decide) 3 _) (fun _ _ => trivial), hB6.setCell (p := ⟨Q, 3, none⟩) hQ0 _, hGQ, hQ0⟩)
        rw [show fixI (⟨11, f1, f2, f3, f4⟩ : S45) = ⟨14, 0, 0, 0, 0⟩ from if_pos (.inl rfl)] at htk
        rw [show ∀ x : S45, (acc ++ [x]).length = acc.length + 1 from fun x => by rw [List.length_append]; rfl] at hN7
        rw [← htk] at hN7
        clear htk hR6 hB6 g6 q6
        go_roundg gk
        case measure => omega
        case rel => exact ⟨i + 1, _, by omega, by first | rw [e2] | rfl, hN7⟩
      · by_cases h13 : o = 13
        · subst h13
          clear h11
          obtain ⟨wx, hwx⟩ : ∃ wx, wr.alloc (.cells #[.int .u8 13, .int .u8 f1, .int .u8 f2, .int .u8 f3, .int .i64 f4] 45) = wx := ⟨_, rfl⟩
          have bX : wx.heap[W]? = some (.cells #[.int .u8 13, .int .u8 f1, .int .u8 f2, .int .u8 f3, .int .i64 f4] 45 (0, 0)) := by
            rw [← hwx, ← hW]
            exact blk_new wr _
          have gX : wx.heap[G]? = some (.cells #[.slice A0_0 l0_0.length c0_0, .string a0_1, .string a0_2, .slice (some ad) l0_3.length c0_3] 25 (0, 0)) := by
            rw [← hwx]
            exact blk_alloc hN.g _
          have qX : wx.heap[Q]? = some (.cells #[.slice A0_0 l0_0.length c0_0, .string a0_1, .string a0_2, u] 25 (0, 0)) := by
            rw [← hwx]
            exact blk_alloc hN.q _
          have rX : Kd.R k45 45 wx w.heap.size (fun k => k ≠ W) u acc := by
            rw [← hwx]
            exact Kd.R_mono (Kd.R_below (Kd.R_bound hN.r) (below_alloc (Below.refl _ _) _)) (fun k hk => by have := hk.2.2.1; omega)
          have fX : Below w.heap.size w wx := by
            rw [← hwx]
            exact below_alloc HB _
          have hWsz : w.heap.size ≤ W := by rw [← hW]; exact HB.size
          have gW : G ≠ W := by rw [← hW]; exact Nat.ne_of_lt (blk_lt hN.g)
          have qW : Q ≠ W := by rw [← hW]; exact Nat.ne_of_lt (blk_lt hN.q)
          obtain ⟨s0, s1, s2, s3, s4, r0, r1, r2, r3, r4⟩ := all5 bX
          have b0y : (wx.setCell ⟨W, 0, none⟩ (.int .u8 14)).heap[W]? = some (.cells #[.int .u8 14, .int .u8 f1, .int .u8 f2, .int .u8 f3, .int .i64 f4] 45 (0, 0)) := blk_put bX 0 (.int .u8 14) rfl
          have g0y := blk_far gX (p := ⟨W, 0, none⟩) gW (.int .u8 14)
          have q0y := blk_far qX (p := ⟨W, 0, none⟩) qW (.int .u8 14)
          have r0y := Kd.R_far rX (p := ⟨W, 0, none⟩) (fun _ hk => hk) (.int .u8 14)
          have f0y := fX.setCell (p := ⟨W, 0, none⟩) hWsz (.int .u8 14)
          have b1y : ((wx.setCell ⟨W, 0, none⟩ (.int .u8 14)).setCell ⟨W, 1, none⟩ (.int .u8 0)).heap[W]? = some (.cells #[.int .u8 14, .int .u8 0, .int .u8 f2, .int .u8 f3, .int .i64 f4] 45 (0, 0)) := blk_put b0y 1 (.int .u8 0) rfl
          have g1y := blk_far g0y (p := ⟨W, 1, none⟩) gW (.int .u8 0)
          have q1y := blk_far q0y (p := ⟨W, 1, none⟩) qW (.int .u8 0)
          have r1y := Kd.R_far r0y (p := ⟨W, 1, none⟩) (fun _ hk => hk) (.int .u8 0)
          have f1y := f0y.setCell (p := ⟨W, 1, none⟩) hWsz (.int .u8 0)
          have b2y : (((wx.setCell ⟨W, 0, none⟩ (.int .u8 14)).setCell ⟨W, 1, none⟩ (.int .u8 0)).setCell ⟨W, 2, none⟩ (.int .u8 0)).heap[W]? = some (.cells #[.int .u8 14, .int .u8 0, .int .u8 0, .int .u8 f3, .int .i64 f4] 45 (0, 0)) := blk_put b1y 2 (.int .u8 0) rfl
          have g2y := blk_far g1y (p := ⟨W, 2, none⟩) gW (.int .u8 0)
          have q2y := blk_far q1y (p := ⟨W, 2, none⟩) qW (.int .u8 0)
          have r2y := Kd.R_far r1y (p := ⟨W, 2, none⟩) (fun _ hk => hk) (.int .u8 0)
          have f2y := f1y.setCell (p := ⟨W, 2, none⟩) hWsz (.int .u8 0)
          have b3y : ((((wx.setCell ⟨W, 0, none⟩ (.int .u8 14)).setCell ⟨W, 1, none⟩ (.int .u8 0)).setCell ⟨W, 2, none⟩ (.int .u8 0)).setCell ⟨W, 3, none⟩ (.int .u8 0)).heap[W]? = some (.cells #[.int .u8 14, .int .u8 0, .int .u8 0, .int .u8 0, .int .i64 f4] 45 (0, 0)) := blk_put b2y 3 (.int .u8 0) rfl
          have g3y := blk_far g2y (p := ⟨W, 3, none⟩) gW (.int .u8 0)
          have q3y := blk_far q2y (p := ⟨W, 3, none⟩) qW (.int .u8 0)
          have r3y := Kd.R_far r2y (p := ⟨W, 3, none⟩) (fun _ hk => hk) (.int .u8 0)
          have f3y := f2y.setCell (p := ⟨W, 3, none⟩) hWsz (.int .u8 0)
          have b4y : (((((wx.setCell ⟨W, 0, none⟩ (.int .u8 14)).setCell ⟨W, 1, none⟩ (.int .u8 0)).setCell ⟨W, 2, none⟩ (.int .u8 0)).setCell ⟨W, 3, none⟩ (.int .u8 0)).setCell ⟨W, 4, none⟩ (.int .i64 0)).heap[W]? = some (.cells #[.int .u8 14, .int .u8 0, .int .u8 0, .int .u8 0, .int .i64 0] 45 (0, 0)) := blk_put b3y 4 (.int .i64 0) rfl
          have g4y := blk_far g3y (p := ⟨W, 4, none⟩) gW (.int .i64 0)
          have q4y := blk_far q3y (p := ⟨W, 4, none⟩) qW (.int .i64 0)
          have r4y := Kd.R_far r3y (p := ⟨W, 4, none⟩) (fun _ hk => hk) (.int .i64 0)
          have f4y := f3y.setCell (p := ⟨W, 4, none⟩) hWsz (.int .i64 0)
          obtain ⟨wy, hwy⟩ : ∃ wy, (((((wx.setCell ⟨W, 0, none⟩ (.int .u8 14)).setCell ⟨W, 1, none⟩ (.int .u8 0)).setCell ⟨W, 2, none⟩ (.int .u8 0)).setCell ⟨W, 3, none⟩ (.int .u8 0)).setCell ⟨W, 4, none⟩ (.int .i64 0)) = wy := ⟨_, rfl⟩
          have bY := b4y
          have gY := g4y
          have qY := q4y
          have rY := r4y
          have fY := f4y
          rw [hwy] at bY gY qY rY fY
          clear b0y b1y b2y b3y b4y g0y g1y g2y g3y g4y q0y q1y q2y q3y q4y r0y r1y r2y r3y r4y f0y f1y f2y f3y f4y
          have t0 : wy.cell? ⟨W, 0, none⟩ = some (.int .u8 14) := (blk_cell bY 0).trans rfl
          have t1 : wy.cell? ⟨W, 1, none⟩ = some (.int .u8 0) := (blk_cell bY 1).trans rfl
          have t2 : wy.cell? ⟨W, 2, none⟩ = some (.int .u8 0) := (blk_cell bY 2).trans rfl
          have t3 : wy.cell? ⟨W, 3, none⟩ = some (.int .u8 0) := (blk_cell bY 3).trans rfl
          have t4 : wy.cell? ⟨W, 4, none⟩ = some (.int .i64 0) := (blk_cell bY 4).trans rfl
          have tq : wy.cell? ⟨Q, 3, none⟩ = some u := (blk_cell qY 3).trans rfl
          clear bX gX qX rX fX hN HB
          go_wp2_with (at_builtin; go_loud (refine Kd.R_append k45 (w0 := w) w.heap.size rfl (.tmp 36) (.tmp 38) 23 45 (.agg #[(.int .u8 0), (.int .u8 0), (.int .u8 0), (.int .u8 0), (.int .i64 0)]) 16 rfl Tryd.underlying23 info45 rfl (by decide) (by decide) u acc (⟨14, 0, 0, 0, 0⟩ : S45) [.int .u8 14, .int .u8 0, .int .u8 0, .int .u8 0, .int .i64 0] (fun k_ => k_ ≠ W) (fun _ => False) rfl (by first | (go_simp; done) | (go_simp; rfl)) (k45_mkM _ _ _ (⟨14, 0, 0, 0, 0⟩ : S45)) (fun _ hk => hk.elim) (fun k_ hk => by have := blk_lt bY; omega) rY fY fY.size (by omega) ?_); intro v1 w6 hR6 hB6 hg6 hat6; obtain ⟨An, cn, e1⟩ := Kd.R_slice hR6; subst e1; have gu : some G ≠ u.ownBlock := Kd.R_ne rY gY (by decide); have qu : some Q ≠ u.ownBlock := Kd.R_ne rY qY (by decide); have g6 := blk_grown gY hg6 gu; have q6 := blk_grown qY hg6 qu; have c6 : w6.cell? ⟨Q, 3, none⟩ = some u := (blk_cell q6 3).trans rfl; have z6 := blk_frozen q6 3; have hN7 : NS w (w6.setCell ⟨Q, 3, none⟩ _) G Q (.slice A0_0 l0_0.length c0_0) (.string a0_1) (.string a0_2) (.slice (some ad) l0_3.length c0_3) _ (acc ++ [⟨14, 0, 0, 0, 0⟩]) := ⟨blk_far g6 (p := ⟨Q, 3, none⟩) hGQ _, blk_put q6 3 _ rfl, Kd.R_mono (Kd.R_set hR6 q6 (by decide) 3 _) (fun _ _ => trivial), hB6.setCell (p := ⟨Q, 3, none⟩) hQ0 _, hGQ, hQ0⟩)
          rw [show fixI (⟨13, f1, f2, f3, f4⟩ : S45) = ⟨14, 0, 0, 0, 0⟩ from if_pos (.inr rfl)] at htk
          rw [show ∀ x : S45, (acc ++ [x]).length = acc.length + 1 from fun x => by rw [List.length_append]; rfl] at hN7
          rw [← htk] at hN7
          clear htk hR6 hB6 g6 q6
          go_roundg gk
          case measure => omega
          case rel => exact ⟨i + 1, _, by omega, by first | rw [e2] | rfl, hN7⟩
        · have h11' : (o == 11) = false := beq_eq_false_iff_ne.2 h11
          have h13' : (o == 13) = false := beq_eq_false_iff_ne.2 h13
          have hfx : fixI (⟨o, f1, f2, f3, f4⟩ : S45) = ⟨o, f1, f2, f3, f4⟩ := if_neg (fun h => h.elim h11 h13)
          clear h11 h13
          obtain ⟨wx, hwx⟩ : ∃ wx, wr.alloc (.cells #[.int .u8 o, .int .u8 f1, .int .u8 f2, .int .u8 f3, .int .i64 f4] 45) = wx := ⟨_, rfl⟩
          have bX : wx.heap[W]? = some (.cells #[.int .u8 o, .int .u8 f1, .int .u8 f2, .int .u8 f3, .int .i64 f4] 45 (0, 0)) := by
            rw [← hwx, ← hW]
            exact blk_new wr _
          have gX : wx.heap[G]? = some (.cells #[.slice A0_0 l0_0.length c0_0, .string a0_1, .string a0_2, .slice (some ad) l0_3.length c0_3] 25 (0, 0)) := by
            rw [← hwx]
            exact blk_alloc hN.g _
          have qX : wx.heap[Q]? = some (.cells #[.slice A0_0 l0_0.length c0_0, .string a0_1, .string a0_2, u] 25 (0, 0)) := by
            rw [← hwx]
            exact blk_alloc hN.q _
          have rX : Kd.R k45 45 wx w.heap.size (fun k => k ≠ W) u acc := by
            rw [← hwx]
            exact Kd.R_mono (Kd.R_below (Kd.R_bound hN.r) (below_alloc (Below.refl _ _) _)) (fun k hk => by have := hk.2.2.1; omega)
          have fX : Below w.heap.size w wx := by
            rw [← hwx]
            exact below_alloc HB _
          have hWsz : w.heap.size ≤ W := by rw [← hW]; exact HB.size
          have gW : G ≠ W := by rw [← hW]; exact Nat.ne_of_lt (blk_lt hN.g)
          have qW : Q ≠ W := by rw [← hW]; exact Nat.ne_of_lt (blk_lt hN.q)
          have bY := bX
          have gY := gX
          have qY := qX
          have rY := rX
          have fY := fX
          have t0 : wx.cell? ⟨W, 0, none⟩ = some (.int .u8 o) := (blk_cell bY 0).trans rfl
          have t1 : wx.cell? ⟨W, 1, none⟩ = some (.int .u8 f1) := (blk_cell bY 1).trans rfl
          have t2 : wx.cell? ⟨W, 2, none⟩ = some (.int .u8 f2) := (blk_cell bY 2).trans rfl
          have t3 : wx.cell? ⟨W, 3, none⟩ = some (.int .u8 f3) := (blk_cell bY 3).trans rfl
          have t4 : wx.cell? ⟨W, 4, none⟩ = some (.int .i64 f4) := (blk_cell bY 4).trans rfl
          have tq : wx.cell? ⟨Q, 3, none⟩ = some u := (blk_cell qY 3).trans rfl
          clear bX gX qX rX fX hN HB
          go_wp2_with (at_builtin; go_loud (refine Kd.R_append k45 (w0 := w) w.heap.size rfl (.tmp 36) (.tmp 38) 23 45 (.agg #[(.int .u8 0), (.int .u8 0), (.int .u8 0), (.int .u8 0), (.int .i64 0)]) 16 rfl Tryd.underlying23 info45 rfl (by decide) (by decide) u acc (⟨o, f1, f2, f3, f4⟩ : S45) [.int .u8 o, .int .u8 f1, .int .u8 f2, .int .u8 f3, .int .i64 f4] (fun k_ => k_ ≠ W) (fun _ => False) rfl (by first | (go_simp; done) | (go_simp; rfl)) (k45_mkM _ _ _ (⟨o, f1, f2, f3, f4⟩ : S45)) (fun _ hk => hk.elim) (fun k_ hk => by have := blk_lt bY; omega) rY fY fY.size (by omega) ?_); intro v1 w6 hR6 hB6 hg6 hat6; obtain ⟨An, cn, e1⟩ := Kd.R_slice hR6; subst e1; have gu : some G ≠ u.ownBlock := Kd.R_ne rY gY (by decide); have qu : some Q ≠ u.ownBlock := Kd.R_ne rY qY (by decide); have g6 := blk_grown gY hg6 gu; have q6 := blk_grown qY hg6 qu; have c6 : w6.cell? ⟨Q, 3, none⟩ = some u := (blk_cell q6 3).trans rfl; have z6 := blk_frozen q6 3; have hN7 : NS w (w6.setCell ⟨Q, 3, none⟩ _) G Q (.slice A0_0 l0_0.length c0_0) (.string a0_1) (.string a0_2) (.slice (some ad) l0_3.length c0_3) _ (acc ++ [⟨o, f1, f2, f3, f4⟩]) := ⟨blk_far g6 (p := ⟨Q, 3, none⟩) hGQ _, blk_put q6 3 _ rfl, Kd.R_mono (Kd.R_set hR6 q6 (by decide) 3 _) (fun _ _ => trivial), hB6.setCell (p := ⟨Q, 3, none⟩) hQ0 _, hGQ, hQ0⟩)
          rw [hfx] at htk
          rw [show ∀ x : S45, (acc ++ [x]).length = acc.length + 1 from fun x => by rw [List.length_append]; rfl] at hN7
          rw [← htk] at hN7
          clear htk hR6 hB6 g6 q6
          go_roundg gk
          case measure => omega
          case rel => exact ⟨i + 1, _, by omega, by first | rw [e2] | rfl, hN7⟩
end Go.Proofs.YtgfnpdfhdgenbaaDoor.P
