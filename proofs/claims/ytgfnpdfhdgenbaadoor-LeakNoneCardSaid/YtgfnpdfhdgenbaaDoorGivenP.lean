/-
  leak.May's inner loop, one round of the Moves: a text of its own (one declaration with the whole function is too great for the kernel).
-/
import Derived.Test.YtgfnpdfhdgenbaaDoorGivenN
import Derived.Deep.LoopGhost
namespace Go.Proofs.YtgfnpdfhdgenbaaDoor.P
open Go.RowKit Go.Proofs.YtgfnpdfhdgenbaaDoorW.PrintWords Go.Proofs.YtgfnpdfhdgenbaaDoorW.PrintLast Go.Proofs.YtgfnpdfhdgenbaaDoorW.PrintMore
set_option linter.unusedVariables false
set_option linter.unusedSimpArgs false
attribute [local go_sem ↓] Go.wp_at_zero Go.wp_at_succ

/-- The loops of a function, in their order: their bodies. -/
def loopsOf : Code → List Code
  | .loop c => c :: loopsOf c
  | .seq a b => loopsOf a ++ loopsOf b
  | .block _ c => loopsOf c
  | .cond _ a b => loopsOf a ++ loopsOf b
  | _ => []
noncomputable def body4 : Code := ((Tryd.f8.body.map loopsOf).getD []).getD 3 .skip

set_option maxRecDepth 100000 in
set_option maxHeartbeats 3200000 in
theorem pass_loop (G a m : Nat) (A0_0 : Option Addr) (c0_0 : Nat) (l0_0 : List ByteArray) (a0_1 : ByteArray) (a0_2 : ByteArray) (A0_3 : Option Addr) (c0_3 : Nat) (l0_3 : List (S45)) (w : World) (HR3 : Aside0 (Kd.C k45 w A0_3 l0_3.length l0_3)) (hc1000 : l0_3.length ≤ 1000) (hU : l0_3.all okU = true) (hm : l0_3.length + 1 = m) (hG : w.heap.size = G)
    (Q0 : Exit → Act → World → Prop) (pb : Bool) (PZ : Tb) (c0 c1 c2 c4 c6 c7 c9 c10 c11 c12 c13 c14 c15 c16 c17 c18 c19 c20 c21 c22 c23 c24 c25 c26 c27 c28 c29 c30 c31 c32 c33 c34 c35 c36 c37 c38 c39 c40 c41 c42 c43 c44 c45 c46 c47 c48 c49 c50 c51 c52 c53 c54 c55 c56 c60 c61 c62 c63 c64 c65 c66 c67 c68 c69 c70 c71 c72 c73 c74 c75 c76 c77 c78 c79 c80 c81 c82 c83 c84 c85 c86 c87 c88 c89 c90 c91 c92 c93 : Value)
    (hexit : ∀ (u10 u59 u60 u61 u62 u63 u64 u65 u66 u67 u68 u69 u70 u71 u72 u73 u74 u75 u76 u77 u78 u79 u80 u81 u82 u83 u84 u85 u86 u87 u88 u89 u90 u91 u92 : Value) (w' : World), w'.heap[G + 2]? = some (.cells #[.slice (some ⟨G + 1, 0, none⟩) a a] 28 (0, 0)) ∧ w'.heap[G]? = some (.cells #[.slice A0_0 l0_0.length c0_0, .string a0_1, .string a0_2, .slice A0_3 l0_3.length c0_3] 25 (0, 0)) ∧ Below w.heap.size w w' ∧ Mat w' (G + 1) (G + 3) a m PZ → Q0 (.exit 6) ⟨List.toArray (c0 :: c1 :: c2 :: .pointer (some ⟨G + 2, 0, none⟩) :: c4 :: .func (.func 15) #[] #[.pointer (some ⟨G + 2, 0, none⟩)] :: c6 :: c7 :: .bool pb :: c9 :: u10 :: c11 :: c12 :: c13 :: c14 :: c15 :: c16 :: c17 :: c18 :: c19 :: c20 :: c21 :: c22 :: c23 :: c24 :: c25 :: c26 :: c27 :: c28 :: c29 :: c30 :: c31 :: c32 :: c33 :: c34 :: c35 :: c36 :: c37 :: c38 :: c39 :: c40 :: c41 :: c42 :: c43 :: c44 :: c45 :: c46 :: c47 :: c48 :: c49 :: c50 :: c51 :: c52 :: c53 :: c54 :: c55 :: c56 :: .slice A0_3 l0_3.length c0_3 :: .int .i64 (l0_3.length : Int) :: u59 :: u60 :: u61 :: u62 :: u63 :: u64 :: u65 :: u66 :: u67 :: u68 :: u69 :: u70 :: u71 :: u72 :: u73 :: u74 :: u75 :: u76 :: u77 :: u78 :: u79 :: u80 :: u81 :: u82 :: u83 :: u84 :: u85 :: u86 :: u87 :: u88 :: u89 :: u90 :: u91 :: u92 :: c93 :: []), []⟩ w')
    (Y : Tb) (wr : World) (BT : wr.heap[G + 2]? = some (.cells #[.slice (some ⟨G + 1, 0, none⟩) a a] 28 (0, 0))) (BK : wr.heap[G]? = some (.cells #[.slice A0_0 l0_0.length c0_0, .string a0_1, .string a0_2, .slice A0_3 l0_3.length c0_3] 25 (0, 0))) (HB : Below w.heap.size w wr) (hM : Mat wr (G + 1) (G + 3) a m Y) (hp : passL a m l0_3 false Y = (pb, PZ)) :
    Code.wp Tryd.prog (Code.loop body4) Q0 ⟨List.toArray (c0 :: c1 :: c2 :: .pointer (some ⟨G + 2, 0, none⟩) :: c4 :: .func (.func 15) #[] #[.pointer (some ⟨G + 2, 0, none⟩)] :: c6 :: c7 :: .bool false :: c9 :: c10 :: c11 :: c12 :: c13 :: c14 :: c15 :: c16 :: c17 :: c18 :: c19 :: c20 :: c21 :: c22 :: c23 :: c24 :: c25 :: c26 :: c27 :: c28 :: c29 :: c30 :: c31 :: c32 :: c33 :: c34 :: c35 :: c36 :: c37 :: c38 :: c39 :: c40 :: c41 :: c42 :: c43 :: c44 :: c45 :: c46 :: c47 :: c48 :: c49 :: c50 :: c51 :: c52 :: c53 :: c54 :: c55 :: c56 :: .slice A0_3 l0_3.length c0_3 :: .int .i64 (l0_3.length : Int) :: .int .i64 0 :: c60 :: c61 :: c62 :: c63 :: c64 :: c65 :: c66 :: c67 :: c68 :: c69 :: c70 :: c71 :: c72 :: c73 :: c74 :: c75 :: c76 :: c77 :: c78 :: c79 :: c80 :: c81 :: c82 :: c83 :: c84 :: c85 :: c86 :: c87 :: c88 :: c89 :: c90 :: c91 :: c92 :: c93 :: []), []⟩ wr := by
  have hu45 := Tryd.underlying45
  conv =>
    arg 2
    arg 1
    whnf
  go_loopg [8, 59] l0_3.length (fun kq bv iv wr => ∃ (i : Nat) (b : Bool) (Z : Tb), kq + i = l0_3.length ∧ iv = .int .i64 i ∧ bv = .bool b ∧ wr.heap[G + 2]? = some (.cells #[.slice (some ⟨G + 1, 0, none⟩) a a] 28 (0, 0)) ∧ wr.heap[G]? = some (.cells #[.slice A0_0 l0_0.length c0_0, .string a0_1, .string a0_2, .slice A0_3 l0_3.length c0_3] 25 (0, 0)) ∧ Below w.heap.size w wr ∧ Mat wr (G + 1) (G + 3) a m Z ∧ passL a m (l0_3.drop i) b Z = (pb, PZ))
  case atStart => exact ⟨0, false, Y, Nat.add_zero _, rfl, rfl, BT, BK, HB, hM, hp⟩
  case round =>
    clear BT BK HB hM hp
    obtain ⟨i, b, Y, hi, rfl, rfl, BT, BK, HB, hM, hp⟩ := hrel
    cases gk with
    | zero =>
      obtain rfl : i = l0_3.length := by omega
      have hlt' : decide ((l0_3.length : Int) < (l0_3.length : Int)) = false := decide_eq_false (by omega)
      rw [List.drop_length] at hp
      obtain ⟨rfl, rfl⟩ : b = pb ∧ Y = PZ := Prod.mk.inj hp
      clear hp hi
      have HX := Lib.hid hexit
      clear hexit
      go_wp2
      exact HX.out _ _ _ _ _ _ _ _ _ _ _ _ _ _ _ _ _ _ _ _ _ _ _ _ _ _ _ _ _ _ _ _ _ _ _ _ ⟨BT, BK, HB, hM⟩
    | succ gk =>
    clear hexit
    have hlt : i < l0_3.length := by omega
    have hgi : gk + (i + 1) = l0_3.length := by omega
    clear hi
    obtain ⟨ad, eA, x0, x1, x2, x3, x4⟩ := at_T45 HR3.out (i : Nat) (Int.natCast_nonneg i) (by omega)
    subst eA
    rw [Int.toNat_natCast] at x0 x1 x2 x3 x4
    replace x0 := (HB.cell (World.block_lt_of_cell? w _ x0)).trans x0
    replace x1 := (HB.cell (World.block_lt_of_cell? w _ x1)).trans x1
    replace x2 := (HB.cell (World.block_lt_of_cell? w _ x2)).trans x2
    replace x3 := (HB.cell (World.block_lt_of_cell? w _ x3)).trans x3
    replace x4 := (HB.cell (World.block_lt_of_cell? w _ x4)).trans x4
    obtain ⟨u1, u2, u3, u4'⟩ := okU_at hU hlt
    rw [drop_cons l0_3 i hlt] at hp
    have hlt' : decide ((i : Int) < (l0_3.length : Int)) = true := decide_eq_true (by omega)
    have k0 : (0 ≤ (i : Int)) = True := eq_true (by omega)
    have k1 : ((i : Int) < (l0_3.length : Int)) = True := eq_true (by omega)
    have e2 : wrap64 ((i : Int) + 1) = ((i + 1 : Nat) : Int) := by
      unfold wrap64
      omega
    generalize rd_T45 l0_3 (i : Nat) = x at *
    obtain ⟨o, f1, f2, f3, f4⟩ := x
    dsimp only at *
    obtain ⟨W, hW⟩ : ∃ W, wr.heap.size = W := ⟨_, rfl⟩
    have hGW : G < W := by rw [← hW]; exact blk_lt BK
    have hTW : G + 2 < W := by rw [← hW]; exact blk_lt BT
    have hRW : ∀ j, j < a → G + 3 + j < W := fun j hj => by rw [← hW]; exact (hM.row j hj).lt
    rw [passL] at hp
    dsimp only at hp
    by_cases h5 : o = 7
    · subst h5
      by_cases hf : f1 < (a : Int)
      · have hf' : decide (f1 < (a : Int)) = true := decide_eq_true hf
        obtain ⟨c, rfl⟩ := Int.eq_ofNat_of_zero_le u1
        have hc : c < a := by omega
        by_cases hg : f2 < (a : Int)
        · rw [if_pos ⟨rfl, hf, hg⟩] at hp
          have hg' : decide (f2 < (a : Int)) = true := decide_eq_true hg
          obtain ⟨d, rfl⟩ := Int.eq_ofNat_of_zero_le u3
          have hd : d < a := by omega
          rw [Int.toNat_natCast, Int.toNat_natCast] at hp
          obtain ⟨wx, hwx⟩ : ∃ wx, wr.alloc (.cells #[.int .u8 7, .int .u8 ((c : Nat) : Int), .int .u8 ((d : Nat) : Int), .int .u8 f3, .int .i64 f4] 45) = wx := ⟨_, rfl⟩
          have bX : wx.heap[W]? = some (.cells #[.int .u8 7, .int .u8 ((c : Nat) : Int), .int .u8 ((d : Nat) : Int), .int .u8 f3, .int .i64 f4] 45 (0, 0)) := by
            rw [← hwx, ← hW]
            exact blk_new wr _
          have bT : wx.heap[G + 2]? = some (.cells #[.slice (some ⟨G + 1, 0, none⟩) a a] 28 (0, 0)) := by
            rw [← hwx]
            exact blk_alloc BT _
          have bK : wx.heap[G]? = some (.cells #[.slice A0_0 l0_0.length c0_0, .string a0_1, .string a0_2, .slice (some ad) l0_3.length c0_3] 25 (0, 0)) := by
            rw [← hwx]
            exact blk_alloc BK _
          have hBx : Below w.heap.size w wx := by
            rw [← hwx]
            exact below_alloc HB _
          have hMx : Mat wx (G + 1) (G + 3) a m Y := by
            rw [← hwx]
            exact hM.alloc _
          have y0 : wx.cell? ⟨W, 0, none⟩ = some (.int .u8 7) := (blk_cell bX 0).trans rfl
          have y1 : wx.cell? ⟨W, 1, none⟩ = some (.int .u8 ((c : Nat) : Int)) := (blk_cell bX 1).trans rfl
          have y2 : wx.cell? ⟨W, 2, none⟩ = some (.int .u8 ((d : Nat) : Int)) := (blk_cell bX 2).trans rfl
          have y3 : wx.cell? ⟨W, 3, none⟩ = some (.int .u8 f3) := (blk_cell bX 3).trans rfl
          have y4 : wx.cell? ⟨W, 4, none⟩ = some (.int .i64 f4) := (blk_cell bX 4).trans rfl
          have yT : wx.cell? ⟨G + 2, 0, none⟩ = some (.slice (some ⟨G + 1, 0, none⟩) a a) := (blk_cell bT 0).trans rfl
          clear BT BK HB hM
          have hti := there_calls (G + 2) (G + 1) a ((c : Nat) : Int) u1 u2 wx yT
          rw [hf'] at hti
          have htj := there_calls (G + 2) (G + 1) a ((d : Nat) : Int) u3 u4' wx yT
          rw [hg'] at htj
          have b0 : (0 ≤ ((c : Nat) : Int)) = True := eq_true (by omega)
          have b1 : (((c : Nat) : Int) < (a : Int)) = True := eq_true hf
          have d0 : (0 ≤ ((d : Nat) : Int)) = True := eq_true (by omega)
          have d1 : (((d : Nat) : Int) < (a : Int)) = True := eq_true hg
          have yO : wx.cell? ⟨G + 1, c, none⟩ = some (.slice (some ⟨G + 3 + c, 0, none⟩) m m) := hMx.out.cell hc
          have yP : wx.cell? ⟨G + 1, d, none⟩ = some (.slice (some ⟨G + 3 + d, 0, none⟩) m m) := hMx.out.cell hd
          have hmc := merge_calls (G + 1) (G + 3) a m c d Y hc hd (by omega) wx.drew hMx.drew
          have sX : W < wx.heap.size := blk_lt bX
          have sT : G + 2 < wx.heap.size := blk_lt bT
          have sG : G < wx.heap.size := blk_lt bK
          have sO : G + 1 < wx.heap.size := by omega
          have hRc := hRW c hc
          have hgc : w.heap.size ≤ G + 3 + c := by omega
          clear hf hg hlt hGW hRW hc1000
          go_wp2_with (first | (go_at_call 15; refine hti.mono ?_; rintro e w5 ⟨rfl, rfl⟩) | (go_at_call 15; refine htj.mono ?_; rintro e w5 ⟨rfl, rfl⟩))
          have hM6 := hMx
          clear hMx
          cases hmv : moreF Y c d m
          · rw [hmv] at hp hmc
            first | go_region_held3 (fun wx => wx.cell? ⟨G + 2, 0, none⟩ = some (.slice (some ⟨G + 1, 0, none⟩) a a) ∧ wx.cell? ⟨W, 1, none⟩ = some (.int .u8 ((c : Nat) : Int)) ∧ wx.cell? ⟨W, 2, none⟩ = some (.int .u8 ((d : Nat) : Int)) ∧ wx.cell? ⟨G + 1, c, none⟩ = some (.slice (some ⟨G + 3 + c, 0, none⟩) m m) ∧ wx.cell? ⟨G + 1, d, none⟩ = some (.slice (some ⟨G + 3 + d, 0, none⟩) m m)) (first | (go_keep; done) | exact ⟨q5 _ _ sT (by omega) yT, q5 _ _ sX (by omega) y1, q5 _ _ sX (by omega) y2, q5 _ _ sO (by omega) yO, q5 _ _ sO (by omega) yP⟩) ((go_at_call 16; refine hmc.mono ?_; rintro e w5 ⟨rfl, ho5, hM5⟩; have q5 : ∀ g j, g < wx.heap.size → g ≠ G + 3 + c → ∀ {v}, wx.cell? ⟨g, j, none⟩ = some v → w5.cell? ⟨g, j, none⟩ = some v := fun g j hg hn v hv => (World.cell?_of_block (w := wx) (a := ⟨g, j, none⟩) (ho5.block g hg hn)).trans hv)) | fail "region"
            have bT5 := (ho5.block _ sT (by omega)).trans bT
            have bK5 := (ho5.block _ sG (by omega)).trans bK
            have hB5 := ho5.below (below_drew hBx) hgc
            clear ho5 q5 hmc hti htj
            go_wp2
            go_roundg gk
            case rel => exact ⟨i + 1, _, _, hgi, by rw [e2], rfl, bT5, bK5, hB5, hM5, hp⟩
            case measure => omega
          · rw [hmv] at hp hmc
            refine wp_region_noPanic ?_
            refine wp_region_held_drew (S := fun w' => w'.cell? ⟨G + 2, 0, none⟩ = some (.slice (some ⟨G + 1, 0, none⟩) a a) ∧ w'.cell? ⟨W, 1, none⟩ = some (.int .u8 ((c : Nat) : Int)) ∧ w'.cell? ⟨W, 2, none⟩ = some (.int .u8 ((d : Nat) : Int)) ∧ w'.cell? ⟨G + 1, c, none⟩ = some (.slice (some ⟨G + 3 + c, 0, none⟩) m m) ∧ w'.cell? ⟨G + 1, d, none⟩ = some (.slice (some ⟨G + 3 + d, 0, none⟩) m m)) (by kernel_rfl) ⟨yT, y1, y2, yO, yP⟩ (fun hHeld => ?_)
            skip
            refine wpAnyH_take (i := 0) (v := ?_) rfl (by kernel_rfl) (by kernel_rfl) (by kernel_rfl) (fun _ _ _ h => h) (Or.inl ⟨by rfl, ?_⟩) hHeld ?_
            rotate_left
            · intro w' hSw
              obtain ⟨q1, q2, q3, q4, q5⟩ := hSw
              go_simp
              try with_reducible rfl
            try simp only [Act.put, List.setIfInBounds_toArray, List.set_cons_zero, List.set_cons_succ]
            refine wpAnyH_take (i := 1) (v := ?_) rfl (by kernel_rfl) (by kernel_rfl) (by kernel_rfl) (fun _ _ _ h => h) (Or.inl ⟨by rfl, ?_⟩) hHeld ?_
            rotate_left
            · intro w' hSw
              obtain ⟨q1, q2, q3, q4, q5⟩ := hSw
              go_simp
              try with_reducible rfl
            try simp only [Act.put, List.setIfInBounds_toArray, List.set_cons_zero, List.set_cons_succ]
            refine wpAnyH_take (i := 2) (v := ?_) rfl (by kernel_rfl) (by kernel_rfl) (by kernel_rfl) (fun _ _ _ h => h) (Or.inl ⟨by rfl, ?_⟩) hHeld ?_
            rotate_left
            · intro w' hSw
              obtain ⟨q1, q2, q3, q4, q5⟩ := hSw
              go_simp
              try with_reducible rfl
            try simp only [Act.put, List.setIfInBounds_toArray, List.set_cons_zero, List.set_cons_succ]
            refine wpAnyH_take (i := 3) (v := ?_) rfl (by kernel_rfl) (by kernel_rfl) (by kernel_rfl) (fun _ _ _ h => h) (Or.inl ⟨by rfl, ?_⟩) hHeld ?_
            rotate_left
            · intro w' hSw
              obtain ⟨q1, q2, q3, q4, q5⟩ := hSw
              go_simp
              try with_reducible rfl
            try simp only [Act.put, List.setIfInBounds_toArray, List.set_cons_zero, List.set_cons_succ]
            refine wpAnyH_take (i := 4) (v := ?_) rfl (by kernel_rfl) (by kernel_rfl) (by kernel_rfl) (fun _ _ _ h => h) (Or.inl ⟨by rfl, ?_⟩) hHeld ?_
            rotate_left
            · intro w' hSw
              obtain ⟨q1, q2, q3, q4, q5⟩ := hSw
              go_simp
              try with_reducible rfl
            try simp only [Act.put, List.setIfInBounds_toArray, List.set_cons_zero, List.set_cons_succ]
            refine wpAnyH_take (i := 5) (v := ?_) rfl (by kernel_rfl) (by kernel_rfl) (by kernel_rfl) (fun _ _ _ h => h) (Or.inl ⟨by rfl, ?_⟩) hHeld ?_
            rotate_left
            · intro w' hSw
              obtain ⟨q1, q2, q3, q4, q5⟩ := hSw
              go_simp
              try with_reducible rfl
            try simp only [Act.put, List.setIfInBounds_toArray, List.set_cons_zero, List.set_cons_succ]
            refine wpAnyH_take (i := 6) (v := ?_) rfl (by kernel_rfl) (by kernel_rfl) (by kernel_rfl) (fun _ _ _ h => h) (Or.inl ⟨by rfl, ?_⟩) hHeld ?_
            rotate_left
            · intro w' hSw
              obtain ⟨q1, q2, q3, q4, q5⟩ := hSw
              go_simp
              try with_reducible rfl
            try simp only [Act.put, List.setIfInBounds_toArray, List.set_cons_zero, List.set_cons_succ]
            refine wpAnyH_take (i := 7) (v := ?_) rfl (by kernel_rfl) (by kernel_rfl) (by kernel_rfl) (fun _ _ _ h => h) (Or.inl ⟨by rfl, ?_⟩) hHeld ?_
            rotate_left
            · intro w' hSw
              obtain ⟨q1, q2, q3, q4, q5⟩ := hSw
              go_simp
              try with_reducible rfl
            try simp only [Act.put, List.setIfInBounds_toArray, List.set_cons_zero, List.set_cons_succ]
            refine wpAnyH_take (i := 8) (v := ?_) rfl (by kernel_rfl) (by kernel_rfl) (by kernel_rfl) (fun _ _ _ h => h) (Or.inl ⟨by rfl, ?_⟩) hHeld ?_
            rotate_left
            · intro w' hSw
              obtain ⟨q1, q2, q3, q4, q5⟩ := hSw
              go_simp
              try with_reducible rfl
            try simp only [Act.put, List.setIfInBounds_toArray, List.set_cons_zero, List.set_cons_succ]
            refine wpAnyH_take (i := 9) (v := ?_) rfl (by kernel_rfl) (by kernel_rfl) (by kernel_rfl) (fun _ _ _ h => h) (Or.inl ⟨by rfl, ?_⟩) hHeld ?_
            rotate_left
            · intro w' hSw
              obtain ⟨q1, q2, q3, q4, q5⟩ := hSw
              go_simp
              try with_reducible rfl
            try simp only [Act.put, List.setIfInBounds_toArray, List.set_cons_zero, List.set_cons_succ]
            refine wpAnyH_ready (rs := [10]) (by kernel_rfl) (by simp) ?_
            refine AllReadyH.cons rfl (fun K hK => ?_) AllReadyH.nil
            go_simp
            refine hmc.mono ?_
            rintro e w5 ⟨rfl, ho5, hM5⟩
            have q5 : ∀ g j, g < wx.heap.size → g ≠ G + 3 + c → ∀ {v}, wx.cell? ⟨g, j, none⟩ = some v → w5.cell? ⟨g, j, none⟩ = some v := fun g j hg hn v hv => (World.cell?_of_block (w := wx) (a := ⟨g, j, none⟩) (ho5.block g hg hn)).trans hv
            refine hK.out _ _ ⟨q5 _ _ sT (by omega) yT, q5 _ _ sX (by omega) y1, q5 _ _ sX (by omega) y2, q5 _ _ sO (by omega) yO, q5 _ _ sO (by omega) yP⟩ (fun hHeld => ?_)
            clear hK
            refine wpAnyH_take (i := 11) (v := ?_) rfl (by kernel_rfl) (by kernel_rfl) (by kernel_rfl) (fun _ _ _ h => h) (Or.inl ⟨by rfl, ?_⟩) hHeld ?_
            rotate_left
            · intro w' hSw
              obtain ⟨q1, q2, q3, q4, q5⟩ := hSw
              go_simp
              try with_reducible rfl
            try simp only [Act.put, List.setIfInBounds_toArray, List.set_cons_zero, List.set_cons_succ]
            refine wpAnyH_take (i := 12) (v := undef) rfl (by kernel_rfl) (by kernel_rfl) (by kernel_rfl) (fun _ _ _ h => h) (Or.inr ⟨by rfl, rfl⟩) hHeld ?_
            try simp only [Act.put, List.setIfInBounds_toArray, List.set_cons_zero, List.set_cons_succ]
            refine wpAnyH_take (i := 13) (v := ?_) rfl (by kernel_rfl) (by kernel_rfl) (by kernel_rfl) (fun _ _ _ h => h) (Or.inl ⟨by rfl, ?_⟩) hHeld ?_
            rotate_left
            · intro w' hSw
              obtain ⟨q1, q2, q3, q4, q5⟩ := hSw
              go_simp
              try with_reducible rfl
            try simp only [Act.put, List.setIfInBounds_toArray, List.set_cons_zero, List.set_cons_succ]
            refine wpAnyH_take (i := 14) (v := ?_) rfl (by kernel_rfl) (by kernel_rfl) (by kernel_rfl) (fun _ _ _ h => h) (Or.inl ⟨by rfl, ?_⟩) hHeld ?_
            rotate_left
            · intro w' hSw
              obtain ⟨q1, q2, q3, q4, q5⟩ := hSw
              go_simp
              try with_reducible rfl
            try simp only [Act.put, List.setIfInBounds_toArray, List.set_cons_zero, List.set_cons_succ]
            refine wpAnyH_done (by kernel_rfl) ?_ _
            refine NoPanic.normal ?_
            have bT5 := (ho5.block _ sT (by omega)).trans bT
            have bK5 := (ho5.block _ sG (by omega)).trans bK
            have hB5 := ho5.below (below_drew hBx) hgc
            clear ho5 q5 hmc hti htj
            go_wp2
            go_roundg gk
            case rel => exact ⟨i + 1, _, _, hgi, by rw [e2], rfl, bT5, bK5, hB5, hM5, hp⟩
            case measure => omega
        · rw [if_neg (fun h => hg h.2.2)] at hp
          have hg' : decide (f2 < (a : Int)) = false := decide_eq_false hg
          obtain ⟨wx, hwx⟩ : ∃ wx, wr.alloc (.cells #[.int .u8 7, .int .u8 ((c : Nat) : Int), .int .u8 f2, .int .u8 f3, .int .i64 f4] 45) = wx := ⟨_, rfl⟩
          have bX : wx.heap[W]? = some (.cells #[.int .u8 7, .int .u8 ((c : Nat) : Int), .int .u8 f2, .int .u8 f3, .int .i64 f4] 45 (0, 0)) := by
            rw [← hwx, ← hW]
            exact blk_new wr _
          have bT : wx.heap[G + 2]? = some (.cells #[.slice (some ⟨G + 1, 0, none⟩) a a] 28 (0, 0)) := by
            rw [← hwx]
            exact blk_alloc BT _
          have bK : wx.heap[G]? = some (.cells #[.slice A0_0 l0_0.length c0_0, .string a0_1, .string a0_2, .slice (some ad) l0_3.length c0_3] 25 (0, 0)) := by
            rw [← hwx]
            exact blk_alloc BK _
          have hBx : Below w.heap.size w wx := by
            rw [← hwx]
            exact below_alloc HB _
          have hMx : Mat wx (G + 1) (G + 3) a m Y := by
            rw [← hwx]
            exact hM.alloc _
          have y0 : wx.cell? ⟨W, 0, none⟩ = some (.int .u8 7) := (blk_cell bX 0).trans rfl
          have y1 : wx.cell? ⟨W, 1, none⟩ = some (.int .u8 ((c : Nat) : Int)) := (blk_cell bX 1).trans rfl
          have y2 : wx.cell? ⟨W, 2, none⟩ = some (.int .u8 f2) := (blk_cell bX 2).trans rfl
          have y3 : wx.cell? ⟨W, 3, none⟩ = some (.int .u8 f3) := (blk_cell bX 3).trans rfl
          have y4 : wx.cell? ⟨W, 4, none⟩ = some (.int .i64 f4) := (blk_cell bX 4).trans rfl
          have yT : wx.cell? ⟨G + 2, 0, none⟩ = some (.slice (some ⟨G + 1, 0, none⟩) a a) := (blk_cell bT 0).trans rfl
          clear BT BK HB hM
          have hti := there_calls (G + 2) (G + 1) a ((c : Nat) : Int) u1 u2 wx yT
          rw [hf'] at hti
          have htj := there_calls (G + 2) (G + 1) a f2 u3 u4' wx yT
          rw [hg'] at htj
          clear bX hf hg hc hG hlt hTW hGW hRW hc1000 u1 u2 u3 u4'
          go_wp2_with (first | (go_at_call 15; refine hti.mono ?_; rintro e w5 ⟨rfl, rfl⟩) | (go_at_call 15; refine htj.mono ?_; rintro e w5 ⟨rfl, rfl⟩))
          go_roundg gk
          case rel => exact ⟨i + 1, _, _, hgi, by rw [e2], rfl, bT, bK, hBx, hMx, hp⟩
          case measure => omega
      · rw [if_neg (fun h => hf h.2.1)] at hp
        have hf' : decide (f1 < (a : Int)) = false := decide_eq_false hf
        obtain ⟨wx, hwx⟩ : ∃ wx, wr.alloc (.cells #[.int .u8 7, .int .u8 f1, .int .u8 f2, .int .u8 f3, .int .i64 f4] 45) = wx := ⟨_, rfl⟩
        have bX : wx.heap[W]? = some (.cells #[.int .u8 7, .int .u8 f1, .int .u8 f2, .int .u8 f3, .int .i64 f4] 45 (0, 0)) := by
          rw [← hwx, ← hW]
          exact blk_new wr _
        have bT : wx.heap[G + 2]? = some (.cells #[.slice (some ⟨G + 1, 0, none⟩) a a] 28 (0, 0)) := by
          rw [← hwx]
          exact blk_alloc BT _
        have bK : wx.heap[G]? = some (.cells #[.slice A0_0 l0_0.length c0_0, .string a0_1, .string a0_2, .slice (some ad) l0_3.length c0_3] 25 (0, 0)) := by
          rw [← hwx]
          exact blk_alloc BK _
        have hBx : Below w.heap.size w wx := by
          rw [← hwx]
          exact below_alloc HB _
        have hMx : Mat wx (G + 1) (G + 3) a m Y := by
          rw [← hwx]
          exact hM.alloc _
        have y0 : wx.cell? ⟨W, 0, none⟩ = some (.int .u8 7) := (blk_cell bX 0).trans rfl
        have y1 : wx.cell? ⟨W, 1, none⟩ = some (.int .u8 f1) := (blk_cell bX 1).trans rfl
        have y2 : wx.cell? ⟨W, 2, none⟩ = some (.int .u8 f2) := (blk_cell bX 2).trans rfl
        have y3 : wx.cell? ⟨W, 3, none⟩ = some (.int .u8 f3) := (blk_cell bX 3).trans rfl
        have y4 : wx.cell? ⟨W, 4, none⟩ = some (.int .i64 f4) := (blk_cell bX 4).trans rfl
        have yT : wx.cell? ⟨G + 2, 0, none⟩ = some (.slice (some ⟨G + 1, 0, none⟩) a a) := (blk_cell bT 0).trans rfl
        clear BT BK HB hM
        have hti := there_calls (G + 2) (G + 1) a f1 u1 u2 wx yT
        rw [hf'] at hti
        clear bX hf hG hlt hTW hGW hRW hc1000 u1 u2 u3 u4'
        go_wp2_with (go_at_call 15; refine hti.mono ?_; rintro e w5 ⟨rfl, rfl⟩)
        go_roundg gk
        case rel => exact ⟨i + 1, _, _, hgi, by rw [e2], rfl, bT, bK, hBx, hMx, hp⟩
        case measure => omega
    · rw [if_neg (fun h => h5 h.1)] at hp
      have h5' : (o == 7) = false := beq_eq_false_iff_ne.2 h5
      obtain ⟨wx, hwx⟩ : ∃ wx, wr.alloc (.cells #[.int .u8 o, .int .u8 f1, .int .u8 f2, .int .u8 f3, .int .i64 f4] 45) = wx := ⟨_, rfl⟩
      have bX : wx.heap[W]? = some (.cells #[.int .u8 o, .int .u8 f1, .int .u8 f2, .int .u8 f3, .int .i64 f4] 45 (0, 0)) := by
        rw [← hwx, ← hW]
        exact blk_new wr _
      have bT : wx.heap[G + 2]? = some (.cells #[.slice (some ⟨G + 1, 0, none⟩) a a] 28 (0, 0)) := by
        rw [← hwx]
        exact blk_alloc BT _
      have bK : wx.heap[G]? = some (.cells #[.slice A0_0 l0_0.length c0_0, .string a0_1, .string a0_2, .slice (some ad) l0_3.length c0_3] 25 (0, 0)) := by
        rw [← hwx]
        exact blk_alloc BK _
      have hBx : Below w.heap.size w wx := by
        rw [← hwx]
        exact below_alloc HB _
      have hMx : Mat wx (G + 1) (G + 3) a m Y := by
        rw [← hwx]
        exact hM.alloc _
      have y0 : wx.cell? ⟨W, 0, none⟩ = some (.int .u8 o) := (blk_cell bX 0).trans rfl
      have y1 : wx.cell? ⟨W, 1, none⟩ = some (.int .u8 f1) := (blk_cell bX 1).trans rfl
      have y2 : wx.cell? ⟨W, 2, none⟩ = some (.int .u8 f2) := (blk_cell bX 2).trans rfl
      have y3 : wx.cell? ⟨W, 3, none⟩ = some (.int .u8 f3) := (blk_cell bX 3).trans rfl
      have y4 : wx.cell? ⟨W, 4, none⟩ = some (.int .i64 f4) := (blk_cell bX 4).trans rfl
      have yT : wx.cell? ⟨G + 2, 0, none⟩ = some (.slice (some ⟨G + 1, 0, none⟩) a a) := (blk_cell bT 0).trans rfl
      clear BT BK HB hM
      clear bX h5 hG hlt hTW hGW hRW hc1000 u1 u2 u3 u4'
      go_wp2
      go_roundg gk
      case rel => exact ⟨i + 1, _, _, hgi, by rw [e2], rfl, bT, bK, hBx, hMx, hp⟩
      case measure => omega
end Go.Proofs.YtgfnpdfhdgenbaaDoor.P
