/-
  LazyChain: the first loop: the values are laid, none is made.
-/
import Derived.Test.YthnllejpoklgbaaChainB
import Derived.Test.YthnllejpoklgbaaWLast
import Derived.Test.YthnllejpoklgbaaOpen
import Derived.BigQuiet
import Derived.Deep.QuietTactic
import Derived.Deep.DrawnRows
import Derived.Deep.RegionHeld3
import Derived.Deep.LoopGhost
import Derived.Lib.Hide
namespace Go.Proofs.Ythnllejpoklgbaa.lazyChain
open Go.RowKit Go.Proofs.YthnllejpoklgbaaW.PrintWords Go.Proofs.YthnllejpoklgbaaW.PrintLast
set_option linter.unusedVariables false
set_option linter.unusedSimpArgs false
attribute [local go_sem ↓] Go.wp_at_zero Go.wp_at_succ

/-- The loops of a function, in their order: their bodies. -/
def loopsOf : Code → List Code
  | .loop c => c :: loopsOf c
  | .seq a b => loopsOf a ++ loopsOf b
  | .block _ c => loopsOf c
  | .cond _ a b => loopsOf a ++ loopsOf b
  | _ => []
noncomputable def bodyN (n : Nat) : Code := ((Try.f10.body.map loopsOf).getD []).getD n .skip
theorem under80 : Try.prog.underlying 80 = some (.slice 39) := by kernel_rfl
theorem info39 : (Try.prog.info? 39).map (fun i => (i.zero, i.size, i.bytes)) = some (some (.pointer none), 1, 8) := by kernel_rfl
theorem wrap_succ {i n : Nat} (h : i < n) (hn : n ≤ 1000) : wrap64 ((i : Int) + 1) = ((i + 1 : Nat) : Int) := by
  unfold wrap64
  omega
abbrev Letters (w0 : World) (A : Option Addr) (len : Nat) (zs : List Int) : Prop := ∀ k, k < len → ∃ x, A = some x ∧ x.block < w0.heap.size ∧ w0.cell? (x.add k) = some (.int .i8 (zs.getD k 0)) ∧ -128 ≤ zs.getD k 0 ∧ zs.getD k 0 ≤ 127

set_option maxRecDepth 100000 in
set_option maxHeartbeats 3200000 in
theorem lay_loop (w0 : World) (C V : Nat) (A : Option Addr) (len cap : Nat) (zs : List Int) (hl : len ≤ 30) (hz : Letters w0 A len zs)
    (Q0 : Exit → Act → World → Prop) (c0 c1 c2 c3 c4 c7 c8 c9 c10 c11 c12 c13 c14 c15 c16 c17 c18 c19 c20 c21 c22 c23 c24 c28 c29 c30 c31 c32 c33 c34 c35 c36 c37 c38 c39 c40 c41 c42 c43 c44 c45 c46 c47 c48 c49 c50 c51 c52 c53 c54 c55 c56 c57 c58 c59 c60 c61 c62 c63 c64 c65 c66 c67 c68 c69 c70 c71 c72 c73 c74 c75 c76 c77 c78 c79 c80 c81 c82 c83 c84 c85 c86 c87 c88 c89 c90 c91 c92 c93 c94 c95 c96 c97 : Value)
    (hexit : ∀ (u7 u8 u28 u29 u30 u31 u32 u33 u34 u35 u36 u37 : Value) (w' : World) (v : Value) (ib nb bv : Nat → Nat), Bu w0 w' C V v len ib nb bv zs → Q0 (.exit 0) ⟨List.toArray (c0 :: c1 :: c2 :: c3 :: c4 :: .pointer (some ⟨C, 0, none⟩) :: .pointer (some ⟨V, 0, none⟩) :: u7 :: u8 :: c9 :: c10 :: c11 :: c12 :: c13 :: c14 :: c15 :: c16 :: c17 :: c18 :: c19 :: c20 :: c21 :: c22 :: c23 :: c24 :: .slice A len cap :: .int .i64 (len : Int) :: .int .i64 (len : Int) :: u28 :: u29 :: u30 :: u31 :: u32 :: u33 :: u34 :: u35 :: u36 :: u37 :: c38 :: c39 :: c40 :: c41 :: c42 :: c43 :: c44 :: c45 :: c46 :: c47 :: c48 :: c49 :: c50 :: c51 :: c52 :: c53 :: c54 :: c55 :: c56 :: c57 :: c58 :: c59 :: c60 :: c61 :: c62 :: c63 :: c64 :: c65 :: c66 :: c67 :: c68 :: c69 :: c70 :: c71 :: c72 :: c73 :: c74 :: c75 :: c76 :: c77 :: c78 :: c79 :: c80 :: c81 :: c82 :: c83 :: c84 :: c85 :: c86 :: c87 :: c88 :: c89 :: c90 :: c91 :: c92 :: c93 :: c94 :: c95 :: c96 :: c97 :: []), []⟩ w')
    (wr : World) (ib nb bv : Nat → Nat) (hA : Bu w0 wr C V (.slice none 0 0) 0 ib nb bv zs) :
    Code.wp Try.prog (Code.loop (bodyN 0)) Q0 ⟨List.toArray (c0 :: c1 :: c2 :: c3 :: c4 :: .pointer (some ⟨C, 0, none⟩) :: .pointer (some ⟨V, 0, none⟩) :: c7 :: c8 :: c9 :: c10 :: c11 :: c12 :: c13 :: c14 :: c15 :: c16 :: c17 :: c18 :: c19 :: c20 :: c21 :: c22 :: c23 :: c24 :: .slice A len cap :: .int .i64 (len : Int) :: .int .i64 0 :: c28 :: c29 :: c30 :: c31 :: c32 :: c33 :: c34 :: c35 :: c36 :: c37 :: c38 :: c39 :: c40 :: c41 :: c42 :: c43 :: c44 :: c45 :: c46 :: c47 :: c48 :: c49 :: c50 :: c51 :: c52 :: c53 :: c54 :: c55 :: c56 :: c57 :: c58 :: c59 :: c60 :: c61 :: c62 :: c63 :: c64 :: c65 :: c66 :: c67 :: c68 :: c69 :: c70 :: c71 :: c72 :: c73 :: c74 :: c75 :: c76 :: c77 :: c78 :: c79 :: c80 :: c81 :: c82 :: c83 :: c84 :: c85 :: c86 :: c87 :: c88 :: c89 :: c90 :: c91 :: c92 :: c93 :: c94 :: c95 :: c96 :: c97 :: []), []⟩ wr := by
  have HZ := Lib.hid hz
  clear hz
  have hnot : ∀ (x : Bool) (w : World), (Op.unary .not (.bool x)).run Try.prog w = .ok (.bool (!x)) w := fun _ _ => rfl
  conv =>
    arg 2
    arg 1
    whnf
  go_loopg [27] len (fun kq iv wr => ∃ (n : Nat) (v : Value) (ib nb bv : Nat → Nat), kq + n = len ∧ iv = .int .i64 n ∧ Bu w0 wr C V v n ib nb bv zs)
  case atStart => exact ⟨0, _, _, _, _, Nat.add_zero _, rfl, hA⟩
  case round =>
    clear hA
    obtain ⟨n, v, ib, nb, bv, hn, rfl, hB⟩ := hrel
    cases gk with
    | zero =>
      obtain rfl : n = len := by omega
      have hlt : decide ((n : Int) < (n : Int)) = false := decide_eq_false (by omega)
      have HX := Lib.hid hexit
      clear hexit
      go_wp2
      exact HX.out _ _ _ _ _ _ _ _ _ _ _ _ _ _ _ _ _ hB
    | succ gk =>
      clear hexit
      have hjm : n < len := by omega
      have hlt : decide ((n : Int) < (len : Int)) = true := decide_eq_true (by omega)
      have j0 : (0 ≤ (n : Int)) = True := eq_true (by omega)
      have j1 : ((n : Int) < (len : Int)) = True := eq_true (by omega)
      have e2 : wrap64 ((n : Int) + 1) = ((n + 1 : Nat) : Int) := wrap_succ hjm (by omega)
      obtain ⟨ad, rfl, hlt', hc0, _⟩ := HZ.out n hjm
      have hq : wr.cell? (ad.add n) = some (.int .i8 (zs.getD n 0)) := by
        rw [hB.frame.cell (by rw [block_add]; exact hlt')]
        exact hc0
      clear hc0 hlt'
      obtain ⟨z, hzn⟩ : ∃ z, zs.getD n 0 = z := ⟨_, rfl⟩
      rw [hzn] at hq
      have HN := Lib.hid hzn
      clear hzn
      obtain ⟨b, hb⟩ : ∃ b, wr.heap.size = b := ⟨_, rfl⟩
      obtain ⟨d, hd⟩ : ∃ d, b + 1 = d := ⟨_, rfl⟩
      obtain ⟨wy, hwy⟩ : ∃ wy, (wr.alloc (.cells #[.int .i64 0] 3)).alloc (.cells #[.int .i8 0] 81) = wy := ⟨_, rfl⟩
      have by0 : Blk wy b 3 #[.int .i64 0] := by
        rw [← hwy, ← hb]
        exact (Blk.new wr _ _).alloc _
      have dy0 : Blk wy d 81 #[.int .i8 0] := by
        have := Blk.new (wr.alloc (.cells #[.int .i64 0] 3)) 81 #[.int .i8 0]
        rw [hwy] at this
        rw [← hd, ← hb]
        simpa using this
      have hBy : Bu w0 wy C V v n ib nb bv zs := by
        rw [← hwy]
        exact hB.idle (((Own.refl _ wr).alloc _).alloc _)
      have bd : b ≠ d := by omega
      have q1 : wy.cell? ⟨b, 0, none⟩ = some (.int .i64 0) := (by0.cell 0).trans rfl
      have z1 : wy.frozen? ⟨b, 0, none⟩ = false := by0.frozen 0
      have by1 := by0.set 0 (.int .i64 (n : Int))
      have dy1 := dy0.set_other ⟨b, 0, none⟩ (.int .i64 (n : Int)) (Ne.symm bd)
      have q2 : (wy.setCell ⟨b, 0, none⟩ (.int .i64 (n : Int))).cell? ⟨d, 0, none⟩ = some (.int .i8 0) := (dy1.cell 0).trans rfl
      have z2 : (wy.setCell ⟨b, 0, none⟩ (.int .i64 (n : Int))).frozen? ⟨d, 0, none⟩ = false := dy1.frozen 0
      obtain ⟨wx, hwx⟩ : ∃ wx, (wy.setCell ⟨b, 0, none⟩ (.int .i64 (n : Int))).setCell ⟨d, 0, none⟩ (.int .i8 z) = wx := ⟨_, rfl⟩
      have bx : Blk wx b 3 #[.int .i64 (n : Int)] := by
        rw [← hwx]
        exact by1.set_other ⟨d, 0, none⟩ _ bd
      have dx : Blk wx d 81 #[.int .i8 z] := by
        rw [← hwx]
        exact dy1.set 0 (.int .i8 z)
      have hBx : Bu w0 wx C V v n ib nb bv zs := by
        rw [← hwx]
        exact hB.fresh hb hd hwy (.int .i64 (n : Int)) (.int .i8 z)
      clear by0 dy0 hBy by1 dy1
      clear hB
      go_wp2_with fail
      clear hwx
      refine wp_region_noPanic ?_
      refine start_ (n := 6) (S := fun w' => w'.cell? ⟨V, 0, none⟩ = some v) (ds := [5]) #[false, false, false, false, false, false] (by kernel_rfl) rfl rfl ((hBx.ch.box.cell 0).trans rfl) (fun hHeld => ?_)
      refine take_ (i := 0) (N := some 32) (v := ?_) (a' := ?_) #[true, false, false, false, false, false] rfl rfl (by kernel_rfl) (fun _ _ _ h => h) (Or.inl ⟨by rfl, ?_⟩) hHeld ?_ ?_
      rotate_left
      · intro w' hSw
        go_simp
        with_reducible rfl
      rotate_left
      · simp only [Act.put, List.setIfInBounds_toArray, List.set_cons_zero, List.set_cons_succ, i64_w, i32_w]
        rfl
      refine pure_ (i := 1) (N := some 33) (v := ?_) (a' := ?_) #[true, true, false, false, false, false] rfl rfl (by kernel_rfl) (fun _ _ _ h => h) (Or.inl ⟨by rfl, ?_⟩) ?_ ?_
      rotate_left
      · intro w'
        go_simp
        with_reducible rfl
      rotate_left
      · simp only [Act.put, List.setIfInBounds_toArray, List.set_cons_zero, List.set_cons_succ, i64_w, i32_w]
        rfl
      refine one_ (i := 2) (N := some 34) #[true, true, true, false, false, false] rfl rfl (by kernel_rfl) (by decide) (fun K hK => ?_)
      refine goes_ Try.func19 (by kernel_rfl) rfl #[.func (.func 29) #[] (caps C V d b)] (by rfl) rfl rfl (by (try simp only [List.map_toArray, List.map_cons, List.map_nil]); rfl) ?_
      refine (new64 29 (caps C V d b) wx.drew).mono ?_
      rintro e w5 ⟨rfl, ho5, hg5⟩
      obtain ⟨g, hg⟩ : ∃ g, wx.drew.heap.size = g := ⟨_, rfl⟩
      have hgw : w0.heap.size ≤ g := by rw [← hg]; exact hBx.frame.size
      rw [hg] at hg5
      rw [hg]
      have hB5 := (hBx.idle (Own.refl _ wx).drew).idle ho5
      have b5 := bx.drew.own ho5 id
      have d5 := dx.drew.own ho5 id
      clear hBx bx dx ho5
      refine ⟨_, rfl, ?_⟩
      refine hK.out _ _ ((hB5.ch.box.cell 0).trans rfl) (fun hHeld => ?_)
      clear hK K
      refine norm_ (a' := ?_) ?_ ?_
      rotate_left
      · show Act.put _ (some 34) _ = _
        simp only [Act.put, List.setIfInBounds_toArray, List.set_cons_zero, List.set_cons_succ, i64_w, i32_w]
        rfl
      refine one_ (i := 3) (N := some 35) #[true, true, true, true, false, false] rfl rfl (by kernel_rfl) (by decide) (fun K hK => ?_)
      refine value_ (w1 := w5.alloc (.cells #[.pointer (some ⟨g, 0, none⟩)] 39)) (v := .slice (some ⟨w5.heap.size, 0, none⟩) 1 1) (by rfl) rfl ?_ ?_
      · go_simp
      refine hK.out _ _ (((hB5.ch.box.alloc _).cell 0).trans rfl) (fun hHeld => ?_)
      clear hK K
      refine norm_ (a' := ?_) ?_ ?_
      rotate_left
      · show Act.put _ (some 35) _ = _
        simp only [Act.put, List.setIfInBounds_toArray, List.set_cons_zero, List.set_cons_succ, i64_w, i32_w]
        rfl
      refine one_ (i := 4) (N := some 36) #[true, true, true, true, true, false] rfl rfl (by kernel_rfl) (by decide) (fun K hK => ?_)
      refine step_append_cells (w0 := w0) w0.heap.size (by rfl) (.tmp 32) (.tmp 35) 80 39 (.pointer none) 1 8 rfl under80 info39 rfl (by decide) (by decide) v n (ptrs bv n) [.pointer (some ⟨g, 0, none⟩)] rfl rfl rfl (by intro u hu; rw [List.mem_singleton.1 hu]; rfl) hB5.row hB5.frame hB5.frame.size (by omega) ?_
      intro v1 w6 hV6 hB6 hg6 hat6
      obtain ⟨A1, cp1, rfl⟩ := own_slice hV6
      have hB7 := hB5.step b5 (by rw [HN.out]; exact d5) hg5 hgw hV6 hB6 hg6
      have away : Blk w6 V 80 #[v] := (hg6.block V hB5.ch.box.lt (own_ne (g := V) (t := 80) (cs := #[v]) hB5.row hB5.ch.box (by decide))).trans hB5.ch.box
      have z6 : w6.frozen? ⟨V, 0, none⟩ = false := away.frozen 0
      have y6 : w6.cell? ⟨V, 0, none⟩ = some v := (away.cell 0).trans rfl
      clear hB5 b5 d5 hg5 hV6 hB6 hg6 hat6 away
      refine hK.out _ _ y6 (fun hHeld => ?_)
      clear hK K
      refine norm_ (a' := ?_) ?_ ?_
      rotate_left
      · show Act.put _ (some 36) _ = _
        simp only [Act.put, List.setIfInBounds_toArray, List.set_cons_zero, List.set_cons_succ, i64_w, i32_w]
        rfl
      refine last_ (i := 5) (N := none) #[true, true, true, true, true, true] rfl rfl (by kernel_rfl) (by decide) (fun K hK => ?_)
      refine skip_ (w1 := w6.setCell ⟨V, 0, none⟩ (.slice A1 (n + 1) cp1)) (by rfl) rfl ?_ ?_
      · go_simp
      refine hK.out _ _ ?_
      clear hK K
      refine done_ (by kernel_rfl) ?_
      refine NoPanic.normal ?_
      go_wp2
      go_roundg gk
      case measure => omega
      case rel => exact ⟨n + 1, _, _, _, _, by omega, by first | rw [e2] | rfl, hB7⟩
end Go.Proofs.Ythnllejpoklgbaa.lazyChain
