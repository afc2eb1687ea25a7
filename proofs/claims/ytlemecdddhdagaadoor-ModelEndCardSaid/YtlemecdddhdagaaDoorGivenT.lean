/-
  (*State).load, store.
-/
import Derived.Test.YtlemecdddhdagaaDoorGivenS
namespace Go.Proofs.YtlemecdddhdagaaDoor.P
open Go.RowKit Go.Proofs.YtlemecdddhdagaaDoorW.PrintWords Go.Proofs.YtlemecdddhdagaaDoorW.PrintLast Go.Proofs.YtlemecdddhdagaaDoorW.PrintMore
set_option linter.unusedVariables false
set_option linter.unusedSimpArgs false
attribute [local go_sem ↓] Go.wp_at_zero Go.wp_at_succ

/-- Objects, as they are read. -/
abbrev kRow : Kd (List Int) := Kd.slice 2 (Kd.int .i64)

structure MidL (b : Nat) (s : St) (vO vU : Value) (I : Array Value) (w W : World) : Prop where
  st : StR b s vO vU W
  ow : Ow b w W
  lt : b < w.heap.size
  ins : ∀ (j : Nat) (v : Value), I[j]? = some v → W.cell? ⟨w.heap.size, j, none⟩ = some v
section
variable {b : Nat} {s : St} {vO vU : Value} {I : Array Value} {w W : World}
theorem midL_of (h : StR b s vO vU w) : MidL b s vO vU I w (w.alloc (.cells I 55)) := by
  refine ⟨h.alloc _, (Ow.refl b w).alloc _, h.lt, fun j v hv => ?_⟩
  have e : (w.alloc (.cells I 55)).heap[w.heap.size]? = some (.cells I 55 (0, 0)) := heap_alloc_new w _
  simp only [World.cell?, e]
  exact hv
theorem MidL.drew (h : MidL b s vO vU I w W) : MidL b s vO vU I w W.drew := ⟨h.st.of_block rfl, h.ow.drew, h.lt, h.ins⟩
theorem MidL.drewN (h : MidL b s vO vU I w W) (n : Nat) : MidL b s vO vU I w (W.drewN n) := ⟨h.st.of_block rfl, h.ow.drewN n, h.lt, h.ins⟩
end

set_option maxRecDepth 100000 in
set_option maxHeartbeats 3200000 in
theorem load_zero (b : Nat) (s : St) (vO vU : Value) (op a bb cc : Nat) (n : Int) (hbb : bb < 8) (hz : s.p bb = 0) (w : World) (h : StR b s vO vU w) :
    Calls Tryd.prog 37 #[.pointer (some ⟨b, 0, none⟩), .agg #[.int .u8 op, .int .u8 a, .int .u8 bb, .int .u8 cc, .int .i64 n]] w fun e w' => e = .returned (.int .i64 9) ∧ StR b s vO vU w' ∧ Ow b w w' := by
  have hlt := h.lt
  have hbi : (bb : Int) < 8 := by omega
  have HP := Aside0.mk (midL_of (I := #[.int .u8 op, .int .u8 a, .int .u8 bb, .int .u8 cc, .int .i64 n]) h)
  clear h
  go_enter Tryd.func37, Tryd.ntmps37
  go_wp2
  generalize w.alloc (.cells #[.int .u8 op, .int .u8 a, .int .u8 bb, .int .u8 cc, .int .i64 n] 55) = W at HP ⊢
  have i2 : W.cell? ⟨w.heap.size, 2, none⟩ = some (.int .u8 bb) := HP.out.ins 2 _ rfl
  have cb : W.cell? ⟨b, 8 + bb, none⟩ = some (.int .i64 0) := by rw [HP.out.st.p_at bb hbb, hz]
  clear hz
  go_quiet (fail)
  rename_i nq
  have HQ := Aside0.mk (HP.out.drewN nq)
  clear HP cb i2
  generalize W.drewN nq = W2 at HQ ⊢
  go_wp2
  go_ret
  exact ⟨rfl, HQ.out.st, HQ.out.ow⟩

theorem drewN_drew (w : World) (n : Nat) : (w.drewN n).drew = w.drewN (n + 1) := rfl
set_option maxRecDepth 100000 in
set_option maxHeartbeats 3200000 in
theorem load_x (b : Nat) (s : St) (A : Option Addr) (cO : Nat) (vU : Value) (a bb cc : Nat) (n o v : Int) (row : List Int) (ha : a < 8) (hbb : bb < 8) (ho : s.p bb = o) (ho1 : 1 ≤ o) (ho2 : o ≤ s.objs.length) (hlim : s.objs.length ≤ 4611686018427387904)
    (hr : s.objs.getD (o - 1).toNat [] = row) (hn0 : 0 ≤ n) (hn1 : n < row.length) (hv : rd row n = v) (w : World) (h : StR b s (.slice A s.objs.length cO) vU w) (hO : Kd.C kRow w A s.objs.length s.objs) :
    Calls Tryd.prog 37 #[.pointer (some ⟨b, 0, none⟩), .agg #[.int .u8 8, .int .u8 a, .int .u8 bb, .int .u8 cc, .int .i64 n]] w fun e w' => e = .returned (.int .i64 0) ∧ StR b { s with x := upd s.x a v } (.slice A s.objs.length cO) vU w' ∧ Ow b w w' := by
  have hlt := h.lt
  have hbi : (bb : Int) < 8 := by omega
  have hai : (a : Int) < 8 := by omega
  have HP := Aside0.mk (midL_of (I := #[.int .u8 8, .int .u8 a, .int .u8 bb, .int .u8 cc, .int .i64 n]) h)
  have hbel : Below w.heap.size w (w.alloc (.cells #[.int .u8 8, .int .u8 a, .int .u8 bb, .int .u8 cc, .int .i64 n] 55)) := (Below.refl _ w).alloc (Nat.le_refl _) _
  have HO := Aside0.mk (Kd.C_below hO hbel)
  clear h hO hbel
  go_enter Tryd.func37, Tryd.ntmps37
  go_wp2
  generalize w.alloc (.cells #[.int .u8 8, .int .u8 a, .int .u8 bb, .int .u8 cc, .int .i64 n] 55) = W at HP HO ⊢
  have i2 : W.cell? ⟨w.heap.size, 2, none⟩ = some (.int .u8 bb) := HP.out.ins 2 _ rfl
  have cb : W.cell? ⟨b, 8 + bb, none⟩ = some (.int .i64 o) := by rw [HP.out.st.p_at bb hbb, ho]
  clear ho
  have hz : (o == 0) = false := beq_eq_false_iff_ne.2 (by omega)
  go_quiet (fail)
  rename_i nq
  have HQ := Aside0.mk (HP.out.drewN nq)
  have HO2 := Aside0.mk (Kd.C_drewN HO.out nq)
  clear HP HO cb i2
  generalize W.drewN nq = W2 at HQ HO2 ⊢
  go_wp2
  have i4 : W2.cell? ⟨w.heap.size, 4, none⟩ = some (.int .i64 n) := HQ.out.ins 4 _ rfl
  have c20 : W2.cell? ⟨b, 20, none⟩ = some (.slice A s.objs.length cO) := HQ.out.st.cell 20
  obtain ⟨z, hzz⟩ : ∃ z, z = o - 1 := ⟨_, rfl⟩
  have hz0 : 0 ≤ z := by omega
  have hz1 : z < s.objs.length := by omega
  have w1 : IntKind.i64.wrap (o - 1) = z := by rw [hzz]; exact IntWalk.i64_in _ (by omega)
  obtain ⟨ad, A1, c1, e0, hx, hl1, hi1⟩ := at_L8 HO2.out z hz0 hz1
  have er : rd_L8 s.objs z = row := by rw [hzz]; exact hr
  rw [er] at hx hl1 hi1
  cases e0
  obtain ⟨ad2, e2, hx2⟩ := Kd.at_int hi1 n hn0 hn1
  cases e2
  rw [hv] at hx2
  have hzn : z.toNat = o.toNat - 1 := by omega
  rw [hzn] at hx
  clear hl1 hi1 er hv hr hzn
  replace hz0 := eq_true hz0
  replace hz1 := eq_true hz1
  replace hn0 := eq_true hn0
  replace hn1 := eq_true hn1
  go_quiet (fail)
  generalize hk : W2.drewN _ = W3
  have HR : Aside0 (MidL b s (.slice (some ad) s.objs.length cO) vU #[.int .u8 8, .int .u8 a, .int .u8 bb, .int .u8 cc, .int .i64 n] w W3) := ⟨hk ▸ HQ.out.drewN _⟩
  clear HQ HO2 c20 hx hx2 i4 hk hz0 hz1 hn0 hn1 w1
  have i0 : W3.cell? ⟨w.heap.size, 0, none⟩ = some (.int .u8 8) := HR.out.ins 0 _ rfl
  have i1 : W3.cell? ⟨w.heap.size, 1, none⟩ = some (.int .u8 a) := HR.out.ins 1 _ rfl
  go_wp2
  go_still_tail 7, (by kernel_rfl)
  change wpList _ _ _ _ _ W3.drew
  have HT := Aside0.mk HR.out.drew
  clear HR i1
  generalize W3.drew = W4 at HT ⊢
  have fs := HT.out.st.fr a
  have cs := HT.out.st.x_at a ha
  go_wp2
  go_ret
  exact ⟨rfl, HT.out.st.x_set a ha v, HT.out.ow.set _ _⟩
set_option maxRecDepth 100000 in
set_option maxHeartbeats 3200000 in
theorem load_p (b : Nat) (s : St) (A : Option Addr) (cO : Nat) (vU : Value) (a bb cc : Nat) (n o v : Int) (row : List Int) (ha : a < 8) (hbb : bb < 8) (ho : s.p bb = o) (ho1 : 1 ≤ o) (ho2 : o ≤ s.objs.length) (hlim : s.objs.length ≤ 4611686018427387904)
    (hr : s.objs.getD (o - 1).toNat [] = row) (hn0 : 0 ≤ n) (hn1 : n < row.length) (hv : rd row n = v) (w : World) (h : StR b s (.slice A s.objs.length cO) vU w) (hO : Kd.C kRow w A s.objs.length s.objs) :
    Calls Tryd.prog 37 #[.pointer (some ⟨b, 0, none⟩), .agg #[.int .u8 10, .int .u8 a, .int .u8 bb, .int .u8 cc, .int .i64 n]] w fun e w' => e = .returned (.int .i64 0) ∧ StR b { s with p := upd s.p a v } (.slice A s.objs.length cO) vU w' ∧ Ow b w w' := by
  have hlt := h.lt
  have hbi : (bb : Int) < 8 := by omega
  have hai : (a : Int) < 8 := by omega
  have HP := Aside0.mk (midL_of (I := #[.int .u8 10, .int .u8 a, .int .u8 bb, .int .u8 cc, .int .i64 n]) h)
  have hbel : Below w.heap.size w (w.alloc (.cells #[.int .u8 10, .int .u8 a, .int .u8 bb, .int .u8 cc, .int .i64 n] 55)) := (Below.refl _ w).alloc (Nat.le_refl _) _
  have HO := Aside0.mk (Kd.C_below hO hbel)
  clear h hO hbel
  go_enter Tryd.func37, Tryd.ntmps37
  go_wp2
  generalize w.alloc (.cells #[.int .u8 10, .int .u8 a, .int .u8 bb, .int .u8 cc, .int .i64 n] 55) = W at HP HO ⊢
  have i2 : W.cell? ⟨w.heap.size, 2, none⟩ = some (.int .u8 bb) := HP.out.ins 2 _ rfl
  have cb : W.cell? ⟨b, 8 + bb, none⟩ = some (.int .i64 o) := by rw [HP.out.st.p_at bb hbb, ho]
  clear ho
  have hz : (o == 0) = false := beq_eq_false_iff_ne.2 (by omega)
  go_quiet (fail)
  rename_i nq
  have HQ := Aside0.mk (HP.out.drewN nq)
  have HO2 := Aside0.mk (Kd.C_drewN HO.out nq)
  clear HP HO cb i2
  generalize W.drewN nq = W2 at HQ HO2 ⊢
  go_wp2
  have i4 : W2.cell? ⟨w.heap.size, 4, none⟩ = some (.int .i64 n) := HQ.out.ins 4 _ rfl
  have c20 : W2.cell? ⟨b, 20, none⟩ = some (.slice A s.objs.length cO) := HQ.out.st.cell 20
  obtain ⟨z, hzz⟩ : ∃ z, z = o - 1 := ⟨_, rfl⟩
  have hz0 : 0 ≤ z := by omega
  have hz1 : z < s.objs.length := by omega
  have w1 : IntKind.i64.wrap (o - 1) = z := by rw [hzz]; exact IntWalk.i64_in _ (by omega)
  obtain ⟨ad, A1, c1, e0, hx, hl1, hi1⟩ := at_L8 HO2.out z hz0 hz1
  have er : rd_L8 s.objs z = row := by rw [hzz]; exact hr
  rw [er] at hx hl1 hi1
  cases e0
  obtain ⟨ad2, e2, hx2⟩ := Kd.at_int hi1 n hn0 hn1
  cases e2
  rw [hv] at hx2
  have hzn : z.toNat = o.toNat - 1 := by omega
  rw [hzn] at hx
  clear hl1 hi1 er hv hr hzn
  replace hz0 := eq_true hz0
  replace hz1 := eq_true hz1
  replace hn0 := eq_true hn0
  replace hn1 := eq_true hn1
  go_quiet (fail)
  generalize hk : W2.drewN _ = W3
  have HR : Aside0 (MidL b s (.slice (some ad) s.objs.length cO) vU #[.int .u8 10, .int .u8 a, .int .u8 bb, .int .u8 cc, .int .i64 n] w W3) := ⟨hk ▸ HQ.out.drewN _⟩
  clear HQ HO2 c20 hx hx2 i4 hk hz0 hz1 hn0 hn1 w1
  have i0 : W3.cell? ⟨w.heap.size, 0, none⟩ = some (.int .u8 10) := HR.out.ins 0 _ rfl
  have i1 : W3.cell? ⟨w.heap.size, 1, none⟩ = some (.int .u8 a) := HR.out.ins 1 _ rfl
  go_wp2
  go_still_tail 7, (by kernel_rfl)
  change wpList _ _ _ _ _ W3.drew
  have HT := Aside0.mk HR.out.drew
  clear HR i1
  generalize W3.drew = W4 at HT ⊢
  have fs := HT.out.st.fr (8 + a)
  have cs := HT.out.st.p_at a ha
  go_wp2
  go_ret
  exact ⟨rfl, HT.out.st.p_set a ha v, HT.out.ow.set _ _⟩
set_option maxRecDepth 100000 in
set_option maxHeartbeats 3200000 in
theorem store_x (b : Nat) (s : St) (ad ad2 : Addr) (cO c1 len : Nat) (vU old : Value) (a bb cc : Nat) (n o : Int) (ha : a < 8) (hbb : bb < 8) (ho : s.p a = o) (ho1 : 1 ≤ o) (ho2 : o ≤ s.objs.length) (hlim : s.objs.length ≤ 4611686018427387904)
    (hn0 : 0 ≤ n) (hn1 : n < len) (w : World) (h : StR b s (.slice (some ad) s.objs.length cO) vU w) (hx : w.cell? (ad.add (o.toNat - 1)) = some (.slice (some ad2) len c1)) (hx2 : w.cell? (ad2.add n.toNat) = some old) (hf : w.frozen? (ad2.add n.toNat) = false) :
    Calls Tryd.prog 38 #[.pointer (some ⟨b, 0, none⟩), .agg #[.int .u8 9, .int .u8 a, .int .u8 bb, .int .u8 cc, .int .i64 n]] w fun e w' => e = .returned (.int .i64 0) ∧ ∃ k, w' = ((w.alloc (.cells #[.int .u8 9, .int .u8 a, .int .u8 bb, .int .u8 cc, .int .i64 n] 55)).drewN k).setCell (ad2.add n.toNat) (.int .i64 (s.x bb)) := by
  have hlt := h.lt
  have hbi : (bb : Int) < 8 := by omega
  have hai : (a : Int) < 8 := by omega
  have HP := Aside0.mk (midL_of (I := #[.int .u8 9, .int .u8 a, .int .u8 bb, .int .u8 cc, .int .i64 n]) h)
  have hbel : Below w.heap.size w (w.alloc (.cells #[.int .u8 9, .int .u8 a, .int .u8 bb, .int .u8 cc, .int .i64 n] 55)) := (Below.refl _ w).alloc (Nat.le_refl _) _
  have y1 := pw_cell_below hbel hx
  have y2 := pw_cell_below hbel hx2
  have y3 := (hbel.frozen (World.block_lt_of_cell? w _ hx2)).trans hf
  clear h hx hx2 hf hbel
  go_enter Tryd.func38, Tryd.ntmps38
  go_wp2
  generalize hW : w.alloc (.cells #[.int .u8 9, .int .u8 a, .int .u8 bb, .int .u8 cc, .int .i64 n] 55) = W at HP y1 y2 y3 ⊢
  have HW := Lib.hid hW
  clear hW
  have i1 : W.cell? ⟨w.heap.size, 1, none⟩ = some (.int .u8 a) := HP.out.ins 1 _ rfl
  have ca : W.cell? ⟨b, 8 + a, none⟩ = some (.int .i64 o) := by rw [HP.out.st.p_at a ha, ho]
  clear ho
  have hz : (o == 0) = false := beq_eq_false_iff_ne.2 (by omega)
  go_quiet (fail)
  have HQ := fun k => HP.out.drewN k
  generalize hk : W.drewN _ = W2
  have HR : Aside0 (MidL b s (.slice (some ad) s.objs.length cO) vU #[.int .u8 9, .int .u8 a, .int .u8 bb, .int .u8 cc, .int .i64 n] w W2) := ⟨hk ▸ HQ _⟩
  have z1 : W2.cell? (ad.add (o.toNat - 1)) = some (.slice (some ad2) len c1) := by rw [← hk]; exact y1
  have z2 : W2.cell? (ad2.add n.toNat) = some old := by rw [← hk]; exact y2
  have z3 : W2.frozen? (ad2.add n.toNat) = false := by rw [← hk]; exact y3
  have HK := Lib.hid hk
  clear HP HQ hk i1 ca y1 y2 y3
  have i0 : W2.cell? ⟨w.heap.size, 0, none⟩ = some (.int .u8 9) := HR.out.ins 0 _ rfl
  have i2 : W2.cell? ⟨w.heap.size, 2, none⟩ = some (.int .u8 bb) := HR.out.ins 2 _ rfl
  have i4 : W2.cell? ⟨w.heap.size, 4, none⟩ = some (.int .i64 n) := HR.out.ins 4 _ rfl
  have c20 : W2.cell? ⟨b, 20, none⟩ = some (.slice (some ad) s.objs.length cO) := HR.out.st.cell 20
  have cb : W2.cell? ⟨b, bb, none⟩ = some (.int .i64 (s.x bb)) := HR.out.st.x_at bb hbb
  have hz1 : (o - 1 < (s.objs.length : Int)) = True := eq_true (by omega)
  have hz2 : (o - 1 < (s.objs.length : Int)) := by omega
  have w1 : IntKind.i64.wrap (o - 1) = o - 1 := IntWalk.i64_in _ (by omega)
  have w2 : wrap64 (o - 1) = o - 1 := by unfold wrap64; omega
  go_wp2
  go_still_tail 18, (by kernel_rfl)
  change wpList _ _ _ _ _ W2.drew
  generalize hk3 : W2.drew = W3
  have u2 : W3.cell? (ad2.add n.toNat) = some old := by rw [← hk3]; exact z2
  have u3 : W3.frozen? (ad2.add n.toNat) = false := by rw [← hk3]; exact z3
  have HK3 := Lib.hid hk3
  clear hk3 z1 z2 z3 i0 i2 i4 c20 cb w1 w2 HR
  go_wp2
  go_ret
  refine ⟨rfl, ?_⟩
  rw [← HK3.out, ← HK.out, ← HW.out, drewN_drew]
  exact ⟨_, rfl⟩
set_option maxRecDepth 100000 in
set_option maxHeartbeats 3200000 in
theorem store_p (b : Nat) (s : St) (ad ad2 : Addr) (cO c1 len : Nat) (vU old : Value) (a bb cc : Nat) (n o : Int) (ha : a < 8) (hbb : bb < 8) (ho : s.p a = o) (ho1 : 1 ≤ o) (ho2 : o ≤ s.objs.length) (hlim : s.objs.length ≤ 4611686018427387904)
    (hn0 : 0 ≤ n) (hn1 : n < len) (w : World) (h : StR b s (.slice (some ad) s.objs.length cO) vU w) (hx : w.cell? (ad.add (o.toNat - 1)) = some (.slice (some ad2) len c1)) (hx2 : w.cell? (ad2.add n.toNat) = some old) (hf : w.frozen? (ad2.add n.toNat) = false) :
    Calls Tryd.prog 38 #[.pointer (some ⟨b, 0, none⟩), .agg #[.int .u8 11, .int .u8 a, .int .u8 bb, .int .u8 cc, .int .i64 n]] w fun e w' => e = .returned (.int .i64 0) ∧ ∃ k, w' = ((w.alloc (.cells #[.int .u8 11, .int .u8 a, .int .u8 bb, .int .u8 cc, .int .i64 n] 55)).drewN k).setCell (ad2.add n.toNat) (.int .i64 (s.p bb)) := by
  have hlt := h.lt
  have hbi : (bb : Int) < 8 := by omega
  have hai : (a : Int) < 8 := by omega
  have HP := Aside0.mk (midL_of (I := #[.int .u8 11, .int .u8 a, .int .u8 bb, .int .u8 cc, .int .i64 n]) h)
  have hbel : Below w.heap.size w (w.alloc (.cells #[.int .u8 11, .int .u8 a, .int .u8 bb, .int .u8 cc, .int .i64 n] 55)) := (Below.refl _ w).alloc (Nat.le_refl _) _
  have y1 := pw_cell_below hbel hx
  have y2 := pw_cell_below hbel hx2
  have y3 := (hbel.frozen (World.block_lt_of_cell? w _ hx2)).trans hf
  clear h hx hx2 hf hbel
  go_enter Tryd.func38, Tryd.ntmps38
  go_wp2
  generalize hW : w.alloc (.cells #[.int .u8 11, .int .u8 a, .int .u8 bb, .int .u8 cc, .int .i64 n] 55) = W at HP y1 y2 y3 ⊢
  have HW := Lib.hid hW
  clear hW
  have i1 : W.cell? ⟨w.heap.size, 1, none⟩ = some (.int .u8 a) := HP.out.ins 1 _ rfl
  have ca : W.cell? ⟨b, 8 + a, none⟩ = some (.int .i64 o) := by rw [HP.out.st.p_at a ha, ho]
  clear ho
  have hz : (o == 0) = false := beq_eq_false_iff_ne.2 (by omega)
  go_quiet (fail)
  have HQ := fun k => HP.out.drewN k
  generalize hk : W.drewN _ = W2
  have HR : Aside0 (MidL b s (.slice (some ad) s.objs.length cO) vU #[.int .u8 11, .int .u8 a, .int .u8 bb, .int .u8 cc, .int .i64 n] w W2) := ⟨hk ▸ HQ _⟩
  have z1 : W2.cell? (ad.add (o.toNat - 1)) = some (.slice (some ad2) len c1) := by rw [← hk]; exact y1
  have z2 : W2.cell? (ad2.add n.toNat) = some old := by rw [← hk]; exact y2
  have z3 : W2.frozen? (ad2.add n.toNat) = false := by rw [← hk]; exact y3
  have HK := Lib.hid hk
  clear HP HQ hk i1 ca y1 y2 y3
  have i0 : W2.cell? ⟨w.heap.size, 0, none⟩ = some (.int .u8 11) := HR.out.ins 0 _ rfl
  have i2 : W2.cell? ⟨w.heap.size, 2, none⟩ = some (.int .u8 bb) := HR.out.ins 2 _ rfl
  have i4 : W2.cell? ⟨w.heap.size, 4, none⟩ = some (.int .i64 n) := HR.out.ins 4 _ rfl
  have c20 : W2.cell? ⟨b, 20, none⟩ = some (.slice (some ad) s.objs.length cO) := HR.out.st.cell 20
  have cb : W2.cell? ⟨b, 8 + bb, none⟩ = some (.int .i64 (s.p bb)) := HR.out.st.p_at bb hbb
  have hz1 : (o - 1 < (s.objs.length : Int)) = True := eq_true (by omega)
  have hz2 : (o - 1 < (s.objs.length : Int)) := by omega
  have w1 : IntKind.i64.wrap (o - 1) = o - 1 := IntWalk.i64_in _ (by omega)
  have w2 : wrap64 (o - 1) = o - 1 := by unfold wrap64; omega
  go_wp2
  go_still_tail 18, (by kernel_rfl)
  change wpList _ _ _ _ _ W2.drew
  generalize hk3 : W2.drew = W3
  have u2 : W3.cell? (ad2.add n.toNat) = some old := by rw [← hk3]; exact z2
  have u3 : W3.frozen? (ad2.add n.toNat) = false := by rw [← hk3]; exact z3
  have HK3 := Lib.hid hk3
  clear hk3 z1 z2 z3 i0 i2 i4 c20 cb w1 w2 HR
  go_wp2
  go_ret
  refine ⟨rfl, ?_⟩
  rw [← HK3.out, ← HK.out, ← HW.out, drewN_drew]
  exact ⟨_, rfl⟩
end Go.Proofs.YtlemecdddhdagaaDoor.P
