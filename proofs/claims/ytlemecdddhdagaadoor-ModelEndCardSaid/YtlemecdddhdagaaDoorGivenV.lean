/-
  (*State).do at New.
-/
import Derived.Test.YtlemecdddhdagaaDoorGivenU
import Derived.Test.YtlemecdddhdagaaDoorPx1
namespace Go.Proofs.YtlemecdddhdagaaDoor.P
open Go.RowKit Go.Proofs.YtlemecdddhdagaaDoorW.PrintWords Go.Proofs.YtlemecdddhdagaaDoorW.PrintLast Go.Proofs.YtlemecdddhdagaaDoorW.PrintMore
set_option linter.unusedVariables false
set_option linter.unusedSimpArgs false
attribute [local go_sem ↓] Go.wp_at_zero Go.wp_at_succ

theorem info28 : (Tryd.prog.info? 28).map (fun i => (i.zero, i.size, i.bytes)) = some (some (.slice none 0 0), 1, 24) := by kernel_rfl
theorem Mid.below {b : Nat} {s : St} {vO vU : Value} {P I : Array Value} {w W W' : World} (h : Mid b s vO vU P I w W) (hb : Below W.heap.size W W') : Mid b s vO vU P I w W' := by
  have hs := h.size
  refine ⟨h.st.of_block (hb.block b h.st.lt), h.ow.trans (Ow.of_below hb), Nat.le_trans h.size hb.size, h.lt, fun i u hu => ?_, fun i u hu => ?_⟩
  · exact (World.cell?_of_block (a := ⟨w.heap.size, i, none⟩) (hb.block w.heap.size (by omega))).trans (h.prog i u hu)
  · exact (World.cell?_of_block (a := ⟨w.heap.size + 1, i, none⟩) (hb.block (w.heap.size + 1) (by omega))).trans (h.ins i u hu)
set_option maxRecDepth 100000 in
set_option maxHeartbeats 3200000 in
theorem do_5 (k b : Nat) (s : St) (vO vU : Value) (a bb cc : Nat) (n : Int) (A0 : Option Addr) (c0 : Nat) (l0 : List ByteArray) (a1 a2 : ByteArray) (A3 : Option Addr) (c3 : Nat) (l3 : List S55) (t z : Int)
    (ha : a < 8) (hlim : (s.objs.length + 1) * 24 ≤ 140737488355328) (hl : check_Local.f k l0 a1 a2 l3 a = some t) (hz : kind_Size.f k l0 t = some z) (hz0 : 0 ≤ z) (hzl : z.toNat * 8 ≤ 281474976710656)
    (W0 w : World) (hb : W0.heap.size ≤ b) (hB : Below W0.heap.size W0 w) (hr0 : Kd.C Kd.string W0 A0 l0.length l0) (hc0 : l0.length ≤ c0) (hr3 : Kd.C k55 W0 A3 l3.length l3) (hc3 : l3.length ≤ c3) (h : StR b s vO vU w) (hR : Rows W0.heap.size b s vO vU w) :
    Calls Tryd.prog 22 #[.pointer (some ⟨b, 0, none⟩), .agg #[.slice A0 l0.length c0, .string a1, .string a2, .slice A3 l3.length c3], .agg #[.int .u8 5, .int .u8 a, .int .u8 bb, .int .u8 cc, .int .i64 n]] w fun e w' => e = .returned (.int .i64 0) ∧ OwnM W0.heap.size b { bump s with objs := s.objs ++ [List.replicate z.toNat 0], p := upd s.p a ((s.objs.length : Int) + 1) } w' ∧ Below W0.heap.size w w' := by
  have hlt := h.lt
  have hne : b ≠ w.heap.size := by omega
  have f22 := h.fr 22
  have f23 := h.fr 23
  have c22 : w.cell? ⟨b, 22, none⟩ = some (.int .i64 s.pc) := h.cell 22
  have c23 : w.cell? ⟨b, 23, none⟩ = some (.int .i64 s.steps) := h.cell 23
  have HP := Aside0.mk (mid_of (P := #[.slice A0 l0.length c0, .string a1, .string a2, .slice A3 l3.length c3]) (I := #[.int .u8 5, .int .u8 a, .int .u8 bb, .int .u8 cc, .int .i64 n]) h)
  have HR := Aside0.mk (hR.ow (s' := bump s) HP.out.ow rfl rfl)
  have HB := Aside0.mk (hB.trans (HP.out.ow.low hb hlt))
  have HOlt0 := Lib.hid (Kd.S_lt hR.objs)
  replace hr0 := Lib.hid hr0
  replace hr3 := Lib.hid hr3
  replace hl := Lib.hid hl
  replace hz := Lib.hid hz
  clear h hR hB
  go_enter Tryd.func22, Tryd.ntmps22
  go_wp2
  change Code.wp _ _ _ _ (preW b s #[.slice A0 l0.length c0, .string a1, .string a2, .slice A3 l3.length c3] #[.int .u8 5, .int .u8 a, .int .u8 bb, .int .u8 cc, .int .i64 n] w)
  generalize preW b s #[.slice A0 l0.length c0, .string a1, .string a2, .slice A3 l3.length c3] #[.int .u8 5, .int .u8 a, .int .u8 bb, .int .u8 cc, .int .i64 n] w = W at HP HR HB ⊢
  clear f22 f23 c22 c23
  have HQ := Aside0.mk HP.out.drew
  have HR2 := Aside0.mk (HR.out.move (w' := W.drew) (s' := bump s) (fun _ _ _ => rfl) rfl rfl)
  have HB2 := Aside0.mk (show Below W0.heap.size W0 W.drew from HB.out.drew)
  have c20 : W.drew.cell? ⟨b, 20, none⟩ = some vO := HQ.out.st.cell 20
  have q0 : W.drew.cell? ⟨w.heap.size, 0, none⟩ = some (.slice A0 l0.length c0) := HQ.out.prog 0 _ rfl
  have q1 : W.drew.cell? ⟨w.heap.size, 1, none⟩ = some (.string a1) := HQ.out.prog 1 _ rfl
  have q2 : W.drew.cell? ⟨w.heap.size, 2, none⟩ = some (.string a2) := HQ.out.prog 2 _ rfl
  have q3 : W.drew.cell? ⟨w.heap.size, 3, none⟩ = some (.slice A3 l3.length c3) := HQ.out.prog 3 _ rfl
  have i1 : W.drew.cell? ⟨w.heap.size + 1, 1, none⟩ = some (.int .u8 a) := HQ.out.ins 1 _ rfl
  clear HP HR HB
  refine wp_region_noPanic ?_
  refine start_ (n := 18) (S := fun w' => w'.cell? ⟨b, 20, none⟩ = some vO ∧ w'.cell? ⟨w.heap.size, 0, none⟩ = some (.slice A0 l0.length c0) ∧ w'.cell? ⟨w.heap.size, 1, none⟩ = some (.string a1) ∧ w'.cell? ⟨w.heap.size, 2, none⟩ = some (.string a2) ∧ w'.cell? ⟨w.heap.size, 3, none⟩ = some (.slice A3 l3.length c3) ∧ w'.cell? ⟨w.heap.size + 1, 1, none⟩ = some (.int .u8 a)) (ds := [17]) #[false, false, false, false, false, false, false, false, false, false, false, false, false, false, false, false, false, false] (by kernel_rfl) rfl rfl ⟨c20, q0, q1, q2, q3, i1⟩ (fun hHeld => ?_)
  clear c20 q0 q1 q2 q3 i1
  generalize W.drew = W2 at HQ HR2 HB2 hHeld ⊢
  refine pure_ (i := 0) (N := some 83) (v := ?_) (a' := ?_) #[true, false, false, false, false, false, false, false, false, false, false, false, false, false, false, false, false, false] rfl rfl (by kernel_rfl) (fun _ _ _ h => h) (Or.inl ⟨by rfl, ?_⟩) ?_ ?_
  rotate_left
  · intro w'
    go_simp
    with_reducible rfl
  rotate_left
  · simp only [Act.put, List.setIfInBounds_toArray, List.set_cons_zero, List.set_cons_succ, i64_w, i32_w]
    rfl
  refine pure_ (i := 1) (N := some 84) (v := ?_) (a' := ?_) #[true, true, false, false, false, false, false, false, false, false, false, false, false, false, false, false, false, false] rfl rfl (by kernel_rfl) (fun _ _ _ h => h) (Or.inl ⟨by rfl, ?_⟩) ?_ ?_
  rotate_left
  · intro w'
    go_simp
    with_reducible rfl
  rotate_left
  · simp only [Act.put, List.setIfInBounds_toArray, List.set_cons_zero, List.set_cons_succ, i64_w, i32_w]
    rfl
  refine pure_ (i := 2) (N := some 85) (v := ?_) (a' := ?_) #[true, true, true, false, false, false, false, false, false, false, false, false, false, false, false, false, false, false] rfl rfl (by kernel_rfl) (fun _ _ _ h => h) (Or.inl ⟨by rfl, ?_⟩) ?_ ?_
  rotate_left
  · intro w'
    go_simp
    with_reducible rfl
  rotate_left
  · simp only [Act.put, List.setIfInBounds_toArray, List.set_cons_zero, List.set_cons_succ, i64_w, i32_w]
    rfl
  refine pure_ (i := 3) (N := some 86) (v := ?_) (a' := ?_) #[true, true, true, true, false, false, false, false, false, false, false, false, false, false, false, false, false, false] rfl rfl (by kernel_rfl) (fun _ _ _ h => h) (Or.inl ⟨by rfl, ?_⟩) ?_ ?_
  rotate_left
  · intro w'
    go_simp
    with_reducible rfl
  rotate_left
  · simp only [Act.put, List.setIfInBounds_toArray, List.set_cons_zero, List.set_cons_succ, i64_w, i32_w]
    rfl
  refine take_ (i := 4) (N := some 87) (v := ?_) (a' := ?_) #[true, true, true, true, true, false, false, false, false, false, false, false, false, false, false, false, false, false] rfl rfl (by kernel_rfl) (fun _ _ _ h => h) (Or.inl ⟨by rfl, ?_⟩) hHeld ?_ ?_
  rotate_left
  · rintro w' ⟨h20_, hp0_, hp1_, hp2_, hp3_, hi1_⟩
    go_simp
    with_reducible rfl
  rotate_left
  · simp only [Act.put, List.setIfInBounds_toArray, List.set_cons_zero, List.set_cons_succ, i64_w, i32_w]
    rfl
  refine pure_ (i := 5) (N := some 88) (v := ?_) (a' := ?_) #[true, true, true, true, true, true, false, false, false, false, false, false, false, false, false, false, false, false] rfl rfl (by kernel_rfl) (fun _ _ _ h => h) (Or.inl ⟨by rfl, ?_⟩) ?_ ?_
  rotate_left
  · intro w'
    go_simp
    with_reducible rfl
  rotate_left
  · simp only [Act.put, List.setIfInBounds_toArray, List.set_cons_zero, List.set_cons_succ, i64_w, i32_w]
    rfl
  refine take_ (i := 6) (N := some 89) (v := ?_) (a' := ?_) #[true, true, true, true, true, true, true, false, false, false, false, false, false, false, false, false, false, false] rfl rfl (by kernel_rfl) (fun _ _ _ h => h) (Or.inl ⟨by rfl, ?_⟩) hHeld ?_ ?_
  rotate_left
  · rintro w' ⟨h20_, hp0_, hp1_, hp2_, hp3_, hi1_⟩
    go_simp
    with_reducible rfl
  rotate_left
  · simp only [Act.put, List.setIfInBounds_toArray, List.set_cons_zero, List.set_cons_succ, i64_w, i32_w]
    rfl
  refine take_ (i := 7) (N := some 90) (v := ?_) (a' := ?_) #[true, true, true, true, true, true, true, true, false, false, false, false, false, false, false, false, false, false] rfl rfl (by kernel_rfl) (fun _ _ _ h => h) (Or.inl ⟨by rfl, ?_⟩) hHeld ?_ ?_
  rotate_left
  · rintro w' ⟨h20_, hp0_, hp1_, hp2_, hp3_, hi1_⟩
    go_simp
    with_reducible rfl
  rotate_left
  · simp only [Act.put, List.setIfInBounds_toArray, List.set_cons_zero, List.set_cons_succ, i64_w, i32_w]
    rfl
  refine pure_ (i := 8) (N := some 91) (v := ?_) (a' := ?_) #[true, true, true, true, true, true, true, true, true, false, false, false, false, false, false, false, false, false] rfl rfl (by kernel_rfl) (fun _ _ _ h => h) (Or.inl ⟨by rfl, ?_⟩) ?_ ?_
  rotate_left
  · intro w'
    go_simp
    with_reducible rfl
  rotate_left
  · simp only [Act.put, List.setIfInBounds_toArray, List.set_cons_zero, List.set_cons_succ, i64_w, i32_w]
    rfl
  refine take_ (i := 9) (N := some 92) (v := ?_) (a' := ?_) #[true, true, true, true, true, true, true, true, true, true, false, false, false, false, false, false, false, false] rfl rfl (by kernel_rfl) (fun _ _ _ h => h) (Or.inl ⟨by rfl, ?_⟩) hHeld ?_ ?_
  rotate_left
  · rintro w' ⟨h20_, hp0_, hp1_, hp2_, hp3_, hi1_⟩
    go_simp
    with_reducible rfl
  rotate_left
  · simp only [Act.put, List.setIfInBounds_toArray, List.set_cons_zero, List.set_cons_succ, i64_w, i32_w]
    rfl
  refine one_ (i := 10) (N := some 93) #[true, true, true, true, true, true, true, true, true, true, true, false, false, false, false, false, false, false] rfl rfl (by kernel_rfl) (by decide) (fun K hK => ?_)
  refine goes_ Tryd.func36 (by kernel_rfl) rfl #[.agg #[.slice A0 l0.length c0, .string a1, .string a2, .slice A3 l3.length c3], .int .u8 a] (by rfl) rfl rfl (by (try simp only [List.map_toArray, List.map_cons, List.map_nil]); rfl) ?_
  refine (check_Local.calls k A0 c0 l0 a1 a2 A3 c3 l3 a t W2 (Kd.C_below hr0.out HB2.out) hc0 (Kd.C_below hr3.out HB2.out) hc3 hl.out).mono ?_
  rintro e w3 ⟨rfl, hb3⟩
  refine ⟨_, rfl, ?_⟩
  have HQ3 := Aside0.mk (HQ.out.below hb3)
  have HR3 := Aside0.mk (HR2.out.ow (s' := bump s) (Ow.of_below hb3) rfl rfl)
  have HB3 := Aside0.mk (HB2.out.trans (hb3.mono HB2.out.size))
  clear HQ HR2 HB2 hb3 hHeld
  refine hK.out _ _ ⟨HQ3.out.st.cell 20, HQ3.out.prog 0 _ rfl, HQ3.out.prog 1 _ rfl, HQ3.out.prog 2 _ rfl, HQ3.out.prog 3 _ rfl, HQ3.out.ins 1 _ rfl⟩ (fun hHeld => ?_)
  clear hK K
  refine norm_ (a' := ?_) ?_ ?_
  rotate_left
  · show Act.put _ (some 93) _ = _
    simp only [Act.put, List.setIfInBounds_toArray, List.set_cons_zero, List.set_cons_succ, i64_w, i32_w]
    rfl
  refine one_ (i := 11) (N := some 94) #[true, true, true, true, true, true, true, true, true, true, true, true, false, false, false, false, false, false] rfl rfl (by kernel_rfl) (by decide) (fun K hK => ?_)
  refine goes_ Tryd.func35 (by kernel_rfl) rfl #[.slice A0 l0.length c0, .int .i64 t] (by rfl) rfl rfl (by (try simp only [List.map_toArray, List.map_cons, List.map_nil]); rfl) ?_
  refine (kind_Size.calls k A0 c0 l0 t z w3 (Kd.C_below hr0.out HB3.out) hc0 hz.out).mono ?_
  rintro e w4 ⟨rfl, hd4⟩
  have hb4 := hd4.below
  refine ⟨_, rfl, ?_⟩
  have HQ4 := Aside0.mk (HQ3.out.below hb4)
  have HR4 := Aside0.mk (HR3.out.ow (s' := bump s) (Ow.of_below hb4) rfl rfl)
  have HB4 := Aside0.mk (HB3.out.trans (hb4.mono HB3.out.size))
  clear HQ3 HR3 HB3 hb4 hd4 hHeld
  refine hK.out _ _ ⟨HQ4.out.st.cell 20, HQ4.out.prog 0 _ rfl, HQ4.out.prog 1 _ rfl, HQ4.out.prog 2 _ rfl, HQ4.out.prog 3 _ rfl, HQ4.out.ins 1 _ rfl⟩ (fun hHeld => ?_)
  clear hK K
  refine norm_ (a' := ?_) ?_ ?_
  rotate_left
  · show Act.put _ (some 94) _ = _
    simp only [Act.put, List.setIfInBounds_toArray, List.set_cons_zero, List.set_cons_succ, i64_w, i32_w]
    rfl
  refine one_ (i := 12) (N := some 95) #[true, true, true, true, true, true, true, true, true, true, true, true, true, false, false, false, false, false] rfl rfl (by kernel_rfl) (by decide) (fun K hK => ?_)
  obtain ⟨n4, hn4⟩ : ∃ n4, n4 = w4.heap.size := ⟨_, rfl⟩
  refine Kd.R_make_step (Kd.int .i64) (w0 := w4) w4.heap.size 2 (by rfl) rfl 28 (.tmp 94) (.tmp 94) rfl z rfl rfl (by kernel_rfl) (.int .i64 0) 8 info2 rfl (by decide) (by decide) 0 (ok := fun k => w4.heap.size ≤ k) (okp := fun _ => False) rfl (fun _ hk => hk.elim) (Nat.le_refl _) hz0 hzl (Below.refl _ _) (Nat.le_refl _) ?_
  intro v1 w5 hM5 hb5 hg5 hat5
  obtain ⟨A5, c5, e5⟩ := Kd.R_slice hM5
  obtain ⟨m5, hm5⟩ : ∃ m, m = (List.replicate z.toNat (0 : Int)).length := ⟨_, rfl⟩
  rw [← hm5] at e5
  subst e5
  have HQ5 := Aside0.mk (HQ4.out.below hb5)
  have HR5 := Aside0.mk (HR4.out.ow (s' := bump s) (Ow.of_below hb5) rfl rfl)
  have HB5 := Aside0.mk (HB4.out.trans (hb5.mono HB4.out.size))
  have HT5 := Aside0.mk (Kd.S_mono (ok' := fun k => (k ≠ b ∧ some k ≠ vU.ownBlock) ∧ ¬ w4.heap.size ≤ k) (Kd.S_step (Kd.S_bound HR4.out.objs) (fun k hk hlt => hb5.block k hlt)) (fun k hk => ⟨hk.1, by have := hk.2.2.1; omega⟩))
  have HN5 := Lib.hid (Kd.R_lower hM5 (show W0.heap.size ≤ w4.heap.size by have := HQ4.out.st.lt; omega))
  have hOlt := Kd.S_lt HR4.out.objs
  have hUlt := Kd.R_lt HR4.out.out
  have hb4lt := HQ4.out.st.lt
  have hs45 := hb5.size
  clear HQ4 HR4 HB4 hM5 hb5 hg5 hat5 hHeld
  refine hK.out _ _ ⟨HQ5.out.st.cell 20, HQ5.out.prog 0 _ rfl, HQ5.out.prog 1 _ rfl, HQ5.out.prog 2 _ rfl, HQ5.out.prog 3 _ rfl, HQ5.out.ins 1 _ rfl⟩ (fun hHeld => ?_)
  clear hK K
  refine norm_ (a' := ?_) ?_ ?_
  rotate_left
  · show Act.put _ (some 95) _ = _
    simp only [Act.put, List.setIfInBounds_toArray, List.set_cons_zero, List.set_cons_succ, i64_w, i32_w]
    rfl
  refine one_ (i := 13) (N := some 96) #[true, true, true, true, true, true, true, true, true, true, true, true, true, true, false, false, false, false] rfl rfl (by kernel_rfl) (by decide) (fun K hK => ?_)
  refine value_ (w1 := w5.alloc (.cells #[.slice A5 m5 c5] 28)) (v := .slice (some ⟨w5.heap.size, 0, none⟩) 1 1) (by rfl) rfl ?_ ?_
  · go_simp
  have HQ6 := HQ5.out.below ((Below.refl w5.heap.size w5).alloc (Nat.le_refl _) (.cells #[.slice A5 m5 c5] 28))
  refine hK.out _ _ ⟨HQ6.st.cell 20, HQ6.prog 0 _ rfl, HQ6.prog 1 _ rfl, HQ6.prog 2 _ rfl, HQ6.prog 3 _ rfl, HQ6.ins 1 _ rfl⟩ (fun hHeld => ?_)
  clear HQ6
  clear hK K
  refine norm_ (a' := ?_) ?_ ?_
  rotate_left
  · show Act.put _ (some 96) _ = _
    simp only [Act.put, List.setIfInBounds_toArray, List.set_cons_zero, List.set_cons_succ, i64_w, i32_w]
    rfl
  refine one_ (i := 14) (N := some 97) #[true, true, true, true, true, true, true, true, true, true, true, true, true, true, true, false, false, false] rfl rfl (by kernel_rfl) (by decide) (fun K hK => ?_)
  refine Kd.S_append_step kRow (w0 := w5) W0.heap.size (by rfl) (.tmp 87) (.tmp 96) 37 28 (.slice none 0 0) 24 rfl (by kernel_rfl) info28 rfl (by decide) (by decide) vO s.objs (List.replicate z.toNat 0) [.slice A5 m5 c5] (fun k => k ≠ b ∧ some k ≠ vU.ownBlock) (fun k => w4.heap.size ≤ k) rfl rfl ⟨_, rfl, HN5.out⟩ (fun k hk => ⟨⟨by omega, fun he => by have := hUlt k he.symm; omega⟩, fun he => by have := hOlt k he.symm; omega⟩) (fun k hk => ⟨by omega, fun he => by have := hUlt k he.symm; omega⟩) HT5.out (Below.refl _ _) (by omega) hlim ?_
  intro vO1 w6 hS6 hb6 hg6 hat6
  obtain ⟨A6, c6, e6⟩ := Kd.S_slice hS6
  rw [List.length_append, List.length_singleton] at e6
  subst e6
  have hUa := HR5.out.apart
  have hUb := HR5.out.outB
  have hOb := HR5.out.objB
  have hb5lt := HQ5.out.st.lt
  have hsz5 := HQ5.out.size
  have eb : w6.heap[b]? = w5.heap[b]? := hg6.block b hb5lt hOb
  have ep : w6.heap[w.heap.size]? = w5.heap[w.heap.size]? := hg6.block _ (by omega) (fun he => by have := HOlt0.out _ he.symm; omega)
  have ei : w6.heap[w.heap.size + 1]? = w5.heap[w.heap.size + 1]? := hg6.block _ (by omega) (fun he => by have := HOlt0.out _ he.symm; omega)
  have HU6 : Kd.R (Kd.int .i64) 2 w6 W0.heap.size (fun k => k ≠ b) vU s.out := Kd.R_mono (Kd.R_step (Kd.R_tight (show (Kd.int .i64).E = [] from rfl) HR5.out.out) (fun k hk hlt => hg6.block k hlt (hUa k hk.symm))) (fun k hk he => hUb (he ▸ hk))
  have st6 := HQ5.out.st.of_block eb
  have d20 : w6.cell? ⟨b, 20, none⟩ = some vO := st6.cell 20
  have f20 : w6.frozen? ⟨b, 20, none⟩ = false := st6.fr 20
  have dp0 : w6.cell? ⟨w.heap.size, 0, none⟩ = some (.slice A0 l0.length c0) := (World.cell?_of_block ep).trans (HQ5.out.prog 0 _ rfl)
  have dp1 : w6.cell? ⟨w.heap.size, 1, none⟩ = some (.string a1) := (World.cell?_of_block ep).trans (HQ5.out.prog 1 _ rfl)
  have dp2 : w6.cell? ⟨w.heap.size, 2, none⟩ = some (.string a2) := (World.cell?_of_block ep).trans (HQ5.out.prog 2 _ rfl)
  have dp3 : w6.cell? ⟨w.heap.size, 3, none⟩ = some (.slice A3 l3.length c3) := (World.cell?_of_block ep).trans (HQ5.out.prog 3 _ rfl)
  have di : w6.cell? ⟨w.heap.size + 1, 1, none⟩ = some (.int .u8 a) := (World.cell?_of_block ei).trans (HQ5.out.ins 1 _ rfl)
  have HE := Lib.hid (show StR b { bump s with objs := s.objs ++ [List.replicate z.toNat 0] } (.slice A6 (s.objs.length + 1) c6) vU (w6.setCell ⟨b, 20, none⟩ (.slice A6 (s.objs.length + 1) c6)) from st6.objs_set _ _)
  have HF := Lib.hid (show Rows W0.heap.size b { bump s with objs := s.objs ++ [List.replicate z.toNat 0] } (.slice A6 (s.objs.length + 1) c6) vU w6 from ⟨hS6, HU6⟩)
  have HBb := Lib.hid (show Below W0.heap.size w w6 from (HQ5.out.ow.low hb hlt).grown hg6 (by omega) (Kd.S_base HR5.out.objs))
  have hsz6 := hg6.size
  have HD := Lib.hid di
  clear hUa hUb hOb eb ep ei st6 HQ5 HR5 HB5 HT5 HN5 hS6 hb6 hg6 hat6 HU6 hHeld hOlt hUlt
  refine hK.out _ _ ⟨d20, dp0, dp1, dp2, dp3, di⟩ (fun hHeld => ?_)
  clear hK K
  refine norm_ (a' := ?_) ?_ ?_
  rotate_left
  · show Act.put _ (some 97) _ = _
    simp only [Act.put, List.setIfInBounds_toArray, List.set_cons_zero, List.set_cons_succ, i64_w, i32_w]
    rfl
  refine pure_ (i := 15) (N := some 98) (v := ?_) (a' := ?_) #[true, true, true, true, true, true, true, true, true, true, true, true, true, true, true, true, false, false] rfl rfl (by kernel_rfl) (fun _ _ _ h => h) (Or.inl ⟨by rfl, ?_⟩) ?_ ?_
  rotate_left
  · intro w'
    go_simp
    with_reducible rfl
  rotate_left
  · simp only [Act.put, List.setIfInBounds_toArray, List.set_cons_zero, List.set_cons_succ, i64_w, i32_w]
    rfl
  refine pure_ (i := 16) (N := some 99) (v := ?_) (a' := ?_) #[true, true, true, true, true, true, true, true, true, true, true, true, true, true, true, true, true, false] rfl rfl (by kernel_rfl) (fun _ _ _ h => h) (Or.inl ⟨by rfl, ?_⟩) ?_ ?_
  rotate_left
  · intro w'
    go_simp
    with_reducible rfl
  rotate_left
  · simp only [Act.put, List.setIfInBounds_toArray, List.set_cons_zero, List.set_cons_succ, i64_w, i32_w]
    rfl
  refine last_ (i := 17) (N := none) #[true, true, true, true, true, true, true, true, true, true, true, true, true, true, true, true, true, true] rfl rfl (by kernel_rfl) (by decide) (fun K hK => ?_)
  refine skip_ (w1 := w6.setCell ⟨b, 20, none⟩ (.slice A6 (s.objs.length + 1) c6)) (by rfl) rfl ?_ ?_
  · go_simp
  refine hK.out _ _ ?_
  clear hK K
  refine done_ (by kernel_rfl) ?_
  refine NoPanic.normal ?_
  clear hHeld d20 f20 dp0 dp1 dp2 dp3 di
  have j1 : (w6.setCell ⟨b, 20, none⟩ (.slice A6 (s.objs.length + 1) c6)).cell? ⟨w.heap.size + 1, 1, none⟩ = some (.int .u8 a) := (World.cell?_of_block (Below.heap_setCell _ _ _ _ (by show w.heap.size + 1 ≠ b; omega))).trans HD.out
  have HF7 := Lib.hid (HF.out.set (s' := { bump s with objs := s.objs ++ [List.replicate z.toNat 0] }) 20 (.slice A6 (s.objs.length + 1) c6) rfl rfl)
  have HB7 := Lib.hid (HBb.out.setCell (p := ⟨b, 20, none⟩) hb (.slice A6 (s.objs.length + 1) c6))
  clear HF HBb HD
  generalize w6.setCell ⟨b, 20, none⟩ (.slice A6 (s.objs.length + 1) c6) = w7 at HE HF7 HB7 j1 ⊢
  have hai : (a : Int) < 8 := by omega
  have e20 : w7.cell? ⟨b, 20, none⟩ = some (.slice A6 (s.objs.length + 1) c6) := HE.out.cell 20
  go_wp2
  go_still_tail 11, (by kernel_rfl)
  change wpList _ _ _ _ _ w7.drew
  have HE8 := Lib.hid (show StR b _ _ _ w7.drew from HE.out.of_block rfl)
  have HF8 := Lib.hid (HF7.out.move (w' := w7.drew) (s' := { bump s with objs := s.objs ++ [List.replicate z.toNat 0] }) (fun _ _ _ => rfl) rfl rfl)
  have HB8 := Lib.hid (show Below W0.heap.size w w7.drew from HB7.out.drew)
  clear HE HF7 HB7 e20 j1
  generalize w7.drew = w8 at HE8 HF8 HB8 ⊢
  have fs := HE8.out.fr (8 + a)
  have cs := HE8.out.p_at a ha
  go_wp2
  go_ret
  exact ⟨rfl, ⟨hb, _, _, HE8.out.p_set a ha _, HF8.out.set _ _ rfl rfl⟩, HB8.out.setCell (p := ⟨b, 8 + a, none⟩) hb _⟩
end Go.Proofs.YtlemecdddhdagaaDoor.P
