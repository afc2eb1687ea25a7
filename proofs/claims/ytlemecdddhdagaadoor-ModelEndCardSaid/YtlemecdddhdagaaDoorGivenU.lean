/-
  THE STATE WITH WHAT IT OWNS; (*State).do at Print.
-/
import Derived.Test.YtlemecdddhdagaaDoorGivenT
import Derived.Test.YtlemecdddhdagaaDoorWApart
namespace Go.Proofs.YtlemecdddhdagaaDoor.P
open Go.RowKit Go.Proofs.YtlemecdddhdagaaDoorW.PrintWords Go.Proofs.YtlemecdddhdagaaDoorW.PrintLast Go.Proofs.YtlemecdddhdagaaDoorW.PrintMore
set_option linter.unusedVariables false
set_option linter.unusedSimpArgs false
attribute [local go_sem ↓] Go.wp_at_zero Go.wp_at_succ

/-- The state in block b with its own rows, all of them at or above base. -/
structure Rows (base b : Nat) (s : St) (vO vU : Value) (w : World) : Prop where
  objs : Kd.S kRow 28 w base (fun k => k ≠ b ∧ some k ≠ vU.ownBlock) vO s.objs
  out : Kd.R (Kd.int .i64) 2 w base (fun k => k ≠ b) vU s.out
structure OwnM (base b : Nat) (s : St) (w : World) : Prop where
  low : base ≤ b
  ex : ∃ vO vU, StR b s vO vU w ∧ Rows base b s vO vU w
theorem Ow.low {b base : Nat} {w w' : World} (h : Ow b w w') (hb : base ≤ b) (hlt : b < w.heap.size) : Below base w w' :=
  ⟨h.os, h.tape, h.output, h.size, fun i hi => h.block i (by omega) (by omega)⟩
theorem Rows.move {base b : Nat} {s s' : St} {vO vU : Value} {w w' : World} (h : Rows base b s vO vU w) (hm : ∀ k, k ≠ b → k < w.heap.size → w'.heap[k]? = w.heap[k]?) (e1 : s'.objs = s.objs) (e2 : s'.out = s.out) : Rows base b s' vO vU w' := by
  refine ⟨?_, ?_⟩
  · rw [e1]
    exact Kd.S_step h.objs (fun k ho hk => hm k ho.1 hk)
  · rw [e2]
    exact Kd.R_step h.out (fun k ho hk => hm k ho hk)
theorem Rows.ow {base b : Nat} {s s' : St} {vO vU : Value} {w w' : World} (h : Rows base b s vO vU w) (ho : Ow b w w') (e1 : s'.objs = s.objs) (e2 : s'.out = s.out) : Rows base b s' vO vU w' :=
  h.move (fun k hn hk => ho.block k hk hn) e1 e2
theorem Rows.set {base b : Nat} {s s' : St} {vO vU : Value} {w : World} (h : Rows base b s vO vU w) (j : Nat) (u : Value) (e1 : s'.objs = s.objs) (e2 : s'.out = s.out) : Rows base b s' vO vU (w.setCell ⟨b, j, none⟩ u) :=
  h.move (fun k hn _ => Below.heap_setCell w ⟨b, j, none⟩ u k hn) e1 e2
/-- The row of objects is not the row of what was printed, nor the state's block. -/
theorem Rows.apart {base b : Nat} {s : St} {vO vU : Value} {w : World} (h : Rows base b s vO vU w) : ∀ k, vU.ownBlock = some k → some k ≠ vO.ownBlock := by
  intro k hk he
  have := Kd.S_away (g := k) h.objs (fun q hq e => hq.2 (by rw [e, hk]))
  exact this he
theorem Rows.outB {base b : Nat} {s : St} {vO vU : Value} {w : World} (h : Rows base b s vO vU w) : some b ≠ vU.ownBlock := Kd.R_away h.out (fun k hk => hk)
theorem Rows.objB {base b : Nat} {s : St} {vO vU : Value} {w : World} (h : Rows base b s vO vU w) : some b ≠ vO.ownBlock := Kd.S_away h.objs (fun k hk => hk.1)

set_option maxRecDepth 100000 in
set_option maxHeartbeats 3200000 in
theorem do_14 (base b : Nat) (s : St) (vO vU : Value) (a bb cc : Nat) (n : Int) (ha : a < 8) (hlim : (s.out.length + 1) * 8 ≤ 140737488355328) (hb : base ≤ b) (w : World) (h : StR b s vO vU w) (hR : Rows base b s vO vU w) (p0 p1 p2 p3 : Value) :
    Calls Tryd.prog 22 #[.pointer (some ⟨b, 0, none⟩), .agg #[p0, p1, p2, p3], .agg #[.int .u8 14, .int .u8 a, .int .u8 bb, .int .u8 cc, .int .i64 n]] w fun e w' => e = .returned (.int .i64 0) ∧ OwnM base b { bump s with out := s.out ++ [s.x a] } w' ∧ Below base w w' := by
  have hlt := h.lt
  have hne : b ≠ w.heap.size := by omega
  have f22 := h.fr 22
  have f23 := h.fr 23
  have c22 : w.cell? ⟨b, 22, none⟩ = some (.int .i64 s.pc) := h.cell 22
  have c23 : w.cell? ⟨b, 23, none⟩ = some (.int .i64 s.steps) := h.cell 23
  have HP := Aside0.mk (mid_of (P := #[p0, p1, p2, p3]) (I := #[.int .u8 14, .int .u8 a, .int .u8 bb, .int .u8 cc, .int .i64 n]) h)
  have HR := Aside0.mk (hR.ow (s' := bump s) HP.out.ow rfl rfl)
  have HUlt := Lib.hid (Kd.R_lt hR.out)
  clear h hR
  go_enter Tryd.func22, Tryd.ntmps22
  go_wp2
  change Code.wp _ _ _ _ (preW b s #[p0, p1, p2, p3] #[.int .u8 14, .int .u8 a, .int .u8 bb, .int .u8 cc, .int .i64 n] w)
  generalize preW b s #[p0, p1, p2, p3] #[.int .u8 14, .int .u8 a, .int .u8 bb, .int .u8 cc, .int .i64 n] w = W at HP HR ⊢
  clear f22 f23 c22 c23
  have hai : (a : Int) < 8 := by omega
  have i1 : W.drew.cell? ⟨w.heap.size + 1, 1, none⟩ = some (.int .u8 a) := HP.out.ins 1 _ rfl
  have c21 : W.drew.cell? ⟨b, 21, none⟩ = some vU := HP.out.st.cell 21
  have cr0 : W.drew.cell? ⟨b, a, none⟩ = some (.int .i64 (s.x a)) := HP.out.st.x_at a ha
  have HQ := Aside0.mk HP.out.drew
  have HR2 := Aside0.mk (HR.out.move (w' := W.drew) (s' := bump s) (fun _ _ _ => rfl) rfl rfl)
  clear HP HR
  refine wp_region_noPanic ?_
  refine start_ (n := 17) (S := fun w' => w'.cell? ⟨b, 21, none⟩ = some vU ∧ w'.cell? ⟨w.heap.size + 1, 1, none⟩ = some (.int .u8 a) ∧ w'.cell? ⟨b, a, none⟩ = some (.int .i64 (s.x a))) (ds := [16]) #[false, false, false, false, false, false, false, false, false, false, false, false, false, false, false, false, false] (by kernel_rfl) rfl rfl ⟨c21, i1, cr0⟩ (fun hHeld => ?_)
  clear i1 c21 cr0
  generalize W.drew = W2 at HQ HR2 hHeld ⊢
  refine pure_ (i := 0) (N := some 166) (v := ?_) (a' := ?_) #[true, false, false, false, false, false, false, false, false, false, false, false, false, false, false, false, false] rfl rfl (by kernel_rfl) (fun _ _ _ h => h) (Or.inl ⟨by rfl, ?_⟩) ?_ ?_
  rotate_left
  · intro w'
    go_simp
    with_reducible rfl
  rotate_left
  · simp only [Act.put, List.setIfInBounds_toArray, List.set_cons_zero, List.set_cons_succ, i64_w, i32_w]
    rfl
  refine pure_ (i := 1) (N := some 167) (v := ?_) (a' := ?_) #[true, true, false, false, false, false, false, false, false, false, false, false, false, false, false, false, false] rfl rfl (by kernel_rfl) (fun _ _ _ h => h) (Or.inl ⟨by rfl, ?_⟩) ?_ ?_
  rotate_left
  · intro w'
    go_simp
    with_reducible rfl
  rotate_left
  · simp only [Act.put, List.setIfInBounds_toArray, List.set_cons_zero, List.set_cons_succ, i64_w, i32_w]
    rfl
  refine pure_ (i := 2) (N := some 168) (v := ?_) (a' := ?_) #[true, true, true, false, false, false, false, false, false, false, false, false, false, false, false, false, false] rfl rfl (by kernel_rfl) (fun _ _ _ h => h) (Or.inl ⟨by rfl, ?_⟩) ?_ ?_
  rotate_left
  · intro w'
    go_simp
    with_reducible rfl
  rotate_left
  · simp only [Act.put, List.setIfInBounds_toArray, List.set_cons_zero, List.set_cons_succ, i64_w, i32_w]
    rfl
  refine pure_ (i := 3) (N := some 169) (v := ?_) (a' := ?_) #[true, true, true, true, false, false, false, false, false, false, false, false, false, false, false, false, false] rfl rfl (by kernel_rfl) (fun _ _ _ h => h) (Or.inl ⟨by rfl, ?_⟩) ?_ ?_
  rotate_left
  · intro w'
    go_simp
    with_reducible rfl
  rotate_left
  · simp only [Act.put, List.setIfInBounds_toArray, List.set_cons_zero, List.set_cons_succ, i64_w, i32_w]
    rfl
  refine take_ (i := 4) (N := some 170) (v := ?_) (a' := ?_) #[true, true, true, true, true, false, false, false, false, false, false, false, false, false, false, false, false] rfl rfl (by kernel_rfl) (fun _ _ _ h => h) (Or.inl ⟨by rfl, ?_⟩) hHeld ?_ ?_
  rotate_left
  · rintro w' ⟨h21_, h1_, ha_⟩
    go_simp
    with_reducible rfl
  rotate_left
  · simp only [Act.put, List.setIfInBounds_toArray, List.set_cons_zero, List.set_cons_succ, i64_w, i32_w]
    rfl
  refine pure_ (i := 5) (N := some 171) (v := ?_) (a' := ?_) #[true, true, true, true, true, true, false, false, false, false, false, false, false, false, false, false, false] rfl rfl (by kernel_rfl) (fun _ _ _ h => h) (Or.inl ⟨by rfl, ?_⟩) ?_ ?_
  rotate_left
  · intro w'
    go_simp
    with_reducible rfl
  rotate_left
  · simp only [Act.put, List.setIfInBounds_toArray, List.set_cons_zero, List.set_cons_succ, i64_w, i32_w]
    rfl
  refine pure_ (i := 6) (N := some 172) (v := ?_) (a' := ?_) #[true, true, true, true, true, true, true, false, false, false, false, false, false, false, false, false, false] rfl rfl (by kernel_rfl) (fun _ _ _ h => h) (Or.inl ⟨by rfl, ?_⟩) ?_ ?_
  rotate_left
  · intro w'
    go_simp
    with_reducible rfl
  rotate_left
  · simp only [Act.put, List.setIfInBounds_toArray, List.set_cons_zero, List.set_cons_succ, i64_w, i32_w]
    rfl
  refine take_ (i := 7) (N := some 173) (v := ?_) (a' := ?_) #[true, true, true, true, true, true, true, true, false, false, false, false, false, false, false, false, false] rfl rfl (by kernel_rfl) (fun _ _ _ h => h) (Or.inl ⟨by rfl, ?_⟩) hHeld ?_ ?_
  rotate_left
  · rintro w' ⟨h21_, h1_, ha_⟩
    go_simp
    with_reducible rfl
  rotate_left
  · simp only [Act.put, List.setIfInBounds_toArray, List.set_cons_zero, List.set_cons_succ, i64_w, i32_w]
    rfl
  refine pure_ (i := 8) (N := some 174) (v := ?_) (a' := ?_) #[true, true, true, true, true, true, true, true, true, false, false, false, false, false, false, false, false] rfl rfl (by kernel_rfl) (fun _ _ _ h => h) (Or.inl ⟨by rfl, ?_⟩) ?_ ?_
  rotate_left
  · intro w'
    go_simp
    with_reducible rfl
  rotate_left
  · simp only [Act.put, List.setIfInBounds_toArray, List.set_cons_zero, List.set_cons_succ, i64_w, i32_w]
    rfl
  refine pure_ (i := 9) (N := some 175) (v := ?_) (a' := ?_) #[true, true, true, true, true, true, true, true, true, true, false, false, false, false, false, false, false] rfl rfl (by kernel_rfl) (fun _ _ _ h => h) (Or.inl ⟨by rfl, ?_⟩) ?_ ?_
  rotate_left
  · intro w'
    go_simp
    with_reducible rfl
  rotate_left
  · simp only [Act.put, List.setIfInBounds_toArray, List.set_cons_zero, List.set_cons_succ, i64_w, i32_w]
    rfl
  refine pure_ (i := 10) (N := some 176) (v := ?_) (a' := ?_) #[true, true, true, true, true, true, true, true, true, true, true, false, false, false, false, false, false] rfl rfl (by kernel_rfl) (fun _ _ _ h => h) (Or.inl ⟨by rfl, ?_⟩) ?_ ?_
  rotate_left
  · intro w'
    go_simp
    with_reducible rfl
  rotate_left
  · simp only [Act.put, List.setIfInBounds_toArray, List.set_cons_zero, List.set_cons_succ, i64_w, i32_w]
    rfl
  refine take_ (i := 11) (N := some 177) (v := ?_) (a' := ?_) #[true, true, true, true, true, true, true, true, true, true, true, true, false, false, false, false, false] rfl rfl (by kernel_rfl) (fun _ _ _ h => h) (Or.inl ⟨by rfl, ?_⟩) hHeld ?_ ?_
  rotate_left
  · rintro w' ⟨h21_, h1_, ha_⟩
    go_simp
    with_reducible rfl
  rotate_left
  · simp only [Act.put, List.setIfInBounds_toArray, List.set_cons_zero, List.set_cons_succ, i64_w, i32_w]
    rfl
  refine one_ (i := 12) (N := some 178) #[true, true, true, true, true, true, true, true, true, true, true, true, true, false, false, false, false] rfl rfl (by kernel_rfl) (by decide) (fun K hK => ?_)
  obtain ⟨c21, i1, cr0⟩ := hHeld
  have h2 : b < W2.heap.size := HQ.out.st.lt
  have h2a : w.heap.size + 1 < W2.heap.size := by have := HQ.out.size; omega
  refine value_ (w1 := W2.alloc (.cells #[.int .i64 (s.x a)] 2)) (v := .slice (some ⟨W2.heap.size, 0, none⟩) 1 1) (by rfl) rfl ?_ ?_
  · go_simp
  refine hK.out _ _ ⟨(World.cell?_of_block (Below.heap_alloc _ _ _ h2)).trans c21, (World.cell?_of_block (Below.heap_alloc _ _ _ h2a)).trans i1, (World.cell?_of_block (Below.heap_alloc _ _ _ h2)).trans cr0⟩ (fun hHeld => ?_)
  clear hK K
  refine norm_ (a' := ?_) ?_ ?_
  rotate_left
  · show Act.put _ (some 178) _ = _
    simp only [Act.put, List.setIfInBounds_toArray, List.set_cons_zero, List.set_cons_succ, i64_w, i32_w]
    rfl
  refine one_ (i := 13) (N := some 179) #[true, true, true, true, true, true, true, true, true, true, true, true, true, true, false, false, false] rfl rfl (by kernel_rfl) (by decide) (fun K hK => ?_)
  refine Kd.R_append_step (Kd.int .i64) (w0 := w) base (by rfl) (.tmp 170) (.tmp 178) 28 2 (.int .i64 0) 8 rfl (by kernel_rfl) info2 rfl (by decide) (by decide) vU s.out (s.x a) [.int .i64 (s.x a)] (fun k => k ≠ b) (fun _ => False) rfl rfl rfl (fun _ hk => hk.elim) (fun k hk => by omega) HR2.out.out (HQ.out.ow.low hb hlt) (by omega) hlim ?_
  intro vU1 w6 HU6 HB6 hg6 hat6
  obtain ⟨A1, c1, e1⟩ := Kd.R_slice HU6
  obtain ⟨m, hm⟩ : ∃ m, m = (s.out ++ [s.x a]).length := ⟨_, rfl⟩
  rw [← hm] at e1
  subst e1
  have hUb := HR2.out.outB
  have eb : w6.heap[b]? = W2.heap[b]? := hg6.block b h2 hUb
  have ei : w6.heap[w.heap.size + 1]? = W2.heap[w.heap.size + 1]? := hg6.block _ h2a (fun he => by have := HUlt.out _ he.symm; omega)
  have HS6 := Kd.S_after HR2.out.objs hg6 hat6
  have st6 := HQ.out.st.of_block eb
  have d21 : w6.cell? ⟨b, 21, none⟩ = some vU := (World.cell?_of_block eb).trans c21
  have f21 : w6.frozen? ⟨b, 21, none⟩ = false := st6.fr 21
  have d1 : w6.cell? ⟨w.heap.size + 1, 1, none⟩ = some (.int .u8 a) := (World.cell?_of_block ei).trans i1
  have da : w6.cell? ⟨b, a, none⟩ = some (.int .i64 (s.x a)) := (World.cell?_of_block eb).trans cr0
  have HE := Lib.hid (show StR b { bump s with out := s.out ++ [s.x a] } vO (.slice A1 m c1) (w6.setCell ⟨b, 21, none⟩ (.slice A1 m c1)) from st6.out_set (.slice A1 m c1) (s.out ++ [s.x a]))
  have HF := Aside0.mk (show Rows base b { bump s with out := s.out ++ [s.x a] } vO (.slice A1 m c1) w6 from ⟨HS6, HU6⟩)
  have HBb := Lib.hid HB6
  clear hUb eb ei HS6 st6 HQ HR2 HUlt hg6 hat6 HB6 HU6 c21 i1 cr0
  refine hK.out _ _ ⟨d21, d1, da⟩ (fun hHeld => ?_)
  clear hK K
  refine norm_ (a' := ?_) ?_ ?_
  rotate_left
  · show Act.put _ (some 179) _ = _
    simp only [Act.put, List.setIfInBounds_toArray, List.set_cons_zero, List.set_cons_succ, i64_w, i32_w]
    rfl
  refine pure_ (i := 14) (N := some 180) (v := ?_) (a' := ?_) #[true, true, true, true, true, true, true, true, true, true, true, true, true, true, true, false, false] rfl rfl (by kernel_rfl) (fun _ _ _ h => h) (Or.inl ⟨by rfl, ?_⟩) ?_ ?_
  rotate_left
  · intro w'
    go_simp
    with_reducible rfl
  rotate_left
  · simp only [Act.put, List.setIfInBounds_toArray, List.set_cons_zero, List.set_cons_succ, i64_w, i32_w]
    rfl
  refine pure_ (i := 15) (N := some 181) (v := ?_) (a' := ?_) #[true, true, true, true, true, true, true, true, true, true, true, true, true, true, true, true, false] rfl rfl (by kernel_rfl) (fun _ _ _ h => h) (Or.inl ⟨by rfl, ?_⟩) ?_ ?_
  rotate_left
  · intro w'
    go_simp
    with_reducible rfl
  rotate_left
  · simp only [Act.put, List.setIfInBounds_toArray, List.set_cons_zero, List.set_cons_succ, i64_w, i32_w]
    rfl
  refine last_ (i := 16) (N := none) #[true, true, true, true, true, true, true, true, true, true, true, true, true, true, true, true, true] rfl rfl (by kernel_rfl) (by decide) (fun K hK => ?_)
  refine skip_ (w1 := w6.setCell ⟨b, 21, none⟩ (.slice A1 m c1)) (by rfl) rfl ?_ ?_
  · go_simp
  refine hK.out _ _ ?_
  clear hK K
  refine done_ (by kernel_rfl) ?_
  refine NoPanic.normal ?_
  generalize hw7 : w6.setCell ⟨b, 21, none⟩ (.slice A1 m c1) = w7 at HE ⊢
  have HF7 := HF.out.set (s' := { bump s with out := s.out ++ [s.x a] }) 21 (.slice A1 m c1) rfl rfl
  have HB7 : Below base w w7 := hw7 ▸ HBb.out.setCell (p := ⟨b, 21, none⟩) hb _
  rw [hw7] at HF7
  go_wp2
  go_ret
  exact ⟨rfl, ⟨hb, vO, _, HE.out, HF7⟩, HB7⟩
end Go.Proofs.YtlemecdddhdagaaDoor.P
