/-
  THE MODEL's STATE IN MEMORY; (*State).do.
-/
import Derived.Test.YtlemecdddhdagaaDoorPx0
import Derived.Lib.Hide
import Derived.Deep.DrawnRows
import Derived.Deep.QuietTactic
import Derived.BigQuiet
import Derived.Deep.RegionHeld3
import Derived.LoopTactic
import Derived.RegionTactic
import Derived.StillTailTactics
namespace Go.Proofs.YtlemecdddhdagaaDoor.P
open Go.RowKit Go.Proofs.YtlemecdddhdagaaDoorW.PrintWords Go.Proofs.YtlemecdddhdagaaDoorW.PrintLast Go.Proofs.YtlemecdddhdagaaDoorW.PrintMore
set_option linter.unusedVariables false
set_option linter.unusedSimpArgs false
attribute [local go_sem ↓] Go.wp_at_zero Go.wp_at_succ

/-- Where a run is. -/
structure St where
  x : Nat → Int
  p : Nat → Int
  g : Nat → Int
  objs : List (List Int)
  out : List Int
  pc : Int
  steps : Int
def upd (f : Nat → Int) (j : Nat) (v : Int) : Nat → Int := fun i => if i = j then v else f i
theorem upd_self (f : Nat → Int) (j : Nat) (v : Int) : upd f j v j = v := if_pos rfl
def cellsS (s : St) (vO vU : Value) : Array Value := #[.int .i64 (s.x 0), .int .i64 (s.x 1), .int .i64 (s.x 2), .int .i64 (s.x 3), .int .i64 (s.x 4), .int .i64 (s.x 5), .int .i64 (s.x 6), .int .i64 (s.x 7), .int .i64 (s.p 0), .int .i64 (s.p 1), .int .i64 (s.p 2), .int .i64 (s.p 3), .int .i64 (s.p 4), .int .i64 (s.p 5), .int .i64 (s.p 6), .int .i64 (s.p 7), .int .i64 (s.g 0), .int .i64 (s.g 1), .int .i64 (s.g 2), .int .i64 (s.g 3), vO, vU, .int .i64 s.pc, .int .i64 s.steps]
/-- What is read of a state in block b. -/
structure StR (b : Nat) (s : St) (vO vU : Value) (w : World) : Prop where
  blk : w.heap[b]? = some (.cells (cellsS s vO vU) 39 (0, 0))
section
variable {b : Nat} {s : St} {vO vU : Value} {w : World}
theorem StR.lt (h : StR b s vO vU w) : b < w.heap.size := (Array.getElem?_eq_some_iff.1 h.blk).1
theorem StR.cell (h : StR b s vO vU w) (j : Nat) : w.cell? ⟨b, j, none⟩ = (cellsS s vO vU)[j]? := by
  simp [World.cell?, h.blk]
theorem StR.fr (h : StR b s vO vU w) (j : Nat) : w.frozen? ⟨b, j, none⟩ = false := by
  simp [World.frozen?, h.blk]
theorem StR.x_at (h : StR b s vO vU w) (j : Nat) (hj : j < 8) : w.cell? ⟨b, j, none⟩ = some (.int .i64 (s.x j)) := by
  rw [h.cell j]
  match j, hj with
  | 0, _ | 1, _ | 2, _ | 3, _ | 4, _ | 5, _ | 6, _ | 7, _ => rfl
theorem StR.p_at (h : StR b s vO vU w) (j : Nat) (hj : j < 8) : w.cell? ⟨b, 8 + j, none⟩ = some (.int .i64 (s.p j)) := by
  rw [h.cell (8 + j)]
  match j, hj with
  | 0, _ | 1, _ | 2, _ | 3, _ | 4, _ | 5, _ | 6, _ | 7, _ => rfl
theorem StR.g_at (h : StR b s vO vU w) (j : Nat) (hj : j < 4) : w.cell? ⟨b, 16 + j, none⟩ = some (.int .i64 (s.g j)) := by
  rw [h.cell (16 + j)]
  match j, hj with
  | 0, _ | 1, _ | 2, _ | 3, _ => rfl
theorem StR.set (h : StR b s vO vU w) (j : Nat) (v : Value) (s' : St) (vO' vU' : Value) (e : (cellsS s vO vU).setIfInBounds j v = cellsS s' vO' vU') : StR b s' vO' vU' (w.setCell ⟨b, j, none⟩ v) := by
  refine ⟨?_⟩
  simp [World.setCell, Array.getElem?_modify, h.blk, e]
theorem StR.x_set (h : StR b s vO vU w) (j : Nat) (hj : j < 8) (v : Int) : StR b { s with x := upd s.x j v } vO vU (w.setCell ⟨b, j, none⟩ (.int .i64 v)) :=
  h.set j _ _ _ _ (by match j, hj with
    | 0, _ | 1, _ | 2, _ | 3, _ | 4, _ | 5, _ | 6, _ | 7, _ => rfl)
theorem StR.p_set (h : StR b s vO vU w) (j : Nat) (hj : j < 8) (v : Int) : StR b { s with p := upd s.p j v } vO vU (w.setCell ⟨b, 8 + j, none⟩ (.int .i64 v)) :=
  h.set (8 + j) _ _ _ _ (by match j, hj with
    | 0, _ | 1, _ | 2, _ | 3, _ | 4, _ | 5, _ | 6, _ | 7, _ => rfl)
theorem StR.g_set (h : StR b s vO vU w) (j : Nat) (hj : j < 4) (v : Int) : StR b { s with g := upd s.g j v } vO vU (w.setCell ⟨b, 16 + j, none⟩ (.int .i64 v)) :=
  h.set (16 + j) _ _ _ _ (by match j, hj with
    | 0, _ | 1, _ | 2, _ | 3, _ => rfl)
theorem StR.pc_set (h : StR b s vO vU w) (v : Int) : StR b { s with pc := v } vO vU (w.setCell ⟨b, 22, none⟩ (.int .i64 v)) := h.set 22 _ _ _ _ rfl
theorem StR.steps_set (h : StR b s vO vU w) (v : Int) : StR b { s with steps := v } vO vU (w.setCell ⟨b, 23, none⟩ (.int .i64 v)) := h.set 23 _ _ _ _ rfl
theorem StR.objs_set (h : StR b s vO vU w) (v : Value) (l : List (List Int)) : StR b { s with objs := l } v vU (w.setCell ⟨b, 20, none⟩ v) := h.set 20 _ _ _ _ rfl
theorem StR.out_set (h : StR b s vO vU w) (v : Value) (l : List Int) : StR b { s with out := l } vO v (w.setCell ⟨b, 21, none⟩ v) := h.set 21 _ _ _ _ rfl
theorem StR.of_block {w' : World} (h : StR b s vO vU w) (e : w'.heap[b]? = w.heap[b]?) : StR b s vO vU w' := ⟨e.trans h.blk⟩
theorem StR.alloc (h : StR b s vO vU w) (o : Obj) : StR b s vO vU (w.alloc o) := h.of_block (Below.heap_alloc w o b h.lt)
end

/-- What a call wrote: block g, and what it made. -/
structure Ow (g : Nat) (w w' : World) : Prop where
  os : w'.os = w.os
  tape : w'.tape = w.tape
  output : w'.output = w.output
  size : w.heap.size ≤ w'.heap.size
  block : ∀ i, i < w.heap.size → i ≠ g → w'.heap[i]? = w.heap[i]?
theorem Ow.refl (g : Nat) (w : World) : Ow g w w := ⟨rfl, rfl, rfl, Nat.le_refl _, fun _ _ _ => rfl⟩
theorem Ow.set {g : Nat} {w w' : World} (h : Ow g w w') (k : Nat) (u : Value) : Ow g w (w'.setCell ⟨g, k, none⟩ u) :=
  ⟨h.os, h.tape, h.output, by have := h.size; simp only [World.setCell, Array.size_modify]; exact this, fun i hi hn => by rw [Below.heap_setCell _ _ _ _ hn]; exact h.block i hi hn⟩
theorem Ow.alloc {g : Nat} {w w' : World} (h : Ow g w w') (o : Obj) : Ow g w (w'.alloc o) :=
  ⟨h.os, h.tape, h.output, by have := h.size; simp only [World.alloc, Array.size_push]; omega, fun i hi hn => (Below.heap_alloc w' o i (Nat.lt_of_lt_of_le hi h.size)).trans (h.block i hi hn)⟩
theorem Ow.drew {g : Nat} {w w' : World} (h : Ow g w w') : Ow g w w'.drew := ⟨h.os, h.tape, h.output, h.size, h.block⟩
theorem Ow.drewN {g : Nat} {w w' : World} (h : Ow g w w') (n : Nat) : Ow g w (w'.drewN n) := ⟨h.os, h.tape, h.output, h.size, h.block⟩
theorem Ow.trans {g : Nat} {a b c : World} (h : Ow g a b) (k : Ow g b c) : Ow g a c :=
  ⟨k.os.trans h.os, k.tape.trans h.tape, k.output.trans h.output, Nat.le_trans h.size k.size, fun i hi hn => (k.block i (Nat.lt_of_lt_of_le hi h.size) hn).trans (h.block i hi hn)⟩
theorem Ow.below {g : Nat} {W w w' : World} (h : Ow g w w') (hW : Below W.heap.size W w) (hg : W.heap.size ≤ g) : Below W.heap.size W w' :=
  ⟨h.os.trans hW.os, h.tape.trans hW.tape, h.output.trans hW.output, Nat.le_trans hW.size h.size, fun i hi => (h.block i (Nat.lt_of_lt_of_le hi hW.size) (by omega)).trans (hW.block i hi)⟩
theorem Ow.of_below {g : Nat} {w w' : World} (h : Below w.heap.size w w') : Ow g w w' := ⟨h.os, h.tape, h.output, h.size, fun i hi _ => h.block i hi⟩

/-- The state behind the step's two counts. -/
def bump (s : St) : St := { s with pc := wrap64 (s.pc + 1), steps := wrap64 (s.steps + 1) }
/-- The world behind the entry and the two counts. -/
def preW (b : Nat) (s : St) (P I : Array Value) (w : World) : World :=
  (((w.setCell ⟨b, 22, none⟩ (.int .i64 (wrap64 (s.pc + 1)))).setCell ⟨b, 23, none⟩ (.int .i64 (wrap64 (s.steps + 1)))).alloc (.cells P 25)).alloc (.cells I 55)
/-- What is known there, and further on. -/
structure Mid (b : Nat) (s : St) (vO vU : Value) (P I : Array Value) (w W : World) : Prop where
  st : StR b s vO vU W
  ow : Ow b w W
  size : w.heap.size + 2 ≤ W.heap.size
  lt : b < w.heap.size
  prog : ∀ (j : Nat) (v : Value), P[j]? = some v → W.cell? ⟨w.heap.size, j, none⟩ = some v
  ins : ∀ (j : Nat) (v : Value), I[j]? = some v → W.cell? ⟨w.heap.size + 1, j, none⟩ = some v
section
variable {b : Nat} {s : St} {vO vU : Value} {P I : Array Value} {w W : World}
theorem Mid.drew (h : Mid b s vO vU P I w W) : Mid b s vO vU P I w W.drew := ⟨h.st.of_block rfl, h.ow.drew, h.size, h.lt, h.prog, h.ins⟩
theorem Mid.drewN (h : Mid b s vO vU P I w W) (n : Nat) : Mid b s vO vU P I w (W.drewN n) := ⟨h.st.of_block rfl, h.ow.drewN n, h.size, h.lt, h.prog, h.ins⟩
theorem Mid.set (h : Mid b s vO vU P I w W) (j : Nat) (v : Value) {s' : St} {vO' vU' : Value} (k : StR b s' vO' vU' (W.setCell ⟨b, j, none⟩ v)) : Mid b s' vO' vU' P I w (W.setCell ⟨b, j, none⟩ v) := by
  have hlt := h.lt
  refine ⟨k, h.ow.set j v, by simp only [World.setCell, Array.size_modify]; exact h.size, h.lt, fun i u hu => ?_, fun i u hu => ?_⟩
  · refine (World.cell?_of_block (a := ⟨w.heap.size, i, none⟩) (Below.heap_setCell W ⟨b, j, none⟩ v w.heap.size (by show w.heap.size ≠ b; omega))).trans (h.prog i u hu)
  · refine (World.cell?_of_block (a := ⟨w.heap.size + 1, i, none⟩) (Below.heap_setCell W ⟨b, j, none⟩ v (w.heap.size + 1) (by show w.heap.size + 1 ≠ b; omega))).trans (h.ins i u hu)
end
theorem mid_of {b : Nat} {s : St} {vO vU : Value} {P I : Array Value} {w : World} (h : StR b s vO vU w) : Mid b (bump s) vO vU P I w (preW b s P I w) := by
  have h1 := (h.pc_set (wrap64 (s.pc + 1))).steps_set (wrap64 (s.steps + 1))
  have hs : ((w.setCell ⟨b, 22, none⟩ (.int .i64 (wrap64 (s.pc + 1)))).setCell ⟨b, 23, none⟩ (.int .i64 (wrap64 (s.steps + 1)))).heap.size = w.heap.size := by simp [World.setCell]
  refine ⟨(h1.alloc _).alloc _, ((((Ow.refl b w).set 22 _).set 23 _).alloc _).alloc _, by simp [preW, World.setCell], h.lt, fun j v hv => ?_, fun j v hv => ?_⟩
  · have e : (preW b s P I w).heap[w.heap.size]? = some (.cells P 25 (0, 0)) := by
      unfold preW
      have h2 := heap_alloc_new ((w.setCell ⟨b, 22, none⟩ (.int .i64 (wrap64 (s.pc + 1)))).setCell ⟨b, 23, none⟩ (.int .i64 (wrap64 (s.steps + 1)))) (.cells P 25)
      rw [hs] at h2
      rw [Below.heap_alloc _ _ _ (by simp [World.setCell])]
      exact h2
    simp only [World.cell?, e]
    exact hv
  · have e : (preW b s P I w).heap[w.heap.size + 1]? = some (.cells I 55 (0, 0)) := by
      unfold preW
      have h2 := heap_alloc_new (((w.setCell ⟨b, 22, none⟩ (.int .i64 (wrap64 (s.pc + 1)))).setCell ⟨b, 23, none⟩ (.int .i64 (wrap64 (s.steps + 1)))).alloc (.cells P 25)) (.cells I 55)
      have hs2 : (((w.setCell ⟨b, 22, none⟩ (.int .i64 (wrap64 (s.pc + 1)))).setCell ⟨b, 23, none⟩ (.int .i64 (wrap64 (s.steps + 1)))).alloc (.cells P 25)).heap.size = w.heap.size + 1 := by simp [World.setCell]
      rw [hs2] at h2
      exact h2
    simp only [World.cell?, e]
    exact hv


set_option maxRecDepth 100000 in
set_option maxHeartbeats 3200000 in
theorem do_1 (b : Nat) (s : St) (vO vU : Value) (a bb cc : Nat) (n : Int) (ha : a < 8) (w : World) (h : StR b s vO vU w) (p0 p1 p2 p3 : Value) :
    Calls Tryd.prog 22 #[.pointer (some ⟨b, 0, none⟩), .agg #[p0, p1, p2, p3], .agg #[.int .u8 1, .int .u8 a, .int .u8 bb, .int .u8 cc, .int .i64 n]] w fun e w' => e = .returned (.int .i64 0) ∧ StR b { bump s with x := upd s.x a n } vO vU w' ∧ Ow b w w' := by
  have hlt := h.lt
  have hne : b ≠ w.heap.size := by omega
  have f22 := h.fr 22
  have f23 := h.fr 23
  have c22 : w.cell? ⟨b, 22, none⟩ = some (.int .i64 s.pc) := h.cell 22
  have c23 : w.cell? ⟨b, 23, none⟩ = some (.int .i64 s.steps) := h.cell 23
  have HP := Aside0.mk (mid_of (P := #[p0, p1, p2, p3]) (I := #[.int .u8 1, .int .u8 a, .int .u8 bb, .int .u8 cc, .int .i64 n]) h)
  clear h
  go_enter Tryd.func22, Tryd.ntmps22
  go_wp2
  change Code.wp _ _ _ _ (preW b s #[p0, p1, p2, p3] #[.int .u8 1, .int .u8 a, .int .u8 bb, .int .u8 cc, .int .i64 n] w)
  generalize preW b s #[p0, p1, p2, p3] #[.int .u8 1, .int .u8 a, .int .u8 bb, .int .u8 cc, .int .i64 n] w = W at HP ⊢
  clear f22 f23 c22 c23
  have i1 : W.cell? ⟨w.heap.size + 1, 1, none⟩ = some (.int .u8 a) := HP.out.ins 1 _ rfl
  have i2 : W.cell? ⟨w.heap.size + 1, 2, none⟩ = some (.int .u8 bb) := HP.out.ins 2 _ rfl
  have i3 : W.cell? ⟨w.heap.size + 1, 3, none⟩ = some (.int .u8 cc) := HP.out.ins 3 _ rfl
  have i4 : W.cell? ⟨w.heap.size + 1, 4, none⟩ = some (.int .i64 n) := HP.out.ins 4 _ rfl
  have hai : (a : Int) < 8 := by omega
  go_still_tail 8, (by kernel_rfl)
  change wpList _ _ _ _ _ W.drew
  have HQ := Aside0.mk HP.out.drew
  clear HP
  generalize W.drew = W2 at HQ ⊢
  have fs := HQ.out.st.fr (a)
  have cs := HQ.out.st.x_at a ha
  go_wp2
  go_ret
  exact ⟨rfl, HQ.out.st.x_set a ha n, HQ.out.ow.set _ _⟩

set_option maxRecDepth 100000 in
set_option maxHeartbeats 3200000 in
theorem do_2 (b : Nat) (s : St) (vO vU : Value) (a bb cc : Nat) (n : Int) (ha : a < 8) (hbb : bb < 8) (hcc : cc < 8) (w : World) (h : StR b s vO vU w) (p0 p1 p2 p3 : Value) :
    Calls Tryd.prog 22 #[.pointer (some ⟨b, 0, none⟩), .agg #[p0, p1, p2, p3], .agg #[.int .u8 2, .int .u8 a, .int .u8 bb, .int .u8 cc, .int .i64 n]] w fun e w' => e = .returned (.int .i64 0) ∧ StR b { bump s with x := upd s.x a (wrap64 (s.x bb + s.x cc)) } vO vU w' ∧ Ow b w w' := by
  have hlt := h.lt
  have hne : b ≠ w.heap.size := by omega
  have f22 := h.fr 22
  have f23 := h.fr 23
  have c22 : w.cell? ⟨b, 22, none⟩ = some (.int .i64 s.pc) := h.cell 22
  have c23 : w.cell? ⟨b, 23, none⟩ = some (.int .i64 s.steps) := h.cell 23
  have HP := Aside0.mk (mid_of (P := #[p0, p1, p2, p3]) (I := #[.int .u8 2, .int .u8 a, .int .u8 bb, .int .u8 cc, .int .i64 n]) h)
  clear h
  go_enter Tryd.func22, Tryd.ntmps22
  go_wp2
  change Code.wp _ _ _ _ (preW b s #[p0, p1, p2, p3] #[.int .u8 2, .int .u8 a, .int .u8 bb, .int .u8 cc, .int .i64 n] w)
  generalize preW b s #[p0, p1, p2, p3] #[.int .u8 2, .int .u8 a, .int .u8 bb, .int .u8 cc, .int .i64 n] w = W at HP ⊢
  clear f22 f23 c22 c23
  have i1 : W.cell? ⟨w.heap.size + 1, 1, none⟩ = some (.int .u8 a) := HP.out.ins 1 _ rfl
  have i2 : W.cell? ⟨w.heap.size + 1, 2, none⟩ = some (.int .u8 bb) := HP.out.ins 2 _ rfl
  have i3 : W.cell? ⟨w.heap.size + 1, 3, none⟩ = some (.int .u8 cc) := HP.out.ins 3 _ rfl
  have i4 : W.cell? ⟨w.heap.size + 1, 4, none⟩ = some (.int .i64 n) := HP.out.ins 4 _ rfl
  have hai : (a : Int) < 8 := by omega
  have hbbi : (bb : Int) < 8 := by omega
  have hcci : (cc : Int) < 8 := by omega
  have cr0 : W.cell? ⟨b, bb, none⟩ = some (.int .i64 (s.x bb)) := HP.out.st.x_at bb hbb
  have cr1 : W.cell? ⟨b, cc, none⟩ = some (.int .i64 (s.x cc)) := HP.out.st.x_at cc hcc
  go_still_tail 21, (by kernel_rfl)
  change wpList _ _ _ _ _ W.drew
  have HQ := Aside0.mk HP.out.drew
  clear HP
  generalize W.drew = W2 at HQ ⊢
  have fs := HQ.out.st.fr (a)
  have cs := HQ.out.st.x_at a ha
  go_wp2
  go_ret
  exact ⟨rfl, HQ.out.st.x_set a ha (wrap64 (s.x bb + s.x cc)), HQ.out.ow.set _ _⟩

set_option maxRecDepth 100000 in
set_option maxHeartbeats 3200000 in
theorem do_6 (b : Nat) (s : St) (vO vU : Value) (a bb cc : Nat) (n : Int) (ha : a < 8) (w : World) (h : StR b s vO vU w) (p0 p1 p2 p3 : Value) :
    Calls Tryd.prog 22 #[.pointer (some ⟨b, 0, none⟩), .agg #[p0, p1, p2, p3], .agg #[.int .u8 6, .int .u8 a, .int .u8 bb, .int .u8 cc, .int .i64 n]] w fun e w' => e = .returned (.int .i64 0) ∧ StR b { bump s with p := upd s.p a 0 } vO vU w' ∧ Ow b w w' := by
  have hlt := h.lt
  have hne : b ≠ w.heap.size := by omega
  have f22 := h.fr 22
  have f23 := h.fr 23
  have c22 : w.cell? ⟨b, 22, none⟩ = some (.int .i64 s.pc) := h.cell 22
  have c23 : w.cell? ⟨b, 23, none⟩ = some (.int .i64 s.steps) := h.cell 23
  have HP := Aside0.mk (mid_of (P := #[p0, p1, p2, p3]) (I := #[.int .u8 6, .int .u8 a, .int .u8 bb, .int .u8 cc, .int .i64 n]) h)
  clear h
  go_enter Tryd.func22, Tryd.ntmps22
  go_wp2
  change Code.wp _ _ _ _ (preW b s #[p0, p1, p2, p3] #[.int .u8 6, .int .u8 a, .int .u8 bb, .int .u8 cc, .int .i64 n] w)
  generalize preW b s #[p0, p1, p2, p3] #[.int .u8 6, .int .u8 a, .int .u8 bb, .int .u8 cc, .int .i64 n] w = W at HP ⊢
  clear f22 f23 c22 c23
  have i1 : W.cell? ⟨w.heap.size + 1, 1, none⟩ = some (.int .u8 a) := HP.out.ins 1 _ rfl
  have i2 : W.cell? ⟨w.heap.size + 1, 2, none⟩ = some (.int .u8 bb) := HP.out.ins 2 _ rfl
  have i3 : W.cell? ⟨w.heap.size + 1, 3, none⟩ = some (.int .u8 cc) := HP.out.ins 3 _ rfl
  have i4 : W.cell? ⟨w.heap.size + 1, 4, none⟩ = some (.int .i64 n) := HP.out.ins 4 _ rfl
  have hai : (a : Int) < 8 := by omega
  go_still_tail 6, (by kernel_rfl)
  change wpList _ _ _ _ _ W.drew
  have HQ := Aside0.mk HP.out.drew
  clear HP
  generalize W.drew = W2 at HQ ⊢
  have fs := HQ.out.st.fr (8 + a)
  have cs := HQ.out.st.p_at a ha
  go_wp2
  go_ret
  exact ⟨rfl, HQ.out.st.p_set a ha 0, HQ.out.ow.set _ _⟩

set_option maxRecDepth 100000 in
set_option maxHeartbeats 3200000 in
theorem do_7 (b : Nat) (s : St) (vO vU : Value) (a bb cc : Nat) (n : Int) (ha : a < 8) (hbb : bb < 8) (w : World) (h : StR b s vO vU w) (p0 p1 p2 p3 : Value) :
    Calls Tryd.prog 22 #[.pointer (some ⟨b, 0, none⟩), .agg #[p0, p1, p2, p3], .agg #[.int .u8 7, .int .u8 a, .int .u8 bb, .int .u8 cc, .int .i64 n]] w fun e w' => e = .returned (.int .i64 0) ∧ StR b { bump s with p := upd s.p a (s.p bb) } vO vU w' ∧ Ow b w w' := by
  have hlt := h.lt
  have hne : b ≠ w.heap.size := by omega
  have f22 := h.fr 22
  have f23 := h.fr 23
  have c22 : w.cell? ⟨b, 22, none⟩ = some (.int .i64 s.pc) := h.cell 22
  have c23 : w.cell? ⟨b, 23, none⟩ = some (.int .i64 s.steps) := h.cell 23
  have HP := Aside0.mk (mid_of (P := #[p0, p1, p2, p3]) (I := #[.int .u8 7, .int .u8 a, .int .u8 bb, .int .u8 cc, .int .i64 n]) h)
  clear h
  go_enter Tryd.func22, Tryd.ntmps22
  go_wp2
  change Code.wp _ _ _ _ (preW b s #[p0, p1, p2, p3] #[.int .u8 7, .int .u8 a, .int .u8 bb, .int .u8 cc, .int .i64 n] w)
  generalize preW b s #[p0, p1, p2, p3] #[.int .u8 7, .int .u8 a, .int .u8 bb, .int .u8 cc, .int .i64 n] w = W at HP ⊢
  clear f22 f23 c22 c23
  have i1 : W.cell? ⟨w.heap.size + 1, 1, none⟩ = some (.int .u8 a) := HP.out.ins 1 _ rfl
  have i2 : W.cell? ⟨w.heap.size + 1, 2, none⟩ = some (.int .u8 bb) := HP.out.ins 2 _ rfl
  have i3 : W.cell? ⟨w.heap.size + 1, 3, none⟩ = some (.int .u8 cc) := HP.out.ins 3 _ rfl
  have i4 : W.cell? ⟨w.heap.size + 1, 4, none⟩ = some (.int .i64 n) := HP.out.ins 4 _ rfl
  have hai : (a : Int) < 8 := by omega
  have hbbi : (bb : Int) < 8 := by omega
  have cr0 : W.cell? ⟨b, 8 + bb, none⟩ = some (.int .i64 (s.p bb)) := HP.out.st.p_at bb hbb
  go_still_tail 13, (by kernel_rfl)
  change wpList _ _ _ _ _ W.drew
  have HQ := Aside0.mk HP.out.drew
  clear HP
  generalize W.drew = W2 at HQ ⊢
  have fs := HQ.out.st.fr (8 + a)
  have cs := HQ.out.st.p_at a ha
  go_wp2
  go_ret
  exact ⟨rfl, HQ.out.st.p_set a ha (s.p bb), HQ.out.ow.set _ _⟩

set_option maxRecDepth 100000 in
set_option maxHeartbeats 3200000 in
theorem do_12 (b : Nat) (s : St) (vO vU : Value) (a bb cc : Nat) (n : Int) (ha : a < 8) (hbb : bb < 4) (w : World) (h : StR b s vO vU w) (p0 p1 p2 p3 : Value) :
    Calls Tryd.prog 22 #[.pointer (some ⟨b, 0, none⟩), .agg #[p0, p1, p2, p3], .agg #[.int .u8 12, .int .u8 a, .int .u8 bb, .int .u8 cc, .int .i64 n]] w fun e w' => e = .returned (.int .i64 0) ∧ StR b { bump s with p := upd s.p a (s.g bb) } vO vU w' ∧ Ow b w w' := by
  have hlt := h.lt
  have hne : b ≠ w.heap.size := by omega
  have f22 := h.fr 22
  have f23 := h.fr 23
  have c22 : w.cell? ⟨b, 22, none⟩ = some (.int .i64 s.pc) := h.cell 22
  have c23 : w.cell? ⟨b, 23, none⟩ = some (.int .i64 s.steps) := h.cell 23
  have HP := Aside0.mk (mid_of (P := #[p0, p1, p2, p3]) (I := #[.int .u8 12, .int .u8 a, .int .u8 bb, .int .u8 cc, .int .i64 n]) h)
  clear h
  go_enter Tryd.func22, Tryd.ntmps22
  go_wp2
  change Code.wp _ _ _ _ (preW b s #[p0, p1, p2, p3] #[.int .u8 12, .int .u8 a, .int .u8 bb, .int .u8 cc, .int .i64 n] w)
  generalize preW b s #[p0, p1, p2, p3] #[.int .u8 12, .int .u8 a, .int .u8 bb, .int .u8 cc, .int .i64 n] w = W at HP ⊢
  clear f22 f23 c22 c23
  have i1 : W.cell? ⟨w.heap.size + 1, 1, none⟩ = some (.int .u8 a) := HP.out.ins 1 _ rfl
  have i2 : W.cell? ⟨w.heap.size + 1, 2, none⟩ = some (.int .u8 bb) := HP.out.ins 2 _ rfl
  have i3 : W.cell? ⟨w.heap.size + 1, 3, none⟩ = some (.int .u8 cc) := HP.out.ins 3 _ rfl
  have i4 : W.cell? ⟨w.heap.size + 1, 4, none⟩ = some (.int .i64 n) := HP.out.ins 4 _ rfl
  have hai : (a : Int) < 8 := by omega
  have hbbi : (bb : Int) < 4 := by omega
  have cr0 : W.cell? ⟨b, 16 + bb, none⟩ = some (.int .i64 (s.g bb)) := HP.out.st.g_at bb hbb
  go_still_tail 13, (by kernel_rfl)
  change wpList _ _ _ _ _ W.drew
  have HQ := Aside0.mk HP.out.drew
  clear HP
  generalize W.drew = W2 at HQ ⊢
  have fs := HQ.out.st.fr (8 + a)
  have cs := HQ.out.st.p_at a ha
  go_wp2
  go_ret
  exact ⟨rfl, HQ.out.st.p_set a ha (s.g bb), HQ.out.ow.set _ _⟩

set_option maxRecDepth 100000 in
set_option maxHeartbeats 3200000 in
theorem do_13 (b : Nat) (s : St) (vO vU : Value) (a bb cc : Nat) (n : Int) (ha : a < 4) (hbb : bb < 8) (w : World) (h : StR b s vO vU w) (p0 p1 p2 p3 : Value) :
    Calls Tryd.prog 22 #[.pointer (some ⟨b, 0, none⟩), .agg #[p0, p1, p2, p3], .agg #[.int .u8 13, .int .u8 a, .int .u8 bb, .int .u8 cc, .int .i64 n]] w fun e w' => e = .returned (.int .i64 0) ∧ StR b { bump s with g := upd s.g a (s.p bb) } vO vU w' ∧ Ow b w w' := by
  have hlt := h.lt
  have hne : b ≠ w.heap.size := by omega
  have f22 := h.fr 22
  have f23 := h.fr 23
  have c22 : w.cell? ⟨b, 22, none⟩ = some (.int .i64 s.pc) := h.cell 22
  have c23 : w.cell? ⟨b, 23, none⟩ = some (.int .i64 s.steps) := h.cell 23
  have HP := Aside0.mk (mid_of (P := #[p0, p1, p2, p3]) (I := #[.int .u8 13, .int .u8 a, .int .u8 bb, .int .u8 cc, .int .i64 n]) h)
  clear h
  go_enter Tryd.func22, Tryd.ntmps22
  go_wp2
  change Code.wp _ _ _ _ (preW b s #[p0, p1, p2, p3] #[.int .u8 13, .int .u8 a, .int .u8 bb, .int .u8 cc, .int .i64 n] w)
  generalize preW b s #[p0, p1, p2, p3] #[.int .u8 13, .int .u8 a, .int .u8 bb, .int .u8 cc, .int .i64 n] w = W at HP ⊢
  clear f22 f23 c22 c23
  have i1 : W.cell? ⟨w.heap.size + 1, 1, none⟩ = some (.int .u8 a) := HP.out.ins 1 _ rfl
  have i2 : W.cell? ⟨w.heap.size + 1, 2, none⟩ = some (.int .u8 bb) := HP.out.ins 2 _ rfl
  have i3 : W.cell? ⟨w.heap.size + 1, 3, none⟩ = some (.int .u8 cc) := HP.out.ins 3 _ rfl
  have i4 : W.cell? ⟨w.heap.size + 1, 4, none⟩ = some (.int .i64 n) := HP.out.ins 4 _ rfl
  have hai : (a : Int) < 4 := by omega
  have hbbi : (bb : Int) < 8 := by omega
  have cr0 : W.cell? ⟨b, 8 + bb, none⟩ = some (.int .i64 (s.p bb)) := HP.out.st.p_at bb hbb
  go_still_tail 13, (by kernel_rfl)
  change wpList _ _ _ _ _ W.drew
  have HQ := Aside0.mk HP.out.drew
  clear HP
  generalize W.drew = W2 at HQ ⊢
  have fs := HQ.out.st.fr (16 + a)
  have cs := HQ.out.st.g_at a ha
  go_wp2
  go_ret
  exact ⟨rfl, HQ.out.st.g_set a ha (s.p bb), HQ.out.ow.set _ _⟩

set_option maxRecDepth 100000 in
set_option maxHeartbeats 3200000 in
theorem do_3 (b : Nat) (s : St) (vO vU : Value) (a bb cc : Nat) (n : Int) (w : World) (h : StR b s vO vU w) (p0 p1 p2 p3 : Value) :
    Calls Tryd.prog 22 #[.pointer (some ⟨b, 0, none⟩), .agg #[p0, p1, p2, p3], .agg #[.int .u8 3, .int .u8 a, .int .u8 bb, .int .u8 cc, .int .i64 n]] w fun e w' => e = .returned (.int .i64 0) ∧ StR b { bump s with pc := n } vO vU w' ∧ Ow b w w' := by
  have hlt := h.lt
  have hne : b ≠ w.heap.size := by omega
  have f22 := h.fr 22
  have f23 := h.fr 23
  have c22 : w.cell? ⟨b, 22, none⟩ = some (.int .i64 s.pc) := h.cell 22
  have c23 : w.cell? ⟨b, 23, none⟩ = some (.int .i64 s.steps) := h.cell 23
  have HP := Aside0.mk (mid_of (P := #[p0, p1, p2, p3]) (I := #[.int .u8 3, .int .u8 a, .int .u8 bb, .int .u8 cc, .int .i64 n]) h)
  clear h
  go_enter Tryd.func22, Tryd.ntmps22
  go_upto_region 10 with (fail)
  change Code.wp _ _ _ _ (preW b s #[p0, p1, p2, p3] #[.int .u8 3, .int .u8 a, .int .u8 bb, .int .u8 cc, .int .i64 n] w)
  generalize preW b s #[p0, p1, p2, p3] #[.int .u8 3, .int .u8 a, .int .u8 bb, .int .u8 cc, .int .i64 n] w = W at HP ⊢
  clear f22 f23 c22 c23
  have i1 : W.cell? ⟨w.heap.size + 1, 1, none⟩ = some (.int .u8 a) := HP.out.ins 1 _ rfl
  have i2 : W.cell? ⟨w.heap.size + 1, 2, none⟩ = some (.int .u8 bb) := HP.out.ins 2 _ rfl
  have i3 : W.cell? ⟨w.heap.size + 1, 3, none⟩ = some (.int .u8 cc) := HP.out.ins 3 _ rfl
  have i4 : W.cell? ⟨w.heap.size + 1, 4, none⟩ = some (.int .i64 n) := HP.out.ins 4 _ rfl
  have fs := HP.out.st.fr 22
  have cs : W.cell? ⟨b, 22, none⟩ = some (.int .i64 (bump s).pc) := HP.out.st.cell 22
  go_wp2
  go_ret
  exact ⟨rfl, HP.out.st.pc_set n, HP.out.ow.set _ _⟩

set_option maxRecDepth 100000 in
set_option maxHeartbeats 3200000 in
theorem do_4_yes (b : Nat) (s : St) (vO vU : Value) (a bb cc : Nat) (n : Int) (ha : a < 8) (hz : s.x a = 0) (w : World) (h : StR b s vO vU w) (p0 p1 p2 p3 : Value) :
    Calls Tryd.prog 22 #[.pointer (some ⟨b, 0, none⟩), .agg #[p0, p1, p2, p3], .agg #[.int .u8 4, .int .u8 a, .int .u8 bb, .int .u8 cc, .int .i64 n]] w fun e w' => e = .returned (.int .i64 0) ∧ StR b { bump s with pc := n } vO vU w' ∧ Ow b w w' := by
  have hlt := h.lt
  have hne : b ≠ w.heap.size := by omega
  have f22 := h.fr 22
  have f23 := h.fr 23
  have c22 : w.cell? ⟨b, 22, none⟩ = some (.int .i64 s.pc) := h.cell 22
  have c23 : w.cell? ⟨b, 23, none⟩ = some (.int .i64 s.steps) := h.cell 23
  have HP := Aside0.mk (mid_of (P := #[p0, p1, p2, p3]) (I := #[.int .u8 4, .int .u8 a, .int .u8 bb, .int .u8 cc, .int .i64 n]) h)
  clear h
  go_enter Tryd.func22, Tryd.ntmps22
  go_wp2
  change Code.wp _ _ _ _ (preW b s #[p0, p1, p2, p3] #[.int .u8 4, .int .u8 a, .int .u8 bb, .int .u8 cc, .int .i64 n] w)
  generalize preW b s #[p0, p1, p2, p3] #[.int .u8 4, .int .u8 a, .int .u8 bb, .int .u8 cc, .int .i64 n] w = W at HP ⊢
  clear f22 f23 c22 c23
  have i1 : W.cell? ⟨w.heap.size + 1, 1, none⟩ = some (.int .u8 a) := HP.out.ins 1 _ rfl
  have i2 : W.cell? ⟨w.heap.size + 1, 2, none⟩ = some (.int .u8 bb) := HP.out.ins 2 _ rfl
  have i3 : W.cell? ⟨w.heap.size + 1, 3, none⟩ = some (.int .u8 cc) := HP.out.ins 3 _ rfl
  have i4 : W.cell? ⟨w.heap.size + 1, 4, none⟩ = some (.int .i64 n) := HP.out.ins 4 _ rfl
  have hai : (a : Int) < 8 := by omega
  have cr0 : W.cell? ⟨b, a, none⟩ = some (.int .i64 0) := by rw [HP.out.st.x_at a ha]; show some (Value.int .i64 (s.x a)) = _; rw [hz]
  clear hz
  go_quiet (fail)
  rename_i nq
  have HQ := Aside0.mk (HP.out.drewN nq)
  clear HP cr0
  generalize W.drewN nq = W2 at HQ ⊢
  have i4' : W2.cell? ⟨w.heap.size + 1, 4, none⟩ = some (.int .i64 n) := HQ.out.ins 4 _ rfl
  have fs := HQ.out.st.fr 22
  have cs : W2.cell? ⟨b, 22, none⟩ = some (.int .i64 (bump s).pc) := HQ.out.st.cell 22
  go_wp2
  go_ret
  exact ⟨rfl, HQ.out.st.pc_set n, HQ.out.ow.set _ _⟩

set_option maxRecDepth 100000 in
set_option maxHeartbeats 3200000 in
theorem do_4_no (b : Nat) (s : St) (vO vU : Value) (a bb cc : Nat) (n : Int) (ha : a < 8) (hz : s.x a ≠ 0) (w : World) (h : StR b s vO vU w) (p0 p1 p2 p3 : Value) :
    Calls Tryd.prog 22 #[.pointer (some ⟨b, 0, none⟩), .agg #[p0, p1, p2, p3], .agg #[.int .u8 4, .int .u8 a, .int .u8 bb, .int .u8 cc, .int .i64 n]] w fun e w' => e = .returned (.int .i64 0) ∧ StR b (bump s) vO vU w' ∧ Ow b w w' := by
  have hlt := h.lt
  have hne : b ≠ w.heap.size := by omega
  have f22 := h.fr 22
  have f23 := h.fr 23
  have c22 : w.cell? ⟨b, 22, none⟩ = some (.int .i64 s.pc) := h.cell 22
  have c23 : w.cell? ⟨b, 23, none⟩ = some (.int .i64 s.steps) := h.cell 23
  have HP := Aside0.mk (mid_of (P := #[p0, p1, p2, p3]) (I := #[.int .u8 4, .int .u8 a, .int .u8 bb, .int .u8 cc, .int .i64 n]) h)
  clear h
  go_enter Tryd.func22, Tryd.ntmps22
  go_wp2
  change Code.wp _ _ _ _ (preW b s #[p0, p1, p2, p3] #[.int .u8 4, .int .u8 a, .int .u8 bb, .int .u8 cc, .int .i64 n] w)
  generalize preW b s #[p0, p1, p2, p3] #[.int .u8 4, .int .u8 a, .int .u8 bb, .int .u8 cc, .int .i64 n] w = W at HP ⊢
  clear f22 f23 c22 c23
  have i1 : W.cell? ⟨w.heap.size + 1, 1, none⟩ = some (.int .u8 a) := HP.out.ins 1 _ rfl
  have i2 : W.cell? ⟨w.heap.size + 1, 2, none⟩ = some (.int .u8 bb) := HP.out.ins 2 _ rfl
  have i3 : W.cell? ⟨w.heap.size + 1, 3, none⟩ = some (.int .u8 cc) := HP.out.ins 3 _ rfl
  have i4 : W.cell? ⟨w.heap.size + 1, 4, none⟩ = some (.int .i64 n) := HP.out.ins 4 _ rfl
  have hai : (a : Int) < 8 := by omega
  have cr0 : W.cell? ⟨b, a, none⟩ = some (.int .i64 (s.x a)) := HP.out.st.x_at a ha
  have hzb : (s.x a == 0) = false := beq_eq_false_iff_ne.2 hz
  clear hz
  go_quiet (fail)
  rename_i nq
  have HQ := Aside0.mk (HP.out.drewN nq)
  clear HP cr0
  generalize W.drewN nq = W2 at HQ ⊢
  go_wp2
  go_ret
  exact ⟨rfl, HQ.out.st, HQ.out.ow⟩

set_option maxRecDepth 100000 in
set_option maxHeartbeats 3200000 in
theorem do_15_yes (b : Nat) (s : St) (vO vU : Value) (a bb cc : Nat) (n : Int) (ha : a < 8) (hbb : bb < 8) (hcc : cc < 8) (hz : s.p bb = s.p cc) (w : World) (h : StR b s vO vU w) (p0 p1 p2 p3 : Value) :
    Calls Tryd.prog 22 #[.pointer (some ⟨b, 0, none⟩), .agg #[p0, p1, p2, p3], .agg #[.int .u8 15, .int .u8 a, .int .u8 bb, .int .u8 cc, .int .i64 n]] w fun e w' => e = .returned (.int .i64 0) ∧ StR b { bump s with x := upd (upd s.x a 0) a 1 } vO vU w' ∧ Ow b w w' := by
  have hlt := h.lt
  have hne : b ≠ w.heap.size := by omega
  have f22 := h.fr 22
  have f23 := h.fr 23
  have c22 : w.cell? ⟨b, 22, none⟩ = some (.int .i64 s.pc) := h.cell 22
  have c23 : w.cell? ⟨b, 23, none⟩ = some (.int .i64 s.steps) := h.cell 23
  have HP := Aside0.mk (mid_of (P := #[p0, p1, p2, p3]) (I := #[.int .u8 15, .int .u8 a, .int .u8 bb, .int .u8 cc, .int .i64 n]) h)
  clear h
  go_enter Tryd.func22, Tryd.ntmps22
  go_wp2
  change Code.wp _ _ _ _ (preW b s #[p0, p1, p2, p3] #[.int .u8 15, .int .u8 a, .int .u8 bb, .int .u8 cc, .int .i64 n] w)
  generalize preW b s #[p0, p1, p2, p3] #[.int .u8 15, .int .u8 a, .int .u8 bb, .int .u8 cc, .int .i64 n] w = W at HP ⊢
  clear f22 f23 c22 c23
  have i1 : W.cell? ⟨w.heap.size + 1, 1, none⟩ = some (.int .u8 a) := HP.out.ins 1 _ rfl
  have i2 : W.cell? ⟨w.heap.size + 1, 2, none⟩ = some (.int .u8 bb) := HP.out.ins 2 _ rfl
  have i3 : W.cell? ⟨w.heap.size + 1, 3, none⟩ = some (.int .u8 cc) := HP.out.ins 3 _ rfl
  have i4 : W.cell? ⟨w.heap.size + 1, 4, none⟩ = some (.int .i64 n) := HP.out.ins 4 _ rfl
  have hai : (a : Int) < 8 := by omega
  have hbbi : (bb : Int) < 8 := by omega
  have hcci : (cc : Int) < 8 := by omega
  go_still_tail 6, (by kernel_rfl)
  change wpList _ _ _ _ _ W.drew
  have HQ := Aside0.mk HP.out.drew
  clear HP
  generalize W.drew = W2 at HQ ⊢
  have fs := HQ.out.st.fr (a)
  have cs := HQ.out.st.x_at a ha
  go_wp2
  change Code.wp _ _ _ _ (W2.setCell ⟨b, a, none⟩ (.int .i64 0))
  have HR := Aside0.mk (HQ.out.set _ _ (HQ.out.st.x_set a ha 0))
  clear HQ fs cs
  generalize W2.setCell ⟨b, a, none⟩ (.int .i64 0) = W3 at HR ⊢
  have j2 : W3.cell? ⟨w.heap.size + 1, 2, none⟩ = some (.int .u8 bb) := HR.out.ins 2 _ rfl
  have j3 : W3.cell? ⟨w.heap.size + 1, 3, none⟩ = some (.int .u8 cc) := HR.out.ins 3 _ rfl
  have cb : W3.cell? ⟨b, 8 + bb, none⟩ = some (.int .i64 (s.p cc)) := by rw [HR.out.st.p_at bb hbb]; show some (Value.int .i64 (s.p bb)) = _; rw [hz]
  have cc_ : W3.cell? ⟨b, 8 + cc, none⟩ = some (.int .i64 (s.p cc)) := HR.out.st.p_at cc hcc
  clear hz
  go_quiet (fail)
  rename_i nq
  have HT := Aside0.mk (HR.out.drewN nq)
  clear HR cb cc_ j2 j3
  generalize W3.drewN nq = W4 at HT ⊢
  have k1 : W4.cell? ⟨w.heap.size + 1, 1, none⟩ = some (.int .u8 a) := HT.out.ins 1 _ rfl
  go_wp2
  go_still_tail 6, (by kernel_rfl)
  change wpList _ _ _ _ _ W4.drew
  have HU := Aside0.mk HT.out.drew
  clear HT
  generalize W4.drew = W5 at HU ⊢
  have fs := HU.out.st.fr a
  have cs := HU.out.st.x_at a ha
  go_wp2
  go_ret
  exact ⟨rfl, HU.out.st.x_set a ha 1, HU.out.ow.set _ _⟩

set_option maxRecDepth 100000 in
set_option maxHeartbeats 3200000 in
theorem do_15_no (b : Nat) (s : St) (vO vU : Value) (a bb cc : Nat) (n : Int) (ha : a < 8) (hbb : bb < 8) (hcc : cc < 8) (hz : s.p bb ≠ s.p cc) (w : World) (h : StR b s vO vU w) (p0 p1 p2 p3 : Value) :
    Calls Tryd.prog 22 #[.pointer (some ⟨b, 0, none⟩), .agg #[p0, p1, p2, p3], .agg #[.int .u8 15, .int .u8 a, .int .u8 bb, .int .u8 cc, .int .i64 n]] w fun e w' => e = .returned (.int .i64 0) ∧ StR b { bump s with x := upd s.x a 0 } vO vU w' ∧ Ow b w w' := by
  have hlt := h.lt
  have hne : b ≠ w.heap.size := by omega
  have f22 := h.fr 22
  have f23 := h.fr 23
  have c22 : w.cell? ⟨b, 22, none⟩ = some (.int .i64 s.pc) := h.cell 22
  have c23 : w.cell? ⟨b, 23, none⟩ = some (.int .i64 s.steps) := h.cell 23
  have HP := Aside0.mk (mid_of (P := #[p0, p1, p2, p3]) (I := #[.int .u8 15, .int .u8 a, .int .u8 bb, .int .u8 cc, .int .i64 n]) h)
  clear h
  go_enter Tryd.func22, Tryd.ntmps22
  go_wp2
  change Code.wp _ _ _ _ (preW b s #[p0, p1, p2, p3] #[.int .u8 15, .int .u8 a, .int .u8 bb, .int .u8 cc, .int .i64 n] w)
  generalize preW b s #[p0, p1, p2, p3] #[.int .u8 15, .int .u8 a, .int .u8 bb, .int .u8 cc, .int .i64 n] w = W at HP ⊢
  clear f22 f23 c22 c23
  have i1 : W.cell? ⟨w.heap.size + 1, 1, none⟩ = some (.int .u8 a) := HP.out.ins 1 _ rfl
  have i2 : W.cell? ⟨w.heap.size + 1, 2, none⟩ = some (.int .u8 bb) := HP.out.ins 2 _ rfl
  have i3 : W.cell? ⟨w.heap.size + 1, 3, none⟩ = some (.int .u8 cc) := HP.out.ins 3 _ rfl
  have i4 : W.cell? ⟨w.heap.size + 1, 4, none⟩ = some (.int .i64 n) := HP.out.ins 4 _ rfl
  have hai : (a : Int) < 8 := by omega
  have hbbi : (bb : Int) < 8 := by omega
  have hcci : (cc : Int) < 8 := by omega
  go_still_tail 6, (by kernel_rfl)
  change wpList _ _ _ _ _ W.drew
  have HQ := Aside0.mk HP.out.drew
  clear HP
  generalize W.drew = W2 at HQ ⊢
  have fs := HQ.out.st.fr (a)
  have cs := HQ.out.st.x_at a ha
  go_wp2
  change Code.wp _ _ _ _ (W2.setCell ⟨b, a, none⟩ (.int .i64 0))
  have HR := Aside0.mk (HQ.out.set _ _ (HQ.out.st.x_set a ha 0))
  clear HQ fs cs
  generalize W2.setCell ⟨b, a, none⟩ (.int .i64 0) = W3 at HR ⊢
  have j2 : W3.cell? ⟨w.heap.size + 1, 2, none⟩ = some (.int .u8 bb) := HR.out.ins 2 _ rfl
  have j3 : W3.cell? ⟨w.heap.size + 1, 3, none⟩ = some (.int .u8 cc) := HR.out.ins 3 _ rfl
  have cb : W3.cell? ⟨b, 8 + bb, none⟩ = some (.int .i64 (s.p bb)) := HR.out.st.p_at bb hbb
  have hzb : (s.p bb == s.p cc) = false := beq_eq_false_iff_ne.2 hz
  have cc_ : W3.cell? ⟨b, 8 + cc, none⟩ = some (.int .i64 (s.p cc)) := HR.out.st.p_at cc hcc
  clear hz
  go_quiet (fail)
  rename_i nq
  have HT := Aside0.mk (HR.out.drewN nq)
  clear HR cb cc_ j2 j3
  generalize W3.drewN nq = W4 at HT ⊢
  have k1 : W4.cell? ⟨w.heap.size + 1, 1, none⟩ = some (.int .u8 a) := HT.out.ins 1 _ rfl
  go_wp2
  go_ret
  exact ⟨rfl, HT.out.st, HT.out.ow⟩

end Go.Proofs.YtlemecdddhdagaaDoor.P
