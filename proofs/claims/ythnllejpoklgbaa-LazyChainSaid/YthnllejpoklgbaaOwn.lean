/-
  PLAIN WORDS: a block that is known whole; and what a call leaves as it was: all old blocks but some.
-/
import Derived.Below
import Derived.Deep.Draws
import Derived.Laws.Rows
import Derived.OneCell
import Derived.Laws.NewBlocks
namespace Go.Proofs.Ythnllejpoklgbaa
open Go.RowKit

def Blk (w : World) (g : Nat) (t : TypeId) (cs : Array Value) : Prop := w.heap[g]? = some (.cells cs t (0, 0))

structure Own (S : Nat → Prop) (w w' : World) : Prop where
  os : w'.os = w.os
  tape : w'.tape = w.tape
  output : w'.output = w.output
  size : w.heap.size ≤ w'.heap.size
  block : ∀ i, i < w.heap.size → ¬ S i → w'.heap[i]? = w.heap[i]?

section
variable {S S' : Nat → Prop} {w w' w1 : World} {g t : Nat} {cs : Array Value}

theorem Blk.lt (h : Blk w g t cs) : g < w.heap.size := lt_of_block h
theorem Blk.cell (h : Blk w g t cs) (j : Nat) : w.cell? ⟨g, j, none⟩ = cs[j]? := by
  unfold Blk at h
  simp [World.cell?, h]
theorem Blk.frozen (h : Blk w g t cs) (j : Nat) : w.frozen? ⟨g, j, none⟩ = false := by
  unfold Blk at h
  simp [World.frozen?, h]
theorem Blk.set (h : Blk w g t cs) (j : Nat) (u : Value) : Blk (w.setCell ⟨g, j, none⟩ u) g t (cs.setIfInBounds j u) := by
  have hlt := h.lt
  have h' : w.heap[g] = .cells cs t (0, 0) := by
    have := h
    unfold Blk at this
    simpa [Array.getElem?_eq_getElem hlt] using this
  show (w.heap.modify g _)[g]? = _
  rw [Array.getElem?_eq_getElem (by simpa using hlt), Array.getElem_modify_self, h']
  rfl
theorem Blk.set_other (h : Blk w g t cs) (a : Addr) (u : Value) (hn : g ≠ a.block) : Blk (w.setCell a u) g t cs := by
  unfold Blk
  rw [Below.heap_setCell _ _ _ _ hn]
  exact h
theorem Blk.alloc (h : Blk w g t cs) (o : Obj) : Blk (w.alloc o) g t cs := by
  unfold Blk
  rw [Below.heap_alloc _ _ _ h.lt]
  exact h
theorem Blk.new (w : World) (t : Nat) (cs : Array Value) : Blk (w.alloc (.cells cs t)) w.heap.size t cs := by
  show (w.heap.push _)[w.heap.size]? = _
  simp
theorem Blk.drew (h : Blk w g t cs) : Blk w.drew g t cs := h
theorem Blk.drewN (h : Blk w g t cs) (n : Nat) : Blk (w.drewN n) g t cs := h
theorem Blk.own (h : Blk w g t cs) (ho : Own S w w') (hn : ¬ S g) : Blk w' g t cs := (ho.block g h.lt hn).trans h
theorem Blk.below (h : Blk w g t cs) {B : Nat} (ho : Below B w w') (hn : g < B) : Blk w' g t cs := (ho.block g hn).trans h

theorem Own.refl (S : Nat → Prop) (w : World) : Own S w w := ⟨rfl, rfl, rfl, Nat.le_refl _, fun _ _ _ => rfl⟩
theorem Own.trans (h : Own S w w') (k : Own S w' w1) : Own S w w1 :=
  ⟨k.os.trans h.os, k.tape.trans h.tape, k.output.trans h.output, Nat.le_trans h.size k.size, fun i hi hn => (k.block i (Nat.lt_of_lt_of_le hi h.size) hn).trans (h.block i hi hn)⟩
/-- What is written may be more; of blocks that are new nothing is asked. -/
theorem Own.mono (h : Own S w w') (hs : ∀ i, i < w.heap.size → S i → S' i) : Own S' w w' :=
  ⟨h.os, h.tape, h.output, h.size, fun i hi hn => h.block i hi fun hi' => hn (hs i hi hi')⟩
theorem Own.set (h : Own S w w') (a : Addr) (u : Value) (ha : a.block < w.heap.size → S a.block) : Own S w (w'.setCell a u) :=
  ⟨h.os, h.tape, h.output, by simpa [World.setCell] using h.size, fun i hi hn => by
    rw [Below.heap_setCell _ _ _ _ (fun e => by subst e; exact hn (ha hi))]
    exact h.block i hi hn⟩
theorem Own.alloc (h : Own S w w') (o : Obj) : Own S w (w'.alloc o) :=
  ⟨h.os, h.tape, h.output, by have := h.size; simp; omega, fun i hi hn => by
    rw [Below.heap_alloc _ _ _ (Nat.lt_of_lt_of_le hi h.size)]
    exact h.block i hi hn⟩
theorem Own.drew (h : Own S w w') : Own S w w'.drew := ⟨h.os, h.tape, h.output, h.size, h.block⟩
theorem Own.drewN (h : Own S w w') (n : Nat) : Own S w (w'.drewN n) := ⟨h.os, h.tape, h.output, h.size, h.block⟩
/-- One step behind another, where the second writes blocks of its own, or such as the first might write. -/
theorem Own.step (h : Own S w w') (k : Own S' w' w1) (hs : ∀ i, i < w.heap.size → S' i → S i) : Own S w w1 :=
  ⟨k.os.trans h.os, k.tape.trans h.tape, k.output.trans h.output, Nat.le_trans h.size k.size, fun i hi hn => (k.block i (Nat.lt_of_lt_of_le hi h.size) (fun hi' => hn (hs i hi hi'))).trans (h.block i hi hn)⟩
theorem Own.toBelow {B : Nat} (h : Own S w w') (hB : B ≤ w.heap.size) (hs : ∀ i, i < B → ¬ S i) : Below B w w' := ⟨h.os, h.tape, h.output, h.size, fun i hi => h.block i (by omega) (hs i hi)⟩
theorem Below.toOwn {B : Nat} (h : Below B w w') : Own (fun i => B ≤ i) w w' := ⟨h.os, h.tape, h.output, h.size, fun i hi hn => h.block i (by omega)⟩
end
end Go.Proofs.Ythnllejpoklgbaa
