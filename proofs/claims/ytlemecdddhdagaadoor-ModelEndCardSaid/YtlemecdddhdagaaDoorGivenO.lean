/-
  (State).own: what its loop keeps.
-/
import Derived.Test.YtlemecdddhdagaaDoorGivenC
import Derived.Deep.LoopGhost
import Derived.Laws.Rows
namespace Go.Proofs.YtlemecdddhdagaaDoor.P
open Go.RowKit Go.Proofs.YtlemecdddhdagaaDoorW.PrintWords Go.Proofs.YtlemecdddhdagaaDoorW.PrintLast Go.Proofs.YtlemecdddhdagaaDoorW.PrintMore
set_option linter.unusedVariables false
set_option linter.unusedSimpArgs false
attribute [local go_sem ↓] Go.wp_at_zero Go.wp_at_succ

/-- What a state's value leads to: rows of its own, at or above base. -/
structure RowsV (base : Nat) (s : St) (vO vU : Value) (w : World) : Prop where
  objs : Kd.S kRow 28 w base (fun k => some k ≠ vU.ownBlock) vO s.objs
  out : Kd.R (Kd.int .i64) 2 w base (fun _ => True) vU s.out

/-- own's loop: rows up to i are its own. -/
structure OL (G B1 B2 : Nat) (s : St) (vO vU : Value) (hs0 : List Hd) (i : Nat) (hs : List Hd) (L : Nat → Nat) (w wr : World) : Prop where
  st : StR G s vO vU wr
  row : kH.R 28 wr B1 (fun k => k < B2) vO hs
  len : hs.length = s.objs.length
  out : Kd.R (Kd.int .i64) 2 wr G (fun k => G < k ∧ k < B1) vU s.out
  ord : G < B1 ∧ B1 ≤ B2
  L0 : L 0 = B2
  up : ∀ j, L j ≤ L (j + 1)
  top : L i ≤ wr.heap.size
  mine : ∀ j (hj : j < s.objs.length), j < i → ∃ h, hs[j]? = some h ∧ Kd.R (Kd.int .i64) 2 wr G (fun k => L j ≤ k ∧ k < L (j + 1)) (encH h) s.objs[j]
  todo : ∀ j, i ≤ j → hs[j]? = hs0[j]?
  below : Below G w wr
section
variable {G B1 B2 : Nat} {s : St} {vO vU : Value} {hs0 : List Hd} {i : Nat} {hs : List Hd} {L : Nat → Nat} {w wr w3 : World}
theorem OL.move (h : OL G B1 B2 s vO vU hs0 i hs L w wr) (hb : Below wr.heap.size wr w3) : OL G B1 B2 s vO vU hs0 i hs L w w3 := by
  have hG := h.st.lt
  refine ⟨h.st.of_block (hb.block G hG), Kd.R_step h.row (fun k _ hk => hb.block k hk), h.len, Kd.R_step h.out (fun k _ hk => hb.block k hk), h.ord, h.L0, h.up, Nat.le_trans h.top hb.size, fun j hj hji => ?_, h.todo, h.below.trans (hb.mono (by omega))⟩
  obtain ⟨q, q1, q2⟩ := h.mine j hj hji
  exact ⟨q, q1, Kd.R_step q2 (fun k _ hk => hb.block k hk)⟩
theorem mono_le {L : Nat → Nat} (up : ∀ j, L j ≤ L (j + 1)) : ∀ i j, i ≤ j → L i ≤ L j := fun i j hij => by
  induction hij with
  | refl => exact Nat.le_refl _
  | step _ ih => exact Nat.le_trans ih (up _)
theorem OL.next {g cO : Nat} (h : OL G B1 B2 s (.slice (some ⟨g, 0, none⟩) s.objs.length cO) vU hs0 i hs L w wr) (hi : i < s.objs.length) (hb : Below wr.heap.size wr w3) (h' : Hd) (hv : Kd.R (Kd.int .i64) 2 w3 wr.heap.size (fun _ => True) (encH h') s.objs[i]) :
    OL G B1 B2 s (.slice (some ⟨g, 0, none⟩) s.objs.length cO) vU hs0 (i + 1) (hs.set i h') (fun j => if j ≤ i then L j else w3.heap.size) w (w3.setCell ⟨g, i, none⟩ (encH h')) := by
  have h3 := h.move hb
  obtain ⟨hG1, hB⟩ := h.ord
  have hgB : B1 ≤ g ∧ g < B2 := ⟨Kd.R_base h.row g (by simp [Value.ownBlock]), h.row.1 g (by simp [Value.ownBlock])⟩
  have hLi : B2 ≤ L i := h.L0 ▸ mono_le h.up 0 i (Nat.zero_le _)
  have far : ∀ k, k ≠ g → (w3.setCell ⟨g, i, none⟩ (encH h')).heap[k]? = w3.heap[k]? := fun k hk => Below.heap_setCell w3 ⟨g, i, none⟩ _ k hk
  have hput := Kd.R_putn (h1 := fun _ => rfl) h3.row (i : Int) h'
  rw [Int.toNat_natCast] at hput
  have hsz := hb.size
  refine ⟨h3.st.of_block (far G (by omega)), hput, by rw [List.length_set]; exact h.len, Kd.R_step h3.out (fun k hk _ => far k (by omega)), h.ord, by show (if 0 ≤ i then L 0 else _) = _; rw [if_pos (Nat.zero_le _)]; exact h.L0, fun j => ?_, ?_, fun j hj hji => ?_, fun j hj => ?_, h3.below.setCell (p := ⟨g, i, none⟩) (by show G ≤ g; omega) _⟩
  · show (if j ≤ i then L j else _) ≤ if j + 1 ≤ i then L (j + 1) else _
    have ht := h.top
    have hm := h.up j
    by_cases h1 : j + 1 ≤ i
    · rw [if_pos (by omega), if_pos h1]
      exact hm
    · by_cases h2 : j ≤ i
      · rw [if_pos h2, if_neg h1]
        have := mono_le h.up j i h2
        omega
      · rw [if_neg h2, if_neg h1]
        exact Nat.le_refl _
  · show (if i + 1 ≤ i then _ else w3.heap.size) ≤ _
    rw [if_neg (by omega)]
    simp [World.setCell]
  · by_cases hji2 : j < i
    · obtain ⟨q, q1, q2⟩ := h3.mine j hj hji2
      refine ⟨q, by rw [List.getElem?_set_ne (by omega)]; exact q1, ?_⟩
      have hLj : B2 ≤ L j := h.L0 ▸ mono_le h.up 0 j (Nat.zero_le _)
      refine Kd.R_mono (Kd.R_step q2 (fun k hk _ => far k (by omega))) (fun k hk => ?_)
      show (if j ≤ i then L j else _) ≤ k ∧ k < if j + 1 ≤ i then L (j + 1) else _
      rw [if_pos (by omega), if_pos (by omega)]
      exact hk
    · obtain rfl : j = i := by omega
      refine ⟨h', List.getElem?_set_self (by rw [h.len]; exact hj), ?_⟩
      have ht := h.top
      have hv2 := Kd.R_step (w1 := w3.setCell ⟨g, j, none⟩ (encH h')) (Kd.R_bound hv) (fun k hk _ => far k (by have := hk.2.1; omega))
      refine Kd.R_lower (Kd.R_mono hv2 (fun k hk => ?_)) (by have := h.st.lt; omega)
      show (if j ≤ j then L j else _) ≤ k ∧ k < if j + 1 ≤ j then L (j + 1) else _
      rw [if_pos (Nat.le_refl _), if_neg (by omega)]
      exact ⟨by have := hk.2.1; omega, hk.2.2.1⟩
  · rw [List.getElem?_set_ne (by omega)]
    exact h.todo j (by omega)
/-- At the loop's end all rows are its own. -/
theorem OL.done (h : OL G B1 B2 s vO vU hs0 s.objs.length hs L w wr) : RowsV G s vO vU wr := by
  refine ⟨?_, Kd.R_mono h.out (fun _ _ => trivial)⟩
  have hord := h.ord
  refine rows_of (Kd.R_lower (Kd.R_mono (Kd.R_bound h.row) (ok' := fun k => some k ≠ vU.ownBlock) (fun k hk he => by have := h.out.1 k he.symm; have := hk.2.1; omega)) (by omega)) h.len L h.up (fun k hk => ?_) (fun k hk he => ?_) (fun j hj => h.mine j hj hj)
  · have := h.row.1 k hk
    rw [h.L0]
    exact this
  · have := h.out.1 k he.symm
    have := h.L0
    omega
end
end Go.Proofs.YtlemecdddhdagaaDoor.P
