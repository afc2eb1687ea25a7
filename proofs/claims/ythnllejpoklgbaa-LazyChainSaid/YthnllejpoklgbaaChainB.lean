/-
  LazyChain: what is in memory while the values are made, and between two asks.
-/
import Derived.Test.YthnllejpoklgbaaChainA
namespace Go.Proofs.Ythnllejpoklgbaa.lazyChain
open Go.RowKit Go.Proofs.YthnllejpoklgbaaW.PrintWords
set_option linter.unusedVariables false
set_option linter.unusedSimpArgs false

def upd (f : Nat → Nat) (m b : Nat) : Nat → Nat := fun j => if j = m then b else f j
theorem upd_same (f : Nat → Nat) (m b : Nat) : upd f m b m = b := if_pos rfl
theorem upd_ne {f : Nat → Nat} {m b j : Nat} (h : j ≠ m) : upd f m b j = f j := if_neg h
def ptrs (bv : Nat → Nat) (n : Nat) : List Value := (List.range n).map fun j => .pointer (some ⟨bv j, 0, none⟩)
theorem ptrs_more (bv : Nat → Nat) (m g : Nat) : ptrs (upd bv m g) (m + 1) = ptrs bv m ++ [.pointer (some ⟨g, 0, none⟩)] := by
  unfold ptrs
  rw [List.range_succ, List.map_append]
  congr 1
  · apply List.map_congr_left
    intro j hj
    have := List.mem_range.1 hj
    unfold upd
    rw [if_neg (by omega)]
  · simp [upd]
theorem vs_row {w : World} {base m : Nat} {v : Value} {bv : Nat → Nat} (h : w.ownsRow base 39 1 v m (ptrs bv m)) (hm : 1 ≤ m) :
    ∃ g cap cur, v = .slice (some ⟨g, 0, none⟩) m cap ∧ base ≤ g ∧ Blk w g 39 cur ∧ ∀ j, j < m → cur[j]? = some (.pointer (some ⟨bv j, 0, none⟩)) := by
  obtain ⟨_, ⟨_, h0⟩ | ⟨g, cp, cur, rfl, hg, hc, hmc, _, hs, ht⟩⟩ := h
  · omega
  · refine ⟨g, cp, cur, rfl, hg, hc, fun j hj => ?_⟩
    have := congrArg (fun l => l[j]?) ht
    simp only [Nat.mul_one] at this
    rw [List.getElem?_take, if_pos hj, Array.getElem?_toList] at this
    rw [this]
    simp [ptrs, hj]
theorem vs_none {w : World} {base : Nat} {v : Value} {bv : Nat → Nat} (h : w.ownsRow base 39 1 v 0 (ptrs bv 0)) : ∃ A c, v = .slice A 0 c := own_slice h

/-- n values are laid. -/
structure Bu (w0 w : World) (C V : Nat) (v : Value) (n : Nat) (ib nb bv : Nat → Nat) (zs : List Int) : Prop where
  ch : Ch w C V v n ib nb bv zs 0 0
  row : w.ownsRow w0.heap.size 39 1 v n (ptrs bv n)
  frame : Below w0.heap.size w0 w
  hC : w0.heap.size ≤ C
  hV : w0.heap.size ≤ V
  hbv : ∀ j, j < n → w0.heap.size ≤ bv j
section
variable {w0 w w' : World} {C V n : Nat} {v : Value} {ib nb bv : Nat → Nat} {zs : List Int}
theorem below_own (h : Below w0.heap.size w0 w) {S : Nat → Prop} (ho : Own S w w') (hs : ∀ i, i < w0.heap.size → ¬ S i) : Below w0.heap.size w0 w' :=
  ⟨ho.os.trans h.os, ho.tape.trans h.tape, ho.output.trans h.output, Nat.le_trans h.size ho.size, fun q hq => (ho.block q (Nat.lt_of_lt_of_le hq h.size) (hs q hq)).trans (h.block q hq)⟩
theorem Bu.idle (h : Bu w0 w C V v n ib nb bv zs) (ho : Own (fun _ => False) w w') : Bu w0 w' C V v n ib nb bv zs :=
  ⟨h.ch.idle ho, h.row.kept ⟨ho.os, ho.tape, ho.output, ho.size, fun k hk _ => ho.block k hk id⟩ (row := none) (by cases v.ownBlock <;> simp), below_own h.frame ho fun _ _ => id, h.hC, h.hV, h.hbv⟩
/-- Two blocks are made and written. -/
theorem Bu.fresh {b d : Nat} {wy : World} {o o' : Obj} (h : Bu w0 w C V v n ib nb bv zs) (hb : w.heap.size = b) (hd : b + 1 = d) (hy : (w.alloc o).alloc o' = wy) (x y : Value) : Bu w0 ((wy.setCell ⟨b, 0, none⟩ x).setCell ⟨d, 0, none⟩ y) C V v n ib nb bv zs := by
  subst hy
  refine h.idle ⟨?_, ?_, ?_, ?_, fun i hi _ => ?_⟩
  · rfl
  · rfl
  · rfl
  · simp [World.setCell]
    omega
  · rw [Below.heap_setCell _ _ _ _ (by show i ≠ d; omega), Below.heap_setCell _ _ _ _ (by show i ≠ b; omega), Below.heap_alloc _ _ _ (by simp; omega), Below.heap_alloc _ _ _ hi]
theorem Bu.step {w5 w6 : World} {b d g : Nat} {v1 : Value} (h : Bu w0 w5 C V v n ib nb bv zs) (hb : Blk w5 b 3 #[.int .i64 (n : Int)]) (hd : Blk w5 d 81 #[.int .i8 (zs.getD n 0)])
    (hg : Blk w5 g 92 #[.int .u32 0, .int .i32 0, .int .u32 0, .func (.func 29) #[] (caps C V d b), .int .i64 0, .int .u32 0]) (hgw : w0.heap.size ≤ g)
    (hr6 : w6.ownsRow w0.heap.size 39 1 v1 (n + 1) (ptrs bv n ++ [.pointer (some ⟨g, 0, none⟩)])) (hB6 : Below w0.heap.size w0 w6) (hg6 : w5.grownBy w6 v.ownBlock) :
    Bu w0 (w6.setCell ⟨V, 0, none⟩ v1) C V v1 (n + 1) (upd ib n b) (upd nb n d) (upd bv n g) zs := by
  have away : ∀ q t cs, Blk w5 q t cs → t ≠ 39 → Blk w6 q t cs := fun q t cs hq ht => (hg6.block q hq.lt fun e => by
    obtain ⟨cells, hc⟩ := own_typed h.row q e.symm
    unfold Blk at hq
    rw [hq] at hc
    injection hc with hc
    injection hc with _ hc
    exact ht hc).trans hq
  have box6 := away _ _ _ h.ch.box (by decide)
  have far : ∀ q t cs, Blk w6 q t cs → t ≠ 80 → Blk (w6.setCell ⟨V, 0, none⟩ v1) q t cs := fun q t cs hq ht => hq.set_other ⟨V, 0, none⟩ v1 (blk_ne_type hq box6 ht)
  refine ⟨⟨far _ _ _ (away _ _ _ h.ch.cnt (by decide)) (by decide), box6.set 0 v1, fun j hj => ?_, fun j hj => ?_, fun j hj => ?_⟩, ?_, hB6.setCell (p := ⟨V, 0, none⟩) h.hV _, h.hC, h.hV, fun j hj => ?_⟩
  · by_cases e : j = n
    · subst e
      rw [upd_same]
      exact far _ _ _ (away _ _ _ hb (by decide)) (by decide)
    · rw [upd_ne e]
      exact far _ _ _ (away _ _ _ (h.ch.num j (by omega)) (by decide)) (by decide)
  · by_cases e : j = n
    · subst e
      rw [upd_same]
      exact far _ _ _ (away _ _ _ hd (by decide)) (by decide)
    · rw [upd_ne e]
      exact far _ _ _ (away _ _ _ (h.ch.letter j (by omega)) (by decide)) (by decide)
  · rw [val_off (Nat.zero_le _)]
    by_cases e : j = n
    · subst e
      rw [upd_same, upd_same, upd_same]
      exact far _ _ _ (away _ _ _ hg (by decide)) (by decide)
    · have := h.ch.vals j (by omega)
      rw [val_off (Nat.zero_le _)] at this
      rw [upd_ne e, upd_ne e, upd_ne e]
      exact far _ _ _ (away _ _ _ this (by decide)) (by decide)
  · rw [ptrs_more]
    exact own_setCell (p := ⟨V, 0, none⟩) hr6 (own_ne (g := V) (t := 80) (cs := #[v]) hr6 box6 (by decide)) v1
  · by_cases e : j = n
    · rw [e, upd_same]
      exact hgw
    · rw [upd_ne e]
      exact h.hbv j (by omega)
end

/-- All values are there; the first A are made, the count is c. -/
structure All (w0 w : World) (C V g m cp : Nat) (cur : Array Value) (ib nb bv : Nat → Nat) (zs : List Int) (A c : Nat) : Prop where
  cg : Cg w C V g m cp cur m ib nb bv zs A c
  frame : Below w0.heap.size w0 w
  hC : w0.heap.size ≤ C
  hbv : ∀ j, j < m → w0.heap.size ≤ bv j
section
variable {w0 w w' : World} {C V g m cp : Nat} {cur : Array Value} {ib nb bv : Nat → Nat} {zs : List Int} {A c k : Nat}
theorem Bu.all (h : Bu w0 w C V (.slice (some ⟨g, 0, none⟩) m cp) m ib nb bv zs) (hg : Blk w g 39 cur) : All w0 w C V g m cp cur ib nb bv zs 0 0 := ⟨⟨h.ch, hg⟩, h.frame, h.hC, h.hbv⟩
theorem All.idle (h : All w0 w C V g m cp cur ib nb bv zs A c) (ho : Own (fun _ => False) w w') : All w0 w' C V g m cp cur ib nb bv zs A c := ⟨h.cg.idle ho, below_own h.frame ho fun _ _ => id, h.hC, h.hbv⟩
theorem All.get_first (hm : m ≤ 900) (hz : ∀ j, j < m → -128 ≤ zs.getD j 0 ∧ zs.getD j 0 ≤ 127) (hcur : ∀ q, q < m → cur[q]? = some (.pointer (some ⟨bv q, 0, none⟩))) (hk : k < m) (h : All w0 w C V g m cp cur ib nb bv zs 0 0) :
    Calls Try.prog 22 #[.pointer (some ⟨bv k, 0, none⟩)] w fun e w' => e = .returned (.tuple #[.int .i64 (P zs (k + 1)), .bool true]) ∧ All w0 w' C V g m cp cur ib nb bv zs (k + 1) (k + 1) := by
  refine (fun_all C V g m cp cur ib nb bv zs (by omega) hz hcur k hk w 0 (by omega) (h.cg.less (by omega))).mono ?_
  rintro e w' ⟨rfl, ho, hr⟩
  rw [Nat.zero_add] at hr
  refine ⟨rfl, ⟨⟨⟨hr.ch.cnt, hr.ch.box, fun q hq => ?_, fun q hq => ?_, fun q hq => ?_⟩, hr.row⟩, below_own h.frame ho ?_, h.hC, h.hbv⟩⟩
  · by_cases e : q < k + 1
    · exact hr.ch.num q e
    · refine (h.cg.ch.num q hq).own ho ?_
      rintro (e | ⟨q', hq', e⟩)
      · exact blk_ne_type (h.cg.ch.num q hq) h.cg.ch.cnt (by decide) e
      · exact blk_ne_type (h.cg.ch.num q hq) (h.cg.ch.vals q' (by omega)) (by decide) e
  · by_cases e : q < k + 1
    · exact hr.ch.letter q e
    · refine (h.cg.ch.letter q hq).own ho ?_
      rintro (e | ⟨q', hq', e⟩)
      · exact blk_ne_type (h.cg.ch.letter q hq) h.cg.ch.cnt (by decide) e
      · exact blk_ne_type (h.cg.ch.letter q hq) (h.cg.ch.vals q' (by omega)) (by decide) e
  · by_cases e : q < k + 1
    · exact hr.ch.vals q e
    · have hv := h.cg.ch.vals q hq
      rw [val_off (Nat.zero_le _)] at hv
      rw [val_off (by omega)]
      refine hv.own ho ?_
      rintro (e' | ⟨q', hq', e'⟩)
      · exact blk_ne_type hv h.cg.ch.cnt (by decide) e'
      · have := h.cg.ch.bv_inj hq (by omega) e'
        omega
  · rintro i hi (e | ⟨q', hq', e⟩)
    · have := h.hC
      omega
    · have := h.hbv q' (by omega)
      omega
theorem All.get_again (hk : k < m) (h : All w0 w C V g m cp cur ib nb bv zs (k + 1) (k + 1)) :
    Calls Try.prog 22 #[.pointer (some ⟨bv k, 0, none⟩)] w fun e w' => e = .returned (.tuple #[.int .i64 (P zs (k + 1)), .bool true]) ∧ All w0 w' C V g m cp cur ib nb bv zs (k + 1) (k + 1) := by
  have hv := h.cg.ch.vals k hk
  rw [val_on (Nat.lt_succ_self _)] at hv
  refine (get64_again (bv k) 29 _ (P zs (k + 1)) w hv).mono ?_
  rintro e w' ⟨rfl, ho⟩
  exact ⟨rfl, h.idle ho⟩
/-- Either: nothing made yet, or all up to k. -/
theorem All.get (hm : m ≤ 900) (hz : ∀ j, j < m → -128 ≤ zs.getD j 0 ∧ zs.getD j 0 ≤ 127) (hcur : ∀ q, q < m → cur[q]? = some (.pointer (some ⟨bv q, 0, none⟩))) (hk : k < m) (ha : A = 0 ∨ A = k + 1) (h : All w0 w C V g m cp cur ib nb bv zs A A) :
    Calls Try.prog 22 #[.pointer (some ⟨bv k, 0, none⟩)] w fun e w' => e = .returned (.tuple #[.int .i64 (P zs (k + 1)), .bool true]) ∧ All w0 w' C V g m cp cur ib nb bv zs (k + 1) (k + 1) := by
  rcases ha with rfl | rfl
  · exact h.get_first hm hz hcur hk
  · exact h.get_again hk
theorem All.made (hk : k < m) (h : All w0 w C V g m cp cur ib nb bv zs A c) : Calls Try.prog 21 #[.pointer (some ⟨bv k, 0, none⟩)] w fun e w' => e = .returned (.bool (decide (k < A))) ∧ w = w' := by
  have hv := h.cg.ch.vals k hk
  by_cases e : k < A
  · rw [val_on e] at hv
    rw [decide_eq_true e]
    exact (made64 (bv k) 29 _ _ _ _ _ 1 w hv).mono fun e w' h => h
  · rw [val_off (by omega)] at hv
    rw [decide_eq_false e]
    exact (made64 (bv k) 29 _ _ _ _ _ 0 w hv).mono fun e w' h => h
end
end Go.Proofs.Ythnllejpoklgbaa.lazyChain
