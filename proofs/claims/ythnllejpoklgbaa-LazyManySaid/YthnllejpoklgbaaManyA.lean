/-
  LazyMany: what is in memory: the row of calls, the values and their numbers; the closure's contract.
-/
import Derived.Test.YthnllejpoklgbaaGetInt
import Derived.Test.YthnllejpoklgbaaWWords
import Derived.Deep.OwnRows
import Derived.LoopTactic
namespace Go.Proofs.Ythnllejpoklgbaa.lazyMany
open Go.RowKit
set_option linter.unusedVariables false
set_option linter.unusedSimpArgs false
attribute [local go_sem ↓] Go.wp_at_zero Go.wp_at_succ

def cv (A : Nat → Bool) (i : Nat) : Value := .int .i64 (if A i then 1 else 0)
def setA (A : Nat → Bool) (j : Nat) : Nat → Bool := fun i => i == j || A i
def val (C : Nat) (bi : Nat → Nat) (A : Nat → Bool) (j : Nat) : Array Value :=
  if A j then #[.int .u32 1, .int .i32 0, .int .u32 0, .func (.func 24) #[] #[.pointer (some ⟨C, 0, none⟩), .pointer (some ⟨bi j, 0, none⟩)], .int .i64 (10 * (j : Int)), .int .u32 1]
  else #[.int .u32 0, .int .i32 0, .int .u32 0, .func (.func 24) #[] #[.pointer (some ⟨C, 0, none⟩), .pointer (some ⟨bi j, 0, none⟩)], .int .i64 0, .int .u32 0]
/-- n values of k, those in A made. -/
structure St (w : World) (C R k n : Nat) (bi bv : Nat → Nat) (A : Nat → Bool) : Prop where
  box : Blk w C 45 #[.slice (some ⟨R, 0, none⟩) k k]
  row : w.rowIs R 3 k (cv A)
  num : ∀ j, j < n → Blk w (bi j) 3 #[.int .i64 (j : Int)]
  vals : ∀ j, j < n → Blk w (bv j) 96 (val C bi A j)
  far : ∀ j, j < n → bi j ≠ R
section
variable {w w' : World} {C R k n : Nat} {bi bv : Nat → Nat} {A : Nat → Bool}
theorem blk_ne_type {g g' t t' : Nat} {cs cs' : Array Value} (h : Blk w g t cs) (h' : Blk w g' t' cs') (hne : t ≠ t') : g ≠ g' := by
  rintro rfl
  unfold Blk at h h'
  rw [h] at h'
  injection h' with h'
  injection h' with _ h'
  exact hne h'
theorem row_ne {g t : Nat} {cs : Array Value} {f : Nat → Value} (h : w.rowIs R 3 k f) (h' : Blk w g t cs) (hne : t ≠ 3) : g ≠ R := by
  rintro rfl
  obtain ⟨c, hc, _⟩ := h
  unfold Blk at h'
  rw [hc] at h'
  injection h' with h'
  injection h' with _ h'
  exact hne h'.symm
theorem St.bi_inj (h : St w C R k n bi bv A) {i j : Nat} (hi : i < n) (hj : j < n) (e : bi i = bi j) : i = j := by
  have a := h.num i hi
  have b := h.num j hj
  rw [e] at a
  unfold Blk at a b
  rw [a] at b
  injection b with b
  injection b with b
  have : (Value.int .i64 (i : Int)) = .int .i64 (j : Int) := by
    have := congrArg (fun x => x[0]?) b
    simpa using this
  injection this with _ this
  omega
theorem val3 (C : Nat) (bi : Nat → Nat) (A : Nat → Bool) (j : Nat) : (val C bi A j)[3]? = some (.func (.func 24) #[] #[.pointer (some ⟨C, 0, none⟩), .pointer (some ⟨bi j, 0, none⟩)]) := by
  unfold val
  split <;> rfl
theorem St.bv_inj (h : St w C R k n bi bv A) {i j : Nat} (hi : i < n) (hj : j < n) (e : bv i = bv j) : i = j := by
  have a := h.vals i hi
  have b := h.vals j hj
  rw [e] at a
  unfold Blk at a b
  rw [a] at b
  injection b with b
  injection b with b
  have h3 := congrArg (fun x => x[3]?) b
  simp only [val3] at h3
  have : bi i = bi j := by simpa using h3
  exact h.bi_inj hi hj this
theorem St.own (h : St w C R k n bi bv A) {S : Nat → Prop} (ho : Own S w w') (hC : ¬ S C) (hR : ¬ S R) (hb : ∀ j, j < n → ¬ S (bi j) ∧ ¬ S (bv j)) : St w' C R k n bi bv A :=
  ⟨h.box.own ho hC, h.row.of_block (ho.block _ h.row.lt hR), fun j hj => (h.num j hj).own ho (hb j hj).1, fun j hj => (h.vals j hj).own ho (hb j hj).2, h.far⟩
theorem St.idle (h : St w C R k n bi bv A) (ho : Own (fun _ => False) w w') : St w' C R k n bi bv A := h.own ho id id fun _ _ => ⟨id, id⟩
end

set_option maxRecDepth 100000 in
set_option maxHeartbeats 1600000 in
theorem many_fun (C R k j b : Nat) (A : Nat → Bool) (w : World) (hk : k ≤ 8) (hj : j < k) (hA : A j = false) (hne : b ≠ R) (hC : Blk w C 45 #[.slice (some ⟨R, 0, none⟩) k k]) (hb : Blk w b 3 #[.int .i64 (j : Int)]) (hr : w.rowIs R 3 k (cv A)) :
    Calls Try.prog 24 #[.pointer (some ⟨C, 0, none⟩), .pointer (some ⟨b, 0, none⟩)] w fun e w' => e = .returned (.int .i64 (10 * (j : Int))) ∧ Own (· = R) w w' ∧ w'.rowIs R 3 k (cv (setA A j)) := by
  have c0 : w.cell? ⟨C, 0, none⟩ = some (.slice (some ⟨R, 0, none⟩) k k) := (hC.cell 0).trans rfl
  have b0 : w.cell? ⟨b, 0, none⟩ = some (.int .i64 (j : Int)) := (hb.cell 0).trans rfl
  have r0 : w.cell? ⟨R, j, none⟩ = some (.int .i64 0) := by
    rw [hr.cell hj]
    unfold cv
    rw [hA]
    rfl
  have f0 := hr.frozen j
  have j0 : (0 ≤ (j : Int)) = True := eq_true (by omega)
  have j1 : ((j : Int) < (k : Int)) = True := eq_true (by omega)
  have em : wrap64 (10 * (j : Int)) = 10 * (j : Int) := by
    unfold wrap64
    omega
  have ho : Own (· = R) w (w.setCell ⟨R, j, none⟩ (.int .i64 1)) := (Own.refl _ w).set _ _ fun _ => rfl
  have hr2 : (w.setCell ⟨R, j, none⟩ (.int .i64 1)).rowIs R 3 k (cv (setA A j)) := (hr.set j (.int .i64 1)).congr fun i _ => by
    by_cases e : i = j
    · subst e
      simp [cv, setA]
    · simp [cv, setA, e]
  have bi2 : (w.setCell ⟨R, j, none⟩ (.int .i64 1)).cell? ⟨b, 0, none⟩ = some (.int .i64 (j : Int)) := (World.cell?_setCell_other _ _ _ _ (by first | exact fun h => hne h.symm | exact hne | simp)).trans b0
  clear hr hb hC hj hA hk hne
  go_enter Try.func24, Try.ntmps24
  go_wp2
  go_ret
  exact ⟨by show Ending.returned (.int .i64 (wrap64 (10 * (j : Int)))) = _; rw [em], ho, hr2⟩

theorem setA_self {A : Nat → Bool} {j : Nat} (h : A j = true) : setA A j = A := by
  funext i
  unfold setA
  by_cases e : i = j
  · subst e
    simp [h]
  · simp [e]
theorem get_val (C R k j : Nat) (bi bv : Nat → Nat) (A : Nat → Bool) (w : World) (hk : k ≤ 8) (hj : j < k) (hs : St w C R k k bi bv A) :
    Calls Try.prog 25 #[.pointer (some ⟨bv j, 0, none⟩)] w fun e w' => e = .returned (.tuple #[.int .i64 (10 * (j : Int)), .bool true]) ∧ St w' C R k k bi bv (setA A j) ∧ Own (fun i => i = bv j ∨ i = R) w w' := by
  have hv := hs.vals j hj
  have nR : bv j ≠ R := row_ne hs.row hv (by decide)
  cases hA : A j
  · unfold val at hv
    rw [hA, if_neg (by decide)] at hv
    have nC : bv j ≠ C := blk_ne_type hv hs.box (by decide)
    have nb : ∀ i, i < k → bi i ≠ bv j := fun i hi => blk_ne_type (hs.num i hi) hv (by decide)
    have mk : Makes (bv j) 24 #[.pointer (some ⟨C, 0, none⟩), .pointer (some ⟨bi j, 0, none⟩)] (.int .i64 (10 * (j : Int))) (· = R) (fun W => W.rowIs R 3 k (cv (setA A j))) w :=
      ⟨fun _ => rfl, fun W hW => many_fun C R k j (bi j) A W hk hj hA (hs.far j hj) (hs.box.own hW fun e => nC e.symm) ((hs.num j hj).own hW (nb j hj)) (hs.row.of_block (hW.block _ hs.row.lt fun e => nR e.symm)), nR⟩
    refine (getInt_first (bv j) 24 _ (10 * (j : Int)) 0 (· = R) (fun W => W.rowIs R 3 k (cv (setA A j))) (fun W W' hW hr => hr.of_block (hW.block _ hr.lt fun e => nR e.symm)) w hv mk (fun i hi => by rw [hi]; exact hs.row.lt)).mono ?_
    rintro e w' ⟨rfl, ho, hr, hb⟩
    refine ⟨rfl, ⟨hs.box.own ho ?_, hr, fun i hi => (hs.num i hi).own ho ?_, fun i hi => ?_, hs.far⟩, ho⟩
    · rintro (h | h)
      · exact nC h.symm
      · exact row_ne hs.row hs.box (by decide) h
    · rintro (h | h)
      · exact nb i hi h
      · exact hs.far i hi h
    · by_cases e : i = j
      · subst e
        have : val C bi (setA A i) i = #[.int .u32 1, .int .i32 0, .int .u32 0, .func (.func 24) #[] #[.pointer (some ⟨C, 0, none⟩), .pointer (some ⟨bi i, 0, none⟩)], .int .i64 (10 * (i : Int)), .int .u32 1] := by
          unfold val
          rw [if_pos (by simp [setA])]
        rw [this]
        exact hb
      · have : val C bi (setA A j) i = val C bi A i := by
          unfold val setA
          simp [e]
        rw [this]
        refine (hs.vals i hi).own ho ?_
        rintro (h | h)
        · exact e (hs.bv_inj hi hj h)
        · exact row_ne hs.row (hs.vals i hi) (by decide) h
  · unfold val at hv
    rw [hA, if_pos rfl] at hv
    refine (getInt_again (bv j) 24 _ (10 * (j : Int)) w hv).mono ?_
    rintro e w' ⟨rfl, ho⟩
    rw [setA_self hA]
    exact ⟨rfl, hs.idle ho, ho.mono fun _ _ h => h.elim⟩
theorem made_val (C R k j : Nat) (bi bv : Nat → Nat) (A : Nat → Bool) (w : World) (hj : j < k) (hs : St w C R k k bi bv A) :
    Calls Try.prog 26 #[.pointer (some ⟨bv j, 0, none⟩)] w fun e w' => e = .returned (.bool (A j)) ∧ w = w' := by
  have hv := hs.vals j hj
  unfold val at hv
  cases hA : A j
  · rw [hA, if_neg (by decide)] at hv
    exact (madeInt (bv j) 24 _ _ _ _ _ 0 w hv).mono fun e w' h => h
  · rw [hA, if_pos rfl] at hv
    exact (madeInt (bv j) 24 _ _ _ _ _ 1 w hv).mono fun e w' h => h

def upd (f : Nat → Nat) (m b : Nat) : Nat → Nat := fun j => if j = m then b else f j
theorem upd_same (f : Nat → Nat) (m b : Nat) : upd f m b m = b := if_pos rfl
theorem upd_ne {f : Nat → Nat} {m b j : Nat} (h : j ≠ m) : upd f m b j = f j := if_neg h
theorem val_not (C : Nat) (bi : Nat → Nat) (j : Nat) : val C bi (fun _ => false) j = #[.int .u32 0, .int .i32 0, .int .u32 0, .func (.func 24) #[] #[.pointer (some ⟨C, 0, none⟩), .pointer (some ⟨bi j, 0, none⟩)], .int .i64 0, .int .u32 0] := by
  unfold val
  exact if_neg (fun h => by cases h)
theorem St.more {w : World} {C R k m b g : Nat} {bi bv : Nat → Nat} (h : St w C R k m bi bv (fun _ => false)) (hb : Blk w b 3 #[.int .i64 (m : Int)]) (hne : b ≠ R)
    (hg : Blk w g 96 #[.int .u32 0, .int .i32 0, .int .u32 0, .func (.func 24) #[] #[.pointer (some ⟨C, 0, Option.none⟩), .pointer (some ⟨b, 0, Option.none⟩)], .int .i64 0, .int .u32 0]) :
    St w C R k (m + 1) (upd bi m b) (upd bv m g) (fun _ => false) := by
  refine ⟨h.box, h.row, fun j hj => ?_, fun j hj => ?_, fun j hj => ?_⟩
  · by_cases e : j = m
    · rw [e, upd_same]
      exact hb
    · rw [upd_ne e]
      exact h.num j (by omega)
  · rw [val_not]
    by_cases e : j = m
    · rw [e, upd_same, upd_same]
      exact hg
    · have := h.vals j (by omega)
      rw [val_not] at this
      rw [upd_ne e, upd_ne e]
      exact this
  · by_cases e : j = m
    · rw [e, upd_same]
      exact hne
    · rw [upd_ne e]
      exact h.far j (by omega)
theorem St.grown {w w' : World} {C R k n : Nat} {bi bv : Nat → Nat} {A : Nat → Bool} {row : Option Nat} (h : St w C R k n bi bv A) (hg : w.grownBy w' row) (hr : ∀ r, row = some r → ∃ cells, w.heap[r]? = some (.cells cells 47 (0, 0))) : St w' C R k n bi bv A := by
  have away : ∀ g t cs, Blk w g t cs → t ≠ 47 → Blk w' g t cs := fun g t cs hb ht => (hg.block g hb.lt fun e => by
    obtain ⟨cells, hc⟩ := hr g e.symm
    unfold Blk at hb
    rw [hb] at hc
    injection hc with hc
    injection hc with _ hc
    exact ht hc).trans hb
  refine ⟨away _ _ _ h.box (by decide), ?_, fun j hj => away _ _ _ (h.num j hj) (by decide), fun j hj => away _ _ _ (h.vals j hj) (by decide), h.far⟩
  refine h.row.of_block (hg.block R h.row.lt fun e => ?_)
  obtain ⟨cells, hc⟩ := hr R e.symm
  obtain ⟨c, hc2, _⟩ := h.row
  rw [hc] at hc2
  injection hc2 with hc2
  injection hc2 with _ hc2
  exact absurd hc2 (by decide)
def ptrs (bv : Nat → Nat) (n : Nat) : List Value := (List.range n).map fun j => .pointer (some ⟨bv j, 0, none⟩)
theorem ptrs_more (bv : Nat → Nat) (m g : Nat) : ptrs (upd bv m g) (m + 1) = ptrs bv m ++ [.pointer (some ⟨g, 0, none⟩)] := by
  unfold ptrs
  rw [List.range_succ, List.map_append]
  congr 1
  · apply List.map_congr_left
    intro j hj
    have := List.mem_range.1 hj
    unfold upd
    rw [if_neg (by omega)]
  · simp [upd]

theorem vs_row {w : World} {base m : Nat} {v : Value} {bv : Nat → Nat} (h : w.ownsRow base 47 1 v m (ptrs bv m)) (hm : 1 ≤ m) :
    ∃ g cap cur, v = .slice (some ⟨g, 0, none⟩) m cap ∧ base ≤ g ∧ Blk w g 47 cur ∧ ∀ j, j < m → cur[j]? = some (.pointer (some ⟨bv j, 0, none⟩)) := by
  obtain ⟨_, ⟨_, h0⟩ | ⟨g, cp, cur, rfl, hg, hc, hmc, _, hs, ht⟩⟩ := h
  · omega
  · refine ⟨g, cp, cur, rfl, hg, hc, fun j hj => ?_⟩
    have := congrArg (fun l => l[j]?) ht
    simp only [Nat.mul_one] at this
    rw [List.getElem?_take, if_pos hj, Array.getElem?_toList] at this
    rw [this]
    simp [ptrs, hj]

/-- All that stays between two asks: the values, the row of those asked for, the row of values; what was there before is as it was. -/
structure All (w0 w : World) (R D g k : Nat) (cur : Array Value) (bi bv : Nat → Nat) (A : Nat → Bool) : Prop where
  st : St w (R + 1) R k k bi bv A
  ask : w.rowIs D 4 k (fun j => .bool (A j))
  vs : Blk w g 47 cur
  frame : Below w0.heap.size w0 w
  hR : w0.heap.size ≤ R
  hD : w0.heap.size ≤ D
  hbv : ∀ j, j < k → w0.heap.size ≤ bv j
theorem row_ne_row {w : World} {b b' t t' n n' : Nat} {f f' : Nat → Value} (h : w.rowIs b t n f) (h' : w.rowIs b' t' n' f') (hne : t ≠ t') : b ≠ b' := by
  rintro rfl
  obtain ⟨c, hc, _⟩ := h
  obtain ⟨c', hc', _⟩ := h'
  rw [hc] at hc'
  injection hc' with hc'
  injection hc' with _ hc'
  exact hne hc'
theorem blk_ne_row {w : World} {q t b t' n : Nat} {cs : Array Value} {f : Nat → Value} (h : Blk w q t cs) (h' : w.rowIs b t' n f) (hne : t ≠ t') : q ≠ b := by
  rintro rfl
  obtain ⟨c, hc, _⟩ := h'
  unfold Blk at h
  rw [hc] at h
  injection h with h
  injection h with _ h
  exact hne h.symm
/-- One is asked for: the mark. -/
theorem All.mark {w0 w : World} {R D g k j : Nat} {cur : Array Value} {bi bv : Nat → Nat} {A : Nat → Bool} (h : All w0 w R D g k cur bi bv A) (hj : j < k) :
    St (w.setCell ⟨D, j, Option.none⟩ (.bool true)) (R + 1) R k k bi bv A ∧ (w.setCell ⟨D, j, Option.none⟩ (.bool true)).rowIs D 4 k (fun q => .bool (setA A j q)) ∧ Blk (w.setCell ⟨D, j, Option.none⟩ (.bool true)) g 47 cur ∧ Below w0.heap.size w0 (w.setCell ⟨D, j, Option.none⟩ (.bool true)) := by
  have ho : Own (· = D) w (w.setCell ⟨D, j, Option.none⟩ (.bool true)) := (Own.refl _ w).set _ _ fun _ => rfl
  refine ⟨h.st.own ho (blk_ne_row h.st.box h.ask (by decide)) (row_ne_row h.st.row h.ask (by decide)) (fun q hq => ⟨blk_ne_row (h.st.num q hq) h.ask (by decide), blk_ne_row (h.st.vals q hq) h.ask (by decide)⟩), ?_, h.vs.own ho (blk_ne_row h.vs h.ask (by decide)), h.frame.setCell (p := ⟨D, j, Option.none⟩) h.hD _⟩
  refine (h.ask.set j (.bool true)).congr fun q _ => ?_
  by_cases e : q = j
  · subst e
    simp [setA]
  · simp [setA, e]
/-- .. and the value is told. -/
theorem All.told {w0 w w' : World} {R D g k j : Nat} {cur : Array Value} {bi bv : Nat → Nat} {A : Nat → Bool} (h : All w0 w R D g k cur bi bv A) (hj : j < k)
    (ho : Own (fun i => i = bv j ∨ i = R) (w.setCell ⟨D, j, Option.none⟩ (.bool true)) w') (hs : St w' (R + 1) R k k bi bv (setA A j)) : All w0 w' R D g k cur bi bv (setA A j) := by
  obtain ⟨s, d, v, b⟩ := h.mark hj
  refine ⟨hs, ?_, ?_, ?_, h.hR, h.hD, h.hbv⟩
  · refine d.of_block (ho.block D d.lt ?_)
    rintro (e | e)
    · exact blk_ne_row (s.vals j hj) d (by decide) e.symm
    · exact row_ne_row s.row d (by decide) e.symm
  · refine v.own ho ?_
    rintro (e | e)
    · exact blk_ne_type v (s.vals j hj) (by decide) e
    · exact row_ne s.row v (by decide) e
  · refine ⟨ho.os.trans b.os, ho.tape.trans b.tape, ho.output.trans b.output, Nat.le_trans b.size ho.size, fun q hq => (ho.block q (Nat.lt_of_lt_of_le hq b.size) ?_).trans (b.block q hq)⟩
    rintro (e | e)
    · have := h.hbv j hj
      omega
    · have := h.hR
      omega
theorem All.idle {w0 w w' : World} {R D g k : Nat} {cur : Array Value} {bi bv : Nat → Nat} {A : Nat → Bool} (h : All w0 w R D g k cur bi bv A) (ho : Own (fun _ => False) w w') : All w0 w' R D g k cur bi bv A :=
  ⟨h.st.idle ho, h.ask.of_block (ho.block _ h.ask.lt id), h.vs.own ho id, ⟨ho.os.trans h.frame.os, ho.tape.trans h.frame.tape, ho.output.trans h.frame.output, Nat.le_trans h.frame.size ho.size, fun q hq => (ho.block q (Nat.lt_of_lt_of_le hq h.frame.size) id).trans (h.frame.block q hq)⟩, h.hR, h.hD, h.hbv⟩
theorem wrap_small (n : Nat) (h : n ≤ 1000) : wrap64 (n : Int) = (n : Int) := by
  unfold wrap64
  omega
theorem wrap_ten (n : Nat) (h : n ≤ 1000) : wrap64 (10 * (n : Int)) = 10 * (n : Int) := by
  unfold wrap64
  omega
theorem wrap_succ {i n : Nat} (h : i < n) (hn : n ≤ 9223372036854775807) : wrap64 ((i : Int) + 1) = ((i + 1 : Nat) : Int) := by
  unfold wrap64
  omega
theorem tmod_nat {z m j : Nat} (hz : z ≤ 1000) (h : z % m = j) : Int.tmod (wrap64 (z : Int)) (m : Int) = (j : Int) := by
  rw [wrap_small z hz, ← h]
  rfl
end Go.Proofs.Ythnllejpoklgbaa.lazyMany
