/-
  leak.merge and leak.May's closure: their calls.
-/
import Derived.Test.YtgfnpdfhdgenbaaDoorGivenR
import Derived.LoopTactic
import Derived.BigQuiet
import Derived.Deep.QuietTactic
import Derived.Deep.RegionHeld3
import Derived.Deep.DrawnRows
import Derived.RegionTactic
import Derived.RegionCalls
import Derived.Lib.Hide
namespace Go.Proofs.YtgfnpdfhdgenbaaDoor.P
open Go.RowKit Go.Proofs.YtgfnpdfhdgenbaaDoorW.PrintWords Go.Proofs.YtgfnpdfhdgenbaaDoorW.PrintLast Go.Proofs.YtgfnpdfhdgenbaaDoorW.PrintMore
set_option linter.unusedVariables false
set_option linter.unusedSimpArgs false
set_option linter.unusedVariables false
attribute [local go_sem ↓] Go.wp_at_zero Go.wp_at_succ

/-- What a call wrote: block g, and what it made. -/
structure Ow (g : Nat) (w w' : World) : Prop where
  os : w'.os = w.os
  tape : w'.tape = w.tape
  output : w'.output = w.output
  size : w.heap.size ≤ w'.heap.size
  block : ∀ i, i < w.heap.size → i ≠ g → w'.heap[i]? = w.heap[i]?
theorem Ow.refl (g : Nat) (w : World) : Ow g w w := ⟨rfl, rfl, rfl, Nat.le_refl _, fun _ _ _ => rfl⟩
theorem Ow.set {g : Nat} {w w' : World} (h : Ow g w w') (k : Nat) (u : Value) : Ow g w (w'.setCell ⟨g, k, none⟩ u) :=
  ⟨h.os, h.tape, h.output, by have := h.size; simp only [World.setCell, Array.size_modify]; exact this, fun i hi hn => by rw [Below.heap_setCell _ _ _ _ hn]; exact h.block i hi hn⟩
theorem Ow.below {g : Nat} {W w w' : World} (h : Ow g w w') (hW : Below W.heap.size W w) (hg : W.heap.size ≤ g) : Below W.heap.size W w' :=
  ⟨h.os.trans hW.os, h.tape.trans hW.tape, h.output.trans hW.output, Nat.le_trans hW.size h.size, fun i hi => (h.block i (Nat.lt_of_lt_of_le hi hW.size) (by omega)).trans (hW.block i hi)⟩

/-- A table of which row a has already what row b has, of the first k. -/
def partF (X : Tb) (a b k : Nat) : Tb := fun a' j => X a' j || (a' == a && decide (j < k) && X b j)
theorem partF_zero (X : Tb) (a b : Nat) : partF X a b 0 = X := by
  funext a' j
  simp [partF]
theorem partF_b (X : Tb) (a b k : Nat) : partF X a b k b k = X b k := by simp [partF]
theorem partF_a (X : Tb) (a b k : Nat) : partF X a b k a k = X a k := by simp [partF]
theorem partF_step (X : Tb) (a b k : Nat) (h : (X b k && !X a k) = false) : partF X a b (k + 1) = partF X a b k := by
  funext a' j
  unfold partF
  by_cases e : a' = a
  · subst e
    by_cases ej : j = k
    · subst ej
      revert h
      cases X b j <;> cases X a' j <;> simp
    · have : decide (j < k + 1) = decide (j < k) := decide_eq_decide.2 (by omega)
      rw [this]
  · have : (a' == a) = false := by simp [e]
    rw [this]
    simp
theorem partF_mark (X : Tb) (a b k : Nat) (h : (X b k && !X a k) = true) : partF X a b (k + 1) = markF (partF X a b k) a k := by
  funext a' j
  unfold partF markF
  by_cases e : a' = a
  · subst e
    by_cases ej : j = k
    · subst ej
      revert h
      cases X b j <;> simp
    · have : decide (j < k + 1) = decide (j < k) := decide_eq_decide.2 (by omega)
      rw [this]
      simp [ej]
  · have : (a' == a) = false := by simp [e]
    rw [this]
    simp [e]
theorem moreF_step (X : Tb) (a b k : Nat) : moreF X a b (k + 1) = (moreF X a b k || (X b k && !X a k)) := by
  unfold moreF
  rw [List.range_succ, List.any_append]
  simp

set_option maxRecDepth 100000 in
set_option maxHeartbeats 1600000 in
theorem merge_calls (O r0 n m a b : Nat) (X : Tb) (ha : a < n) (hb : b < n) (hm : m ≤ 1001) (w : World) (hM : Mat w O r0 n m X) :
    Calls Tryd.prog 16 #[.slice (some ⟨r0 + a, 0, none⟩) m m, .slice (some ⟨r0 + b, 0, none⟩) m m] w fun e w' => e = .returned (.bool (moreF X a b m)) ∧ Ow (r0 + a) w w' ∧ Mat w' O r0 n m (mergeF X a b) := by
  go_enter Tryd.func16, Tryd.ntmps16
  go_wp2_with fail
  go_loopw [5, 10] (fun u i wr => ∃ k : Nat, k ≤ m ∧ i = .int .i64 k ∧ u = .bool (moreF X a b k) ∧ Ow (r0 + a) w wr ∧ Mat wr O r0 n m (partF X a b k)) (fun _ i _ => m - (intOf i).toNat)
  case atStart => exact ⟨0, Nat.zero_le _, rfl, rfl, Ow.refl _ _, by rw [partF_zero]; exact hM⟩
  case round =>
    clear hM
    obtain ⟨k, hk, rfl, rfl, ho, hM⟩ := hrel
    by_cases hlt : k < m
    rotate_left
    · obtain rfl : k = m := by omega
      have hlt' : decide ((k : Int) < (k : Int)) = false := decide_eq_false (by omega)
      go_wp2
      go_ret
      refine ⟨rfl, ho, hM.congr fun a' j _ hj => ?_⟩
      simp [partF, mergeF, hj]
    have hlt' : decide ((k : Int) < (m : Int)) = true := decide_eq_true (by omega)
    have cb : wr.cell? ⟨r0 + b, k, none⟩ = some (.bool (X b k)) := by
      rw [(hM.row b hb).cell hlt, partF_b]
    have ca : wr.cell? ⟨r0 + a, k, none⟩ = some (.bool (X a k)) := by
      rw [(hM.row a ha).cell hlt, partF_a]
    have fa : wr.frozen? ⟨r0 + a, k, none⟩ = false := (hM.row a ha).frozen k
    have e2 : wrap64 ((k : Int) + 1) = ((k + 1 : Nat) : Int) := by
      unfold wrap64
      omega
    have k0 : (0 ≤ (k : Int)) = True := eq_true (by omega)
    have k1 : ((k : Int) < (m : Int)) = True := eq_true (by omega)
    have hms : m - (k + 1) < m - k := by omega
    have hk1 : k + 1 ≤ m := hlt
    have ms := moreF_step X a b k
    have ps := partF_step X a b k
    have pm := partF_mark X a b k
    have hM2 := hM.mark (k := k) ha
    have ho2 := ho.set k (.bool true)
    clear hlt
    cases xb : X b k
    · rw [xb] at cb ms ps
      rw [Bool.false_and, Bool.or_false] at ms
      go_wp2
      go_roundw
      case rel => exact ⟨k + 1, hk1, rfl, by rw [ms], ho, by rw [ps (Bool.false_and _)]; exact hM⟩
      case measure => exact hms
    · cases xa : X a k
      · rw [xb] at cb
        rw [xa] at ca
        rw [xb, xa] at ms pm
        rw [show (true && !false) = true from rfl, Bool.or_true] at ms
        go_wp2
        go_roundw
        case rel => exact ⟨k + 1, hk1, rfl, by rw [ms], ho2, by rw [pm rfl]; exact hM2⟩
        case measure => exact hms
      · rw [xb] at cb
        rw [xa] at ca
        rw [xb, xa] at ms ps
        rw [show (true && !true) = false from rfl, Bool.or_false] at ms
        go_wp2
        go_roundw
        case rel => exact ⟨k + 1, hk1, rfl, by rw [ms], ho, by rw [ps rfl]; exact hM⟩
        case measure => exact hms

set_option maxRecDepth 100000 in
/-- The closure: is a local there? -/
theorem there_calls (T O n : Nat) (f : Int) (h0 : 0 ≤ f) (h1 : f ≤ 255) (w : World) (hT : w.cell? ⟨T, 0, none⟩ = some (.slice (some ⟨O, 0, none⟩) n n)) :
    Calls Tryd.prog 15 #[.int .u8 f, .pointer (some ⟨T, 0, none⟩)] w fun e w' => e = .returned (.bool (decide (f < (n : Int)))) ∧ w = w' := by
  have e1 : wrap64 f = f := by
    unfold wrap64
    omega
  go_enter Tryd.func15, Tryd.ntmps15
  go_wp2
  go_ret
  exact ⟨rfl, rfl⟩
theorem drop_cons (code : List S45) (i : Nat) (h : i < code.length) : code.drop i = rd_T45 code (i : Nat) :: code.drop (i + 1) := by
  rw [List.drop_eq_getElem_cons h]
  congr 1
  show code[i] = code.getD i z45
  rw [List.getD_eq_getElem?_getD, List.getElem?_eq_getElem h]
  rfl
theorem okU_at {code : List S45} (h : code.all okU = true) {i : Nat} (hi : i < code.length) : 0 ≤ (rd_T45 code (i : Nat)).f1 ∧ (rd_T45 code (i : Nat)).f1 ≤ 255 ∧ 0 ≤ (rd_T45 code (i : Nat)).f2 ∧ (rd_T45 code (i : Nat)).f2 ≤ 255 := by
  have h1 : rd_T45 code (i : Nat) ∈ code := by
    show code.getD i z45 ∈ code
    rw [List.getD_eq_getElem?_getD, List.getElem?_eq_getElem hi]
    exact List.getElem_mem hi
  have := List.all_eq_true.1 h _ h1
  unfold okU at this
  simp only [Bool.and_eq_true, decide_eq_true_eq] at this
  exact ⟨this.1.1.1, this.1.1.2, this.1.2, this.2⟩
end Go.Proofs.YtgfnpdfhdgenbaaDoor.P
