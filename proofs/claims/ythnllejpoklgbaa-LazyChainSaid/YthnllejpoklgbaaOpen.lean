/-
  A SLICE THAT CAME IN, opened as a list: whatever its elements are, if the reading of one element tells what its cells are.
-/
import Derived.ProofKit
import Derived.Deep.Slices
import Derived.ChangeOld
namespace Go.Proofs.Ythnllejpoklgbaa
open Go.ChangeShapes Go.WideShapes

theorem add_of_add (a : Addr) (i j : Nat) : (a.add i).add j = a.add (i + j) := by
  unfold Addr.add
  by_cases hi : i = 0 <;> by_cases hj : j = 0 <;> simp [hi, hj, Nat.add_assoc]
theorem block_add (a : Addr) (n : Nat) : (a.add n).block = a.block := by unfold Addr.add; split <;> rfl

/-- Element i of a slice: where it lies, and what its cells are. -/
def Els {α : Type} (w : World) (enc : α → List Value) (sz : Nat) (A : Option Addr) (xs : List α) : Prop :=
  ∀ (i : Nat) (x : α), xs[i]? = some x → ∃ ad, A = some ad ∧ ad.block < w.heap.size ∧ ∀ j u, (enc x)[j]? = some u → w.cell? (ad.add (i * sz + j)) = some u

theorem open_els {H : Type} {enc : TypeId × Value → H} {P : Program} {w : World} {base : Nat} {spare : Nat → Bool} {held : Bool} {t e fuel : Nat} {A : Option Addr} {len cap : Nat} {x : DataW H × List MemPlace}
    {α : Type} (en : α → List Value) (ok : α → Prop) (sz : Nat) (ht : P.underlying t = some (.slice e)) (hsz : P.cellsOf e = sz) (hpos : ∀ a, (en a).length = sz) (h0 : 0 < sz)
    (dec : ∀ n cs y, cs.length = sz → DataW.trod enc P w base spare held n e cs = some y → ∃ a, cs = en a ∧ ok a)
    (h : DataW.trod enc P w base spare held fuel t [.slice A len cap] = some x) :
    len ≤ cap ∧ cap ≤ maxLen ∧ ∃ xs : List α, xs.length = len ∧ (∀ a ∈ xs, ok a) ∧ Els w en sz A xs := by
  rcases DataW.trod_slice ht h with ⟨hcs, _⟩ | ⟨a, len', cap', elems, rest, n, _, hcs, rfl, hb, hl, hm, hlen, hel, hsp, hns⟩
  · simp at hcs
    obtain ⟨rfl, rfl, rfl⟩ := hcs
    exact ⟨Nat.le_refl _, Nat.zero_le _, [], rfl, (fun _ h => by cases h), fun i x hx => by simp at hx⟩
  · simp at hcs
    obtain ⟨rfl, rfl, rfl⟩ := hcs
    rw [hsz] at hel
    have each : ∀ i, i < len → ∃ v : α, ok v ∧ ∀ j u, (en v)[j]? = some u → w.cell? (a.add (i * sz + j)) = some u := by
      intro i hi
      have hy := hel i hi
      rw [List.getElem?_eq_getElem (by omega), Option.bind_eq_some_iff] at hy
      obtain ⟨cs', hcs', hd⟩ := hy
      obtain ⟨_, hl', hc⟩ := World.cells?_some hcs'
      obtain ⟨v, rfl, hv⟩ := dec n cs' _ hl' hd
      refine ⟨v, hv, fun j u hu => ?_⟩
      have hj : j < sz := by
        have := (List.getElem?_eq_some_iff.1 hu).1
        have := hpos v
        omega
      rw [← add_of_add, hc j hj]
      exact hu
    have : ∃ xs : List α, xs.length = len ∧ ∀ (i : Nat) (v : α), xs[i]? = some v → ok v ∧ ∀ j u, (en v)[j]? = some u → w.cell? (a.add (i * sz + j)) = some u := by
      clear hel hlen hl h hns hsp
      induction len with
      | zero => exact ⟨[], rfl, fun i v hv => by simp at hv⟩
      | succ m ih =>
        obtain ⟨xs, hxl, hx⟩ := ih fun i hi => each i (by omega)
        obtain ⟨v, hv⟩ := each m (by omega)
        refine ⟨xs ++ [v], by simp [hxl], fun i u hu => ?_⟩
        rcases Nat.lt_trichotomy i xs.length with h | h | h
        · rw [List.getElem?_append_left h] at hu
          exact hx i u hu
        · rw [List.getElem?_append_right (by omega), h] at hu
          simp at hu
          subst hu
          rw [h, hxl]
          exact hv
        · rw [List.getElem?_append_right (by omega)] at hu
          have hn : i - xs.length ≠ 0 := by omega
          obtain ⟨z, hz⟩ : ∃ z, i - xs.length = z + 1 := ⟨i - xs.length - 1, by omega⟩
          rw [hz] at hu
          simp at hu
    obtain ⟨xs, hxl, hx⟩ := this
    refine ⟨hl, hm, xs, hxl, fun v hv => ?_, fun i v hv => ⟨a, rfl, ?_, (hx i v hv).2⟩⟩
    · obtain ⟨i, hi⟩ := List.getElem?_of_mem hv
      exact (hx i v hi).1
    · obtain ⟨u, hu⟩ : ∃ u, (en v)[0]? = some u := ⟨_, List.getElem?_eq_getElem (by rw [hpos]; exact h0)⟩
      have := World.block_lt_of_cell? w _ ((hx i v hv).2 0 u hu)
      rwa [block_add] at this
end Go.Proofs.Ythnllejpoklgbaa
