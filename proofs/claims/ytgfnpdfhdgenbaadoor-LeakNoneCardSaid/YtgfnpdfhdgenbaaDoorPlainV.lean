/-
  PLAIN LEAN: leak.May of a program that is Sound, as a table with its laws.
-/
import Derived.Test.YtgfnpdfhdgenbaaDoorPlainU
namespace Go.Proofs.YtgfnpdfhdgenbaaDoor.P
open Go.RowKit Go.Proofs.YtgfnpdfhdgenbaaDoorW.PrintWords Go.Proofs.YtgfnpdfhdgenbaaDoorW.PrintLast Go.Proofs.YtgfnpdfhdgenbaaDoorW.PrintMore
set_option linter.unusedVariables false
set_option linter.unusedSimpArgs false

theorem namedF_nonneg {t : List ByteArray} {s : ByteArray} {a : Int} (h : 0 ≤ namedF t s a) : a < s.size ∧ namedF t s a = bt s a - 48 := by
  unfold namedF at h ⊢
  by_cases h1 : a < s.size
  · rw [if_pos h1] at h ⊢
    by_cases h2 : (decide (0 ≤ digF (bt s a) t.length) && rightB t) = true
    · rw [if_pos h2]
      exact ⟨h1, rfl⟩
    · rw [if_neg h2] at h
      exact absurd h (by decide)
  · rw [if_neg h1] at h
    exact absurd h (by decide)
/-- What a table has: places of News whose local has the very letter of the row's local. -/
def HasOnly (lo : ByteArray) (code : List S45) (X : Tb) : Prop :=
  ∀ a j, a < lo.size → X a j = true → j < code.length ∧ (code.getD j z45).f0 = 5 ∧ 0 ≤ (code.getD j z45).f1 ∧ (code.getD j z45).f1 < (lo.size : Int) ∧ bt lo (code.getD j z45).f1 = bt lo (a : Nat)
/-- What it surely has. -/
def HasNews (lo : ByteArray) (code : List S45) (X : Tb) : Prop :=
  ∀ j, j < code.length → (code.getD j z45).f0 = 5 → (code.getD j z45).f1 < (lo.size : Int) → X (code.getD j z45).f1.toNat j = true
theorem okU_all {code : List S45} (hw : Wf code) : code.all okU = true := by
  rw [List.all_eq_true]
  intro x hx
  obtain ⟨i, hi⟩ := List.getElem?_of_mem hx
  have := hw i
  rw [List.getD_eq_getElem?_getD, hi] at this
  have h1 := this.2.1
  have h2 := this.2.2.1
  unfold U8 at h1 h2
  unfold okU
  simp only [Option.getD_some] at h1 h2
  simp only [Bool.and_eq_true, decide_eq_true_eq]
  exact ⟨⟨⟨h1.1, h1.2⟩, h2.1⟩, h2.2⟩
theorem getD_of {code : List S45} {j : Nat} {x : S45} (h : code[j]? = some x) : code.getD j z45 = x ∧ j < code.length := by
  rw [List.getD_eq_getElem?_getD, h]
  exact ⟨rfl, (List.getElem?_eq_some_iff.1 h).1⟩
theorem wf_mem {code : List S45} (hw : Wf code) {x : S45} (hx : x ∈ code) : WfI x := by
  obtain ⟨i, hi⟩ := List.getElem?_of_mem hx
  rw [← (getD_of hi).1]
  exact hw i
/-- leak.May answers, whatever the program is, if it is not too large. -/
theorem may_any (t : List ByteArray) (lo gl : ByteArray) (code : List S45) (h8 : lo.size ≤ 8) (hl : code.length ≤ 60) (hw : Wf code) :
    ∃ Y, Ev (fun k => leak_May.f k t lo gl code) (tabM lo.size (code.length + 1) Y) ∧ ∃ k, roundsL lo.size (code.length + 1) code k (newsL lo.size code 0 fun _ _ => false) = some Y := by
  obtain ⟨Y, hY, hk⟩ := rounds_end lo.size (code.length + 1) code (fun x hx => (wf_mem hw hx).2.1.1) _ (newsL lo.size code 0 fun _ _ => false) (Nat.le_refl _)
  refine ⟨Y, ?_, hk⟩
  unfold leak_May.f
  refine Ev.congr (fun k => if_pos ⟨h8, by omega, okU_all hw⟩) ?_
  exact Ev.bind hY (Ev.now _)
theorem news_of (lo : ByteArray) (code : List S45) (Y : Tb) (hk : ∃ k, roundsL lo.size (code.length + 1) code k (newsL lo.size code 0 fun _ _ => false) = some Y) : HasNews lo code Y := by
  obtain ⟨k, hk⟩ := hk
  intro j hj h5 hf
  refine roundsL_inv lo.size (code.length + 1) code (fun X => X (code.getD j z45).f1.toNat j = true) (fun X hX => passL_le _ _ _ _ _ _ _ hX) k _ Y ?_ hk
  have e : code[j]? = some (code.getD j z45) := by rw [List.getD_eq_getElem?_getD, List.getElem?_eq_getElem hj]; rfl
  have := newsL_has lo.size code 0 (fun _ _ => false) j _ e h5 hf
  rwa [Nat.zero_add] at this
theorem only_of (t : List ByteArray) (lo : ByteArray) (code : List S45) (hw : Wf code) (hg : ∀ j, j < code.length → GoodM t lo (code.getD j z45)) (Y : Tb) (hk : ∃ k, roundsL lo.size (code.length + 1) code k (newsL lo.size code 0 fun _ _ => false) = some Y) : HasOnly lo code Y := by
  obtain ⟨k, hk⟩ := hk
  refine roundsL_inv lo.size (code.length + 1) code (HasOnly lo code) (fun X hX => ?_) k _ Y ?_ hk
  · refine passL_inv _ _ (HasOnly lo code) code false X (fun x hx h7 hf1 hf2 X hX a j ha h => ?_) hX
    unfold mergeF at h
    rcases Bool.or_eq_true_iff.1 h with h | h
    · exact hX a j ha h
    · simp only [Bool.and_eq_true, beq_iff_eq] at h
      obtain ⟨rfl, h2⟩ := h
      obtain ⟨i, hi⟩ := List.getElem?_of_mem hx
      obtain ⟨e, hil⟩ := getD_of hi
      have w := wf_mem hw hx
      have g := hg i hil
      rw [e] at g
      obtain ⟨g0, g1⟩ := g.2 h7
      have n1 := namedF_nonneg g0
      have n2 := namedF_nonneg (g1 ▸ g0)
      have hf2n : x.f2.toNat < lo.size := by have := w.2.2.1.1; omega
      obtain ⟨r1, r2, r3, r4, r5⟩ := hX x.f2.toNat j hf2n h2
      refine ⟨r1, r2, r3, r4, r5.trans ?_⟩
      rw [show ((x.f2.toNat : Nat) : Int) = x.f2 from by have := w.2.2.1.1; omega, show ((x.f1.toNat : Nat) : Int) = x.f1 from by have := w.2.1.1; omega]
      have := n1.2
      have := n2.2
      omega
  · refine newsL_inv lo.size (HasOnly lo code) code 0 _ (fun i x hi h5 hf X hX a j ha h => ?_) (fun a j _ h => by cases h)
    unfold markF at h
    rcases Bool.or_eq_true_iff.1 h with h | h
    · simp only [Bool.and_eq_true, beq_iff_eq] at h
      obtain ⟨rfl, rfl⟩ := h
      obtain ⟨e, hil⟩ := getD_of hi
      have w := hw i
      rw [e] at w
      rw [Nat.zero_add, e]
      refine ⟨hil, h5, w.2.1.1, hf, ?_⟩
      rw [show ((x.f1.toNat : Nat) : Int) = x.f1 from by have := w.2.1.1; omega]
    · exact hX a j ha h

/-! ### The table as lists -/
theorem tabM_len (n m : Nat) (X : Tb) : (tabM n m X).length = n := by simp [tabM]
theorem tabM_row {n m : Nat} (X : Tb) {a : Nat} (h : a < n) : rd_L8 (tabM n m X) (a : Nat) = rowM m (X a) := by
  unfold rd_L8
  rw [List.getD_eq_getElem?_getD, Int.toNat_natCast]
  simp [tabM, h]
theorem rowM_len (m : Nat) (f : Nat → Bool) : (rowM m f).length = m := by simp [rowM]
theorem rowM_at {m : Nat} (f : Nat → Bool) {j : Nat} (h : j < m) : rdOf false (rowM m f) (j : Nat) = f j := by
  unfold rdOf
  rw [List.getD_eq_getElem?_getD, Int.toNat_natCast]
  simp [rowM, h]
end Go.Proofs.YtgfnpdfhdgenbaaDoor.P
