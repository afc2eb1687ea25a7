/-
  PLAIN LEAN: leak.May's table: the rounds end; what it has, and what it surely has.
-/
import Derived.Test.YtgfnpdfhdgenbaaDoorPlainT
namespace Go.Proofs.YtgfnpdfhdgenbaaDoor.P
open Go.RowKit Go.Proofs.YtgfnpdfhdgenbaaDoorW.PrintWords Go.Proofs.YtgfnpdfhdgenbaaDoorW.PrintLast Go.Proofs.YtgfnpdfhdgenbaaDoorW.PrintMore
set_option linter.unusedVariables false
set_option linter.unusedSimpArgs false

/-! ### How many are not there -/
def cntF (f : Nat → Bool) : Nat → Nat
  | 0 => 0
  | n + 1 => cntF f n + (if f n then 0 else 1)
theorem cntF_le {f g : Nat → Bool} : ∀ n, (∀ i, i < n → f i = true → g i = true) → cntF g n ≤ cntF f n
  | 0, _ => Nat.le_refl _
  | n + 1, h => by
    have ih := cntF_le n fun i hi => h i (Nat.lt_succ_of_lt hi)
    have := h n (Nat.lt_succ_self n)
    unfold cntF
    cases hf : f n <;> cases hg : g n <;> simp_all <;> omega
theorem cntF_lt {f g : Nat → Bool} : ∀ n, (∀ i, i < n → f i = true → g i = true) → (∃ i, i < n ∧ f i = false ∧ g i = true) → cntF g n < cntF f n
  | 0, _, ⟨i, hi, _⟩ => absurd hi (Nat.not_lt_zero _)
  | n + 1, h, ⟨i, hi, hf, hg⟩ => by
    unfold cntF
    rcases Nat.lt_succ_iff_lt_or_eq.1 hi with hlt | rfl
    · have ih := cntF_lt n (fun i hi => h i (Nat.lt_succ_of_lt hi)) ⟨i, hlt, hf, hg⟩
      have := h n (Nat.lt_succ_self n)
      cases hf2 : f n <;> cases hg2 : g n <;> simp_all <;> omega
    · have := cntF_le i fun j hj => h j (Nat.lt_succ_of_lt hj)
      rw [hf, hg]
      simp only [if_true, Bool.false_eq_true, if_false]
      omega
def cellF (m : Nat) (X : Tb) (i : Nat) : Bool := X (i / m) (i % m)
theorem cell_at {m a j : Nat} (X : Tb) (hj : j < m) : cellF m X (a * m + j) = X a j := by
  unfold cellF
  rw [Nat.mul_comm, Nat.mul_add_div (by omega), Nat.div_eq_of_lt hj, Nat.mul_add_mod, Nat.mod_eq_of_lt hj, Nat.add_zero]

/-! ### One round -/
def LeT (X Y : Tb) : Prop := ∀ a j, X a j = true → Y a j = true
theorem LeT.refl (X : Tb) : LeT X X := fun _ _ h => h
theorem LeT.trans {X Y Z : Tb} (h : LeT X Y) (k : LeT Y Z) : LeT X Z := fun a j hx => k a j (h a j hx)
theorem merge_le (X : Tb) (a b : Nat) : LeT X (mergeF X a b) := fun a' j h => by unfold mergeF; rw [h]; rfl
theorem mark_le (X : Tb) (a k : Nat) : LeT X (markF X a k) := fun a' j h => by unfold markF; rw [h, Bool.or_true]
theorem passL_le (n m : Nat) : ∀ (l : List S45) (b : Bool) (X : Tb), LeT X (passL n m l b X).2
  | [], _, X => LeT.refl X
  | x :: l, b, X => by
    rw [passL]
    split
    · exact (merge_le X _ _).trans (passL_le n m l _ _)
    · exact passL_le n m l b X
theorem passL_more (n m : Nat) : ∀ (l : List S45) (b : Bool) (X : Tb), (∀ x ∈ l, 0 ≤ x.f1) → (passL n m l b X).1 = true → b = true ∨ ∃ a j, a < n ∧ j < m ∧ X a j = false ∧ (passL n m l b X).2 a j = true
  | [], b, X, _, h => .inl h
  | x :: l, b, X, hx, h => by
    rw [passL] at h ⊢
    by_cases hc : x.f0 = 7 ∧ x.f1 < (n : Int) ∧ x.f2 < (n : Int)
    · rw [if_pos hc] at h ⊢
      rcases passL_more n m l _ _ (fun y hy => hx y (List.mem_cons_of_mem _ hy)) h with h1 | ⟨a, j, ha, hj, h1, h2⟩
      · rcases Bool.or_eq_true_iff.1 h1 with h1 | h1
        · unfold moreF at h1
          obtain ⟨j, hj, h1⟩ := List.any_eq_true.1 h1
          have hj := List.mem_range.1 hj
          simp only [Bool.and_eq_true, Bool.not_eq_true'] at h1
          refine .inr ⟨x.f1.toNat, j, ?_, hj, h1.2, ?_⟩
          · have := hx x List.mem_cons_self
            omega
          · refine passL_le n m l _ _ _ _ ?_
            unfold mergeF
            rw [h1.1, h1.2]
            simp
        · exact .inl h1
      · refine .inr ⟨a, j, ha, hj, ?_, h2⟩
        cases hX : X a j
        · rfl
        · rw [merge_le X _ _ a j hX] at h1
          cases h1
    · rw [if_neg hc] at h ⊢
      exact passL_more n m l b X (fun y hy => hx y (List.mem_cons_of_mem _ hy)) h
/-- The rounds end. -/
theorem rounds_end (n m : Nat) (code : List S45) (hx : ∀ x ∈ code, 0 ≤ x.f1) : ∀ (d : Nat) (X : Tb), cntF (cellF m X) (n * m) ≤ d → ∃ Y, Ev (fun k => roundsL n m code k X) Y ∧ ∃ k, roundsL n m code k X = some Y := by
  intro d
  induction d with
  | zero =>
    intro X h
    have hb : (passL n m code false X).1 = false := by
      cases hb : (passL n m code false X).1
      · rfl
      · rcases passL_more n m code false X hx hb with h1 | ⟨a, j, ha, hj, h1, h2⟩
        · cases h1
        · have hl : a * m + j < n * m := Nat.lt_of_lt_of_le (Nat.add_lt_add_left hj _) (by rw [← Nat.succ_mul]; exact Nat.mul_le_mul_right _ ha)
          have := cntF_lt (f := cellF m X) (g := cellF m (passL n m code false X).2) (n * m) (fun i _ hi => passL_le n m code false X _ _ hi) ⟨a * m + j, hl, by rw [cell_at X hj]; exact h1, by rw [cell_at _ hj]; exact h2⟩
          omega
    refine ⟨(passL n m code false X).2, Ev.step (f := fun _ => some _) (fun k => ?_) (Ev.now _), 1, ?_⟩ <;> rw [roundsL, if_neg (by rw [hb]; decide)]
  | succ d ih =>
    intro X h
    cases hb : (passL n m code false X).1
    · refine ⟨(passL n m code false X).2, Ev.step (f := fun _ => some _) (fun k => ?_) (Ev.now _), 1, ?_⟩ <;> rw [roundsL, if_neg (by rw [hb]; decide)]
    · rcases passL_more n m code false X hx hb with h1 | ⟨a, j, ha, hj, h1, h2⟩
      · cases h1
      · have hl : a * m + j < n * m := Nat.lt_of_lt_of_le (Nat.add_lt_add_left hj _) (by rw [← Nat.succ_mul]; exact Nat.mul_le_mul_right _ ha)
        have := cntF_lt (f := cellF m X) (g := cellF m (passL n m code false X).2) (n * m) (fun i _ hi => passL_le n m code false X _ _ hi) ⟨a * m + j, hl, by rw [cell_at X hj]; exact h1, by rw [cell_at _ hj]; exact h2⟩
        obtain ⟨Y, hY, k, hk⟩ := ih (passL n m code false X).2 (by omega)
        refine ⟨Y, Ev.step (f := fun k => roundsL n m code k (passL n m code false X).2) (fun k => ?_) hY, k + 1, ?_⟩
        · rw [roundsL, if_pos hb]
        · rw [roundsL, if_pos hb]
          exact hk

/-! ### What stays true -/
theorem roundsL_inv (n m : Nat) (code : List S45) (I : Tb → Prop) (hI : ∀ X, I X → I (passL n m code false X).2) : ∀ (k : Nat) (X Y : Tb), I X → roundsL n m code k X = some Y → I Y
  | 0, _, _, _, h => by rw [roundsL] at h; cases h
  | k + 1, X, Y, hX, h => by
    rw [roundsL] at h
    split at h
    · exact roundsL_inv n m code I hI k _ Y (hI X hX) h
    · rw [← Option.some.inj h]
      exact hI X hX
theorem passL_inv (n m : Nat) (I : Tb → Prop) : ∀ (l : List S45) (b : Bool) (X : Tb), (∀ x ∈ l, x.f0 = 7 → x.f1 < (n : Int) → x.f2 < (n : Int) → ∀ X, I X → I (mergeF X x.f1.toNat x.f2.toNat)) → I X → I (passL n m l b X).2
  | [], _, _, _, h => h
  | x :: l, b, X, hm, h => by
    rw [passL]
    split
    · rename_i hc
      exact passL_inv n m I l _ _ (fun y hy => hm y (List.mem_cons_of_mem _ hy)) (hm x List.mem_cons_self hc.1 hc.2.1 hc.2.2 X h)
    · exact passL_inv n m I l b X (fun y hy => hm y (List.mem_cons_of_mem _ hy)) h
theorem newsL_inv (n : Nat) (I : Tb → Prop) : ∀ (l : List S45) (i : Nat) (X : Tb), (∀ j x, l[j]? = some x → x.f0 = 5 → x.f1 < (n : Int) → ∀ X, I X → I (markF X x.f1.toNat (i + j))) → I X → I (newsL n l i X)
  | [], _, _, _, h => h
  | x :: l, i, X, hm, h => by
    rw [newsL]
    refine newsL_inv n I l (i + 1) _ (fun j y hy h5 hf X hX => ?_) ?_
    · have := hm (j + 1) y (by simpa using hy) h5 hf X hX
      rw [show i + (j + 1) = i + 1 + j from by omega] at this
      exact this
    · split
      · rename_i hc
        have := hm 0 x rfl hc.1 hc.2 X h
        rw [Nat.add_zero] at this
        exact this
      · exact h
theorem newsL_le (n : Nat) : ∀ (l : List S45) (i : Nat) (X : Tb), LeT X (newsL n l i X)
  | [], _, X => LeT.refl X
  | x :: l, i, X => by
    rw [newsL]
    split
    · exact (mark_le X _ _).trans (newsL_le n l _ _)
    · exact newsL_le n l _ _
theorem newsL_has (n : Nat) : ∀ (l : List S45) (i : Nat) (X : Tb) (j : Nat) (x : S45), l[j]? = some x → x.f0 = 5 → x.f1 < (n : Int) → newsL n l i X x.f1.toNat (i + j) = true
  | [], _, _, _, _, h, _, _ => by simp at h
  | y :: l, i, X, 0, x, h, h5, hf => by
    obtain rfl : y = x := by simpa using h
    rw [newsL, if_pos ⟨h5, hf⟩]
    refine newsL_le n l _ _ _ _ ?_
    unfold markF
    simp
  | y :: l, i, X, j + 1, x, h, h5, hf => by
    rw [newsL, show i + (j + 1) = i + 1 + j from by omega]
    exact newsL_has n l (i + 1) _ j x (by simpa using h) h5 hf
end Go.Proofs.YtgfnpdfhdgenbaaDoor.P
