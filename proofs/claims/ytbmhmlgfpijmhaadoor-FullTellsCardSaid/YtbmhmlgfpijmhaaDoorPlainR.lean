/-
  PLAIN LEAN: the document's Last finds the place that full's Last finds, where each write is of a field that is there.
-/
import Derived.Test.YtbmhmlgfpijmhaaDoorPlainB
import Derived.Test.YtbmhmlgfpijmhaaDoorGivenR
namespace Go.Proofs.YtbmhmlgfpijmhaaDoor.P
open Go.RowKit Go.Proofs.YtbmhmlgfpijmhaaDoorW.PrintWords Go.Proofs.YtbmhmlgfpijmhaaDoorW.PrintLast Go.Proofs.YtbmhmlgfpijmhaaDoorW.PrintMore

def pcR (h : Nat) : Nat := ((List.range 6).filter fun n => h.testBit n).length
theorem pcR_step : ∀ s : Fin 7, ∀ h : Fin 64, ∀ n : Fin 6, n.val < s.val → h.val < 2 ^ s.val →
    h.val ||| 2 ^ n.val < 2 ^ s.val ∧ pcR (h.val ||| 2 ^ n.val) = pcR h.val + (if h.val.testBit n.val then 0 else 1) ∧ (pcR (h.val ||| 2 ^ n.val) = s.val ↔ h.val ||| 2 ^ n.val = 2 ^ s.val - 1) ∧ pcR (h.val ||| 2 ^ n.val) ≤ s.val := by decide +kernel
def LeftIs (left : Int) (s h : Nat) : Prop := ∃ p, pcR h = p ∧ p ≤ s ∧ left = (s : Int) - (p : Int)
theorem left_sub {left : Int} {s p : Nat} (hs : s ≤ 6) (hp : p + 1 ≤ s) (h : left = (s : Int) - (p : Int)) : wrap64 (left - 1) = (s : Int) - ((p + 1 : Nat) : Int) := by
  unfold wrap64
  omega
theorem left_step {left : Int} {s h n : Nat} (hs : s ≤ 6) (hh : h < 2 ^ s) (hn : n < s) (hl : LeftIs left s h) :
    h ||| 2 ^ n < 2 ^ s ∧ LeftIs (leftOf n left h) s (h ||| 2 ^ n) ∧ (leftOf n left h = 0 ↔ h ||| 2 ^ n = 2 ^ s - 1) := by
  have h64 : h < 64 := Nat.lt_of_lt_of_le hh (Nat.pow_le_pow_right (by decide) hs)
  obtain ⟨a1, a2, a3, a4⟩ := pcR_step ⟨s, by omega⟩ ⟨h, h64⟩ ⟨n, by omega⟩ hn hh
  dsimp only at a1 a2 a3 a4
  obtain ⟨p, hp, hps, hl⟩ := hl
  rw [hp] at a2
  have key : leftOf n left h = (s : Int) - ((pcR (h ||| 2 ^ n) : Nat) : Int) := by
    unfold leftOf
    by_cases hb : h.testBit n = true
    · rw [if_pos hb] at a2 ⊢
      rw [a2]
      exact hl
    · rw [if_neg hb] at a2 ⊢
      rw [a2] at a4 ⊢
      exact left_sub hs a4 hl
  refine ⟨a1, ⟨_, rfl, a4, key⟩, ?_⟩
  rw [← a3, key]
  clear a3 key a1 hh h64 hl hp a2
  generalize pcR (h ||| 2 ^ n) = p'
  omega
theorem nat_f4 {n : Int} {s : Nat} (h0 : 0 ≤ n) (h1 : n < (s : Int)) (hs : s ≤ 6) : n.toNat < s ∧ n < 6 := by omega
theorem lastR_eq (a : Int) (code : List S39) (s q : Nat) (hs : s ≤ 6) (good : ∀ j, (code.getD j z39).f1 = a → ((code.getD j z39).f0 = 9 ∨ (code.getD j z39).f0 = 11) → 0 ≤ (code.getD j z39).f4 ∧ (code.getD j z39).f4 < (s : Int)) :
    ∀ d i left h, h < 2 ^ s → LeftIs left s h → lastR a code d (q + 1 + i) left h = some (place q (runL a (2 ^ s - 1) (code.drop (q + 1)) d i h)) := by
  intro d
  induction d with
  | zero => intro i left h _ _; rfl
  | succ d ih =>
    intro i left h hh hl
    have g := good (q + 1 + i)
    unfold lastR runL
    rw [getD_drop]
    generalize code.getD (q + 1 + i) z39 = x at g ⊢
    unfold cls
    by_cases h9 : x.f0 = 9 ∨ x.f0 = 11
    · rw [if_neg (show ¬ (x.f0 = 1 ∨ x.f0 = 2 ∨ x.f0 = 14 ∨ x.f0 = 15) by clear hl hh ih good; omega), if_neg (show ¬ (x.f0 = 6 ∨ x.f0 = 7) by clear hl hh ih good; omega), if_pos h9]
      by_cases ha : x.f1 = a
      · obtain ⟨g0, g1⟩ := g ha h9
        obtain ⟨n1, n2⟩ := nat_f4 g0 g1 hs
        obtain ⟨s1, s2, s3⟩ := left_step hs hh n1 hl
        rw [if_pos (show (x.f0 = 9 ∨ x.f0 = 11) ∧ x.f1 = a from ⟨h9, ha⟩), if_pos (show 0 ≤ x.f4 ∧ x.f4 < 6 from ⟨g0, n2⟩), if_pos (show x.f1 = a ∧ 0 ≤ x.f4 ∧ x.f4 < 6 from ⟨ha, g0, n2⟩)]
        dsimp only
        by_cases hz : leftOf x.f4.toNat left h = 0
        · rw [if_pos hz, if_pos (s3.1 hz)]
          rfl
        · rw [if_neg hz, if_neg (fun hh => hz (s3.2 hh))]
          exact ih (i + 1) _ _ s1 s2
      · rw [if_neg (show ¬ ((x.f0 = 9 ∨ x.f0 = 11) ∧ x.f1 = a) from fun hh => ha hh.2), if_neg (show ¬ (x.f1 = a ∧ 0 ≤ x.f4 ∧ x.f4 < 6) from fun hh => ha hh.1)]
        have : passB x a = false := by
          unfold passB
          rcases h9 with h9 | h9 <;> rw [h9] <;> rfl
        rw [this]
        rfl
    · rw [if_neg (show ¬ ((x.f0 = 9 ∨ x.f0 = 11) ∧ x.f1 = a) from fun hh => h9 hh.1)]
      by_cases h1 : x.f0 = 1 ∨ x.f0 = 2 ∨ x.f0 = 14 ∨ x.f0 = 15
      · have : passB x a = true := by
          unfold passB
          rcases h1 with h1 | h1 | h1 | h1 <;> rw [h1] <;> rfl
        rw [if_pos this, if_pos h1]
        exact ih (i + 1) _ _ hh hl
      · rw [if_neg h1]
        by_cases h6 : x.f0 = 6 ∨ x.f0 = 7
        · have : passB x a = !(x.f1 == a) := by
            unfold passB
            rcases h6 with h6 | h6 <;> rw [h6] <;> rfl
          rw [this, if_pos h6]
          by_cases ha : x.f1 = a
          · rw [if_neg (by simp [ha]), if_pos ha]
            rfl
          · rw [if_pos (by simp [ha]), if_neg ha]
            exact ih (i + 1) _ _ hh hl
        · have : passB x a = false := by
            unfold passB
            simp only [Bool.or_eq_false_iff, Bool.and_eq_false_iff, beq_eq_false_iff_ne, ne_eq]
            omega
          rw [this, if_neg h6, if_neg h9]
          rfl
theorem pcR_zero (s : Nat) : LeftIs (s : Int) s 0 := ⟨0, by decide, by omega, by omega⟩
end Go.Proofs.YtbmhmlgfpijmhaaDoor.P
