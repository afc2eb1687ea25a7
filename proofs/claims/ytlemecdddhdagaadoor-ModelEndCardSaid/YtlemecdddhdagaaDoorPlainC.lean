/-
  PLAIN LEAN: alive, Few, Need; what names name.
-/
import Derived.Test.YtlemecdddhdagaaDoorPlainB
import Derived.Test.YtlemecdddhdagaaDoorPx5
namespace Go.Proofs.YtlemecdddhdagaaDoor.P
open Go.RowKit Go.Proofs.YtlemecdddhdagaaDoorW.PrintWords Go.Proofs.YtlemecdddhdagaaDoorW.PrintLast Go.Proofs.YtlemecdddhdagaaDoorW.PrintMore

theorem alive_f : Ev (fun k => lockstitchlaw06_alive.f k) true := Ev.of (k := 40) lockstitchlaw06_alive.mono (by kernel_rfl)

theorem few_f (t : List ByteArray) (lo gl : ByteArray) (code : List S55) (ht : t.length ≤ 9223372036854775807) : ∃ b, Ev (fun k => lockstitchlaw04_Few.f k t lo gl code) b := by
  have : ∀ d i x3, i + d = t.length → ∃ b, Ev (fun k => lockstitchlaw04_Few.l0 k x3 t t.length (i : Nat) t lo gl code) b := by
    intro d
    induction d with
    | zero =>
      intro i x3 hi
      by_cases h : x3 ≤ 500
      · refine ⟨_, Ev.step (f := fun _ => some (decide ((code.length : Int) ≤ 210))) (fun k => ?_) (Ev.now _)⟩
        simp only [lockstitchlaw04_Few.l0]
        rw [if_neg (by omega), if_pos h]
      · refine ⟨_, Ev.step (f := fun _ => some false) (fun k => ?_) (Ev.now _)⟩
        simp only [lockstitchlaw04_Few.l0]
        rw [if_neg (by omega), if_neg h]
    | succ d ih =>
      intro i x3 hi
      obtain ⟨b, hb⟩ := ih (i + 1) (wrap64 (x3 + (wrap64 (((rdOf ByteArray.empty t i).size : Int) + 1)))) (by omega)
      refine ⟨b, Ev.step (fun k => ?_) hb⟩
      simp only [lockstitchlaw04_Few.l0]
      rw [if_pos (by omega), if_pos (by omega), if_pos (by omega), wrapN (i := i) (n := t.length) (by omega) ht]
  exact this t.length 0 _ (by omega)

/-! ### Need -/
theorem mx_le {a b c : Int} (h1 : a ≤ c) (h2 : b ≤ c) : mx a b ≤ c := by unfold mx; split <;> assumption
theorem le_mx_left {a b c : Int} (h : c ≤ a) : c ≤ mx a b := by unfold mx; split <;> omega
theorem le_mx_right {a b c : Int} (h : c ≤ b) : c ≤ mx a b := by unfold mx; split <;> omega
theorem rightB_one {t : List ByteArray} (h : rightB t = true) (i : Nat) (hi : i < t.length) : 1 ≤ sizeF t i ∧ sizeF t i ≤ 6 := by
  have h' := h
  unfold rightB at h'
  simp only [Bool.and_eq_true, decide_eq_true_eq] at h'
  have h2 := allB_iff.1 h'.1 i hi
  unfold oneB at h2
  simp only [Bool.and_eq_true, decide_eq_true_eq] at h2
  unfold sizeF ofF
  rw [h, if_pos (by simp; omega)]
  omega
theorem sizeF_le {t : List ByteArray} (h : rightB t = true) (i : Nat) : sizeF t i ≤ 6 := by
  by_cases hi : i < t.length
  · exact (rightB_one h i hi).2
  · unfold sizeF ofF
    rw [if_neg (by simp; omega)]
    decide
theorem rightB_len {t : List ByteArray} (h : rightB t = true) : 1 ≤ t.length ∧ t.length ≤ 8 := by
  unfold rightB at h
  simp only [Bool.and_eq_true, decide_eq_true_eq] at h
  omega
theorem headB_parts {t : List ByteArray} {lo gl : ByteArray} (h : headB t lo gl = true) : rightB t = true ∧ (∀ j, j < lo.size → 0 ≤ digF (bt lo j) t.length) ∧ (∀ j, j < gl.size → 0 ≤ digF (bt gl j) t.length) ∧ lo.size ≤ 8 ∧ gl.size ≤ 4 := by
  unfold headB refsB at h
  simp only [Bool.and_eq_true, decide_eq_true_eq] at h
  obtain ⟨⟨h1, h2⟩, h3, h4⟩ := h
  have hj : ∀ j, j < (lo ++ gl).size → 0 ≤ digF (bt (lo ++ gl) j) t.length := fun j hj => of_decide_eq_true (allB_iff.1 h1 j hj)
  have sz : (lo ++ gl).size = lo.size + gl.size := by simp
  refine ⟨h2, fun j h => ?_, fun j h => ?_, h3, h4⟩
  · have := hj j (by omega)
    rw [show bt (lo ++ gl) (j : Int) = bt lo j from ?_] at this
    · exact this
    · unfold bt
      rw [dif_pos (by rw [Int.toNat_natCast]; omega), dif_pos (by rw [Int.toNat_natCast]; omega)]
      congr 2
      exact ByteArray.getElem_append_left _
  · have := hj (lo.size + j) (by omega)
    rw [show bt (lo ++ gl) ((lo.size + j : Nat) : Int) = bt gl j from ?_] at this
    · exact this
    · unfold bt
      rw [dif_pos (by rw [Int.toNat_natCast]; omega), dif_pos (by rw [Int.toNat_natCast]; omega)]
      congr 2
      have : (lo ++ gl)[lo.size + j]'(by omega) = gl[lo.size + j - lo.size]'(by omega) := ByteArray.getElem_append_right (by omega)
      show (lo ++ gl)[lo.size + j]'(by omega) = gl[j]'(by omega)
      rw [this]
      congr 1
      omega
theorem namedF_ok {t : List ByteArray} {s : ByteArray} (hr : rightB t = true) (hs : ∀ j, j < s.size → 0 ≤ digF (bt s j) t.length) {a : Int} (ha : 0 ≤ a) : (0 ≤ namedF t s a ↔ a < s.size) ∧ namedF t s a < t.length := by
  have := (rightB_len hr).1
  unfold namedF
  by_cases h : a < s.size
  · obtain ⟨n, rfl⟩ := Int.eq_ofNat_of_zero_le ha
    have h1 := hs n (by omega)
    have h2 := digF_iff.1 h1
    rw [if_pos h, hr, if_pos (by simp; exact h1)]
    omega
  · rw [if_neg h]
    omega
/-! ### Parts of programs -/
theorem rd_at (l : List S55) (i : Nat) : rd_T55 l (i : Int) = l.getD i z55 := rfl
theorem getD_take (l : List S55) (m i : Nat) : (l.take m).getD i z55 = if i < m then l.getD i z55 else z55 := by
  rw [List.getD_eq_getElem?_getD, List.getD_eq_getElem?_getD, List.getElem?_take]
  split <;> rfl
theorem wf_zero (i : Nat) : (0 ≤ (([] : List S55).getD i z55).f1 ∧ (([] : List S55).getD i z55).f1 ≤ 255) ∧ (0 ≤ (([] : List S55).getD i z55).f2 ∧ (([] : List S55).getD i z55).f2 ≤ 255) ∧ (0 ≤ (([] : List S55).getD i z55).f3 ∧ (([] : List S55).getD i z55).f3 ≤ 255) := by
  show (0 ≤ z55.f1 ∧ z55.f1 ≤ 255) ∧ (0 ≤ z55.f2 ∧ z55.f2 ≤ 255) ∧ (0 ≤ z55.f3 ∧ z55.f3 ≤ 255)
  decide
theorem Wf.take {code : List S55} (h : Wf code) (m : Nat) : Wf (code.take m) := fun i => by
  rw [getD_take]
  split
  · exact h i
  · exact wf_zero 0
end Go.Proofs.YtlemecdddhdagaaDoor.P
