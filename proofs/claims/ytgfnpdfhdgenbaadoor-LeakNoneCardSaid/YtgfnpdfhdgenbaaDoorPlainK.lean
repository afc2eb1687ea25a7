/-
  PLAIN LEAN: the document's kinds (ref03, ref05) as closed functions.
-/
import Derived.Test.YtgfnpdfhdgenbaaDoorPlainC
namespace Go.Proofs.YtgfnpdfhdgenbaaDoor.P
open Go.RowKit Go.Proofs.YtgfnpdfhdgenbaaDoorW.PrintWords Go.Proofs.YtgfnpdfhdgenbaaDoorW.PrintLast Go.Proofs.YtgfnpdfhdgenbaaDoorW.PrintMore


/-! ### The document's kinds are kind's -/
theorem digit3_bt (s : ByteArray) (i n : Int) : lockstitchref03_digit.f (bt s i) n = some (digF (bt s i) n) := by
  have h := bt_range s i
  unfold lockstitchref03_digit.f digF
  by_cases h1 : bt s i < 48
  · rw [if_pos h1, if_neg (by omega)]
  · rw [if_neg h1, show (bt s i - 48) % 256 = bt s i - 48 from by omega]
    by_cases h2 : bt s i - 48 < n
    · rw [if_neg (show ¬ bt s i - 48 ≥ n from by omega), if_pos (show 48 ≤ bt s i from by omega), if_pos h2]
    · rw [if_pos (show bt s i - 48 ≥ n from by omega), if_pos (show 48 ≤ bt s i from by omega), if_neg h2]
theorem right3_f (t : List ByteArray) (ht : t.length ≤ 9223372036854775807) (hs : ∀ i : Int, (rdOf ByteArray.empty t i).size ≤ 9223372036854775807) : Ev (fun k => lockstitchref03_Right.f k t) (rightB t) := by
  have l1 : ∀ (i : Nat) (s : ByteArray) (r : Bool), s.size ≤ 9223372036854775807 → Ev (fun k => lockstitchref03_Right.l0 k t (wrap64 ((i : Int) + 1))) r →
      Ev (fun k => lockstitchref03_Right.l1 k t (i : Nat) s 0) (okB s t.length && (if (s.size : Int) < 1 then false else if (s.size : Int) > 6 then false else r)) := by
    intro i s r hsz hr
    have := loop_first (g := fun k j => lockstitchref03_Right.l1 k t (i : Nat) s (j : Nat)) (fun j => if (bt s j == 105 || decide (0 ≤ digF (bt s j) t.length)) then none else some false) s.size (if (s.size : Int) < 1 then false else if (s.size : Int) > 6 then false else r)
      (fun j hj hb q hq => ?_) (fun j hj b hb => ?_) (fun _ => ?_) s.size 0 (by omega) (fun j hj => by omega)
    · rw [scan_all s.size (fun j => bt s j == 105 || decide (0 ≤ digF (bt s j) t.length))] at this
      exact this
    · refine Ev.step (fun k => ?_) hq
      simp only [lockstitchref03_Right.l1]
      rw [if_pos (by omega), if_pos (by omega), wrapN (i := j) (n := s.size) hj hsz]
      by_cases h : bt s j = 105
      · rw [if_pos h]
      · rw [if_neg h, digit3_bt]
        simp only [Option.bind_some]
        have h2 : 0 ≤ digF (bt s j) t.length := by
          have := hb
          simp [h] at this
          exact this
        rw [if_neg (by omega)]
    · have hb' : ¬ bt s j = 105 ∧ ¬ 0 ≤ digF (bt s j) t.length ∧ b = false := by
        by_cases h : bt s j = 105
        · simp [h] at hb
        · by_cases h2 : 0 ≤ digF (bt s j) t.length
          · simp [h2] at hb
          · simp [h, h2] at hb
            exact ⟨h, h2, hb⟩
      obtain ⟨h1, h2, rfl⟩ := hb'
      refine Ev.step (f := fun _ => some false) (fun k => ?_) (Ev.now false)
      simp only [lockstitchref03_Right.l1]
      rw [if_pos (by omega), if_pos (by omega), if_neg h1, digit3_bt]
      simp only [Option.bind_some]
      rw [if_pos (by omega)]
    · refine Ev.step (fun k => by simp only [lockstitchref03_Right.l1]; rfl) ?_
      refine Ev.congr (fun k => if_neg (by omega)) ?_
      exact Ev.ite (fun _ => Ev.now _) fun _ => Ev.ite (fun _ => Ev.now _) fun _ => hr
  have := loop_first (g := fun k i => lockstitchref03_Right.l0 k t (i : Nat)) (fun i => if oneB (rdOf ByteArray.empty t i) t.length then none else some false) t.length (decide (1 ≤ t.length) && decide (t.length ≤ 8))
    (fun i hi hb q hq => ?_) (fun i hi b hb => ?_) (fun _ => ?_) t.length 0 (by omega) (fun j hj => by omega)
  · rw [scan_all t.length (fun i => oneB (rdOf ByteArray.empty t i) t.length)] at this
    exact this
  · have ho : oneB (rdOf ByteArray.empty t i) t.length = true := by
      cases h : oneB (rdOf ByteArray.empty t i) t.length <;> simp [h] at hb ⊢
    unfold oneB at ho
    simp only [Bool.and_eq_true, decide_eq_true_eq] at ho
    obtain ⟨⟨h1, h2⟩, h3⟩ := ho
    refine Ev.step (f := fun k => lockstitchref03_Right.l1 k t (i : Nat) (rdOf ByteArray.empty t i) 0) (fun k => ?_) ?_
    · simp only [lockstitchref03_Right.l0]
      rw [if_pos (by omega), if_pos (by omega)]
    · have := l1 i (rdOf ByteArray.empty t i) q (hs _) (by rw [wrapN hi ht]; exact hq)
      rw [h3, Bool.true_and, if_neg (by omega), if_neg (by omega)] at this
      exact this
  · have ho : oneB (rdOf ByteArray.empty t i) t.length = false ∧ b = false := by
      cases h : oneB (rdOf ByteArray.empty t i) t.length <;> simp [h] at hb
      exact ⟨rfl, hb⟩
    obtain ⟨ho, rfl⟩ := ho
    refine Ev.step (f := fun k => lockstitchref03_Right.l1 k t (i : Nat) (rdOf ByteArray.empty t i) 0) (fun k => ?_) ?_
    · simp only [lockstitchref03_Right.l0]
      rw [if_pos (by omega), if_pos (by omega)]
    · -- whatever stands behind, it is false
      have tot := right3_tot t ht hs
      have nx : ∃ r, Ev (fun k => lockstitchref03_Right.l0 k t (wrap64 ((i : Int) + 1))) r := by
        rw [wrapN hi ht]
        have l0 : ∀ d j, j + d = t.length → ∃ r, Ev (fun k => lockstitchref03_Right.l0 k t (j : Nat)) r := by
          intro d
          induction d with
          | zero =>
            intro j hj
            refine ⟨(decide (1 ≤ t.length) && decide (t.length ≤ 8)), Ev.step (f := fun _ => some _) (fun k => ?_) (Ev.now _)⟩
            simp only [lockstitchref03_Right.l0]
            rw [if_neg (by omega)]
            by_cases h : 1 ≤ t.length
            · rw [if_pos (by omega), decide_eq_true h, Bool.true_and]
              congr 1
              exact decide_eq_decide.2 (by omega)
            · rw [if_neg (by omega), decide_eq_false h, Bool.false_and]
          | succ d ih =>
            intro j hj
            obtain ⟨r, hr⟩ := ih (j + 1) (by omega)
            have := l1 j (rdOf ByteArray.empty t j) r (hs _) (by rw [wrapN (i := j) (n := t.length) (by omega) ht]; exact hr)
            refine ⟨_, Ev.step (fun k => ?_) this⟩
            simp only [lockstitchref03_Right.l0]
            rw [if_pos (by omega), if_pos (by omega)]
        exact l0 (t.length - (i + 1)) (i + 1) (by omega)
      obtain ⟨r, hr⟩ := nx
      have := l1 i (rdOf ByteArray.empty t i) r (hs _) hr
      refine Ev.out this ?_
      unfold oneB at ho
      by_cases h1 : ((rdOf ByteArray.empty t i).size : Int) < 1
      · rw [if_pos h1, Bool.and_false]
      · by_cases h2 : ((rdOf ByteArray.empty t i).size : Int) > 6
        · rw [if_neg h1, if_pos h2, Bool.and_false]
        · rw [decide_eq_true (by omega), decide_eq_true (by omega)] at ho
          simp at ho
          rw [ho, Bool.false_and]
  · refine Ev.step (f := fun _ => some (decide (1 ≤ t.length) && decide (t.length ≤ 8))) (fun k => ?_) (Ev.now _)
    simp only [lockstitchref03_Right.l0]
    rw [if_neg (by omega)]
    by_cases h : 1 ≤ t.length
    · rw [if_pos (by omega), decide_eq_true h, Bool.true_and]
      congr 1
      exact decide_eq_decide.2 (by omega)
    · rw [if_neg (by omega), decide_eq_false h, Bool.false_and]
theorem refs3_f (t : List ByteArray) (s : ByteArray) (ht : t.length ≤ 9223372036854775807) (hts : ∀ i : Int, (rdOf ByteArray.empty t i).size ≤ 9223372036854775807) (hs : s.size ≤ 9223372036854775807) : Ev (fun k => lockstitchref03_Refs.f k t s) (refsB t s) := by
  have := loop_first (g := fun k i => lockstitchref03_Refs.l0 k t s (i : Nat)) (fun i => if decide (0 ≤ digF (bt s i) t.length) then none else some false) s.size (rightB t)
    (fun i hi hb q hq => ?_) (fun i hi b hb => ?_) (fun _ => ?_) s.size 0 (by omega) (fun j hj => by omega)
  · rw [scan_all s.size (fun i => decide (0 ≤ digF (bt s i) t.length))] at this
    exact this
  · have h2 : 0 ≤ digF (bt s i) t.length := by
      by_cases h : 0 ≤ digF (bt s i) t.length
      · exact h
      · simp [h] at hb
    refine Ev.step (fun k => ?_) hq
    simp only [lockstitchref03_Refs.l0]
    rw [if_pos (by omega), if_pos (by omega), wrapN hi hs, digit3_bt]
    simp only [Option.bind_some]
    rw [if_neg (by omega)]
  · have h2 : ¬ 0 ≤ digF (bt s i) t.length ∧ b = false := by
      by_cases h : 0 ≤ digF (bt s i) t.length
      · simp [h] at hb
      · simp [h] at hb
        exact ⟨h, hb⟩
    obtain ⟨h2, rfl⟩ := h2
    refine Ev.step (f := fun _ => some false) (fun k => ?_) (Ev.now false)
    simp only [lockstitchref03_Refs.l0]
    rw [if_pos (by omega), if_pos (by omega), digit3_bt]
    simp only [Option.bind_some]
    rw [if_pos (by omega)]
  · refine Ev.step (f := fun k => (lockstitchref03_Right.f k t).bind fun z => some z) (fun k => ?_) (Ev.bind (right3_f t ht hts) (Ev.now _))
    simp only [lockstitchref03_Refs.l0]
    rw [if_neg (by omega)]
section
variable (t : List ByteArray) (ht : t.length ≤ 9223372036854775807) (hs : ∀ i : Int, (rdOf ByteArray.empty t i).size ≤ 9223372036854775807)
include ht hs
theorem at5_f (s : ByteArray) (a : Int) (h0 : 0 ≤ a) (h1 : a ≤ 255) : Ev (fun k => lockstitchref05_at.f k t s a) (namedF t s a) := by
  have e1 : wrap64 a = a := by unfold wrap64; omega
  have e2 : wrap64 (a + 1) = a + 1 := by unfold wrap64; omega
  by_cases h : a < s.size
  · obtain ⟨n, rfl⟩ := Int.eq_ofNat_of_zero_le h0
    have hn : n < s.size := by omega
    have hr := refs3_f t (s.extract n (n + 1)) ht hs (by rw [size_extract1 s n hn]; omega)
    have er : refsB t (s.extract n (n + 1)) = (decide (0 ≤ digF (bt s (n : Int)) t.length) && rightB t) := by
      unfold refsB
      rw [size_extract1 s n hn]
      congr 1
      show (List.range 1).all _ = _
      simp only [List.range_one, List.all_cons, List.all_nil, Bool.and_true]
      rw [show ((0 : Nat) : Int) = 0 from rfl, bt_extract1 s n hn]
    rw [er] at hr
    refine Ev.congr (f := fun k => (lockstitchref03_Refs.f k t (s.extract n (n + 1))).bind fun z => if z = true then some ((bt s n - 48) % 256) else some (-1)) (fun k => ?_) (Ev.bind hr ?_)
    · unfold lockstitchref05_at.f
      rw [e1, e2, if_neg (by omega), if_pos (by omega), if_pos (by omega), if_pos (by omega)]
      rw [show ((n : Int) + 1).toNat = n + 1 from by omega, Int.toNat_natCast]
      congr 1
      funext z
      by_cases hb : z = true
      · rw [if_pos hb, if_pos hb, if_pos (by omega), if_pos (by omega)]
      · rw [if_neg hb, if_neg hb]
    · unfold namedF
      rw [if_pos h]
      cases hb : (decide (0 ≤ digF (bt s (n : Int)) t.length) && rightB t)
      · rw [if_neg (by decide), if_neg (by decide)]
        exact Ev.now _
      · rw [if_pos rfl, if_pos rfl]
        have := digF_iff.1 (of_decide_eq_true (Bool.and_eq_true _ _ ▸ hb).1)
        have hr := bt_range s n
        rw [show (bt s (n : Int) - 48) % 256 = bt s n - 48 from by omega]
        exact Ev.now _
  · refine Ev.congr (f := fun _ => some (-1)) (fun k => ?_) (by unfold namedF; rw [if_neg h]; exact Ev.now _)
    unfold lockstitchref05_at.f
    rw [e1, if_pos (by omega)]
theorem local5_f (lo gl : ByteArray) (code : List S45) (a : Int) (h0 : 0 ≤ a) (h1 : a ≤ 255) : Ev (fun k => lockstitchref05_Local.f k t lo gl code a) (namedF t lo a) := Ev.bind (at5_f t ht hs lo a h0 h1) (Ev.now _)
theorem size3_f (i : Int) : Ev (fun k => lockstitchref03_Size.f k t i) (sizeF t i) := by
  have is : Ev (fun k => lockstitchref03_is.f k t i) (rightB t && (decide (0 ≤ i) && decide (i < t.length))) := by
    refine Ev.bind (right3_f t ht hs) ?_
    refine Ev.out (Ev.ite (fun _ => Ev.ite (fun _ => Ev.now (decide (i < (t.length : Int)))) fun _ => Ev.now false) fun _ => Ev.now false) ?_
    cases rightB t
    · rfl
    · rw [if_pos rfl, Bool.true_and]
      by_cases h : i ≥ 0
      · rw [if_pos h, decide_eq_true (show 0 ≤ i from h), Bool.true_and]
      · rw [if_neg h, decide_eq_false (show ¬ 0 ≤ i from h), Bool.false_and]
  refine Ev.bind is ?_
  unfold sizeF ofF
  by_cases h : (rightB t && (decide (0 ≤ i) && decide (i < t.length))) = true
  · have h' := h
    simp only [Bool.and_eq_true, decide_eq_true_eq] at h'
    rw [if_pos h, if_pos h]
    exact Ev.congr (fun k => (if_pos h'.2.1).trans (if_pos h'.2.2)) (Ev.now _)
  · rw [if_neg h, if_neg h]
    exact Ev.now _
end
end Go.Proofs.YtgfnpdfhdgenbaaDoor.P
