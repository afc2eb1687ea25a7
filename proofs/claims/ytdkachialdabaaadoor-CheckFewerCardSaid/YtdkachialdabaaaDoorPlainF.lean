/-
  PLAIN LEAN: the law CheckFewer.
-/
import Derived.Test.YtdkachialdabaaaDoorPlainC
import Derived.Test.YtdkachialdabaaaDoorPx6
namespace Go.Proofs.YtdkachialdabaaaDoor.P
open Go.RowKit Go.Proofs.YtdkachialdabaaaDoorW.PrintWords Go.Proofs.YtdkachialdabaaaDoorW.PrintLast Go.Proofs.YtdkachialdabaaaDoorW.PrintMore
theorem badI_less {t : List ByteArray} {lo gl : ByteArray} {m : Nat} {x : S32} (h : badI t lo gl (m + 1) x = none) : badI t lo gl m x = if (jumpy x && decide (x.f4 > m)) = true then some 12 else none := by
  unfold badI at h ⊢
  by_cases h1 : rightI x = true
  · rw [if_pos h1] at h ⊢
    cases h2 : jumpy x
    · rw [h2] at h
      simp only [Bool.false_and, Bool.false_eq_true, if_false] at h ⊢
      exact h
    · rw [h2] at h
      simp only [Bool.true_and] at h ⊢
      split at h
      · cases h
      · rename_i h3
        simp at h3
        cases hk : kindsI t lo gl x
        · rw [hk] at h
          cases h
        · by_cases h4 : (m : Int) < x.f4
          · simp [h4]
          · have h5 : ¬ x.f4 < 0 := by omega
            simp [h4, h5]
  · rw [if_neg h1] at h
    cases h
theorem of_none {t : List ByteArray} {lo gl : ByteArray} {code : List S32} (h1 : headB t lo gl = true) (h2 : 1 ≤ code.length ∧ code.length ≤ 200) (h : ∀ j, j < code.length → badI t lo gl code.length (code.getD j z32) = none) : checkF t lo gl code = (-1, 0) :=
  checkF_minus t lo gl code ((checkF_ok t lo gl code).2 ⟨h1, h2, h⟩)

theorem fewer_law (t : List ByteArray) (lo gl : ByteArray) (code : List S32) (ht : t.length ≤ 9223372036854775807) (hs : lo.size + gl.size ≤ 9223372036854775807) (hn : code.length ≤ 9223372036854775807) (hw : Wf code) :
    Ev (fun k => lockstitchlaw05_CheckFewer.f k t lo gl code) true := by
  have j0 : ∀ x, (x = false → 2 ≤ code.length) → Ev (fun k => lockstitchlaw05_CheckFewer.j0 k x t lo gl code) true := by
    intro x hx
    refine Ev.step (fun k => by simp only [lockstitchlaw05_CheckFewer.j0]; rfl) ?_
    refine Ev.out (Ev.ite (b := true) (a := true) (fun _ => Ev.now _) fun hx2 => ?_) (by split <;> rfl)
    have h2 : 2 ≤ code.length := hx (by simpa using hx2)
    refine Ev.bind (check_f t lo gl code ht hs hn hw) ?_
    refine Ev.out (Ev.ite (b := true) (a := true) (fun hok => ?_) fun _ => Ev.now _) (by split <;> rfl)
    obtain ⟨hh, hl, hall⟩ := (checkF_ok t lo gl code).1 hok
    obtain ⟨m, hm⟩ : ∃ m, code.length = m + 1 := ⟨code.length - 1, by omega⟩
    have e1 : wrap64 ((code.length : Int) - 1) = (m : Int) := by unfold wrap64; omega
    rw [e1]
    refine Ev.congr (fun k => (if_pos (by omega)).trans (if_pos (by omega))) ?_
    rw [Int.toNat_natCast]
    have ql : (code.take m).length = m := by rw [List.length_take]; omega
    have qd : ∀ j, j < m → (code.take m).getD j z32 = code.getD j z32 := fun j hj => by rw [getD_take, if_pos hj]
    have bq : ∀ j, j < m → badI t lo gl (code.take m).length ((code.take m).getD j z32) = if (jumpy ((code.take m).getD j z32) && decide (((code.take m).getD j z32).f4 > m)) = true then some 12 else none := fun j hj => by
      rw [qd j hj, ql]
      have := hall j (by omega)
      rw [hm] at this
      exact badI_less this
    have wq := hw.take m
    generalize code.take m = q at ql qd bq wq
    show Ev (fun k => lockstitchlaw05_CheckFewer.l0 k false q (q.length : Int) 0 t lo gl q) true
    have loop : ∀ d i x, i + d = m → (x = true ↔ ∃ j, j < i ∧ (jumpy (q.getD j z32) && decide ((q.getD j z32).f4 > m)) = true) → Ev (fun k => lockstitchlaw05_CheckFewer.l0 k x q (q.length : Int) (i : Nat) t lo gl q) true := by
      intro d
      induction d with
      | zero =>
        intro i x hi hx
        obtain rfl : i = m := by omega
        refine Ev.step (f := fun k => (check_Check.f k t lo gl q).bind fun bt207 => (if x = true then (if bt207.2 = 12 then (some (decide (bt207.1 ≥ 0))) else (some false)) else (if bt207.2 = 0 then (some (bt207.1 == (-1))) else (some false)))) (fun k => ?_) (Ev.bind (check_f t lo gl q ht hs (by omega) wq) ?_)
        · simp only [lockstitchlaw05_CheckFewer.l0]
          rw [if_neg (by omega)]
        · cases x
          · have hz : checkF t lo gl q = (-1, 0) := of_none hh (by omega) fun j hj => by
              rw [bq j (by omega)]
              refine if_neg fun h => ?_
              exact absurd (hx.2 ⟨j, by omega, h⟩) (by decide)
            rw [hz]
            exact Ev.now _
          · obtain ⟨j, hj, hb⟩ := hx.1 rfl
            have hc : checkF t lo gl q = scanC t lo gl q := by
              unfold checkF
              rw [if_pos hh, if_pos (by omega)]
            rw [hc]
            rcases scanC_first t lo gl q with ⟨_, h4⟩ | ⟨j', e, h3, h4, h5, _⟩
            · have := h4 j (by omega)
              rw [bq j hj, if_pos hb] at this
              cases this
            · rw [bq j' (by omega)] at h4
              split at h4
              · injection h4 with h4
                rw [h5, ← h4]
                exact Ev.congr (f := fun _ => some true) (fun k => by simp) (Ev.now _)
              · cases h4
      | succ d ih =>
        intro i x hi hx
        have nxt : ∀ x', (x' = (x || (jumpy (q.getD i z32) && decide ((q.getD i z32).f4 > m)))) → Ev (fun k => lockstitchlaw05_CheckFewer.l0 k x' q (q.length : Int) ((i + 1 : Nat) : Int) t lo gl q) true := fun x' e => by
          refine ih (i + 1) x' (by omega) ?_
          rw [e, Bool.or_eq_true, hx]
          constructor
          · rintro (⟨j, h1, h2⟩ | h)
            · exact ⟨j, by omega, h2⟩
            · exact ⟨i, by omega, h⟩
          · rintro ⟨j, h1, h2⟩
            rcases Nat.lt_succ_iff_lt_or_eq.1 h1 with h | h
            · exact .inl ⟨j, h, h2⟩
            · exact .inr (h ▸ h2)
        generalize hy : q.getD i z32 = y at nxt
        refine Ev.step (f := fun k => if x = true then (lockstitchlaw05_CheckFewer.l0 k true q q.length ((i + 1 : Nat) : Int) t lo gl q) else (if y.f0 = 3 then (lockstitchlaw05_CheckFewer.l0 k (decide (y.f4 > (q.length : Int))) q q.length ((i + 1 : Nat) : Int) t lo gl q) else (if y.f0 = 4 then (lockstitchlaw05_CheckFewer.l0 k (decide (y.f4 > (q.length : Int))) q q.length ((i + 1 : Nat) : Int) t lo gl q) else (lockstitchlaw05_CheckFewer.l0 k false q q.length ((i + 1 : Nat) : Int) t lo gl q)))) (fun k => ?_) ?_
        · simp only [lockstitchlaw05_CheckFewer.l0]
          rw [if_pos (by omega), if_pos (by omega), if_pos (by omega), wrapN (i := i) (n := m) (by omega) (by omega), rd_at, hy]
        · rw [ql] at nxt ⊢
          refine Ev.out (Ev.ite (a := true) (b := true) (fun h => nxt _ (by rw [h]; rfl)) fun h => Ev.out (Ev.ite (a := true) (b := true) (fun h3 => nxt _ ?_) fun h3 => Ev.out (Ev.ite (a := true) (b := true) (fun h4 => nxt _ ?_) fun h4 => nxt _ ?_) (by split <;> rfl)) (by split <;> rfl)) (by split <;> rfl)
          · simp [h, jumpy, h3]
          · simp [h, jumpy, h4]
          · simp [h, jumpy, h3, h4]
    exact loop m 0 false (by omega) ⟨fun h => (by cases h), fun ⟨j, h, _⟩ => (by omega)⟩
  refine Ev.bind alive_f (Ev.congr (fun k => if_pos rfl) ?_)
  obtain ⟨b, hb⟩ := few_f t lo gl code ht
  refine Ev.bind hb ?_
  refine Ev.out (Ev.ite (b := true) (a := true) (fun _ => j0 _ fun h => ?_) fun _ => j0 _ fun h => by cases h) (by split <;> rfl)
  have := of_decide_eq_false h
  omega
end Go.Proofs.YtdkachialdabaaaDoor.P
