/-
  PLAIN LEAN: the law CheckFirst.
-/
import Derived.Test.YtdkachialdabaaaDoorPlainC
import Derived.Test.YtdkachialdabaaaDoorPx10
namespace Go.Proofs.YtdkachialdabaaaDoor.P
open Go.RowKit Go.Proofs.YtdkachialdabaaaDoorW.PrintWords Go.Proofs.YtdkachialdabaaaDoorW.PrintLast Go.Proofs.YtdkachialdabaaaDoorW.PrintMore

theorem badI_still {t : List ByteArray} {lo gl : ByteArray} {n m : Nat} {x : S32} (h : jumpy x = false) : badI t lo gl n x = badI t lo gl m x := by
  unfold badI
  rw [h, Bool.false_and, Bool.false_and]
theorem scanC_is {t : List ByteArray} {lo gl : ByteArray} {code : List S32} {j : Nat} {e : Int} (hj : j < code.length) (hb : badI t lo gl code.length (code.getD j z32) = some e) (hall : ∀ q, q < j → badI t lo gl code.length (code.getD q z32) = none) :
    scanC t lo gl code = ((j : Int), e) := by
  rcases scanC_first t lo gl code with ⟨_, h⟩ | ⟨j', e', h1, h2, h3, h4⟩
  · rw [h j hj] at hb
    cases hb
  · rw [h3]
    have : j' = j := by
      rcases Nat.lt_trichotomy j' j with h | h | h
      · rw [hall j' h] at h2; cases h2
      · exact h
      · rw [h4 j h] at hb; cases hb
    subst this
    rw [hb] at h2
    injection h2 with h2
    rw [h2]
theorem getD_append_left (l r : List S32) (i : Nat) (h : i < l.length) : (l ++ r).getD i z32 = l.getD i z32 := by
  rw [List.getD_eq_getElem?_getD, List.getElem?_append_left h, List.getD_eq_getElem?_getD]
theorem Wf.append {l r : List S32} (hl : Wf l) (hr : Wf r) : Wf (l ++ r) := fun i => by
  by_cases h : i < l.length
  · rw [getD_append_left l r i h]
    exact hl i
  · rw [List.getD_eq_getElem?_getD, List.getElem?_append_right (by omega), ← List.getD_eq_getElem?_getD]
    exact hr _
theorem checkF_forms (t : List ByteArray) (lo gl : ByteArray) (code : List S32) : (checkF t lo gl code).1 = -1 ∨ (headB t lo gl = true ∧ (1 ≤ code.length ∧ code.length ≤ 200) ∧ ∃ (j : Nat) (e : Int), checkF t lo gl code = ((j : Int), e) ∧ j < code.length ∧ badI t lo gl code.length (code.getD j z32) = some e ∧ ∀ q, q < j → badI t lo gl code.length (code.getD q z32) = none) := by
  unfold checkF
  by_cases h1 : headB t lo gl = true
  · rw [if_pos h1]
    by_cases h2 : 1 ≤ code.length ∧ code.length ≤ 200
    · rw [if_pos h2]
      rcases scanC_first t lo gl code with ⟨h3, _⟩ | ⟨j, e, h3, h4, h5, h6⟩
      · exact .inl (by rw [h3])
      · exact .inr ⟨h1, h2, j, e, h5, h3, h4, h6⟩
    · rw [if_neg h2]
      exact .inl rfl
  · rw [if_neg h1]
    exact .inl rfl

theorem of_noneH {t : List ByteArray} {lo gl : ByteArray} {code : List S32} (h1 : headB t lo gl = true) (h2 : 1 ≤ code.length ∧ code.length ≤ 200) (h : ∀ j, j < code.length → badI t lo gl code.length (code.getD j z32) = none) : checkF t lo gl code = (-1, 0) :=
  checkF_minus t lo gl code ((checkF_ok t lo gl code).2 ⟨h1, h2, h⟩)
theorem first_law (t : List ByteArray) (lo gl : ByteArray) (code more : List S32) (ht : t.length ≤ 9223372036854775807) (hs : lo.size + gl.size ≤ 9223372036854775807) (hn : code.length ≤ 9223372036854775807) (hw : Wf code) (hw2 : Wf more) :
    Ev (fun k => lockstitchlaw05_CheckFirst.f k t lo gl code more) true := by
  have j0 : ∀ x, (x = false → more.length ≤ 100 ∧ wrap64 ((code.length : Int) + more.length) ≤ 200) → Ev (fun k => lockstitchlaw05_CheckFirst.j0 k more x t lo gl code) true := by
    intro x hx
    refine Ev.step (fun k => by simp only [lockstitchlaw05_CheckFirst.j0]; rfl) ?_
    refine Ev.out (Ev.ite (b := true) (a := true) (fun _ => Ev.now _) fun hx2 => ?_) (by split <;> rfl)
    have hm := hx (by simpa using hx2)
    clear hx hx2
    refine Ev.bind (check_f t lo gl code ht hs hn hw) ?_
    have early : ∀ x5 x6, x5 = -1 → Ev (fun k => lockstitchlaw05_CheckFirst.j1 k more x5 x6 true t lo gl code) true := fun x5 x6 h => by
      refine Ev.step (f := fun _ => some true) (fun k => ?_) (Ev.now _)
      simp only [lockstitchlaw05_CheckFirst.j1]
      rw [if_pos trivial, h]
      rfl
    by_cases hz : (checkF t lo gl code).2 = 0
    · refine Ev.congr (fun k => if_pos hz) ?_
      rw [checkF_minus t lo gl code hz]
      exact early _ _ rfl
    · refine Ev.congr (fun k => if_neg hz) ?_
      rcases checkF_forms t lo gl code with h1 | ⟨hh, hl, j, e, hc, hj, hb, hall⟩
      · rw [decide_eq_true (by rw [h1]; decide)]
        exact early _ _ h1
      · rw [hc] at hz ⊢
        have hz' : e ≠ 0 := hz
        show Ev (fun k => lockstitchlaw05_CheckFirst.j1 k more (j : Int) e (decide ((j : Int) < 0)) t lo gl code) true
        rw [decide_eq_false (by omega)]
        refine Ev.step (f := fun k => lockstitchlaw05_CheckFirst.l0 k more (j : Int) e code code.length 0 t lo gl code) (fun k => ?_) ?_
        · simp only [lockstitchlaw05_CheckFirst.j1]
          rw [if_neg (by decide)]
        have total : code.length + more.length ≤ 200 := by
          have := hm.2
          have : wrap64 ((code.length : Int) + more.length) = (code.length : Int) + more.length := by unfold wrap64; omega
          omega
        -- the loop: no jump, or true
        have loop : ∀ d i, i + d = code.length → (∀ q, q < i → jumpy (code.getD q z32) = false) → Ev (fun k => lockstitchlaw05_CheckFirst.l0 k more (j : Int) e code code.length (i : Nat) t lo gl code) true := by
          intro d
          induction d with
          | zero =>
            intro i hi hnj
            obtain rfl : i = code.length := by omega
            have bs : ∀ q, q < code.length → badI t lo gl (code ++ more).length ((code ++ more).getD q z32) = badI t lo gl code.length (code.getD q z32) := fun q hq => by
              rw [getD_append_left code more q hq]
              exact badI_still (hnj q hq)
            have c2 : checkF t lo gl (code ++ more) = ((j : Int), e) := by
              unfold checkF
              rw [if_pos hh, if_pos (by rw [List.length_append]; omega)]
              exact scanC_is (by rw [List.length_append]; omega) (by rw [bs j hj]; exact hb) fun q hq => by rw [bs q (by omega)]; exact hall q hq
            refine Ev.step (f := fun k => (check_Check.f k t lo gl (code ++ more)).bind fun bt254 => (if bt254.1 = (j : Int) then (lockstitchlaw05_CheckFirst.j3 k j (bt254.2 != e) t lo gl code t lo gl (code ++ more)) else (lockstitchlaw05_CheckFirst.j3 k j true t lo gl code t lo gl (code ++ more)))) (fun k => ?_) (Ev.bind (check_f t lo gl (code ++ more) ht hs (by rw [List.length_append]; omega) (hw.append hw2)) ?_)
            · simp only [lockstitchlaw05_CheckFirst.l0]
              rw [if_neg (by omega), if_pos (by simp; omega)]
              simp only [Option.bind_some, List.nil_append]
              rw [if_pos (by omega)]
            · rw [c2]
              refine Ev.congr (fun k => if_pos rfl) ?_
              show Ev (fun k => lockstitchlaw05_CheckFirst.j3 k j (e != e) t lo gl code t lo gl (code ++ more)) true
              rw [show (e != e) = false from by simp]
              by_cases h0 : 0 < j
              · have c3 : checkF t lo gl (code.take j) = (-1, 0) := of_noneH hh (by rw [List.length_take]; omega) fun q hq => by
                  rw [List.length_take] at hq
                  rw [getD_take, if_pos (by omega), badI_still (m := code.length) (hnj q (by omega))]
                  exact hall q (by omega)
                refine Ev.step (f := fun k => (check_Check.f k t lo gl (code.take j)).bind fun bt260 => (if bt260.2 = 0 then (some (bt260.1 == (-1))) else (some false))) (fun k => ?_) (Ev.bind (check_f t lo gl (code.take j) ht hs (by rw [List.length_take]; omega) (hw.take j)) ?_)
                · simp only [lockstitchlaw05_CheckFirst.j3]
                  rw [if_neg (by decide), if_pos (by omega), if_pos (by omega), if_pos (by omega), Int.toNat_natCast]
                · rw [c3]
                  exact Ev.now _
              · refine Ev.step (f := fun _ => some true) (fun k => ?_) (Ev.now _)
                simp only [lockstitchlaw05_CheckFirst.j3]
                rw [if_neg (by decide), if_neg (by omega)]
          | succ d ih =>
            intro i hi hnj
            generalize hy : code.getD i z32 = y at *
            refine Ev.step (f := fun k => if y.f0 = 3 then (some true) else (if y.f0 = 4 then (some true) else (lockstitchlaw05_CheckFirst.l0 k more (j : Int) e code code.length ((i + 1 : Nat) : Int) t lo gl code))) (fun k => ?_) ?_
            · simp only [lockstitchlaw05_CheckFirst.l0]
              rw [if_pos (by omega), if_pos (by omega), if_pos (by omega), wrapN (i := i) (n := code.length) (by omega) hn, rd_at, hy]
            · refine Ev.out (Ev.ite (a := true) (b := true) (fun _ => Ev.now _) fun h3 => Ev.out (Ev.ite (a := true) (b := true) (fun _ => Ev.now _) fun h4 => ?_) (by split <;> rfl)) (by split <;> rfl)
              refine ih (i + 1) (by omega) fun q hq => ?_
              rcases Nat.lt_succ_iff_lt_or_eq.1 hq with h | h
              · exact hnj q h
              · subst h
                rw [hy]
                simp [jumpy, h3, h4]
        exact loop code.length 0 (by omega) fun q hq => by omega
  refine Ev.bind alive_f (Ev.congr (fun k => if_pos rfl) ?_)
  obtain ⟨b, hb⟩ := few_f t lo gl code ht
  refine Ev.bind hb ?_
  refine Ev.out (Ev.ite (b := true) (a := true) (fun _ => Ev.out (Ev.ite (b := true) (a := true) (fun _ => j0 _ fun h => by cases h) fun h1 => j0 _ fun h => ?_) (by split <;> rfl)) fun _ => j0 _ fun h => by cases h) (by split <;> rfl)
  have := of_decide_eq_false h
  exact ⟨by omega, by omega⟩
end Go.Proofs.YtdkachialdabaaaDoor.P
