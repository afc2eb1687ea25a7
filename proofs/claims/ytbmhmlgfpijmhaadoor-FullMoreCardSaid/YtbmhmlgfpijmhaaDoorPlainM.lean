/-
  PLAIN LEAN: the law FullMore.
-/
import Derived.Test.YtbmhmlgfpijmhaaDoorPlainC
import Derived.Test.YtbmhmlgfpijmhaaDoorPx15
namespace Go.Proofs.YtbmhmlgfpijmhaaDoor.P
open Go.RowKit Go.Proofs.YtbmhmlgfpijmhaaDoorW.PrintWords Go.Proofs.YtbmhmlgfpijmhaaDoorW.PrintLast Go.Proofs.YtbmhmlgfpijmhaaDoorW.PrintMore

theorem tmod_atM (a : Int) (n : Nat) (h0 : U8 a) (hn : 1 ≤ n) : ∃ q : Nat, Int.tmod (wrap64 a) (n : Int) = (q : Int) ∧ q < n := by
  unfold U8 at h0
  have e : wrap64 a = a := by unfold wrap64; omega
  rw [e]
  refine ⟨a.toNat % n, ?_, Nat.mod_lt _ (by omega)⟩
  obtain ⟨m, rfl⟩ := Int.eq_ofNat_of_zero_le h0.1
  rw [Int.toNat_natCast, Int.ofNat_tmod]
theorem runL_at {a : Int} {whole : Nat} {y : List S39} : ∀ (d i had j : Nat), runL a whole y d i had = some j → i ≤ j ∧ j < i + d ∧
    ∀ (y' : List S39) (d' : Nat), (∀ m, m ≤ j → y'.getD m z39 = y.getD m z39) → j < i + d' → runL a whole y' d' i had = some j
  | 0, _, _, _, h => by cases h
  | d + 1, i, had, j, h => by
    unfold runL at h
    cases hc : cls a (y.getD i z39) with
    | none => rw [hc] at h; cases h
    | some w =>
      rw [hc] at h
      cases w with
      | none =>
        obtain ⟨h1, h2, h3⟩ := runL_at d (i + 1) had j h
        refine ⟨by omega, by omega, fun y' d' hy hd => ?_⟩
        obtain ⟨e, rfl⟩ : ∃ e, d' = e + 1 := ⟨d' - 1, by omega⟩
        unfold runL
        rw [hy i (by omega), hc]
        exact h3 y' e hy (by omega)
      | some n =>
        dsimp only at h
        by_cases hw : had ||| 2 ^ n = whole
        · rw [if_pos hw] at h
          obtain rfl := Option.some.inj h
          refine ⟨by omega, by omega, fun y' d' hy hd => ?_⟩
          obtain ⟨e, rfl⟩ : ∃ e, d' = e + 1 := ⟨d' - 1, by omega⟩
          unfold runL
          rw [hy i (by omega), hc]
          exact if_pos hw
        · rw [if_neg hw] at h
          obtain ⟨h1, h2, h3⟩ := runL_at d (i + 1) _ j h
          refine ⟨by omega, by omega, fun y' d' hy hd => ?_⟩
          obtain ⟨e, rfl⟩ : ∃ e, d' = e + 1 := ⟨d' - 1, by omega⟩
          unfold runL
          rw [hy i (by omega), hc]
          dsimp only
          rw [if_neg hw]
          exact h3 y' e hy (by omega)
theorem lastN_some {t : List ByteArray} {lo : ByteArray} {code : List S39} {q : Nat} (h : ¬ lastN t lo code q < 0) : ∃ j, (code.getD q z39).f0 = 5 ∧ lastN t lo code q = ((q + 1 + j : Nat) : Int) ∧
    runL (code.getD q z39).f1 (wholeOf t lo (code.getD q z39).f1) (code.drop (q + 1)) (code.length - (q + 1)) 0 0 = some j ∧ q + 1 + j < code.length := by
  unfold lastN at h ⊢
  by_cases h5 : (code.getD q z39).f0 = 5
  · rw [if_pos h5] at h ⊢
    cases hr : runL (code.getD q z39).f1 (wholeOf t lo (code.getD q z39).f1) (code.drop (q + 1)) (code.length - (q + 1)) 0 0 with
    | none => rw [hr] at h; exact absurd (by decide : (-1 : Int) < 0) h
    | some j =>
      have := runL_at _ _ _ _ hr
      exact ⟨j, h5, rfl, rfl, by omega⟩
  · rw [if_neg h5] at h
    exact absurd (by decide : (-1 : Int) < 0) h

theorem more_law (t : List ByteArray) (lo gl : ByteArray) (code : List S39) (a : Int) (ht : t.length ≤ Mx) (hs : ∀ i : Int, (rdOf ByteArray.empty t i).size ≤ Mx) (hlo : lo.size ≤ Mx) (hgl : gl.size ≤ Mx) (hn : code.length ≤ Mx) (hw : Wf code) (ha : U8 a) :
    Ev (fun k => lockstitchlaw10_FullMore.f k t lo gl code a) true := by
  refine Ev.bind alive_f (Ev.congr (fun k => if_pos rfl) ?_)
  obtain ⟨b, hb, hp⟩ := sound_tot t lo gl code ht hs hn hw hlo hgl
  refine Ev.bind hb ?_
  refine Ev.out (Ev.ite (b := true) (a := true) (fun hb1 => ?_) fun _ => Ev.now _) (by split <;> rfl)
  have hl := hp hb1
  obtain ⟨q, hq, hql⟩ := tmod_atM a code.length ha hl.1
  rw [hq]
  refine Ev.congr (fun k => if_neg (by omega)) ?_
  have last := last_f t lo gl code q hql ht hn hw
  have full := full_f t lo gl code q hql ht hn hw
  refine Ev.bind last ?_
  by_cases h0 : lastN t lo code q < 0
  · refine Ev.congr (fun k => if_pos h0) ?_
    rw [decide_eq_false (by omega)] at full
    exact Ev.bind full (Ev.now _)
  · refine Ev.congr (fun k => if_neg h0) ?_
    obtain ⟨j, h5, hj, hr, hjl⟩ := lastN_some h0
    rw [hj]
    refine Ev.congr (fun k => if_neg (by omega)) ?_
    rw [decide_eq_false (by omega)]
    clear h0 hj
    have e1 : wrap64 (((q + 1 + j : Nat) : Int) + 1) = ((q + 1 + j + 1 : Nat) : Int) := wrapN (i := q + 1 + j) (n := code.length) hjl hn
    have yl : (code.take (q + 1 + j + 1)).length = q + 1 + j + 1 := by rw [List.length_take]; omega
    have yd : ∀ m, m ≤ q + 1 + j → (code.take (q + 1 + j + 1)).getD m z39 = code.getD m z39 := fun m hm => by rw [getD_take, if_pos (by omega)]
    have yw := hw.take (q + 1 + j + 1)
    refine Ev.step (f := fun k => lockstitchlaw10_FullMore.l0 k (q : Nat) ((q + 1 + j : Nat) : Int) (code.take (q + 1 + j + 1)) ((code.take (q + 1 + j + 1)).length : Int) 0 t lo gl (code.take (q + 1 + j + 1))) (fun k => ?_) ?_
    · simp only [lockstitchlaw10_FullMore.j0]
      rw [if_neg (by decide), e1, if_pos (by omega), if_pos (by omega), Int.toNat_natCast]
      rfl
    · have same : lastN t lo (code.take (q + 1 + j + 1)) q = ((q + 1 + j : Nat) : Int) := by
        unfold lastN
        rw [yd q (by omega), if_pos h5]
        obtain ⟨_, _, h3⟩ := runL_at _ _ _ _ hr
        rw [h3 ((code.take (q + 1 + j + 1)).drop (q + 1)) _ (fun m hm => by rw [getD_drop, getD_drop]; exact yd _ (by omega)) (by omega)]
        rfl
      generalize hy : code.take (q + 1 + j + 1) = y at yl yw same ⊢
      have loop : ∀ d i, i + d = y.length → Ev (fun k => lockstitchlaw10_FullMore.l0 k (q : Nat) ((q + 1 + j : Nat) : Int) y (y.length : Int) (i : Nat) t lo gl y) true := by
        intro d
        induction d with
        | zero =>
          intro i hi
          refine Ev.step (f := fun k => (full_Last.f k t lo gl y (q : Nat)).bind fun z => some (z == ((q + 1 + j : Nat) : Int))) (fun k => ?_) ?_
          · simp only [lockstitchlaw10_FullMore.l0]
            rw [if_neg (by omega)]
          · have := last_f t lo gl y q (by omega) ht (by omega) yw
            rw [same] at this
            refine Ev.bind this (Ev.congr (f := fun _ => some true) (fun k => by simp) (Ev.now _))
        | succ d ih =>
          intro i hi
          refine Ev.step (fun k => by simp only [lockstitchlaw10_FullMore.l0]; rfl) ?_
          refine Ev.congr (fun k => (if_pos (by omega)).trans ((if_pos (by omega)).trans (if_pos (by omega)))) ?_
          refine Ev.out (Ev.ite (b := true) (a := true) (fun _ => Ev.now _) fun _ => Ev.out (Ev.ite (b := true) (a := true) (fun _ => Ev.now _) fun _ => ?_) (by split <;> rfl)) (by split <;> rfl)
          rw [wrapN (i := i) (n := y.length) (by omega) (by omega)]
          exact ih (i + 1) (by omega)
      exact loop y.length 0 (by omega)
end Go.Proofs.YtbmhmlgfpijmhaaDoor.P
