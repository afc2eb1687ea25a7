/-
  PLAIN LEAN: the law ModelPieces.
-/
import Derived.Test.YtlemecdddhdagaaDoorPlainF
import Derived.Test.YtlemecdddhdagaaDoorGivenM
namespace Go.Proofs.YtlemecdddhdagaaDoor.P
open Go.RowKit Go.Proofs.YtlemecdddhdagaaDoorW.PrintWords Go.Proofs.YtlemecdddhdagaaDoorW.PrintLast Go.Proofs.YtlemecdddhdagaaDoorW.PrintMore
set_option linter.unusedVariables false
open Classical in
noncomputable def step0 (t : List ByteArray) (lo gl : ByteArray) (code : List S55) (s : St) : Option (St × Bool × Int) := if Small s then stepX (sz0 t lo) code (checkF t lo gl code).2 s else none
theorem piecesL_mono {step step' : St → Option (St × Bool × Int)} (h : ∀ s, LeO (step s) (step' s)) (fuel : Int) : ∀ (k : Nat) (s : St) (i : Int), LeO (piecesL step fuel k s i) (piecesL step' fuel (k + 1) s i)
  | 0, _, _ => LeO.none _
  | k + 1, s, i => by
    rw [piecesL, piecesL]
    repeat' first
      | (with_reducible exact piecesL_mono h fuel k _ _)
      | (with_reducible exact LeO.refl _)
      | (with_reducible refine LeO.ite ?_ ?_)
      | (with_reducible refine LeO.bind (h _) (fun _ => ?_))
section
variable {t : List ByteArray} {lo gl : ByteArray} {code : List S55}
theorem stepX_mono {sz sz' : Int → Option Int} (h : ∀ a, LeO (sz a) (sz' a)) (c : Int) (s : St) : LeO (stepX sz code c s) (stepX sz' code c s) := by
  unfold stepX
  repeat' first
      | (with_reducible exact LeO.refl _)
      | (with_reducible refine LeO.ite ?_ ?_)
      | (with_reducible refine LeO.bind (doF_mono h _ _) (fun _ => ?_))
/-- The printed steps come to the closed ones. -/
theorem steps_ev (ht : t.length ≤ 9223372036854775807) (hs : lo.size + gl.size ≤ 9223372036854775807) (hc : code.length ≤ 9223372036854775807) (hw : Wf code) : ∃ K, ∀ k, K ≤ k → ∀ s, LeO (step0 t lo gl code s) (stepS k t lo gl code s) := by
  obtain ⟨K1, h1⟩ := check_f t lo gl code ht hs hc hw
  obtain ⟨K2, h2⟩ := sz_ev (t := t) (lo := lo) (gl := gl) (code := code) ht
  refine ⟨max K1 K2, fun k hk s => ?_⟩
  unfold step0 stepS
  by_cases hsm : Small s
  case neg =>
    rw [if_neg hsm]
    exact LeO.none _
  rw [if_pos hsm, if_pos hsm]
  have e1 : check_Check.f k t lo gl code = some (checkF t lo gl code) := h1 k (by omega)
  unfold model_Step.f
  rw [e1]
  exact stepX_mono (h2 k (by omega)) _ s
theorem pieces_of (ht : t.length ≤ 9223372036854775807) (hs : lo.size + gl.size ≤ 9223372036854775807) (hc : code.length ≤ 9223372036854775807) (hw : Wf code) {fuel : Int} {K : Nat} {r : St × Int} (hr : piecesL (step0 t lo gl code) fuel K St0 0 = some r) :
    Ev (fun k => piecesL (stepS k t lo gl code) fuel k St0 0) r := by
  obtain ⟨K1, h1⟩ := steps_ev ht hs hc hw
  refine ⟨max K1 (K + 1), fun k hk => ?_⟩
  have q : piecesL (stepS k t lo gl code) fuel (K + 1) St0 0 = some r := piecesL_mono (h1 k (by omega)) fuel K St0 0 r hr
  exact at_rounds (g := fun n => piecesL (stepS k t lo gl code) fuel n St0 0) (fun n => piecesL_mono (fun _ => LeO.refl _) fuel n St0 0) (by omega) q
theorem Inv.small (hr : rightB t = true) {n : Nat} {s : St} {ty : List Int} (h : Inv t lo gl n s ty) (hn : n ≤ 1000000) : Small s := by
  have := h.few
  have hl := h.len
  refine ⟨by omega, by omega, fun j hj => ?_⟩
  have q := h.size j (by omega)
  rw [List.getD_eq_getElem?_getD, List.getElem?_eq_getElem hj, Option.getD_some] at q
  have : sizeF t (ty.getD j (-1)) ≤ 6 := by
    by_cases hτ : 0 ≤ ty.getD j (-1)
    · obtain ⟨m, hm⟩ := Int.eq_ofNat_of_zero_le hτ
      rw [hm]
      exact sizeF_le hr m
    · unfold sizeF ofF
      rw [if_neg (by simp only [decide_eq_false hτ, Bool.false_and, Bool.and_false]; decide)]
      decide
  omega
theorem step0_run (hk0 : (checkF t lo gl code).2 = 0) {s s' : St} {e : Int} (hsm : Small s) (h0 : 0 ≤ s.pc) (hlt : s.pc < code.length) (hd : doF (sz0 t lo) s (rd_T55 code s.pc) = some (s', e)) : step0 t lo gl code s = if e = 0 then some (s', false, 0) else some (s, false, e) := by
  unfold step0 stepX
  rw [if_pos hsm, if_pos hk0, if_neg (show ¬ s.pc < 0 by omega), if_neg (show ¬ (code.length : Int) < s.pc by omega), if_neg (show ¬ s.pc = code.length by omega), hd, Option.bind_some]
theorem step0_end (hk0 : (checkF t lo gl code).2 = 0) {s : St} (hsm : Small s) (h0 : s.pc = code.length) : step0 t lo gl code s = some (s, true, 0) := by
  unfold step0 stepX
  rw [if_pos hsm, if_pos hk0, if_neg (show ¬ s.pc < 0 by omega), if_neg (show ¬ (code.length : Int) < s.pc by omega), if_pos h0]
theorem runL_step (sz : Int → Option Int) {s s' : St} {e : Int} (k : Nat) (f : Int) (h0 : 0 ≤ s.pc) (hlt : s.pc < code.length) (hd : doF sz s (rd_T55 code s.pc) = some (s', e)) (hle : s.out.length ≤ s'.out.length) : runL sz code (k + 1) s f = if e = 0 then if f = 0 then some (s'.out.take s.out.length, 10) else runL sz code k s' (wrap64 (f - 1)) else some (s'.out.take s.out.length, e) := by
  rw [runL, if_pos hlt, if_pos h0, hd, Option.bind_some, if_pos hle]
theorem runL_end (sz : Int → Option Int) {s : St} (k : Nat) (f : Int) (hlt : ¬ s.pc < code.length) : runL sz code (k + 1) s f = some (s.out, 0) := by
  rw [runL, if_neg hlt]
theorem pieces_step {step : St → Option (St × Bool × Int)} {fuel i : Int} {s s1 : St} {d : Bool} {e : Int} (k : Nat) (hi : i ≤ fuel) (hs : step s = some (s1, d, e)) : piecesL step fuel (k + 1) s i = if d = true then some (s, e) else if e = 0 then (if i < fuel then piecesL step fuel k s1 (wrap64 (i + 1)) else piecesL step fuel k s (wrap64 (i + 1))) else some (s, e) := by
  rw [piecesL, if_pos hi, hs, Option.bind_some]
theorem pieces_end {step : St → Option (St × Bool × Int)} {fuel i : Int} {s : St} (k : Nat) (hi : ¬ i ≤ fuel) : piecesL step fuel (k + 1) s i = some (s, 10) := by
  rw [piecesL, if_neg hi]
/-- A run, and its steps one by one. -/
theorem run_pieces (h : Ok t lo gl code) (hk0 : (checkF t lo gl code).2 = 0) (fuel : Nat) (hfu : fuel ≤ 255) : ∀ (f : Nat) (s : St) (n : Nat) (ty : List Int) (i k k' : Nat), Inv t lo gl n s ty → n + f ≤ 900000 → 0 ≤ s.pc → s.pc ≤ code.length → s.steps = i → i + f = fuel → f < k → f + 1 < k' →
    ∃ l e s', runL (sz0 t lo) code k s f = some (l, e) ∧ piecesL (step0 t lo gl code) fuel k' s i = some (s', e) ∧ s'.out = l ∧ s'.steps ≤ fuel ∧ l.length ≤ n + f := by
  intro f
  induction f with
  | zero =>
    intro s n ty i k k' hI hn h0 h1 hst hif hk hk'
    obtain ⟨k, rfl⟩ : ∃ j, k = j + 1 := ⟨k - 1, by omega⟩
    obtain ⟨k', rfl⟩ : ∃ j, k' = j + 1 + 1 := ⟨k' - 2, by omega⟩
    have hsm := hI.small h.right (by omega)
    have hfew := hI.few
    by_cases hlt : s.pc < code.length
    · obtain ⟨s', e, hd, hN⟩ := h.step hI (by omega) h0 hlt
      have hout : s'.out.take s.out.length = s.out := by rw [hN.out]; simp
      have hle : s.out.length ≤ s'.out.length := by rw [hN.out]; simp
      rw [runL_step _ k _ h0 hlt hd hle, hout]
      have hs0 := step0_run hk0 hsm h0 hlt hd
      by_cases he : e = 0
      · rw [if_pos he] at hs0 ⊢
        rw [if_pos (show ((0 : Nat) : Int) = 0 by rfl), pieces_step (k' + 1) (by omega) hs0, if_neg (by simp), if_pos rfl, if_neg (by omega), show wrap64 ((i : Int) + 1) = ((i + 1 : Nat) : Int) by unfold wrap64; omega, pieces_end k' (by omega)]
        exact ⟨_, _, s, rfl, rfl, rfl, by omega, by omega⟩
      · rw [if_neg he] at hs0 ⊢
        rw [pieces_step (k' + 1) (by omega) hs0, if_neg (by simp), if_neg he]
        exact ⟨_, _, s, rfl, rfl, rfl, by omega, by omega⟩
    · rw [runL_end _ k _ hlt, pieces_step (k' + 1) (by omega) (step0_end hk0 hsm (by omega)), if_pos rfl]
      exact ⟨_, _, s, rfl, rfl, rfl, by omega, by omega⟩
  | succ f ih =>
    intro s n ty i k k' hI hn h0 h1 hst hif hk hk'
    obtain ⟨k, rfl⟩ : ∃ j, k = j + 1 := ⟨k - 1, by omega⟩
    obtain ⟨k', rfl⟩ : ∃ j, k' = j + 1 := ⟨k' - 1, by omega⟩
    have hsm := hI.small h.right (by omega)
    have hfew := hI.few
    by_cases hlt : s.pc < code.length
    · obtain ⟨s', e, hd, hN⟩ := h.step hI (by omega) h0 hlt
      have hout : s'.out.take s.out.length = s.out := by rw [hN.out]; simp
      have hle : s.out.length ≤ s'.out.length := by rw [hN.out]; simp
      rw [runL_step _ k _ h0 hlt hd hle, hout]
      have hs0 := step0_run hk0 hsm h0 hlt hd
      by_cases he : e = 0
      · obtain ⟨ty', hI'⟩ := hN.inv
        obtain ⟨l, e1, s2, q1, q2, q3, q4, q5⟩ := ih s' (n + 1) ty' (i + 1) k k' hI' (by omega) (hN.pc he).1 (hN.pc he).2 (by rw [hN.steps, hst]; unfold wrap64; omega) (by omega) (by omega) (by omega)
        rw [if_pos he] at hs0 ⊢
        rw [if_neg (by omega), show wrap64 (((f + 1 : Nat) : Int) - 1) = (f : Int) by unfold wrap64; omega, pieces_step k' (by omega) hs0, if_neg (by simp), if_pos rfl, if_pos (by omega), show wrap64 ((i : Int) + 1) = ((i + 1 : Nat) : Int) by unfold wrap64; omega]
        exact ⟨l, e1, s2, q1, q2, q3, q4, by omega⟩
      · rw [if_neg he] at hs0 ⊢
        rw [pieces_step k' (by omega) hs0, if_neg (by simp), if_neg he]
        exact ⟨_, _, s, rfl, rfl, rfl, by omega, by omega⟩
    · rw [runL_end _ k _ hlt, pieces_step k' (by omega) (step0_end hk0 hsm (by omega)), if_pos rfl]
      exact ⟨_, _, s, rfl, rfl, rfl, by omega, by omega⟩
theorem small0 : Small St0 := ⟨by decide, by decide, fun j hj => absurd hj (by simp [St0])⟩
end
theorem modelPieces_true (t : List ByteArray) (lo gl : ByteArray) (code : List S55) (a : Int) (ht : t.length ≤ 9223372036854775807) (hs : lo.size + gl.size ≤ 9223372036854775807) (hc : code.length ≤ 9223372036854775807) (hw : Wf code) (a0 : 0 ≤ a) (a1 : a ≤ 255) :
    Ev (fun k => modelPieces.f k t lo gl code a) true := by
  obtain ⟨f, rfl⟩ := Int.eq_ofNat_of_zero_le a0
  have key : ∃ l e s', Ev (fun k => model_Run.f k t lo gl code f) (l, e) ∧ Ev (fun k => piecesL (stepS k t lo gl code) f k St0 0) (s', e) ∧ s'.out = l ∧ s'.steps ≤ f ∧ l.length ≤ 1000000 := by
    by_cases hok : (checkF t lo gl code).2 = 0
    · obtain ⟨l, e, s', h1, h2, h3, h4, h5⟩ := run_pieces (ok_of hok hw) hok f (by omega) f St0 0 [] 0 (f + 1) (f + 2) inv0 (by omega) (Int.le_refl _) (by show (0 : Int) ≤ _; omega) rfl (by omega) (by omega) (by omega)
      exact ⟨l, e, s', run_of ht hs hc hw hok (by omega) h1, pieces_of ht hs hc hw h2, h3, h4, by omega⟩
    · refine ⟨[], 2, St0, run_bad ht hs hc hw hok _, pieces_of (K := 1) ht hs hc hw ?_, rfl, by show (0 : Int) ≤ _; omega, by simp⟩
      rw [piecesL, if_pos (by omega), step0, if_pos small0, stepX, if_neg hok, Option.bind_some, if_neg (by simp), if_neg (by simp)]
  obtain ⟨l, e, s', h1, h2, rfl, h4, h5⟩ := key
  obtain ⟨q, hq⟩ := few_f t lo gl code ht
  refine Ev.bind alive_f (Ev.congr (fun k => if_pos rfl) ?_)
  refine Ev.bind hq ?_
  refine Ev.out (Ev.ite (b := true) (a := true) (fun _ => ?_) fun _ => Ev.now _) (by split <;> rfl)
  refine Ev.bind h1 (Ev.bind h2 (Ev.congr (fun k => if_pos rfl) ?_))
  refine Ev.bind (nums_f s'.out (by omega)) (Ev.congr (fun k => if_pos rfl) ?_)
  rw [decide_eq_true h4]
  exact Ev.now _
end Go.Proofs.YtlemecdddhdagaaDoor.P
