/-
  PLAIN LEAN: steps.
-/
import Derived.Test.YtlemecdddhdagaaDoorPlainF
import Derived.Test.YtlemecdddhdagaaDoorGivenP
namespace Go.Proofs.YtlemecdddhdagaaDoor.P
open Go.RowKit Go.Proofs.YtlemecdddhdagaaDoorW.PrintWords Go.Proofs.YtlemecdddhdagaaDoorW.PrintLast Go.Proofs.YtlemecdddhdagaaDoorW.PrintMore
set_option linter.unusedVariables false
open Classical in
noncomputable def step0 (t : List ByteArray) (lo gl : ByteArray) (code : List S55) (s : St) : Option (St × Bool × Int) := if Small s then stepX (sz0 t lo) code (checkF t lo gl code).2 s else none
section
variable {t : List ByteArray} {lo gl : ByteArray} {code : List S55}
theorem stepX_mono {sz sz' : Int → Option Int} (h : ∀ a, LeO (sz a) (sz' a)) (c : Int) (s : St) : LeO (stepX sz code c s) (stepX sz' code c s) := by
  unfold stepX
  repeat' first
      | (with_reducible exact LeO.refl _)
      | (with_reducible refine LeO.ite ?_ ?_)
      | (with_reducible refine LeO.bind (doF_mono h _ _) (fun _ => ?_))
theorem steps_ev (ht : t.length ≤ 9223372036854775807) (hs : lo.size + gl.size ≤ 9223372036854775807) (hc : code.length ≤ 9223372036854775807) (hw : Wf code) : ∃ K, ∀ k, K ≤ k → ∀ s, LeO (step0 t lo gl code s) (stepS k t lo gl code s) := by
  obtain ⟨K1, h1⟩ := check_f t lo gl code ht hs hc hw
  obtain ⟨K2, h2⟩ := sz_ev (t := t) (lo := lo) (gl := gl) (code := code) ht
  refine ⟨max K1 K2, fun k hk s => ?_⟩
  unfold step0 stepS
  by_cases hsm : Small s
  case neg =>
    rw [if_neg hsm]
    exact LeO.none _
  rw [if_pos hsm, if_pos hsm]
  have e1 : check_Check.f k t lo gl code = some (checkF t lo gl code) := h1 k (by omega)
  unfold model_Step.f
  rw [e1]
  exact stepX_mono (h2 k (by omega)) _ s
theorem Inv.small (hr : rightB t = true) {n : Nat} {s : St} {ty : List Int} (h : Inv t lo gl n s ty) (hn : n ≤ 1000000) : Small s := by
  have := h.few
  have hl := h.len
  refine ⟨by omega, by omega, fun j hj => ?_⟩
  have q := h.size j (by omega)
  rw [List.getD_eq_getElem?_getD, List.getElem?_eq_getElem hj, Option.getD_some] at q
  have : sizeF t (ty.getD j (-1)) ≤ 6 := by
    by_cases hτ : 0 ≤ ty.getD j (-1)
    · obtain ⟨m, hm⟩ := Int.eq_ofNat_of_zero_le hτ
      rw [hm]
      exact sizeF_le hr m
    · unfold sizeF ofF
      rw [if_neg (by simp only [decide_eq_false hτ, Bool.false_and, Bool.and_false]; decide)]
      decide
  omega
theorem step0_run (hk0 : (checkF t lo gl code).2 = 0) {s s' : St} {e : Int} (hsm : Small s) (h0 : 0 ≤ s.pc) (hlt : s.pc < code.length) (hd : doF (sz0 t lo) s (rd_T55 code s.pc) = some (s', e)) : step0 t lo gl code s = if e = 0 then some (s', false, 0) else some (s, false, e) := by
  unfold step0 stepX
  rw [if_pos hsm, if_pos hk0, if_neg (show ¬ s.pc < 0 by omega), if_neg (show ¬ (code.length : Int) < s.pc by omega), if_neg (show ¬ s.pc = code.length by omega), hd, Option.bind_some]
theorem step0_end (hk0 : (checkF t lo gl code).2 = 0) {s : St} (hsm : Small s) (h0 : s.pc = code.length) : step0 t lo gl code s = some (s, true, 0) := by
  unfold step0 stepX
  rw [if_pos hsm, if_pos hk0, if_neg (show ¬ s.pc < 0 by omega), if_neg (show ¬ (code.length : Int) < s.pc by omega), if_pos h0]
theorem small0 : Small St0 := ⟨by decide, by decide, fun j hj => absurd hj (by simp [St0])⟩
end
end Go.Proofs.YtlemecdddhdagaaDoor.P
