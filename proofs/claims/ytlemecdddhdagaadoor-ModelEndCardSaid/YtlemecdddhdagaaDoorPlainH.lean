/-
  PLAIN LEAN: the law ModelEnd.
-/
import Derived.Test.YtlemecdddhdagaaDoorPlainP
import Derived.Test.YtlemecdddhdagaaDoorGivenN
namespace Go.Proofs.YtlemecdddhdagaaDoor.P
open Go.RowKit Go.Proofs.YtlemecdddhdagaaDoorW.PrintWords Go.Proofs.YtlemecdddhdagaaDoorW.PrintLast Go.Proofs.YtlemecdddhdagaaDoorW.PrintMore
set_option linter.unusedVariables false
theorem end_mono {step step' : St → Option (St × Bool × Int)} (h : ∀ s, LeO (step s) (step' s)) (len : Nat) : ∀ (n : Nat) (s : St), EndL step len n s → EndL step' len n s
  | 0, _, _ => trivial
  | n + 1, s, ⟨t, d, e, hs, hr⟩ => ⟨t, d, e, h s _ hs, hr.imp (fun ⟨a, b, c⟩ => ⟨a, b, end_mono h len n t c⟩) id⟩
section
variable {t : List ByteArray} {lo gl : ByteArray} {code : List S55}
theorem run_end (h : Ok t lo gl code) (hk0 : (checkF t lo gl code).2 = 0) : ∀ (f : Nat) (s : St) (n : Nat) (ty : List Int), Inv t lo gl n s ty → n + f ≤ 900000 → 0 ≤ s.pc → s.pc ≤ code.length → EndL (step0 t lo gl code) code.length f s := by
  intro f
  induction f with
  | zero => intro s n ty hI hn h0 h1; trivial
  | succ f ih =>
    intro s n ty hI hn h0 h1
    have hsm := hI.small h.right (by omega)
    by_cases hlt : s.pc < code.length
    · obtain ⟨s', e, hd, hN⟩ := h.step hI (by omega) h0 hlt
      have hs0 := step0_run hk0 hsm h0 hlt hd
      by_cases he : e = 0
      · rw [if_pos he] at hs0
        obtain ⟨ty', hI'⟩ := hN.inv
        exact ⟨s', false, 0, hs0, .inl ⟨rfl, rfl, ih s' (n + 1) ty' hI' (by omega) (hN.pc he).1 (hN.pc he).2⟩⟩
      · rw [if_neg he] at hs0
        exact ⟨s, false, e, hs0, .inr ⟨rfl, .inr ⟨rfl, he⟩⟩⟩
    · exact ⟨s, true, 0, step0_end hk0 hsm (by omega), .inr ⟨rfl, .inl ⟨rfl, rfl, by omega⟩⟩⟩
end
theorem modelEnd_true (t : List ByteArray) (lo gl : ByteArray) (code : List S55) (f : Nat) (ht : t.length ≤ 9223372036854775807) (hs : lo.size + gl.size ≤ 9223372036854775807) (hc : code.length ≤ 9223372036854775807) (hw : Wf code) (hf : f ≤ 255) :
    ∃ k, modelEnd.ok k t lo gl code f := by
  obtain ⟨q, hq⟩ := few_f t lo gl code ht
  obtain ⟨K1, h1⟩ := hq
  obtain ⟨K2, h2⟩ := alive_f
  obtain ⟨K3, h3⟩ := steps_ev ht hs hc hw
  refine ⟨max K1 (max K2 K3), h2 _ (by omega), q, h1 _ (by omega), fun _ => end_mono (h3 _ (by omega)) _ _ _ ?_⟩
  by_cases hok : (checkF t lo gl code).2 = 0
  · exact run_end (ok_of hok hw) hok f St0 0 [] inv0 (by omega) (Int.le_refl _) (by show (0 : Int) ≤ _; omega)
  · cases f with
    | zero => trivial
    | succ f =>
      refine ⟨St0, false, 2, ?_, .inr ⟨rfl, .inr ⟨rfl, by decide⟩⟩⟩
      rw [step0, if_pos small0, stepX, if_neg hok]
end Go.Proofs.YtlemecdddhdagaaDoor.P
