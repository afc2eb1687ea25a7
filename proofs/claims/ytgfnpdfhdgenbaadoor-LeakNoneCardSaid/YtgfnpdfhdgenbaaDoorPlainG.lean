/-
  PLAIN LEAN: what leak.Leaks tells of a program that is Sound, and of it without its stores.
-/
import Derived.Test.YtgfnpdfhdgenbaaDoorPlainX
import Derived.Test.YtgfnpdfhdgenbaaDoorPlainF
import Derived.Test.YtgfnpdfhdgenbaaDoorPx13
namespace Go.Proofs.YtgfnpdfhdgenbaaDoor.P
open Go.RowKit Go.Proofs.YtgfnpdfhdgenbaaDoorW.PrintWords Go.Proofs.YtgfnpdfhdgenbaaDoorW.PrintLast Go.Proofs.YtgfnpdfhdgenbaaDoorW.PrintMore
set_option linter.unusedVariables false
set_option linter.unusedSimpArgs false

theorem alive_g : Ev (fun k => lockstitchlaw11_alive.f k) true := Ev.of (k := 40) lockstitchlaw11_alive.mono (by kernel_rfl)
theorem tmod_atG (a : Int) (n : Nat) (h0 : U8 a) (hn : 1 ≤ n) : ∃ q : Nat, Int.tmod (wrap64 a) (n : Int) = (q : Int) ∧ q < n := by
  obtain ⟨h0, h1⟩ := h0
  have e : wrap64 a = a := by
    unfold wrap64
    omega
  obtain ⟨m, rfl⟩ := Int.eq_ofNat_of_zero_le h0
  refine ⟨m % n, ?_, Nat.mod_lt _ (by omega)⟩
  rw [e]
  rfl
theorem none_facts (t : List ByteArray) (lo gl : ByteArray) (code : List S45) (hn : code.length ≤ Mx) (hw : Wf code) (h8 : lo.size ≤ 8) (h60 : code.length ≤ 60) (hg : ∀ j, j < code.length → GoodM t lo (code.getD j z45)) (q : Nat) (hq : q < code.length) :
    (∀ j, j < code.length → Ev (fun k => leak_Leaks.f k t lo gl (code.map fixI) (j : Nat)) false) ∧ ((code.getD q z45).f0 ≠ 5 → Ev (fun k => leak_Leaks.f k t lo gl code (q : Nat)) false) ∧
    ((code.getD q z45).f0 = 5 → ∀ i, i < code.length → ((code.getD i z45).f0 = 11 ∨ (code.getD i z45).f0 = 13) → (code.getD i z45).f2 = (code.getD q z45).f1 → Ev (fun k => leak_Leaks.f k t lo gl code (q : Nat)) true) := by
  have hql : (code.map fixI).length = code.length := List.length_map _
  obtain ⟨Z, hZ, _⟩ := may_any t lo gl (code.map fixI) h8 (by rw [hql]; exact h60) (wf_fix hw)
  obtain ⟨Y, hY, hk⟩ := may_any t lo gl code h8 h60 hw
  have hN := news_of lo code Y hk
  have hO := only_of t lo code hw hg Y hk
  clear hk
  refine ⟨fun i hi => ?_, fun h5 => ?_, fun h5 i hi h11 he => ?_⟩
  · have := leaks_f t lo gl (code.map fixI) Z (by rw [hql]; exact hn) (wf_fix hw) hZ i (by rw [hql]; exact hi)
    rw [leaks_false] at this
    · exact this
    · intro j hj
      rw [getD_fix, if_pos (by rw [hql] at hj; exact hj)]
      unfold hits
      have := fix_op (code.getD j z45)
      cases h11 : ((fixI (code.getD j z45)).f0 == 11)
      · cases h13 : ((fixI (code.getD j z45)).f0 == 13)
        · rfl
        · exact absurd (.inr (beq_iff_eq.1 h13)) this
      · exact absurd (.inl (beq_iff_eq.1 h11)) this
  · have := leaks_f t lo gl code Y hn hw hY q hq
    rw [leaks_false] at this
    · exact this
    · intro j hj
      cases hh : hits lo.size Y q (code.getD j z45)
      · rfl
      · unfold hits at hh
        simp only [Bool.and_eq_true, Bool.or_eq_true, beq_iff_eq, decide_eq_true_eq] at hh
        have w := (hw j).2.2.1.1
        exact absurd (hO _ q (by omega) hh.2.2).2.1 h5
  · have gq := (namedF_nonneg ((hg q hq).1 h5)).1
    have nq := hN q hq h5 gq
    have := leaks_f t lo gl code Y hn hw hY q hq
    rw [leaks_true (j := i) hi] at this
    · exact this
    · unfold hits
      simp only [Bool.and_eq_true, Bool.or_eq_true, beq_iff_eq, decide_eq_true_eq]
      rw [he]
      exact ⟨h11, gq, nq⟩
theorem ev_all {g : Nat → Nat → Option Bool} {r : Bool} : ∀ n, (∀ j, j < n → Ev (g j) r) → ∃ K, ∀ k, K ≤ k → ∀ j, j < n → g j k = some r
  | 0, _ => ⟨0, fun _ _ _ h => absurd h (Nat.not_lt_zero _)⟩
  | n + 1, h => by
    obtain ⟨K, hK⟩ := ev_all n fun j hj => h j (Nat.lt_succ_of_lt hj)
    obtain ⟨L, hL⟩ := h n (Nat.lt_succ_self n)
    refine ⟨max K L, fun k hk j hj => ?_⟩
    rcases Nat.lt_succ_iff_lt_or_eq.1 hj with h1 | rfl
    · exact hK k (Nat.le_trans (Nat.le_max_left _ _) hk) j h1
    · exact hL k (Nat.le_trans (Nat.le_max_right _ _) hk)
end Go.Proofs.YtgfnpdfhdgenbaaDoor.P
