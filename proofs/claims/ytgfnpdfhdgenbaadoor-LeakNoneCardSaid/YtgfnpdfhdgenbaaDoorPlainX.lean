/-
  PLAIN LEAN: leak.Leaks: whether a store of a local that may be of the place stands anywhere.
-/
import Derived.Test.YtgfnpdfhdgenbaaDoorPlainV
import Derived.Test.YtgfnpdfhdgenbaaDoorPx12
namespace Go.Proofs.YtgfnpdfhdgenbaaDoor.P
open Go.RowKit Go.Proofs.YtgfnpdfhdgenbaaDoorW.PrintWords Go.Proofs.YtgfnpdfhdgenbaaDoorW.PrintLast Go.Proofs.YtgfnpdfhdgenbaaDoorW.PrintMore
set_option linter.unusedVariables false
set_option linter.unusedSimpArgs false

/-- Does instruction x store what may be of place q? -/
def hits (n : Nat) (Y : Tb) (q : Nat) (x : S45) : Bool := (x.f0 == 11 || x.f0 == 13) && (decide (x.f2 < (n : Int)) && Y x.f2.toNat q)
def badL (n : Nat) (Y : Tb) (code : List S45) (q j : Nat) : Option Bool := if hits n Y q (code.getD j z45) = true then some true else none
theorem leaks_f (t : List ByteArray) (lo gl : ByteArray) (code : List S45) (Y : Tb) (hn : code.length ≤ Mx) (hw : Wf code) (hY : Ev (fun k => leak_May.f k t lo gl code) (tabM lo.size (code.length + 1) Y)) (q : Nat) (hq : q < code.length) :
    Ev (fun k => leak_Leaks.f k t lo gl code (q : Nat)) (scan (badL lo.size Y code q) false code.length 0) := by
  refine Ev.congr (f := fun k => leak_Leaks.j0 k (q : Nat) false t lo gl code) (fun k => ?_) ?_
  · unfold leak_Leaks.f
    rw [if_neg (by omega), decide_eq_false (by omega)]
  refine Ev.step (f := fun k => (leak_May.f k t lo gl code).bind fun T => leak_Leaks.l0 k (q : Nat) T code (code.length : Int) 0) (fun k => ?_) ?_
  · simp only [leak_Leaks.j0]
    rw [if_neg (by decide)]
  refine Ev.bind hY ?_
  have hTl : ((tabM lo.size (code.length + 1) Y).length : Int) = (lo.size : Int) := by rw [tabM_len]
  have hrow : ∀ a : Nat, a < lo.size → rd_L8 (tabM lo.size (code.length + 1) Y) (a : Nat) = rowM (code.length + 1) (Y a) := fun a ha => tabM_row Y ha
  generalize tabM lo.size (code.length + 1) Y = T at hTl hrow ⊢
  refine loop_first (g := fun k j => leak_Leaks.l0 k (q : Nat) T code (code.length : Int) (j : Nat)) (badL lo.size Y code q) code.length false (fun j hj hb r hr => ?_) (fun j hj b hb => ?_) (fun _ => ?_) code.length 0 (by omega) (fun j hj => by omega)
  · have nx : Ev (fun k => leak_Leaks.l0 k (q : Nat) T code (code.length : Int) (wrap64 ((j : Int) + 1))) r := by
      rw [wrapN (i := j) (n := code.length) hj hn]
      exact hr
    refine Ev.step (fun k => by simp only [leak_Leaks.l0]; rfl) ?_
    refine Ev.congr (fun k => (if_pos (by omega)).trans ((if_pos (by omega)).trans (if_pos (by omega)))) ?_
    rw [rd_at]
    have hx := hw j
    have hb' : hits lo.size Y q (code.getD j z45) = false := by
      unfold badL at hb
      cases hh : hits lo.size Y q (code.getD j z45)
      · rfl
      · rw [hh, if_pos rfl] at hb
        cases hb
    clear hb
    generalize code.getD j z45 = x at hx hb' ⊢
    have e1 : wrap64 x.f2 = x.f2 := by
      have := hx.2.2.1
      unfold U8 at this
      unfold wrap64
      omega
    have body : x.f0 = 11 ∨ x.f0 = 13 → Ev (fun k => if wrap64 x.f2 < (T.length : Int) then (if 0 ≤ x.f2 then (if x.f2 < (T.length : Int) then (if (0 : Int) ≤ ((q : Nat) : Int) then (if ((q : Nat) : Int) < ((rd_L8 T x.f2).length : Int) then (if rdOf false (rd_L8 T x.f2) ((q : Nat) : Int) = true then (some true) else (leak_Leaks.l0 k (q : Nat) T code (code.length : Int) (wrap64 ((j : Int) + 1)))) else none) else none) else none) else none) else (leak_Leaks.l0 k (q : Nat) T code (code.length : Int) (wrap64 ((j : Int) + 1)))) r := by
      intro h
      rw [e1, hTl]
      by_cases hf : x.f2 < (lo.size : Int)
      · obtain ⟨c, hc⟩ := Int.eq_ofNat_of_zero_le hx.2.2.1.1
        have hcl : c < lo.size := by rw [hc] at hf; exact Int.ofNat_lt.1 hf
        have y0 : Y c q = false := by
          unfold hits at hb'
          rw [hc, Int.toNat_natCast, decide_eq_true (Int.ofNat_lt.2 hcl), Bool.true_and] at hb'
          rcases h with h | h <;> rw [h] at hb' <;> exact hb'
        rw [hc, hrow c hcl, rowM_len, rowM_at _ (by omega), y0]
        exact Ev.congr (fun k => (if_pos (Int.ofNat_lt.2 hcl)).trans ((if_pos (Int.natCast_nonneg c)).trans ((if_pos (Int.ofNat_lt.2 hcl)).trans ((if_pos (Int.natCast_nonneg q)).trans ((if_pos (by omega)).trans (if_neg (by decide))))))) nx
      · exact Ev.congr (fun k => if_neg hf) nx
    by_cases h11 : x.f0 = 11
    · exact Ev.congr (fun k => if_pos h11) (body (.inl h11))
    · refine Ev.congr (fun k => if_neg h11) ?_
      by_cases h13 : x.f0 = 13
      · exact Ev.congr (fun k => if_pos h13) (body (.inr h13))
      · exact Ev.congr (fun k => if_neg h13) nx
  · refine Ev.step (fun k => by simp only [leak_Leaks.l0]; rfl) ?_
    refine Ev.congr (fun k => (if_pos (by omega)).trans ((if_pos (by omega)).trans (if_pos (by omega)))) ?_
    rw [rd_at]
    have hx := hw j
    have hb' : hits lo.size Y q (code.getD j z45) = true ∧ b = true := by
      unfold badL at hb
      cases hh : hits lo.size Y q (code.getD j z45)
      · rw [hh, if_neg (by decide)] at hb
        cases hb
      · rw [hh, if_pos rfl] at hb
        exact ⟨rfl, (Option.some.inj hb).symm⟩
    obtain ⟨hb', rfl⟩ := hb'
    clear hb
    generalize code.getD j z45 = x at hx hb' ⊢
    have e1 : wrap64 x.f2 = x.f2 := by
      have := hx.2.2.1
      unfold U8 at this
      unfold wrap64
      omega
    unfold hits at hb'
    simp only [Bool.and_eq_true, Bool.or_eq_true, beq_iff_eq, decide_eq_true_eq] at hb'
    obtain ⟨h, hf, y0⟩ := hb'
    obtain ⟨c, hc⟩ := Int.eq_ofNat_of_zero_le hx.2.2.1.1
    have hcl : c < lo.size := by rw [hc] at hf; exact Int.ofNat_lt.1 hf
    rw [hc, Int.toNat_natCast] at y0
    rw [e1, hTl, hc, hrow c hcl, rowM_len, rowM_at _ (by omega), y0]
    have body : ∀ k, (if ((c : Nat) : Int) < (lo.size : Int) then (if (0 : Int) ≤ ((c : Nat) : Int) then (if ((c : Nat) : Int) < (lo.size : Int) then (if (0 : Int) ≤ ((q : Nat) : Int) then (if ((q : Nat) : Int) < ((code.length + 1 : Nat) : Int) then (if true = true then (some true) else (leak_Leaks.l0 k (q : Nat) T code (code.length : Int) (wrap64 ((j : Int) + 1)))) else none) else none) else none) else none) else (leak_Leaks.l0 k (q : Nat) T code (code.length : Int) (wrap64 ((j : Int) + 1)))) = some true := fun k => (if_pos (Int.ofNat_lt.2 hcl)).trans ((if_pos (Int.natCast_nonneg c)).trans ((if_pos (Int.ofNat_lt.2 hcl)).trans ((if_pos (Int.natCast_nonneg q)).trans ((if_pos (by omega)).trans (if_pos rfl)))))
    rcases h with h | h
    · exact Ev.congr (f := fun _ => some true) (fun k => (if_pos h).trans (body k)) (Ev.now _)
    · exact Ev.congr (f := fun _ => some true) (fun k => (if_neg (by omega)).trans ((if_pos h).trans (body k))) (Ev.now _)
  · refine Ev.step (f := fun _ => some false) (fun k => ?_) (Ev.now _)
    simp only [leak_Leaks.l0]
    rw [if_neg (by omega)]
theorem leaks_false {n : Nat} {Y : Tb} {code : List S45} {q : Nat} (h : ∀ j, j < code.length → hits n Y q (code.getD j z45) = false) : scan (badL n Y code q) false code.length 0 = false := by
  refine scan_fin _ _ fun j _ hj => ?_
  unfold badL
  rw [h j (by omega), if_neg (by decide)]
theorem leaks_true {n : Nat} {Y : Tb} {code : List S45} {q : Nat} {j : Nat} (hj : j < code.length) (h : hits n Y q (code.getD j z45) = true) : scan (badL n Y code q) false code.length 0 = true := by
  rcases scan_first (bad := badL n Y code q) (fin := false) code.length 0 with ⟨_, h2⟩ | ⟨i, b, _, _, hb, h2, _⟩
  · have := h2 j (Nat.zero_le _) (by omega)
    unfold badL at this
    rw [h, if_pos rfl] at this
    cases this
  · rw [h2]
    unfold badL at hb
    split at hb
    · exact (Option.some.inj hb).symm
    · cases hb
end Go.Proofs.YtgfnpdfhdgenbaaDoor.P
