/-
  PLAIN LEAN: the law FullTells.
-/
import Derived.Test.YtbmhmlgfpijmhaaDoorPlainT
import Derived.Test.YtbmhmlgfpijmhaaDoorPlainR
import Derived.Test.YtbmhmlgfpijmhaaDoorPx16
namespace Go.Proofs.YtbmhmlgfpijmhaaDoor.P
open Go.RowKit Go.Proofs.YtbmhmlgfpijmhaaDoorW.PrintWords Go.Proofs.YtbmhmlgfpijmhaaDoorW.PrintLast Go.Proofs.YtbmhmlgfpijmhaaDoorW.PrintMore

/-- The document's Last, where what it reads is there. -/
theorem last10_f (t : List ByteArray) (lo gl : ByteArray) (code : List S39) (q : Nat) (hq : q < code.length) (ht : t.length ≤ Mx) (hs : ∀ i : Int, (rdOf ByteArray.empty t i).size ≤ Mx) (hw : Wf code)
    (hg : ∀ j, j < code.length → GoodW t lo (code.getD j z39)) : Ev (fun k => lockstitchref10_Last.f k t lo gl code (q : Nat)) (lastN t lo code q) := by
  have hx := hw q
  unfold lockstitchref10_Last.f lastN
  rw [rd_at]
  refine Ev.congr (fun k => (if_neg (by omega)).trans (if_neg (by omega))) ?_
  by_cases h5 : (code.getD q z39).f0 = 5
  · rw [if_pos h5]
    refine Ev.congr (fun k => if_pos h5) ?_
    have sr := sizeF_range t (namedF t lo (code.getD q z39).f1)
    refine Ev.bind (local5_f t ht hs lo gl code _ hx.2.1.1 hx.2.1.2) (Ev.bind (size3_f t ht hs _) ?_)
    unfold wholeOf
    generalize hav : (code.getD q z39).f1 = a at *
    obtain ⟨s, hse⟩ := Int.eq_ofNat_of_zero_le sr.1
    have hs6 : s ≤ 6 := by rw [hse] at sr; clear hse; omega
    have good : ∀ j, (code.getD j z39).f1 = a → ((code.getD j z39).f0 = 9 ∨ (code.getD j z39).f0 = 11) → 0 ≤ (code.getD j z39).f4 ∧ (code.getD j z39).f4 < (s : Int) := by
      intro j h1 h9
      by_cases hj : j < code.length
      · have := hg j hj h9
        rw [h1, hse] at this
        exact this
      · rw [List.getD_eq_getElem?_getD, List.getElem?_eq_none (by omega)] at h9
        exact absurd h9 (by decide)
    rw [hse, Int.toNat_natCast, Int.toNat_natCast]
    have := lastR_eq a code s q hs6 good (code.length - (q + 1)) 0 (s : Int) 0 (Nat.two_pow_pos s) (pcR_zero s)
    rw [Nat.add_zero] at this
    rw [this]
    exact Ev.now _
  · rw [if_neg h5]
    exact Ev.congr (fun k => if_neg h5) (Ev.now _)
theorem out_full (t : List ByteArray) (lo gl : ByteArray) (code : List S39) (a : Int) (h : a < 0 ∨ (code.length : Int) ≤ a) : Ev (fun k => full_Last.f k t lo gl code a) (-1) := by
  have j0 : Ev (fun k => full_Last.j0 k a true t lo gl code) (-1) := by
    refine Ev.step (f := fun _ => some (-1)) (fun k => ?_) (Ev.now _)
    simp only [full_Last.j0]
    rw [if_pos trivial]
  rcases h with h | h
  · refine Ev.congr (f := fun k => full_Last.j0 k a true t lo gl code) (fun k => ?_) j0
    unfold full_Last.f
    first | rw [if_pos h] | (rw [if_pos h]; rfl)
  · by_cases h0 : a < 0
    · refine Ev.congr (f := fun k => full_Last.j0 k a true t lo gl code) (fun k => ?_) j0
      unfold full_Last.f
      rw [if_pos h0]
    · refine Ev.congr (f := fun k => full_Last.j0 k a true t lo gl code) (fun k => ?_) j0
      unfold full_Last.f
      rw [if_neg h0, if_pos h]
theorem tells_law (t : List ByteArray) (lo gl : ByteArray) (code : List S39) (a : Int) (ht : t.length ≤ Mx) (hs : ∀ i : Int, (rdOf ByteArray.empty t i).size ≤ Mx) (hlo : lo.size ≤ Mx) (hgl : gl.size ≤ Mx) (hn : code.length ≤ Mx) (hw : Wf code) :
    Ev (fun k => lockstitchlaw10_FullTells.f k t lo gl code a) true := by
  refine Ev.bind alive_f (Ev.congr (fun k => if_pos rfl) ?_)
  obtain ⟨b, hb, hp⟩ := sound_more t lo gl code ht hs hn hw hlo hgl
  refine Ev.bind hb ?_
  refine Ev.out (Ev.ite (b := true) (a := true) (fun hb1 => ?_) fun _ => Ev.now _) (by split <;> rfl)
  obtain ⟨_, hg⟩ := hp hb1
  obtain ⟨v, h1, h2⟩ : ∃ v, Ev (fun k => lockstitchref10_Last.f k t lo gl code a) v ∧ Ev (fun k => full_Last.f k t lo gl code a) v := by
    by_cases h0 : a < 0
    · exact ⟨-1, by unfold lockstitchref10_Last.f; exact Ev.congr (fun k => if_pos h0) (Ev.now _), out_full t lo gl code a (.inl h0)⟩
    by_cases h1 : (code.length : Int) ≤ a
    · exact ⟨-1, by unfold lockstitchref10_Last.f; exact Ev.congr (fun k => (if_neg h0).trans (if_pos h1)) (Ev.now _), out_full t lo gl code a (.inr h1)⟩
    obtain ⟨q, rfl⟩ := Int.eq_ofNat_of_zero_le (Int.not_lt.1 h0)
    have hq : q < code.length := by omega
    exact ⟨_, last10_f t lo gl code q hq ht hs hw hg, last_f t lo gl code q hq ht hn hw⟩
  refine Ev.bind h1 (Ev.bind h2 (Ev.congr (fun k => if_pos rfl) ?_))
  exact Ev.bind (Ev.bind h2 (Ev.now _)) (Ev.congr (f := fun _ => some true) (fun k => by simp) (Ev.now _))
end Go.Proofs.YtbmhmlgfpijmhaaDoor.P
