/-
  PLAIN LEAN: the law FullNone.
-/
import Derived.Test.YtbmhmlgfpijmhaaDoorPlainC
import Derived.Test.YtbmhmlgfpijmhaaDoorPx14
namespace Go.Proofs.YtbmhmlgfpijmhaaDoor.P
open Go.RowKit Go.Proofs.YtbmhmlgfpijmhaaDoorW.PrintWords Go.Proofs.YtbmhmlgfpijmhaaDoorW.PrintLast Go.Proofs.YtbmhmlgfpijmhaaDoorW.PrintMore

theorem tmod_at (a : Int) (n : Nat) (h0 : U8 a) (hn : 1 ≤ n) : ∃ q : Nat, Int.tmod (wrap64 a) (n : Int) = (q : Int) ∧ q < n := by
  unfold U8 at h0
  have e : wrap64 a = a := by unfold wrap64; omega
  rw [e]
  refine ⟨a.toNat % n, ?_, Nat.mod_lt _ (by omega)⟩
  obtain ⟨m, rfl⟩ := Int.eq_ofNat_of_zero_le h0.1
  rw [Int.toNat_natCast, Int.ofNat_tmod]
theorem lastN_end (t : List ByteArray) (lo : ByteArray) (code : List S39) (at_ : Nat) (h : code.length ≤ at_ + 1) : lastN t lo code at_ = -1 := by
  unfold lastN
  rw [show code.length - (at_ + 1) = 0 from by omega]
  split <;> rfl
theorem lastN_stop (t : List ByteArray) (lo : ByteArray) (code : List S39) (at_ : Nat) (h : at_ + 1 < code.length) (hs : cls (code.getD at_ z39).f1 (code.getD (at_ + 1) z39) = none) : lastN t lo code at_ = -1 := by
  unfold lastN
  obtain ⟨d, hd⟩ : ∃ d, code.length - (at_ + 1) = d + 1 := ⟨code.length - (at_ + 1) - 1, by omega⟩
  rw [hd]
  split
  · unfold runL
    rw [getD_drop, Nat.add_zero, hs]
    rfl
  · rfl
theorem lastN_not (t : List ByteArray) (lo : ByteArray) (code : List S39) (at_ : Nat) (h : (code.getD at_ z39).f0 ≠ 5) : lastN t lo code at_ = -1 := if_neg h

theorem none_law (t : List ByteArray) (lo gl : ByteArray) (code : List S39) (a : Int) (ht : t.length ≤ Mx) (hs : ∀ i : Int, (rdOf ByteArray.empty t i).size ≤ Mx) (hlo : lo.size ≤ Mx) (hgl : gl.size ≤ Mx) (hn : code.length ≤ Mx) (hw : Wf code) (ha : U8 a) :
    Ev (fun k => lockstitchlaw10_FullNone.f k t lo gl code a) true := by
  refine Ev.bind alive_f (Ev.congr (fun k => if_pos rfl) ?_)
  obtain ⟨b, hb, hp⟩ := sound_tot t lo gl code ht hs hn hw hlo hgl
  refine Ev.bind hb ?_
  refine Ev.out (Ev.ite (b := true) (a := true) (fun hb1 => ?_) fun _ => Ev.now _) (by split <;> rfl)
  have hl := hp hb1
  obtain ⟨q, hq, hql⟩ := tmod_at a code.length ha hl.1
  rw [hq]
  refine Ev.congr (fun k => (if_neg (by omega)).trans ((if_pos (by omega)).trans (if_pos (by omega)))) ?_
  have e1 : wrap64 ((q : Int) + 1) = ((q + 1 : Nat) : Int) := wrapN hql hn
  have last := last_f t lo gl code q hql ht hn hw
  have full := full_f t lo gl code q hql ht hn hw
  have j0 : ∀ x, (x = true ↔ (code.getD q z39).f0 ≠ 5 ∨ code.length ≤ q + 1) → Ev (fun k => lockstitchlaw10_FullNone.j0 k (q : Nat) x t lo gl code) true := fun x hx => by
    refine Ev.step (fun k => by simp only [lockstitchlaw10_FullNone.j0]; rfl) ?_
    rw [e1]
    refine Ev.out (Ev.ite (b := true) (a := true) (fun h => ?_) fun h => ?_) (by split <;> rfl)
    · refine Ev.congr (fun k => (if_pos (by omega)).trans (if_pos (by omega))) ?_
      rw [rd_at]
      refine Ev.out (Ev.ite (b := true) (a := true) (fun h5 => ?_) fun h5 => ?_) (by split <;> rfl)
      · have he : code.length ≤ q + 1 := (hx.1 h).resolve_left fun hne => hne h5
        refine Ev.congr (fun k => if_neg (by omega)) ?_
        rw [lastN_end t lo code q he] at last
        exact Ev.bind last (Ev.now _)
      · rw [lastN_not t lo code q h5] at last
        refine Ev.bind last (Ev.congr (fun k => if_pos rfl) ?_)
        exact Ev.out (Ev.ite (b := true) (a := true) (fun _ => Ev.now _) fun _ => Ev.bind last (Ev.now _)) (by split <;> rfl)
    · have hnx : ¬ ((code.getD q z39).f0 ≠ 5 ∨ code.length ≤ q + 1) := fun h2 => h (hx.2 h2)
      have hlt : q + 1 < code.length := by omega
      refine Ev.congr (fun k => (if_pos (by omega)).trans (if_pos (by omega))) ?_
      rw [rd_at]
      generalize hy : code.getD (q + 1) z39 = y
      have no : cls (code.getD q z39).f1 y = none → Ev (fun k => (full_Full.f k t lo gl code (q : Nat)).bind fun z => some (!z)) true := fun hc => by
        rw [lastN_stop t lo code q hlt (by rw [hy]; exact hc)] at full
        exact Ev.bind full (Ev.now _)
      have stop : ∀ o, (o = 3 ∨ o = 4 ∨ o = 5 ∨ o = 8 ∨ o = 10 ∨ o = 12 ∨ o = 13) → y.f0 = o → cls (code.getD q z39).f1 y = none := fun o ho he => by
        unfold cls
        rw [if_neg (by omega), if_neg (by omega), if_neg (by omega)]
      have safe : ∃ z, lockstitchref07_Safe.f t lo gl code ((q + 1 : Nat) : Int) = some z ∧ (z = true → y.f0 = 5 ∨ y.f0 = 3 ∨ y.f0 = 4) := by
        unfold lockstitchref07_Safe.f
        rw [if_neg (by omega), if_neg (by omega), if_pos (by omega), if_pos (by omega), rd_at, hy]
        by_cases h5 : y.f0 = 5
        · exact ⟨true, if_pos h5, fun _ => .inl h5⟩
        · rw [if_neg h5]
          by_cases h3 : y.f0 = 3
          · rw [if_pos h3]; exact ⟨_, rfl, fun _ => .inr (.inl h3)⟩
          · rw [if_neg h3]
            by_cases h4 : y.f0 = 4
            · rw [if_pos h4]; exact ⟨_, rfl, fun _ => .inr (.inr h4)⟩
            · rw [if_neg h4]; exact ⟨false, rfl, fun h => by cases h⟩
      obtain ⟨z, hz, hzs⟩ := safe
      rw [hz]
      show Ev (fun k => if z = true then _ else _) true
      refine Ev.out (Ev.ite (b := true) (a := true) (fun h1 => no ?_) fun _ => ?_) (by split <;> rfl)
      · rcases hzs h1 with h | h | h
        · exact stop 5 (by omega) h
        · exact stop 3 (by omega) h
        · exact stop 4 (by omega) h
      refine Ev.out (Ev.ite (b := true) (a := true) (fun h1 => no (stop 8 (by omega) h1)) fun _ => ?_) (by split <;> rfl)
      refine Ev.out (Ev.ite (b := true) (a := true) (fun h1 => no (stop 10 (by omega) h1)) fun _ => ?_) (by split <;> rfl)
      refine Ev.out (Ev.ite (b := true) (a := true) (fun h1 => no (stop 12 (by omega) h1)) fun _ => ?_) (by split <;> rfl)
      refine Ev.out (Ev.ite (b := true) (a := true) (fun h1 => no (stop 13 (by omega) h1)) fun _ => ?_) (by split <;> rfl)
      refine Ev.out (Ev.ite (b := true) (a := true) (fun h1 => no (stop 3 (by omega) h1)) fun _ => ?_) (by split <;> rfl)
      exact Ev.out (Ev.ite (b := true) (a := true) (fun h1 => no (stop 4 (by omega) h1)) fun _ => Ev.now _) (by split <;> rfl)
  rw [rd_at]
  refine Ev.out (Ev.ite (b := true) (a := true) (fun h5 => j0 _ ?_) fun h5 => j0 true ⟨fun _ => .inl h5, fun _ => rfl⟩) (by split <;> rfl)
  rw [e1, decide_eq_true_iff]
  exact ⟨fun h => .inr (by omega), fun h => by have := h.resolve_left fun hne => hne h5; omega⟩
end Go.Proofs.YtbmhmlgfpijmhaaDoor.P
