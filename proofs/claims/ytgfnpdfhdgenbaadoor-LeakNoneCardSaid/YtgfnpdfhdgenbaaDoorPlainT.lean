/-
  PLAIN LEAN: what Sound tells of New and Move; and leak.May's table: it ends, and what it has.
-/
import Derived.Test.YtgfnpdfhdgenbaaDoorPlainK
import Derived.Test.YtgfnpdfhdgenbaaDoorGivenR
namespace Go.Proofs.YtgfnpdfhdgenbaaDoor.P
open Go.RowKit Go.Proofs.YtgfnpdfhdgenbaaDoorW.PrintWords Go.Proofs.YtgfnpdfhdgenbaaDoorW.PrintLast Go.Proofs.YtgfnpdfhdgenbaaDoorW.PrintMore
set_option linter.unusedVariables false
set_option linter.unusedSimpArgs false

theorem Tot.exact {α : Type} {P : α → Prop} {g : Nat → Option α} {r : α} (h : Ev g r) (hp : P r) : Tot P g := ⟨r, h, hp⟩
/-- What Sound tells of a New, and of a Move. -/
def GoodM (t : List ByteArray) (lo : ByteArray) (x : S45) : Prop := (x.f0 = 5 → 0 ≤ namedF t lo x.f1) ∧ (x.f0 = 7 → 0 ≤ namedF t lo x.f1 ∧ namedF t lo x.f1 = namedF t lo x.f2)
theorem one5_more (a b : Int) : Tot (fun r => r = true → 0 ≤ a ∧ a = b) (fun _ => lockstitchref05_one.f a b) := by
  unfold lockstitchref05_one.f
  refine Tot.ite (fun h => Tot.now fun h2 => ⟨h, ?_⟩) fun _ => Tot.now fun h => by cases h
  simpa using h2
section
variable (t : List ByteArray) (lo gl : ByteArray) (code : List S45) (ht : t.length ≤ Mx) (hs : ∀ i : Int, (rdOf ByteArray.empty t i).size ≤ Mx)
include ht hs
theorem kinds5_more (x : S45) (hx : WfI x) : Tot (fun r => r = true → GoodM t lo x) (fun k => lockstitchref05_kinds.f k t lo gl code x.f0 x.f1 x.f2 x.f3 x.f4) := by
  by_cases h : x.f0 = 5 ∨ x.f0 = 7
  rotate_left
  · obtain ⟨r, hr, _⟩ := kinds5_tot t lo gl code ht hs x hx
    exact ⟨r, hr, fun _ => ⟨fun h5 => absurd (.inl h5) h, fun h7 => absurd (.inr h7) h⟩⟩
  refine Tot.bind (Tot.exact (P := fun r => r = namedF t lo x.f1) (local5_f t ht hs lo gl code x.f1 hx.2.1.1 hx.2.1.2) rfl) fun a ea => Tot.bind (Tot.exact (P := fun r => r = namedF t lo x.f2) (local5_f t ht hs lo gl code x.f2 hx.2.2.1.1 hx.2.2.1.2) rfl) fun b eb => ?_
  rw [ea, eb]
  rcases h with h | h
  · refine Tot.yes h (Tot.step (fun k => by simp only [lockstitchref05_kinds.j0]; rfl) (Tot.yes (by simp [h]) (Tot.now fun h2 => ⟨fun _ => by simpa using h2, fun h7 => by omega⟩)))
  · refine Tot.ite (fun h5 => absurd h5 (by omega)) fun _ => Tot.step (fun k => by simp only [lockstitchref05_kinds.j0]; rfl) (Tot.ite (fun h6 => absurd h6 (by simp [h])) fun _ => Tot.yes h (Tot.bind (one5_more _ _) fun r hr => Tot.now fun h2 => ⟨fun h5 => by omega, fun _ => hr h2⟩))
theorem check5_more (hn : code.length ≤ Mx) (hw : Wf code) (hlo : lo.size ≤ Mx) (hgl : gl.size ≤ Mx) : Tot (fun r => r.2 = 0 → lo.size ≤ 8 ∧ 1 ≤ code.length ∧ ∀ j, j < code.length → GoodM t lo (code.getD j z45)) (fun k => lockstitchref05_Check.f k t lo gl code) := by
  have l0 : lo.size ≤ 8 → 1 ≤ code.length → ∀ d i, i + d = code.length → (∀ j, j < i → GoodM t lo (code.getD j z45)) → Tot (fun r => r.2 = 0 → lo.size ≤ 8 ∧ 1 ≤ code.length ∧ ∀ j, j < code.length → GoodM t lo (code.getD j z45)) (fun k => lockstitchref05_Check.l0 k (i : Nat) t lo gl code) := by
    intro h8 h1 d
    induction d with
    | zero =>
      intro i hi hg
      obtain rfl : i = code.length := by omega
      refine Tot.step (fun k => by simp only [lockstitchref05_Check.l0]; rfl) ?_
      exact Tot.ite (fun h => by omega) fun _ => Tot.now fun _ => ⟨h8, h1, hg⟩
    | succ d ih =>
      intro i hi hg
      have nx : GoodM t lo (code.getD i z45) → Tot (fun r => r.2 = 0 → lo.size ≤ 8 ∧ 1 ≤ code.length ∧ ∀ j, j < code.length → GoodM t lo (code.getD j z45)) (fun k => lockstitchref05_Check.l0 k (wrap64 ((i : Int) + 1)) t lo gl code) := fun hgi => by
        rw [wrapN (i := i) (n := code.length) (by omega) hn]
        refine ih (i + 1) (by omega) fun j hj => ?_
        rcases Nat.lt_succ_iff_lt_or_eq.1 hj with h | h
        · exact hg j h
        · rw [h]; exact hgi
      have hx := hw i
      rw [← rd_at] at hx nx
      generalize hxe : rd_T45 code (i : Nat) = x at hx nx
      have j4 : ∀ b, Tot (fun r => r.2 = 0 → lo.size ≤ 8 ∧ 1 ≤ code.length ∧ ∀ j, j < code.length → GoodM t lo (code.getD j z45)) (fun k => lockstitchref05_Check.j4 k (i : Nat) b t lo gl code x.f0 x.f1 x.f2 x.f3 x.f4) := fun b => by
        refine Tot.step (fun k => by simp only [lockstitchref05_Check.j4]; rfl) ?_
        exact Tot.ite (fun _ => Tot.now fun h => by simp at h) fun _ => Tot.bind (ints5_tot x) fun _ _ => Tot.ite (fun _ => Tot.bind (kinds5_more t lo gl code ht hs x hx) fun _ hk => Tot.ite (fun hb => nx (hk hb)) fun _ => Tot.now fun h => by simp at h) fun _ => Tot.now fun h => by simp at h
      have j3 : ∀ b, Tot (fun r => r.2 = 0 → lo.size ≤ 8 ∧ 1 ≤ code.length ∧ ∀ j, j < code.length → GoodM t lo (code.getD j z45)) (fun k => lockstitchref05_Check.j3 k (i : Nat) b t lo gl code x.f0 x.f1 x.f2 x.f3 x.f4) := fun b => by
        refine Tot.step (fun k => by simp only [lockstitchref05_Check.j3]; rfl) ?_
        exact Tot.bind (right4_tot x hx) fun _ _ => Tot.ite (fun _ => Tot.ite (fun _ => Tot.ite (fun _ => j4 _) fun _ => j4 _) fun _ => j4 _) fun _ => Tot.now fun h => by simp at h
      refine Tot.step (fun k => by simp only [lockstitchref05_Check.l0]; rfl) ?_
      rw [hxe]
      exact Tot.yes (by omega) (Tot.yes (by omega) (Tot.ite (fun _ => j3 _) fun _ => j3 _))
  have j1 : lo.size ≤ 8 → ∀ b, (b = false → 1 ≤ code.length) → Tot (fun r => r.2 = 0 → lo.size ≤ 8 ∧ 1 ≤ code.length ∧ ∀ j, j < code.length → GoodM t lo (code.getD j z45)) (fun k => lockstitchref05_Check.j1 k b t lo gl code) := fun h8 b hb => by
    refine Tot.step (fun k => by simp only [lockstitchref05_Check.j1]; rfl) ?_
    exact Tot.ite (fun _ => Tot.now fun h => by simp at h) fun h => l0 h8 (hb (by simpa using h)) _ 0 (Nat.zero_add _) fun j hj => absurd hj (Nat.not_lt_zero _)
  have j0 : ∀ b, (b = false → lo.size ≤ 8) → Tot (fun r => r.2 = 0 → lo.size ≤ 8 ∧ 1 ≤ code.length ∧ ∀ j, j < code.length → GoodM t lo (code.getD j z45)) (fun k => lockstitchref05_Check.j0 k b t lo gl code) := fun b hb => by
    refine Tot.step (fun k => by simp only [lockstitchref05_Check.j0]; rfl) ?_
    exact Tot.ite (fun _ => Tot.now fun h => by simp at h) fun h => Tot.ite (fun _ => j1 (hb (by simpa using h)) true fun h => by cases h) fun h2 => j1 (hb (by simpa using h)) _ fun _ => by omega
  exact Tot.bind (refs3_tot t lo ht hs hlo) fun _ _ => Tot.ite (fun _ => Tot.bind (refs3_tot t gl ht hs hgl) fun _ _ => Tot.ite (fun _ => Tot.ite (fun _ => j0 true fun h => by cases h) fun h => j0 _ fun _ => by omega) fun _ => j0 true fun h => by cases h) fun _ => j0 true fun h => by cases h
theorem sound_more (hn : code.length ≤ Mx) (hw : Wf code) (hlo : lo.size ≤ Mx) (hgl : gl.size ≤ Mx) : Tot (fun r => r = true → lo.size ≤ 8 ∧ (1 ≤ code.length ∧ code.length ≤ 60) ∧ ∀ j, j < code.length → GoodM t lo (code.getD j z45)) (fun k => lockstitchlaw07_Sound.f k t lo gl code) := by
  refine Tot.bind (few_tot t lo gl code ht) fun _ _ => Tot.ite (fun _ => Tot.ite (fun _ => Tot.now fun h => by cases h) fun h => Tot.bind (check5_more t lo gl code ht hs hn hw hlo hgl) fun r hr => Tot.now fun h2 => ?_) fun _ => Tot.now fun h => by cases h
  have := hr (by simpa using h2)
  exact ⟨this.1, ⟨this.2.1, by omega⟩, this.2.2⟩
end
end Go.Proofs.YtgfnpdfhdgenbaaDoor.P
