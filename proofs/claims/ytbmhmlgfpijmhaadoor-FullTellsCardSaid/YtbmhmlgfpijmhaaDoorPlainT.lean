/-
  PLAIN LEAN: what Sound tells of the writes: where it is true each StoreI and StoreP is of a field that is there.
-/
import Derived.Test.YtbmhmlgfpijmhaaDoorPlainK
namespace Go.Proofs.YtbmhmlgfpijmhaaDoor.P
open Go.RowKit Go.Proofs.YtbmhmlgfpijmhaaDoorW.PrintWords Go.Proofs.YtbmhmlgfpijmhaaDoorW.PrintLast Go.Proofs.YtbmhmlgfpijmhaaDoorW.PrintMore

theorem Tot.exact {α : Type} {P : α → Prop} {g : Nat → Option α} {r : α} (h : Ev g r) (hp : P r) : Tot P g := ⟨r, h, hp⟩
def GoodW (t : List ByteArray) (lo : ByteArray) (x : S39) : Prop := (x.f0 = 9 ∨ x.f0 = 11) → 0 ≤ x.f4 ∧ x.f4 < sizeF t (namedF t lo x.f1)
section
variable (t : List ByteArray) (lo gl : ByteArray) (code : List S39) (ht : t.length ≤ Mx) (hs : ∀ i : Int, (rdOf ByteArray.empty t i).size ≤ Mx)
include ht hs
theorem to3_more (i f : Int) : Tot (fun r => 0 ≤ r → 0 ≤ f ∧ f < sizeF t i) (fun k => lockstitchref03_To.f k t i f) := by
  have is : Tot (fun r => r = true → (rightB t && (decide (0 ≤ i) && decide (i < t.length))) = true) (fun k => lockstitchref03_is.f k t i) := by
    refine Tot.bind (Tot.exact (P := fun r => r = rightB t) (right3_f t ht hs) rfl) fun r hr => Tot.ite (fun h => Tot.ite (fun h0 => Tot.now fun h2 => ?_) fun _ => Tot.now fun h => by cases h) fun _ => Tot.now fun h => by cases h
    rw [← hr, h, decide_eq_true h0, h2]
    rfl
  refine Tot.bind is fun r hr => Tot.ite (fun hb => ?_) fun _ => Tot.now fun h => absurd h (by decide)
  have hi := hr hb
  have hi' := hi
  simp only [Bool.and_eq_true, decide_eq_true_eq] at hi'
  have sz : sizeF t i = (rdOf ByteArray.empty t i).size := by
    unfold sizeF ofF
    rw [if_pos hi]
  refine Tot.ite (fun _ => Tot.now fun h => absurd h (by decide)) fun hf => Tot.yes hi'.2.1 (Tot.yes hi'.2.2 (Tot.ite (fun _ => Tot.now fun h => absurd h (by decide)) fun hf2 => ?_))
  rw [← sz] at hf2
  rw [← sz]
  have h1 : 0 ≤ f := by clear hf2 sz; omega
  have h2 : f < sizeF t i := Int.not_le.1 hf2
  refine Tot.yes h1 (Tot.yes h2 ?_)
  obtain ⟨x, hx⟩ := digit_tot (bt (rdOf ByteArray.empty t i) f) t.length
  rw [hx]
  exact Tot.now fun _ => ⟨h1, h2⟩
theorem number5_more (i f : Int) : Tot (fun r => r = true → 0 ≤ f ∧ f < sizeF t i) (fun k => lockstitchref05_number.f k t lo gl code i f) := by
  refine Tot.ite (fun _ => Tot.now fun h => by cases h) fun h0 => Tot.bind (Tot.exact (P := fun r => r = sizeF t i) (size3_f t ht hs i) rfl) fun r hr => Tot.ite (fun _ => Tot.now fun h => by cases h) fun h1 => ?_
  rw [hr] at h1
  exact Tot.bind (to3_tot t ht hs i f) fun _ _ => Tot.now fun _ => ⟨Int.not_lt.1 h0, Int.not_le.1 h1⟩
theorem to5_more (i f : Int) : Tot (fun r => 0 ≤ r → 0 ≤ f ∧ f < sizeF t i) (fun k => lockstitchref05_to.f k t lo gl code i f) :=
  Tot.ite (fun _ => Tot.now fun h => absurd h (by decide)) fun _ => Tot.ite (fun _ => Tot.now fun h => absurd h (by decide)) fun _ => Tot.bind (to3_more t ht hs i f) fun _ h => Tot.now h
omit ht hs in
theorem one5_more (a b : Int) : Tot (fun r => r = true → 0 ≤ b) (fun _ => lockstitchref05_one.f a b) := by
  unfold lockstitchref05_one.f
  refine Tot.ite (fun h => Tot.now fun h2 => ?_) fun _ => Tot.now fun h => by cases h
  have : a = b := by simpa using h2
  rw [← this]
  exact h
theorem kinds5_more (x : S39) (hx : WfI x) : Tot (fun r => r = true → GoodW t lo x) (fun k => lockstitchref05_kinds.f k t lo gl code x.f0 x.f1 x.f2 x.f3 x.f4) := by
  have one : ∀ (a : Int) (g : Nat → Option Int), ¬ (x.f0 = 9 ∨ x.f0 = 11) → Tot Any_ g → Tot (fun r => r = true → GoodW t lo x) (fun k => (g k).bind fun q => (lockstitchref05_one.f a q).bind fun z => some z) := fun a g hne hg => Tot.bind hg fun q _ => Tot.bind (one5_tot a q) fun _ _ => Tot.now fun _ h => absurd h hne
  have j0 : ∀ b c, (c = true → ¬ (x.f0 = 9 ∨ x.f0 = 11)) → Tot (fun r => r = true → GoodW t lo x) (fun k => lockstitchref05_kinds.j0 k (namedF t lo x.f1) b x.f0 c t lo gl code x.f0 x.f1 x.f2 x.f3 x.f4) := fun b c hc0 => by
    refine Tot.step (fun k => by simp only [lockstitchref05_kinds.j0]; rfl) ?_
    refine Tot.ite (fun hc => Tot.now fun _ h => absurd h (hc0 hc)) fun _ => ?_
    refine Tot.ite (fun h7 => Tot.bind (one5_tot _ _) fun _ _ => Tot.now fun _ h => by omega) fun _ => ?_
    refine Tot.ite (fun h15 => one _ _ (by omega) (local5_tot t lo gl code ht hs _ hx.2.2.2.1)) fun _ => ?_
    refine Tot.ite (fun h8 => Tot.ite (fun _ => Tot.bind (number5_tot t lo gl code ht hs _ _) fun _ _ => Tot.now fun _ h => by omega) fun _ => Tot.now fun h => by cases h) fun _ => ?_
    refine Tot.ite (fun _ => Tot.ite (fun _ => Tot.bind (number5_more t lo gl code ht hs _ _) fun _ hn => Tot.now fun h2 _ => hn h2) fun _ => Tot.now fun h => by cases h) fun h9 => ?_
    refine Tot.ite (fun h10 => Tot.ite (fun _ => one _ _ (by omega) (to5_tot t lo gl code ht hs _ _)) fun _ => Tot.now fun h => by cases h) fun _ => ?_
    refine Tot.ite (fun _ => Tot.ite (fun _ => Tot.bind (to5_more t lo gl code ht hs _ _) fun q hq => Tot.bind (one5_more _ q) fun _ ho => Tot.now fun h2 _ => hq (ho h2)) fun _ => Tot.now fun h => by cases h) fun h11 => ?_
    refine Tot.ite (fun h12 => one _ _ (by omega) (glob5_tot t lo gl code ht hs _ hx.2.2.1)) fun _ => ?_
    exact Tot.ite (fun h13 => one _ _ (by omega) (glob5_tot t lo gl code ht hs _ hx.2.1)) fun _ => Tot.now fun _ h => by omega
  refine Tot.bind (Tot.exact (P := fun r => r = namedF t lo x.f1) (local5_f t ht hs lo gl code x.f1 hx.2.1.1 hx.2.1.2) rfl) fun a ea => Tot.bind (local5_tot t lo gl code ht hs _ hx.2.2.1) fun _ _ => ?_
  rw [ea]
  refine Tot.ite (fun h5 => j0 _ _ fun _ h => by omega) fun _ => j0 _ _ fun h6 h => ?_
  have : x.f0 = 6 := by simpa using h6
  omega
theorem check5_more (hn : code.length ≤ Mx) (hw : Wf code) (hlo : lo.size ≤ Mx) (hgl : gl.size ≤ Mx) : Tot (fun r => r.2 = 0 → 1 ≤ code.length ∧ ∀ j, j < code.length → GoodW t lo (code.getD j z39)) (fun k => lockstitchref05_Check.f k t lo gl code) := by
  have l0 : 1 ≤ code.length → ∀ d i, i + d = code.length → (∀ j, j < i → GoodW t lo (code.getD j z39)) → Tot (fun r => r.2 = 0 → 1 ≤ code.length ∧ ∀ j, j < code.length → GoodW t lo (code.getD j z39)) (fun k => lockstitchref05_Check.l0 k (i : Nat) t lo gl code) := by
    intro h1 d
    induction d with
    | zero =>
      intro i hi hg
      obtain rfl : i = code.length := by omega
      refine Tot.step (fun k => by simp only [lockstitchref05_Check.l0]; rfl) ?_
      exact Tot.ite (fun h => by omega) fun _ => Tot.now fun _ => ⟨h1, hg⟩
    | succ d ih =>
      intro i hi hg
      have nx : GoodW t lo (code.getD i z39) → Tot (fun r => r.2 = 0 → 1 ≤ code.length ∧ ∀ j, j < code.length → GoodW t lo (code.getD j z39)) (fun k => lockstitchref05_Check.l0 k (wrap64 ((i : Int) + 1)) t lo gl code) := fun hgi => by
        rw [wrapN (i := i) (n := code.length) (by omega) hn]
        refine ih (i + 1) (by omega) fun j hj => ?_
        rcases Nat.lt_succ_iff_lt_or_eq.1 hj with h | h
        · exact hg j h
        · rw [h]; exact hgi
      have hx := hw i
      rw [← rd_at] at hx nx
      generalize hxe : rd_T39 code (i : Nat) = x at hx nx
      have j4 : ∀ b, Tot (fun r => r.2 = 0 → 1 ≤ code.length ∧ ∀ j, j < code.length → GoodW t lo (code.getD j z39)) (fun k => lockstitchref05_Check.j4 k (i : Nat) b t lo gl code x.f0 x.f1 x.f2 x.f3 x.f4) := fun b => by
        refine Tot.step (fun k => by simp only [lockstitchref05_Check.j4]; rfl) ?_
        exact Tot.ite (fun _ => Tot.now fun h => by simp at h) fun _ => Tot.bind (ints5_tot x) fun _ _ => Tot.ite (fun _ => Tot.bind (kinds5_more t lo gl code ht hs x hx) fun _ hk => Tot.ite (fun hb => nx (hk hb)) fun _ => Tot.now fun h => by simp at h) fun _ => Tot.now fun h => by simp at h
      have j3 : ∀ b, Tot (fun r => r.2 = 0 → 1 ≤ code.length ∧ ∀ j, j < code.length → GoodW t lo (code.getD j z39)) (fun k => lockstitchref05_Check.j3 k (i : Nat) b t lo gl code x.f0 x.f1 x.f2 x.f3 x.f4) := fun b => by
        refine Tot.step (fun k => by simp only [lockstitchref05_Check.j3]; rfl) ?_
        exact Tot.bind (right4_tot x hx) fun _ _ => Tot.ite (fun _ => Tot.ite (fun _ => Tot.ite (fun _ => j4 _) fun _ => j4 _) fun _ => j4 _) fun _ => Tot.now fun h => by simp at h
      refine Tot.step (fun k => by simp only [lockstitchref05_Check.l0]; rfl) ?_
      rw [hxe]
      exact Tot.yes (by omega) (Tot.yes (by omega) (Tot.ite (fun _ => j3 _) fun _ => j3 _))
  have j1 : ∀ b, (b = false → 1 ≤ code.length) → Tot (fun r => r.2 = 0 → 1 ≤ code.length ∧ ∀ j, j < code.length → GoodW t lo (code.getD j z39)) (fun k => lockstitchref05_Check.j1 k b t lo gl code) := fun b hb => by
    refine Tot.step (fun k => by simp only [lockstitchref05_Check.j1]; rfl) ?_
    exact Tot.ite (fun _ => Tot.now fun h => by simp at h) fun h => l0 (hb (by simpa using h)) _ 0 (Nat.zero_add _) fun j hj => absurd hj (Nat.not_lt_zero _)
  have j0 : ∀ b, Tot (fun r => r.2 = 0 → 1 ≤ code.length ∧ ∀ j, j < code.length → GoodW t lo (code.getD j z39)) (fun k => lockstitchref05_Check.j0 k b t lo gl code) := fun b => by
    refine Tot.step (fun k => by simp only [lockstitchref05_Check.j0]; rfl) ?_
    exact Tot.ite (fun _ => Tot.now fun h => by simp at h) fun _ => Tot.ite (fun _ => j1 true fun h => by cases h) fun h => j1 _ fun _ => by omega
  exact Tot.bind (refs3_tot t lo ht hs hlo) fun _ _ => Tot.ite (fun _ => Tot.bind (refs3_tot t gl ht hs hgl) fun _ _ => Tot.ite (fun _ => Tot.ite (fun _ => j0 _) fun _ => j0 _) fun _ => j0 _) fun _ => j0 _
theorem sound_more (hn : code.length ≤ Mx) (hw : Wf code) (hlo : lo.size ≤ Mx) (hgl : gl.size ≤ Mx) : Tot (fun r => r = true → (1 ≤ code.length ∧ code.length ≤ 60) ∧ ∀ j, j < code.length → GoodW t lo (code.getD j z39)) (fun k => lockstitchlaw07_Sound.f k t lo gl code) := by
  refine Tot.bind (few_tot t lo gl code ht) fun _ _ => Tot.ite (fun _ => Tot.ite (fun _ => Tot.now fun h => by cases h) fun h => Tot.bind (check5_more t lo gl code ht hs hn hw hlo hgl) fun r hr => Tot.now fun h2 => ?_) fun _ => Tot.now fun h => by cases h
  have := hr (by simpa using h2)
  exact ⟨⟨this.1, by omega⟩, this.2⟩
end
end Go.Proofs.YtbmhmlgfpijmhaaDoor.P
