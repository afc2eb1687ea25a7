/-
  PLAIN LEAN: Sound and all that it calls always answer.
-/
import Derived.Test.YtgfnpdfhdgenbaaDoorPlainA
import Derived.Test.YtgfnpdfhdgenbaaDoorPx10
import Derived.Lib.ItoaNum
namespace Go.Proofs.YtgfnpdfhdgenbaaDoor.P
open Go.RowKit Go.Proofs.YtgfnpdfhdgenbaaDoorW.PrintWords Go.Proofs.YtgfnpdfhdgenbaaDoorW.PrintLast Go.Proofs.YtgfnpdfhdgenbaaDoorW.PrintMore


/-- It answers, and the answer is such. -/
def Tot {α : Type} (P : α → Prop) (g : Nat → Option α) : Prop := ∃ r, Ev g r ∧ P r
abbrev Any_ {α : Type} : α → Prop := fun _ => True
theorem Tot.now {α : Type} {P : α → Prop} {r : α} (h : P r) : Tot P (fun _ => some r) := ⟨r, Ev.now r, h⟩
theorem Tot.bind {α β : Type} {P : α → Prop} {Q : β → Prop} {g : Nat → Option α} {f : Nat → α → Option β} (h : Tot P g) (k : ∀ a, P a → Tot Q (fun n => f n a)) : Tot Q (fun n => (g n).bind (f n)) := by
  obtain ⟨a, ha, hp⟩ := h
  obtain ⟨b, hb, hq⟩ := k a hp
  exact ⟨b, Ev.bind ha hb, hq⟩
theorem Tot.ite {α : Type} {P : α → Prop} {p : Prop} [Decidable p] {f g : Nat → Option α} (h1 : p → Tot P f) (h2 : ¬p → Tot P g) : Tot P (fun k => if p then f k else g k) := by
  by_cases h : p
  · obtain ⟨r, hr, hp⟩ := h1 h
    exact ⟨r, Ev.congr (fun k => if_pos h) hr, hp⟩
  · obtain ⟨r, hr, hp⟩ := h2 h
    exact ⟨r, Ev.congr (fun k => if_neg h) hr, hp⟩
theorem Tot.step {α : Type} {P : α → Prop} {g f : Nat → Option α} (h : ∀ k, g (k + 1) = f k) (k : Tot P f) : Tot P g := by
  obtain ⟨r, hr, hp⟩ := k
  exact ⟨r, Ev.step h hr, hp⟩
theorem Tot.congr {α : Type} {P : α → Prop} {g f : Nat → Option α} (h : ∀ k, g k = f k) (k : Tot P f) : Tot P g := by
  obtain ⟨r, hr, hp⟩ := k
  exact ⟨r, Ev.congr h hr, hp⟩
theorem Tot.yes {α : Type} {P : α → Prop} {p : Prop} [Decidable p] {f g : Nat → Option α} (h : p) (k : Tot P f) : Tot P (fun k => if p then f k else g k) := Tot.ite (fun _ => k) (fun h' => absurd h h')
theorem Tot.of {α : Type} {P : α → Prop} {g : Nat → Option α} {r : α} (h : ∀ k, g k = some r) (hp : P r) : Tot P g := ⟨r, Ev.congr h (Ev.now r), hp⟩
abbrev Mx : Nat := 9223372036854775807

theorem few_tot (t : List ByteArray) (lo gl : ByteArray) (code : List S45) (ht : t.length ≤ Mx) : Tot Any_ (fun k => lockstitchlaw04_Few.f k t lo gl code) := by
  have : ∀ d i x3, i + d = t.length → Tot Any_ (fun k => lockstitchlaw04_Few.l0 k x3 t t.length (i : Nat) t lo gl code) := by
    intro d
    induction d with
    | zero =>
      intro i x3 hi
      refine Tot.step (fun k => by simp only [lockstitchlaw04_Few.l0]; rfl) ?_
      exact Tot.ite (fun h => by omega) fun _ => Tot.ite (fun _ => Tot.now trivial) fun _ => Tot.now trivial
    | succ d ih =>
      intro i x3 hi
      refine Tot.step (fun k => by simp only [lockstitchlaw04_Few.l0]; rfl) ?_
      refine Tot.yes (by omega) (Tot.yes (by omega) (Tot.yes (by omega) ?_))
      rw [wrapN (i := i) (n := t.length) (by omega) ht]
      exact ih (i + 1) _ (by omega)
  exact this t.length 0 _ (by omega)

/-! ### ref03 -/
theorem digit_tot (a b : Int) : ∃ x, lockstitchref03_digit.f a b = some x := by
  unfold lockstitchref03_digit.f
  split
  · exact ⟨_, rfl⟩
  · split <;> exact ⟨_, rfl⟩
theorem right3_tot (t : List ByteArray) (ht : t.length ≤ Mx) (hs : ∀ i : Int, (rdOf ByteArray.empty t i).size ≤ Mx) : Tot Any_ (fun k => lockstitchref03_Right.f k t) := by
  have l1 : ∀ (i : Nat) (s : ByteArray), s.size ≤ Mx → Tot Any_ (fun k => lockstitchref03_Right.l0 k t (wrap64 ((i : Int) + 1))) → ∀ d j, j + d = s.size → Tot Any_ (fun k => lockstitchref03_Right.l1 k t (i : Nat) s (j : Nat)) := by
    intro i s hsz hn d
    induction d with
    | zero =>
      intro j hj
      refine Tot.step (fun k => by simp only [lockstitchref03_Right.l1]; rfl) ?_
      exact Tot.ite (fun h => by omega) fun _ => Tot.ite (fun _ => Tot.now trivial) fun _ => Tot.ite (fun _ => Tot.now trivial) fun _ => hn
    | succ d ih =>
      intro j hj
      refine Tot.step (fun k => by simp only [lockstitchref03_Right.l1]; rfl) ?_
      have nx := ih (j + 1) (by omega)
      rw [← wrapN (i := j) (n := s.size) (by omega) hsz] at nx
      refine Tot.yes (by omega) (Tot.yes (by omega) (Tot.ite (fun _ => nx) fun _ => ?_))
      obtain ⟨x, hx⟩ := digit_tot (bt s j) t.length
      rw [hx]
      exact Tot.ite (fun _ => Tot.now trivial) fun _ => nx
  have l0 : ∀ d i, i + d = t.length → Tot Any_ (fun k => lockstitchref03_Right.l0 k t (i : Nat)) := by
    intro d
    induction d with
    | zero =>
      intro i hi
      refine Tot.step (fun k => by simp only [lockstitchref03_Right.l0]; rfl) ?_
      exact Tot.ite (fun h => by omega) fun _ => Tot.ite (fun _ => Tot.now trivial) fun _ => Tot.now trivial
    | succ d ih =>
      intro i hi
      refine Tot.step (fun k => by simp only [lockstitchref03_Right.l0]; rfl) ?_
      have nx := ih (i + 1) (by omega)
      rw [← wrapN (i := i) (n := t.length) (by omega) ht] at nx
      exact Tot.yes (by omega) (Tot.yes (by omega) (l1 i _ (hs _) nx _ 0 (Nat.zero_add _)))
  exact l0 t.length 0 (by omega)
theorem refs3_tot (t : List ByteArray) (s : ByteArray) (ht : t.length ≤ Mx) (hs : ∀ i : Int, (rdOf ByteArray.empty t i).size ≤ Mx) (hz : s.size ≤ Mx) : Tot Any_ (fun k => lockstitchref03_Refs.f k t s) := by
  have l0 : ∀ d i, i + d = s.size → Tot Any_ (fun k => lockstitchref03_Refs.l0 k t s (i : Nat)) := by
    intro d
    induction d with
    | zero =>
      intro i hi
      refine Tot.step (fun k => by simp only [lockstitchref03_Refs.l0]; rfl) ?_
      exact Tot.ite (fun h => by omega) fun _ => Tot.bind (right3_tot t ht hs) fun _ _ => Tot.now trivial
    | succ d ih =>
      intro i hi
      refine Tot.step (fun k => by simp only [lockstitchref03_Refs.l0]; rfl) ?_
      have nx := ih (i + 1) (by omega)
      rw [← wrapN (i := i) (n := s.size) (by omega) hz] at nx
      obtain ⟨x, hx⟩ := digit_tot (bt s i) t.length
      refine Tot.yes (by omega) (Tot.yes (by omega) ?_)
      rw [hx]
      exact Tot.ite (fun _ => Tot.now trivial) fun _ => nx
  exact l0 s.size 0 (by omega)

/-! ### ref02, ref04 -/
theorem extract_le (s : ByteArray) (a b : Nat) : (s.extract a b).size ≤ s.size := by
  simp
  omega
theorem digits_tot (s : ByteArray) (hs : s.size ≤ Mx) : Tot (fun r => r = true → 0 < s.size) (fun k => lockstitchref02_digits.f k s) := by
  have l0 : ∀ x3 : ByteArray, x3.size ≤ Mx → 0 < s.size → ∀ d i, i + d = x3.size → Tot (fun r => r = true → 0 < s.size) (fun k => lockstitchref02_digits.l0 k x3 (i : Nat)) := by
    intro x3 h3 h0 d
    induction d with
    | zero =>
      intro i hi
      refine Tot.step (fun k => by simp only [lockstitchref02_digits.l0]; rfl) ?_
      exact Tot.ite (fun h => by omega) fun _ => Tot.now fun _ => h0
    | succ d ih =>
      intro i hi
      refine Tot.step (fun k => by simp only [lockstitchref02_digits.l0]; rfl) ?_
      have nx := ih (i + 1) (by omega)
      rw [← wrapN (i := i) (n := x3.size) (by omega) h3] at nx
      exact Tot.yes (by omega) (Tot.yes (by omega) (Tot.ite (fun _ => Tot.now fun _ => h0) fun _ => Tot.ite (fun _ => Tot.now fun _ => h0) fun _ => nx))
  have j2 : ∀ x3 : ByteArray, x3.size ≤ Mx → ∀ b : Bool, (b = false → 0 < s.size) → Tot (fun r => r = true → 0 < s.size) (fun k => lockstitchref02_digits.j2 k x3 b) := fun x3 h3 b hb => by
    refine Tot.step (fun k => by simp only [lockstitchref02_digits.j2]; rfl) ?_
    exact Tot.ite (fun _ => Tot.now fun h => by cases h) fun h => l0 x3 h3 (hb (by simpa using h)) _ 0 (Nat.zero_add _)
  have j1 : ∀ x3 : ByteArray, x3.size ≤ Mx → (0 < x3.size → 0 < s.size) → Tot (fun r => r = true → 0 < s.size) (fun k => lockstitchref02_digits.j1 k s x3) := fun x3 h3 hb => by
    refine Tot.step (fun k => by simp only [lockstitchref02_digits.j1]; rfl) ?_
    refine Tot.ite (fun _ => j2 x3 h3 true fun h => by cases h) fun h => ?_
    have h0 : 0 < x3.size := by
      rcases Nat.eq_zero_or_pos x3.size with h1 | h1
      · exact absurd ((empty_iff x3).2 h1) h
      · exact h1
    exact Tot.yes (by omega) (Tot.ite (fun _ => Tot.ite (fun _ => j2 x3 h3 true fun h => by cases h) fun _ => j2 x3 h3 _ fun _ => hb h0) fun _ => j2 x3 h3 false fun _ => hb h0)
  have j0 : ∀ b : Bool, (b = true → 0 < s.size) → Tot (fun r => r = true → 0 < s.size) (fun k => lockstitchref02_digits.j0 k s s b) := fun b hb => by
    refine Tot.step (fun k => by simp only [lockstitchref02_digits.j0]; rfl) ?_
    refine Tot.ite (fun h => ?_) fun _ => j1 s hs fun h => h
    have h0 := hb h
    exact Tot.yes (by omega) (j1 _ (Nat.le_trans (extract_le _ _ _) hs) fun _ => h0)
  refine Tot.ite (fun h => Tot.yes (by omega) (j0 _ fun _ => by omega)) fun _ => j0 false fun h => by cases h
theorem number_tot (s : ByteArray) (hs : s.size ≤ Mx) : Tot Any_ (fun k => lockstitchref02_Number.f k s) := by
  have j3 : ∀ a b c, Tot Any_ (fun k => lockstitchref02_Number.j3 k a b c) := fun a b c => by
    refine Tot.step (fun k => by simp only [lockstitchref02_Number.j3]; rfl) ?_
    exact Tot.ite (fun _ => Tot.now trivial) fun _ => Tot.ite (fun _ => Tot.now trivial) fun _ => Tot.now trivial
  have j2 : ∀ a b c, Tot Any_ (fun k => lockstitchref02_Number.j2 k a b c) := fun a b c => by
    refine Tot.step (fun k => by simp only [lockstitchref02_Number.j2]; rfl) ?_
    exact Tot.ite (fun _ => j3 _ _ _) fun _ => Tot.ite (fun _ => j3 _ _ _) fun _ => Tot.ite (fun _ => j3 _ _ _) fun _ => j3 _ _ _
  have l0 : ∀ x4 : ByteArray, x4.size ≤ Mx → ∀ b d i x, i + d = x4.size → Tot Any_ (fun k => lockstitchref02_Number.l0 k x4 b x (i : Nat)) := by
    intro x4 h4 b d
    induction d with
    | zero =>
      intro i x hi
      refine Tot.step (fun k => by simp only [lockstitchref02_Number.l0]; rfl) ?_
      exact Tot.ite (fun h => by omega) fun _ => j2 _ _ _
    | succ d ih =>
      intro i x hi
      refine Tot.step (fun k => by simp only [lockstitchref02_Number.l0]; rfl) ?_
      have nx := fun x => ih (i + 1) x (by omega)
      rw [← wrapN (i := i) (n := x4.size) (by omega) h4] at nx
      exact Tot.yes (by omega) (Tot.ite (fun _ => Tot.yes (by omega) (nx _)) fun _ => j2 _ _ _)
  have j0 : ∀ x4 : ByteArray, x4.size ≤ Mx → ∀ b, Tot Any_ (fun k => lockstitchref02_Number.j0 k x4 b) := fun x4 h4 b => by
    refine Tot.step (fun k => by simp only [lockstitchref02_Number.j0]; rfl) ?_
    exact l0 x4 h4 b _ 0 _ (Nat.zero_add _)
  refine Tot.bind (digits_tot s hs) fun b hb => Tot.ite (fun h => ?_) fun _ => Tot.now trivial
  have h0 := hb h
  exact Tot.yes (by omega) (Tot.ite (fun _ => Tot.yes (by omega) (j0 _ (Nat.le_trans (extract_le _ _ _) hs) _)) fun _ => j0 s hs _)
theorem with_tot (a b c d e f g : Int) : Tot Any_ (fun k => lockstitchref04_with.f k a b c d e f g) := by
  have j0 : ∀ x, Tot Any_ (fun k => lockstitchref04_with.j0 k f g x a b c d e) := fun x => by
    refine Tot.step (fun k => by simp only [lockstitchref04_with.j0]; rfl) ?_
    exact Tot.ite (fun _ => Tot.now trivial) fun _ => Tot.ite (fun _ => Tot.now trivial) fun _ => Tot.ite (fun _ => Tot.now trivial) fun _ => Tot.now trivial
  exact Tot.ite (fun _ => Tot.now trivial) fun _ => Tot.ite (fun _ => j0 _) fun _ => j0 _
theorem rest_tot (o : Int) : ∃ p, lockstitchref04_rest.f o = some p ∧ p.1.size ≤ 10 ∧ p.2.size ≤ 3 := by
  unfold lockstitchref04_rest.f
  repeat' split
  all_goals exact ⟨_, rfl, by decide, by decide⟩
theorem shape_tot (o : Int) : ∃ p, lockstitchref04_shape.f o = some p ∧ p.1.size ≤ 10 ∧ p.2.size ≤ 3 := by
  obtain ⟨p, hp, h1, h2⟩ := rest_tot o
  unfold lockstitchref04_shape.f
  by_cases c1 : o = 1
  · rw [if_pos c1]; exact ⟨_, rfl, by decide, by decide⟩
  rw [if_neg c1]
  by_cases c2 : o = 2
  · rw [if_pos c2]; exact ⟨_, rfl, by decide, by decide⟩
  rw [if_neg c2]
  by_cases c3 : o = 3
  · rw [if_pos c3]; exact ⟨_, rfl, by decide, by decide⟩
  rw [if_neg c3]
  by_cases c4 : o = 4
  · rw [if_pos c4]; exact ⟨_, rfl, by decide, by decide⟩
  rw [if_neg c4]
  by_cases c5 : o = 5
  · rw [if_pos c5]; exact ⟨_, rfl, by decide, by decide⟩
  rw [if_neg c5]
  by_cases c6 : o = 6
  · rw [if_pos c6]; exact ⟨_, rfl, by decide, by decide⟩
  rw [if_neg c6]
  by_cases c7 : o = 7
  · rw [if_pos c7]; exact ⟨_, rfl, by decide, by decide⟩
  rw [if_neg c7]
  by_cases c8 : o = 8
  · rw [if_pos c8]; exact ⟨_, rfl, by decide, by decide⟩
  rw [if_neg c8]
  by_cases c9 : o = 9
  · rw [if_pos c9]; exact ⟨_, rfl, by decide, by decide⟩
  rw [if_neg c9]
  by_cases c10 : o = 10
  · rw [if_pos c10]; exact ⟨_, rfl, by decide, by decide⟩
  rw [if_neg c10]
  rw [hp]
  exact ⟨_, rfl, h1, h2⟩
theorem part_tot (x : S45) (hx : WfI x) (c : Int) : ∃ n, lockstitchref04_part.f x.f0 x.f1 x.f2 x.f3 x.f4 c = some n ∧ I64 n := by
  obtain ⟨_, h1, h2, h3, h4⟩ := hx
  have e : ∀ n, U8 n → I64 (wrap64 n) := fun n h => by unfold U8 at h; unfold I64 wrap64; omega
  unfold lockstitchref04_part.f
  repeat' split
  · exact ⟨_, rfl, e _ h1⟩
  · exact ⟨_, rfl, e _ h2⟩
  · exact ⟨_, rfl, e _ h3⟩
  · exact ⟨_, rfl, h4⟩
theorem nDigits_le : ∀ (k u : Nat), u < 10 ^ (k + 1) → Lib.nDigits u ≤ k + 1
  | 0, u, h => by rw [Lib.nDigits_small (by simpa using h)]; exact Nat.le_refl _
  | k + 1, u, h => by
    by_cases h1 : u < 10
    · rw [Lib.nDigits_small h1]; omega
    · rw [Lib.nDigits_big h1]
      have := nDigits_le k (u / 10) (by rw [Nat.pow_succ] at h; omega)
      omega
theorem itoa_len (n : Int) (h : I64 n) : (Lib.itoa n).length ≤ 21 := by
  unfold I64 at h
  have e : (10 : Nat) ^ 20 = 100000000000000000000 := by decide
  unfold Lib.itoa
  split
  · rw [List.length_cons, Lib.decDigits_length]
    have := nDigits_le 19 n.natAbs (by rw [e]; omega)
    omega
  · rw [Lib.decDigits_length]
    have := nDigits_le 19 n.toNat (by rw [e]; omega)
    omega
def Small (l : List ByteArray) : Prop := 1 ≤ l.length ∧ l.length ≤ 4 ∧ ∀ i : Int, (rdOf ByteArray.empty l i).size ≤ 21
theorem rdOf_snoc (l : List ByteArray) (x : ByteArray) (h : ∀ i : Int, (rdOf ByteArray.empty l i).size ≤ 21) (hx : x.size ≤ 21) (i : Int) : (rdOf ByteArray.empty (l ++ [x]) i).size ≤ 21 := by
  unfold rdOf at h ⊢
  rw [List.getD_eq_getElem?_getD]
  rcases Nat.lt_or_ge i.toNat l.length with h1 | h1
  · rw [List.getElem?_append_left h1, ← List.getD_eq_getElem?_getD]
    exact h i
  · rw [List.getElem?_append_right h1]
    rcases Nat.eq_zero_or_pos (i.toNat - l.length) with h2 | h2
    · rw [h2]; exact hx
    · rw [List.getElem?_eq_none (by simp; omega)]
      decide
theorem line_tot (x : S45) (hx : WfI x) : Tot Small (fun k => lockstitchref04_line.f k x.f0 x.f1 x.f2 x.f3 x.f4) := by
  obtain ⟨p, hp, h1, h2⟩ := shape_tot x.f0
  have l0 : ∀ d i l, i + d = p.2.size → l.length = i + 1 → (∀ j : Int, (rdOf ByteArray.empty l j).size ≤ 21) → Tot Small (fun k => lockstitchref04_line.l0 k p.2 l (i : Nat) x.f0 x.f1 x.f2 x.f3 x.f4) := by
    intro d
    induction d with
    | zero =>
      intro i l hi hl hs
      refine Tot.step (fun k => by simp only [lockstitchref04_line.l0]; rfl) ?_
      exact Tot.ite (fun h => by omega) fun _ => Tot.now ⟨by omega, by omega, hs⟩
    | succ d ih =>
      intro i l hi hl hs
      refine Tot.step (fun k => by simp only [lockstitchref04_line.l0]; rfl) ?_
      obtain ⟨n, hn, h64⟩ := part_tot x hx (bt p.2 i)
      rw [hn]
      refine Tot.yes (by omega) (Tot.yes (by omega) ?_)
      show Tot Small (fun k => (strconv_FormatInt_41.f n 10).bind _)
      have hf : strconv_FormatInt_41.f n 10 = some ⟨(Lib.itoa n).toArray⟩ := by
        unfold strconv_FormatInt_41.f
        rw [if_pos rfl]
        exact if_pos h64
      rw [hf]
      refine Tot.yes (by omega) ?_
      rw [wrapN (i := i) (n := p.2.size) (by omega) (by omega)]
      refine ih (i + 1) _ (by omega) (by simp; omega) (rdOf_snoc l _ hs ?_)
      show (Lib.itoa n).toArray.size ≤ 21
      rw [List.size_toArray]
      exact itoa_len n h64
  refine Tot.congr (f := fun k => lockstitchref04_line.l0 k p.2 [p.1] 0 x.f0 x.f1 x.f2 x.f3 x.f4) (fun k => by unfold lockstitchref04_line.f; rw [hp]; rfl) ?_
  exact l0 p.2.size 0 [p.1] (by omega) rfl (fun j => rdOf_snoc [] p.1 (fun _ => by unfold rdOf; simp) (by omega) j)
theorem read_tot (l : List ByteArray) (hl : Small l) : Tot Any_ (fun k => lockstitchref04_read.f k l) := by
  have l1 : ∀ s : ByteArray, s.size + 1 = l.length → ∀ d i a b c e f, i + d = s.size → Tot Any_ (fun k => lockstitchref04_read.l1 k l s (i : Nat) a b c e f) := by
    intro s hs d
    induction d with
    | zero =>
      intro i a b c e f hi
      refine Tot.step (fun k => by simp only [lockstitchref04_read.l1]; rfl) ?_
      exact Tot.ite (fun h => by omega) fun _ => Tot.now trivial
    | succ d ih =>
      intro i a b c e f hi
      refine Tot.step (fun k => by simp only [lockstitchref04_read.l1]; rfl) ?_
      have hb := hl.2.1
      rw [wrapN (i := i) (n := s.size) (by omega) (by omega)]
      refine Tot.yes (by omega) (Tot.yes (by omega) (Tot.yes (by omega) (Tot.bind (number_tot _ (Nat.le_trans (hl.2.2 _) (by decide))) fun p _ => Tot.yes (by omega) (Tot.bind (with_tot _ _ _ _ _ _ _) fun q _ => ?_))))
      exact Tot.ite (fun _ => Tot.ite (fun _ => ih (i + 1) _ _ _ _ _ (by omega)) fun _ => Tot.now trivial) fun _ => Tot.now trivial
  have l0 : ∀ d o, o + d = 16 → Tot Any_ (fun k => lockstitchref04_read.l0 k l (o : Nat)) := by
    intro d
    induction d with
    | zero =>
      intro o ho
      refine Tot.step (fun k => by simp only [lockstitchref04_read.l0]; rfl) ?_
      exact Tot.ite (fun h => by omega) fun _ => Tot.now trivial
    | succ d ih =>
      intro o ho
      obtain ⟨p, hp, h1, h2⟩ := shape_tot (o : Int)
      refine Tot.step (fun k => by simp only [lockstitchref04_read.l0]; rfl) ?_
      have hb := hl.1
      rw [hp]
      have j1 : ∀ b : Bool, (b = false → p.2.size + 1 = l.length) → Tot Any_ (fun k => lockstitchref04_read.j1 k l (o : Nat) p.2 b) := fun b hbf => by
        refine Tot.step (fun k => by simp only [lockstitchref04_read.j1]; rfl) ?_
        refine Tot.ite (fun _ => ?_) fun h => l1 p.2 (hbf (by simpa using h)) _ 0 _ _ _ _ _ (Nat.zero_add _)
        rw [show ((o : Int) + 1) % 256 = ((o + 1 : Nat) : Int) from by omega]
        exact ih (o + 1) (by omega)
      refine Tot.yes (by omega) ?_
      show Tot Any_ (fun k => if (0 : Int) < (l.length : Int) then _ else none)
      refine Tot.yes (by omega) (Tot.ite (fun _ => j1 _ fun h => ?_) fun _ => j1 true fun h => by cases h)
      have e : wrap64 ((p.2.size : Int) + 1) = (p.2.size : Int) + 1 := by unfold wrap64; omega
      rw [e] at h
      simp at h
      omega
  exact l0 15 1 (by omega)
theorem right4_tot (x : S45) (hx : WfI x) : Tot Any_ (fun k => lockstitchref04_Right.f k x.f0 x.f1 x.f2 x.f3 x.f4) := by
  obtain ⟨p, hp, _, _⟩ := shape_tot x.f0
  unfold lockstitchref04_Right.f
  rw [hp]
  exact Tot.ite (fun _ => Tot.now trivial) fun _ => Tot.bind (line_tot x hx) fun l hl => Tot.bind (read_tot l hl) fun _ _ => Tot.ite (fun _ => Tot.now trivial) fun _ => Tot.now trivial

/-! ### ref05 -/
section
variable (t : List ByteArray) (lo gl : ByteArray) (code : List S45) (ht : t.length ≤ Mx) (hs : ∀ i : Int, (rdOf ByteArray.empty t i).size ≤ Mx)
include ht hs
theorem at5_tot (s : ByteArray) (a : Int) (ha : U8 a) : Tot Any_ (fun k => lockstitchref05_at.f k t s a) := by
  unfold U8 at ha
  have e1 : wrap64 a = a := by unfold wrap64; omega
  have e2 : wrap64 (a + 1) = a + 1 := by unfold wrap64; omega
  unfold lockstitchref05_at.f
  rw [e1, e2]
  refine Tot.ite (fun _ => Tot.now trivial) fun h => Tot.yes (by omega) (Tot.yes (by omega) (Tot.yes (by omega) (Tot.bind (refs3_tot t _ ht hs ?_) fun _ _ => Tot.ite (fun _ => Tot.yes (by omega) (Tot.yes (by omega) (Tot.now trivial))) fun _ => Tot.now trivial)))
  obtain ⟨n, rfl⟩ := Int.eq_ofNat_of_zero_le ha.1
  rw [show ((n : Int) + 1).toNat = n + 1 from by omega, Int.toNat_natCast]
  have : (s.extract n (n + 1)).size ≤ 1 := by simp; omega
  exact Nat.le_trans this (by decide)
theorem local5_tot (a : Int) (ha : U8 a) : Tot Any_ (fun k => lockstitchref05_Local.f k t lo gl code a) := Tot.bind (at5_tot t ht hs lo a ha) fun _ _ => Tot.now trivial
theorem glob5_tot (a : Int) (ha : U8 a) : Tot Any_ (fun k => lockstitchref05_Glob.f k t lo gl code a) := Tot.bind (at5_tot t ht hs gl a ha) fun _ _ => Tot.now trivial
theorem is3_tot (i : Int) : Tot (fun r => r = true → 0 ≤ i ∧ i < t.length) (fun k => lockstitchref03_is.f k t i) :=
  Tot.bind (right3_tot t ht hs) fun _ _ => Tot.ite (fun _ => Tot.ite (fun h => Tot.now fun h2 => ⟨h, of_decide_eq_true h2⟩) fun _ => Tot.now fun h => by cases h) fun _ => Tot.now fun h => by cases h
theorem size3_tot (i : Int) : Tot Any_ (fun k => lockstitchref03_Size.f k t i) :=
  Tot.bind (is3_tot t ht hs i) fun _ h => Tot.ite (fun hb => Tot.yes (h hb).1 (Tot.yes (h hb).2 (Tot.now trivial))) fun _ => Tot.now trivial
theorem to3_tot (i f : Int) : Tot Any_ (fun k => lockstitchref03_To.f k t i f) := by
  refine Tot.bind (is3_tot t ht hs i) fun _ h => Tot.ite (fun hb => Tot.ite (fun _ => Tot.now trivial) fun hf => Tot.yes (h hb).1 (Tot.yes (h hb).2 (Tot.ite (fun _ => Tot.now trivial) fun hf2 => Tot.yes (by omega) (Tot.yes (by omega) ?_)))) fun _ => Tot.now trivial
  obtain ⟨x, hx⟩ := digit_tot (bt (rdOf ByteArray.empty t i) f) t.length
  rw [hx]
  exact Tot.now trivial
theorem number5_tot (i f : Int) : Tot Any_ (fun k => lockstitchref05_number.f k t lo gl code i f) :=
  Tot.ite (fun _ => Tot.now trivial) fun _ => Tot.bind (size3_tot t ht hs i) fun _ _ => Tot.ite (fun _ => Tot.now trivial) fun _ => Tot.bind (to3_tot t ht hs i f) fun _ _ => Tot.now trivial
theorem to5_tot (i f : Int) : Tot Any_ (fun k => lockstitchref05_to.f k t lo gl code i f) :=
  Tot.ite (fun _ => Tot.now trivial) fun _ => Tot.ite (fun _ => Tot.now trivial) fun _ => Tot.bind (to3_tot t ht hs i f) fun _ _ => Tot.now trivial
omit ht hs in
theorem one5_tot (a b : Int) : Tot Any_ (fun _ => lockstitchref05_one.f a b) := by
  unfold lockstitchref05_one.f
  exact Tot.ite (fun _ => Tot.now trivial) fun _ => Tot.now trivial
omit ht hs in
theorem ints5_tot (x : S45) : Tot Any_ (fun k => lockstitchref05_ints.f k x.f0 x.f1 x.f2 x.f3 x.f4) := by
  have j0 : ∀ b, Tot Any_ (fun k => lockstitchref05_ints.j0 k x.f0 b x.f0 x.f1 x.f2 x.f3 x.f4) := fun b => by
    refine Tot.step (fun k => by simp only [lockstitchref05_ints.j0]; rfl) ?_
    exact Tot.ite (fun _ => Tot.now trivial) fun _ => Tot.ite (fun _ => Tot.ite (fun _ => Tot.ite (fun _ => Tot.now trivial) fun _ => Tot.now trivial) fun _ => Tot.now trivial) fun _ => Tot.ite (fun _ => Tot.now trivial) fun _ => Tot.now trivial
  exact Tot.ite (fun _ => j0 _) fun _ => Tot.ite (fun _ => j0 _) fun _ => Tot.ite (fun _ => j0 _) fun _ => Tot.ite (fun _ => j0 _) fun _ => j0 _
theorem kinds5_tot (x : S45) (hx : WfI x) : Tot Any_ (fun k => lockstitchref05_kinds.f k t lo gl code x.f0 x.f1 x.f2 x.f3 x.f4) := by
  have one : ∀ (a : Int) (g : Nat → Option Int), Tot Any_ g → Tot Any_ (fun k => (g k).bind fun q => (lockstitchref05_one.f a q).bind fun z => some z) := fun a g hg => Tot.bind hg fun q _ => Tot.bind (one5_tot a q) fun _ _ => Tot.now trivial
  have j0 : ∀ a b c, Tot Any_ (fun k => lockstitchref05_kinds.j0 k a b x.f0 c t lo gl code x.f0 x.f1 x.f2 x.f3 x.f4) := fun a b c => by
    refine Tot.step (fun k => by simp only [lockstitchref05_kinds.j0]; rfl) ?_
    refine Tot.ite (fun _ => Tot.now trivial) fun _ => ?_
    refine Tot.ite (fun _ => Tot.bind (one5_tot _ _) fun _ _ => Tot.now trivial) fun _ => ?_
    refine Tot.ite (fun _ => one _ _ (local5_tot t lo gl code ht hs _ hx.2.2.2.1)) fun _ => ?_
    refine Tot.ite (fun _ => Tot.ite (fun _ => Tot.bind (number5_tot t lo gl code ht hs _ _) fun _ _ => Tot.now trivial) fun _ => Tot.now trivial) fun _ => ?_
    refine Tot.ite (fun _ => Tot.ite (fun _ => Tot.bind (number5_tot t lo gl code ht hs _ _) fun _ _ => Tot.now trivial) fun _ => Tot.now trivial) fun _ => ?_
    refine Tot.ite (fun _ => Tot.ite (fun _ => one _ _ (to5_tot t lo gl code ht hs _ _)) fun _ => Tot.now trivial) fun _ => ?_
    refine Tot.ite (fun _ => Tot.ite (fun _ => one _ _ (to5_tot t lo gl code ht hs _ _)) fun _ => Tot.now trivial) fun _ => ?_
    refine Tot.ite (fun _ => one _ _ (glob5_tot t lo gl code ht hs _ hx.2.2.1)) fun _ => ?_
    exact Tot.ite (fun _ => one _ _ (glob5_tot t lo gl code ht hs _ hx.2.1)) fun _ => Tot.now trivial
  exact Tot.bind (local5_tot t lo gl code ht hs _ hx.2.1) fun _ _ => Tot.bind (local5_tot t lo gl code ht hs _ hx.2.2.1) fun _ _ => Tot.ite (fun _ => j0 _ _ _) fun _ => j0 _ _ _
theorem check5_tot (hn : code.length ≤ Mx) (hw : Wf code) (hlo : lo.size ≤ Mx) (hgl : gl.size ≤ Mx) : Tot (fun r => r.2 = 0 → 1 ≤ code.length) (fun k => lockstitchref05_Check.f k t lo gl code) := by
  have l0 : 1 ≤ code.length → ∀ d i, i + d = code.length → Tot (fun r => r.2 = 0 → 1 ≤ code.length) (fun k => lockstitchref05_Check.l0 k (i : Nat) t lo gl code) := by
    intro h1 d
    induction d with
    | zero =>
      intro i hi
      refine Tot.step (fun k => by simp only [lockstitchref05_Check.l0]; rfl) ?_
      exact Tot.ite (fun h => by omega) fun _ => Tot.now fun _ => h1
    | succ d ih =>
      intro i hi
      have nx := ih (i + 1) (by omega)
      rw [← wrapN (i := i) (n := code.length) (by omega) hn] at nx
      have hx := hw i
      rw [← rd_at] at hx
      generalize hxe : rd_T45 code (i : Nat) = x at hx
      have j4 : ∀ b, Tot (fun r => r.2 = 0 → 1 ≤ code.length) (fun k => lockstitchref05_Check.j4 k (i : Nat) b t lo gl code x.f0 x.f1 x.f2 x.f3 x.f4) := fun b => by
        refine Tot.step (fun k => by simp only [lockstitchref05_Check.j4]; rfl) ?_
        exact Tot.ite (fun _ => Tot.now fun _ => h1) fun _ => Tot.bind (ints5_tot x) fun _ _ => Tot.ite (fun _ => Tot.bind (kinds5_tot t lo gl code ht hs x hx) fun _ _ => Tot.ite (fun _ => nx) fun _ => Tot.now fun _ => h1) fun _ => Tot.now fun _ => h1
      have j3 : ∀ b, Tot (fun r => r.2 = 0 → 1 ≤ code.length) (fun k => lockstitchref05_Check.j3 k (i : Nat) b t lo gl code x.f0 x.f1 x.f2 x.f3 x.f4) := fun b => by
        refine Tot.step (fun k => by simp only [lockstitchref05_Check.j3]; rfl) ?_
        exact Tot.bind (right4_tot x hx) fun _ _ => Tot.ite (fun _ => Tot.ite (fun _ => Tot.ite (fun _ => j4 _) fun _ => j4 _) fun _ => j4 _) fun _ => Tot.now fun _ => h1
      refine Tot.step (fun k => by simp only [lockstitchref05_Check.l0]; rfl) ?_
      rw [hxe]
      exact Tot.yes (by omega) (Tot.yes (by omega) (Tot.ite (fun _ => j3 _) fun _ => j3 _))
  have j1 : ∀ b, (b = false → 1 ≤ code.length) → Tot (fun r => r.2 = 0 → 1 ≤ code.length) (fun k => lockstitchref05_Check.j1 k b t lo gl code) := fun b hb => by
    refine Tot.step (fun k => by simp only [lockstitchref05_Check.j1]; rfl) ?_
    exact Tot.ite (fun _ => Tot.now fun h => by simp at h) fun h => l0 (hb (by simpa using h)) _ 0 (Nat.zero_add _)
  have j0 : ∀ b, Tot (fun r => r.2 = 0 → 1 ≤ code.length) (fun k => lockstitchref05_Check.j0 k b t lo gl code) := fun b => by
    refine Tot.step (fun k => by simp only [lockstitchref05_Check.j0]; rfl) ?_
    exact Tot.ite (fun _ => Tot.now fun h => by simp at h) fun _ => Tot.ite (fun _ => j1 true fun h => by cases h) fun h => j1 _ fun _ => by omega
  exact Tot.bind (refs3_tot t lo ht hs hlo) fun _ _ => Tot.ite (fun _ => Tot.bind (refs3_tot t gl ht hs hgl) fun _ _ => Tot.ite (fun _ => Tot.ite (fun _ => j0 _) fun _ => j0 _) fun _ => j0 _) fun _ => j0 _
theorem sound_tot (hn : code.length ≤ Mx) (hw : Wf code) (hlo : lo.size ≤ Mx) (hgl : gl.size ≤ Mx) : Tot (fun r => r = true → 1 ≤ code.length ∧ code.length ≤ 60) (fun k => lockstitchlaw07_Sound.f k t lo gl code) := by
  refine Tot.bind (few_tot t lo gl code ht) fun _ _ => Tot.ite (fun _ => Tot.ite (fun _ => Tot.now fun h => by cases h) fun h => Tot.bind (check5_tot t lo gl code ht hs hn hw hlo hgl) fun r hr => Tot.now fun h2 => ⟨hr (by simpa using h2), by omega⟩) fun _ => Tot.now fun h => by cases h
end
end Go.Proofs.YtgfnpdfhdgenbaaDoor.P
