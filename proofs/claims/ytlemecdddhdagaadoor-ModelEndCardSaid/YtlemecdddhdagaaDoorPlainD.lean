/-
  PLAIN LEAN: a step of a program that Check lets through: it answers, and pointers are of objects of the sizes of their types.
-/
import Derived.Test.YtlemecdddhdagaaDoorPlainC
import Derived.Test.YtlemecdddhdagaaDoorGivenZ
namespace Go.Proofs.YtlemecdddhdagaaDoor.P
open Go.RowKit Go.Proofs.YtlemecdddhdagaaDoorW.PrintWords Go.Proofs.YtlemecdddhdagaaDoorW.PrintLast Go.Proofs.YtlemecdddhdagaaDoorW.PrintMore

/-- What Check says of an instruction. -/
structure Fine (t : List ByteArray) (lo gl : ByteArray) (n : Nat) (x : S55) : Prop where
  op : 1 ≤ x.f0 ∧ x.f0 ≤ 15
  jump : x.f0 = 3 ∨ x.f0 = 4 → 0 ≤ x.f4 ∧ x.f4 ≤ n
  one : x.f0 = 1 ∨ x.f0 = 4 ∨ x.f0 = 14 → x.f1 < 8
  add : x.f0 = 2 → x.f1 < 8 ∧ x.f2 < 8 ∧ x.f3 < 8
  new : x.f0 = 5 ∨ x.f0 = 6 → 0 ≤ namedF t lo x.f1
  move : x.f0 = 7 → 0 ≤ namedF t lo x.f1 ∧ namedF t lo x.f1 = namedF t lo x.f2
  loadI : x.f0 = 8 → x.f1 < 8 ∧ 0 ≤ namedF t lo x.f2 ∧ 0 ≤ x.f4 ∧ x.f4 < sizeF t (namedF t lo x.f2)
  storeI : x.f0 = 9 → x.f2 < 8 ∧ 0 ≤ namedF t lo x.f1 ∧ 0 ≤ x.f4 ∧ x.f4 < sizeF t (namedF t lo x.f1) ∧ toF t (namedF t lo x.f1) x.f4 < 0
  loadP : x.f0 = 10 → 0 ≤ namedF t lo x.f1 ∧ 0 ≤ namedF t lo x.f2 ∧ 0 ≤ x.f4 ∧ x.f4 < sizeF t (namedF t lo x.f2) ∧ namedF t lo x.f1 = toF t (namedF t lo x.f2) x.f4
  storeP : x.f0 = 11 → 0 ≤ namedF t lo x.f2 ∧ 0 ≤ namedF t lo x.f1 ∧ 0 ≤ x.f4 ∧ x.f4 < sizeF t (namedF t lo x.f1) ∧ namedF t lo x.f2 = toF t (namedF t lo x.f1) x.f4
  loadG : x.f0 = 12 → 0 ≤ namedF t lo x.f1 ∧ namedF t lo x.f1 = namedF t gl x.f2
  storeG : x.f0 = 13 → 0 ≤ namedF t lo x.f2 ∧ namedF t lo x.f2 = namedF t gl x.f1
  same : x.f0 = 15 → x.f1 < 8 ∧ 0 ≤ namedF t lo x.f2 ∧ namedF t lo x.f2 = namedF t lo x.f3

theorem oneF_iff {a b : Int} : oneF a b = true ↔ 0 ≤ a ∧ a = b := by simp [oneF]
theorem ints1 {a : Int} : intsF [a] = true ↔ a < 8 := by
  unfold intsF
  rw [allB_iff]
  refine ⟨fun h => of_decide_eq_true (h 0 (by simp)), fun h j hj => ?_⟩
  obtain rfl : j = 0 := by simp at hj; omega
  exact decide_eq_true h
theorem ints3 {a b c : Int} : intsF [a, b, c] = true ↔ a < 8 ∧ b < 8 ∧ c < 8 := by
  unfold intsF
  rw [allB_iff]
  refine ⟨fun h => ⟨of_decide_eq_true (h 0 (by simp)), of_decide_eq_true (h 1 (by simp)), of_decide_eq_true (h 2 (by simp))⟩, fun h j hj => ?_⟩
  obtain rfl | rfl | rfl : j = 0 ∨ j = 1 ∨ j = 2 := by simp at hj; omega
  · exact decide_eq_true h.1
  · exact decide_eq_true h.2.1
  · exact decide_eq_true h.2.2
theorem field_pos {t : List ByteArray} {a n : Int} (h : (fieldF t a n).2 = true ∨ 0 ≤ (fieldF t a n).1) : 0 ≤ a ∧ 0 ≤ n ∧ n < sizeF t a ∧ (fieldF t a n).1 = toF t a n := by
  unfold fieldF at h ⊢
  split
  · rename_i hc
    exact ⟨hc.1, hc.2.1, hc.2.2, rfl⟩
  · rename_i hc
    rw [if_neg hc] at h
    simp at h
theorem fine_of {t : List ByteArray} {lo gl : ByteArray} {n : Nat} {x : S55} (h : badI t lo gl n x = none) : Fine t lo gl n x := by
  unfold badI at h
  split at h
  case isFalse => cases h
  rename_i h1
  split at h
  case isTrue => cases h
  rename_i h2
  split at h
  case isFalse => cases h
  rename_i h3
  unfold rightI at h1
  split at h1
  case isTrue => cases h1
  rename_i q1
  split at h1
  case isTrue => cases h1
  rename_i q2
  clear h h1
  have hk : kindsF t lo gl x.f0 x.f1 x.f2 x.f3 x.f4 = true := h3
  have hn : ∀ {a m : Int}, numberF t a m = true → 0 ≤ a ∧ 0 ≤ m ∧ m < sizeF t a ∧ toF t a m < 0 := fun {a m} hh => by
    simp only [numberF, Bool.and_eq_true, decide_eq_true_eq] at hh
    obtain ⟨y1, y2, y3, y4⟩ := field_pos (.inl hh.1)
    exact ⟨y1, y2, y3, y4 ▸ hh.2⟩
  refine ⟨⟨by omega, by omega⟩, fun hj => ?_, fun hj => ?_, fun hj => ?_, fun hj => ?_, fun hj => ?_, fun hj => ?_, fun hj => ?_, fun hj => ?_, fun hj => ?_, fun hj => ?_, fun hj => ?_, fun hj => ?_⟩
  · rcases hj with hj | hj <;> simp [jumpy, hj] at h2 <;> omega
  · rcases hj with hj | hj | hj <;> simp [kindsF, kinds3F, hj] at hk <;> exact ints1.1 hk
  · simp [kindsF, kinds3F, hj] at hk
    exact ints3.1 hk
  · rcases hj with hj | hj <;> simp [kindsF, kinds3F, kinds2F, hj] at hk <;> exact hk
  · simp [kindsF, kinds3F, kinds2F, kinds1F, hj] at hk
    exact oneF_iff.1 hk
  · simp [kindsF, kinds3F, kinds2F, kinds1F, hj] at hk
    obtain ⟨y1, y2, y3, _⟩ := hn hk.2
    exact ⟨ints1.1 hk.1, y1, y2, y3⟩
  · simp [kindsF, kinds3F, kinds2F, kinds1F, hj] at hk
    exact ⟨ints1.1 hk.1, hn hk.2⟩
  · simp [kindsF, kinds3F, kinds2F, kinds1F, hj] at hk
    obtain ⟨y0, y⟩ := oneF_iff.1 hk
    obtain ⟨z1, z2, z3, z4⟩ := field_pos (.inr (y ▸ y0))
    exact ⟨y0, z1, z2, z3, y.trans z4⟩
  · simp [kindsF, kinds3F, kinds2F, kinds1F, hj] at hk
    obtain ⟨y0, y⟩ := oneF_iff.1 hk
    obtain ⟨z1, z2, z3, z4⟩ := field_pos (.inr (y ▸ y0))
    exact ⟨y0, z1, z2, z3, y.trans z4⟩
  · simp [kindsF, kinds3F, kinds2F, kinds1F, hj] at hk
    exact oneF_iff.1 hk
  · simp [kindsF, kinds3F, kinds2F, kinds1F, hj] at hk
    exact oneF_iff.1 hk
  · simp [kindsF, kinds3F, kinds2F, kinds1F, hj] at hk
    exact ⟨ints1.1 hk.1, oneF_iff.1 hk.2⟩

/-- A pointer's worth: nothing, or an object of this type. -/
def PtrT (ty : List Int) (v τ : Int) : Prop := v = 0 ∨ (1 ≤ v ∧ v ≤ ty.length ∧ ty.getD (v - 1).toNat (-1) = τ)
theorem PtrT.more {ty : List Int} {v τ σ : Int} (h : PtrT ty v τ) : PtrT (ty ++ [σ]) v τ := by
  rcases h with h | ⟨h1, h2, h3⟩
  · exact .inl h
  · refine .inr ⟨h1, by simp; omega, ?_⟩
    rw [List.getD_eq_getElem?_getD, List.getElem?_append_left (by omega), ← List.getD_eq_getElem?_getD]
    exact h3
structure Inv (t : List ByteArray) (lo gl : ByteArray) (n : Nat) (s : St) (ty : List Int) : Prop where
  len : ty.length = s.objs.length
  size : ∀ j : Nat, j < ty.length → ((s.objs.getD j []).length : Int) = sizeF t (ty.getD j (-1))
  obj : ∀ j f : Nat, j < ty.length → 0 ≤ toF t (ty.getD j (-1)) f → PtrT ty (rd (s.objs.getD j []) f) (toF t (ty.getD j (-1)) f)
  p : ∀ a : Nat, 0 ≤ namedF t lo a → PtrT ty (s.p a) (namedF t lo a)
  g : ∀ a : Nat, 0 ≤ namedF t gl a → PtrT ty (s.g a) (namedF t gl a)
  few : s.objs.length ≤ n ∧ s.out.length ≤ n
section
variable {t : List ByteArray} {lo gl : ByteArray} {n : Nat} {s : St} {ty : List Int}
theorem inv0 : Inv t lo gl 0 St0 [] :=
  ⟨rfl, fun j hj => absurd hj (by simp), fun j f hj => absurd hj (by simp), fun _ _ => .inl rfl, fun _ _ => .inl rfl, Nat.le_refl _, Nat.le_refl _⟩
/-- Pointers and objects as they were. -/
theorem Inv.as {s' : St} (h : Inv t lo gl n s ty) (e1 : s'.objs = s.objs) (e2 : s'.p = s.p) (e3 : s'.g = s.g) (e4 : s'.out.length ≤ n + 1) : Inv t lo gl (n + 1) s' ty := by
  refine ⟨by rw [e1]; exact h.len, by rw [e1]; exact h.size, by rw [e1]; exact h.obj, by rw [e2]; exact h.p, by rw [e3]; exact h.g, by rw [e1]; have := h.few.1; omega, e4⟩
theorem Inv.setP {s' : St} (h : Inv t lo gl n s ty) (a : Nat) (v : Int) (e1 : s'.objs = s.objs) (e2 : s'.p = upd s.p a v) (e3 : s'.g = s.g) (e4 : s'.out = s.out) (hv : PtrT ty v (namedF t lo a)) : Inv t lo gl (n + 1) s' ty := by
  refine ⟨by rw [e1]; exact h.len, by rw [e1]; exact h.size, by rw [e1]; exact h.obj, fun b hb => ?_, by rw [e3]; exact h.g, by rw [e1]; have := h.few.1; omega, by rw [e4]; have := h.few.2; omega⟩
  rw [e2]
  unfold upd
  split
  · rename_i hba
    rw [hba]
    exact hv
  · exact h.p b hb
theorem Inv.setG {s' : St} (h : Inv t lo gl n s ty) (a : Nat) (v : Int) (e1 : s'.objs = s.objs) (e2 : s'.p = s.p) (e3 : s'.g = upd s.g a v) (e4 : s'.out = s.out) (hv : PtrT ty v (namedF t gl a)) : Inv t lo gl (n + 1) s' ty := by
  refine ⟨by rw [e1]; exact h.len, by rw [e1]; exact h.size, by rw [e1]; exact h.obj, by rw [e2]; exact h.p, fun b hb => ?_, by rw [e1]; have := h.few.1; omega, by rw [e4]; have := h.few.2; omega⟩
  rw [e3]
  unfold upd
  split
  · rename_i hba
    rw [hba]
    exact hv
  · exact h.g b hb
theorem Inv.setO {s' : St} (h : Inv t lo gl n s ty) (o : Nat) (m : Nat) (v : Int) (ho : o < ty.length) (hm : (m : Int) < sizeF t (ty.getD o (-1))) (e1 : s'.objs = s.objs.set o ((s.objs.getD o []).set m v)) (e2 : s'.p = s.p) (e3 : s'.g = s.g) (e4 : s'.out = s.out)
    (hv : 0 ≤ toF t (ty.getD o (-1)) m → PtrT ty v (toF t (ty.getD o (-1)) m)) : Inv t lo gl (n + 1) s' ty := by
  have hlen := h.len
  have hrow : ∀ j, s'.objs.getD j [] = if j = o then (s.objs.getD o []).set m v else s.objs.getD j [] := fun j => by
    rw [e1, List.getD_eq_getElem?_getD, List.getElem?_set]
    split
    · rename_i hoj
      rw [if_pos hoj.symm, if_pos (by omega)]
      rfl
    · rename_i hoj
      rw [if_neg (fun he => hoj he.symm), ← List.getD_eq_getElem?_getD]
  refine ⟨by rw [e1, List.length_set]; exact h.len, fun j hj => ?_, fun j f hj hf => ?_, by rw [e2]; exact h.p, by rw [e3]; exact h.g, by rw [e1, List.length_set]; have := h.few.1; omega, by rw [e4]; have := h.few.2; omega⟩
  · rw [hrow]
    split
    · rename_i hjo
      rw [List.length_set, hjo]
      exact h.size o ho
    · exact h.size j hj
  · rw [hrow]
    split
    · rename_i hjo
      rw [hjo] at hf ⊢
      have hs := h.size o ho
      unfold rd
      rw [Int.toNat_natCast, List.getD_eq_getElem?_getD, List.getElem?_set]
      split
      · rename_i hmf
        rw [← hmf] at hf ⊢
        rw [if_pos (by omega)]
        exact hv hf
      · have := h.obj o f ho hf
        unfold rd at this
        rw [Int.toNat_natCast, List.getD_eq_getElem?_getD] at this
        exact this
    · exact h.obj j f hj hf
theorem Inv.new {s' : St} (h : Inv t lo gl n s ty) (a : Nat) (τ : Int) (hτ : namedF t lo a = τ) (e1 : s'.objs = s.objs ++ [List.replicate (sizeF t τ).toNat 0]) (hz : 0 ≤ sizeF t τ) (e2 : s'.p = upd s.p a ((s.objs.length : Int) + 1)) (e3 : s'.g = s.g) (e4 : s'.out = s.out) : Inv t lo gl (n + 1) s' (ty ++ [τ]) := by
  have hlen := h.len
  have hl : (ty ++ [τ]).length = ty.length + 1 := by simp
  have hty : ∀ j, j < ty.length → (ty ++ [τ]).getD j (-1) = ty.getD j (-1) := fun j hj => by
    rw [List.getD_eq_getElem?_getD, List.getElem?_append_left hj, ← List.getD_eq_getElem?_getD]
  have hty2 : (ty ++ [τ]).getD ty.length (-1) = τ := by
    rw [List.getD_eq_getElem?_getD, List.getElem?_append_right (Nat.le_refl _)]
    simp
  have hob : ∀ j, j < ty.length → s'.objs.getD j [] = s.objs.getD j [] := fun j hj => by
    rw [e1, List.getD_eq_getElem?_getD, List.getElem?_append_left (by omega), ← List.getD_eq_getElem?_getD]
  have hob2 : s'.objs.getD ty.length [] = List.replicate (sizeF t τ).toNat 0 := by
    rw [e1, hlen, List.getD_eq_getElem?_getD, List.getElem?_append_right (Nat.le_refl _)]
    simp
  have hr0 : ∀ (m : Nat) (i : Int), rd (List.replicate m (0 : Int)) i = 0 := fun m i => by
    unfold rd
    rw [List.getD_eq_getElem?_getD, List.getElem?_replicate]
    split <;> rfl
  refine ⟨by rw [e1]; simp [hlen], fun j hj => ?_, fun j f hj hf => ?_, fun b hb => ?_, fun b hb => ?_, by rw [e1]; have := h.few.1; simp; omega, by rw [e4]; have := h.few.2; omega⟩
  · by_cases hj2 : j < ty.length
    · rw [hty j hj2, hob j hj2]
      exact h.size j hj2
    · obtain rfl : j = ty.length := by omega
      rw [hty2, hob2, List.length_replicate]
      omega
  · by_cases hj2 : j < ty.length
    · rw [hty j hj2] at hf ⊢
      rw [hob j hj2]
      exact (h.obj j f hj2 hf).more
    · obtain rfl : j = ty.length := by omega
      rw [hob2, hr0]
      exact .inl rfl
  · rw [e2]
    unfold upd
    split
    · rename_i hba
      rw [hba, hτ]
      refine .inr ⟨by omega, by rw [hl, hlen]; omega, ?_⟩
      rw [show ((s.objs.length : Int) + 1 - 1).toNat = ty.length by rw [hlen]; omega]
      exact hty2
    · exact (h.p b hb).more
  · rw [e3]
    exact (h.g b hb).more
end
end Go.Proofs.YtlemecdddhdagaaDoor.P
