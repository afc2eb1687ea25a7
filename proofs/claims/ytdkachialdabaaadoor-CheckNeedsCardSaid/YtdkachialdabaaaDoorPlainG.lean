/-
  PLAIN LEAN: the law CheckNeeds.
-/
import Derived.Test.YtdkachialdabaaaDoorPlainC
import Derived.Test.YtdkachialdabaaaDoorPx9
namespace Go.Proofs.YtdkachialdabaaaDoor.P
open Go.RowKit Go.Proofs.YtdkachialdabaaaDoorW.PrintWords Go.Proofs.YtdkachialdabaaaDoorW.PrintLast Go.Proofs.YtdkachialdabaaaDoorW.PrintMore

def ii : ByteArray := ⟨#[105, 105]⟩
theorem rdOf_old (t : List ByteArray) (s : ByteArray) (i : Nat) (h : i < t.length) : rdOf ByteArray.empty (t ++ [s]) (i : Int) = rdOf ByteArray.empty t (i : Int) := by
  unfold rdOf
  rw [Int.toNat_natCast, List.getD_eq_getElem?_getD, List.getElem?_append_left h, List.getD_eq_getElem?_getD]
theorem rdOf_new (t : List ByteArray) (s : ByteArray) : rdOf ByteArray.empty (t ++ [s]) ((t.length : Nat) : Int) = s := by
  unfold rdOf
  rw [Int.toNat_natCast, List.getD_eq_getElem?_getD, List.getElem?_append_right (Nat.le_refl _)]
  simp
theorem digF_more {c : Int} {n : Nat} (h : 0 ≤ digF c n) : digF c ((n + 1 : Nat) : Int) = digF c n := by
  obtain ⟨h1, h2, h3⟩ := digF_nonneg h
  rw [h1]
  unfold digF
  rw [if_pos h2, if_pos (by omega)]
theorem digF_i {n : Nat} (h : n ≤ 8) : digF 105 n = -1 := by
  unfold digF
  rw [if_pos (by decide), if_neg (by omega)]
/-- A letter of a type, told among one type more. -/
theorem letter_more {c : Int} {n : Nat} (hn : n < 8) (h : (c == 105 || decide (0 ≤ digF c n)) = true) : digF c ((n + 1 : Nat) : Int) = digF c n ∧ (c == 105 || decide (0 ≤ digF c ((n + 1 : Nat) : Int))) = true := by
  by_cases hc : c = 105
  · subst hc
    exact ⟨by rw [digF_i (by omega), digF_i (by omega)], by simp⟩
  · have h0 : 0 ≤ digF c n := by simpa [hc] using h
    have := digF_more h0
    exact ⟨this, by rw [this]; exact h⟩
theorem rightB_parts {t : List ByteArray} (h : rightB t = true) : ∀ i, i < t.length → oneB (rdOf ByteArray.empty t (i : Int)) t.length = true := by
  unfold rightB at h
  simp only [Bool.and_eq_true] at h
  exact allB_iff.1 h.1
theorem oneB_parts {s : ByteArray} {n : Int} (h : oneB s n = true) : 0 < s.size ∧ s.size ≤ 6 ∧ ∀ j, j < s.size → (bt s (j : Int) == 105 || decide (0 ≤ digF (bt s (j : Int)) n)) = true := by
  unfold oneB at h
  simp only [Bool.and_eq_true, decide_eq_true_eq] at h
  exact ⟨h.1.1, h.1.2, allB_iff.1 h.2⟩
theorem rightB_more {t : List ByteArray} (h : rightB t = true) (hn : t.length < 8) : rightB (t ++ [ii]) = true := by
  have hl : (t ++ [ii]).length = t.length + 1 := by simp
  have h1 := rightB_parts h
  unfold rightB
  rw [hl, Bool.and_eq_true, Bool.and_eq_true, decide_eq_true_eq, decide_eq_true_eq]
  refine ⟨allB_iff.2 fun j hj => ?_, by omega, by omega⟩
  unfold oneB
  rw [Bool.and_eq_true, Bool.and_eq_true, decide_eq_true_eq, decide_eq_true_eq]
  by_cases hjt : j < t.length
  · rw [rdOf_old t ii j hjt]
    obtain ⟨a, b, c⟩ := oneB_parts (h1 j hjt)
    exact ⟨⟨a, b⟩, allB_iff.2 fun q hq => (letter_more hn (c q hq)).2⟩
  · obtain rfl : j = t.length := by omega
    rw [rdOf_new]
    refine ⟨⟨by decide, by decide⟩, allB_iff.2 fun q hq => ?_⟩
    have h2 : q < 2 := hq
    have : bt ii (q : Int) = 105 := by
      match q, h2 with
      | 0, _ => decide
      | 1, _ => decide
    rw [this]
    rfl
theorem ofF_more {t : List ByteArray} (h : rightB t = true) (hn : t.length < 8) {i : Int} (hi : i < t.length) : ofF (t ++ [ii]) i = ofF t i := by
  have hl : (t ++ [ii]).length = t.length + 1 := by simp
  unfold ofF
  rw [h, rightB_more h hn, hl]
  by_cases h0 : 0 ≤ i
  · obtain ⟨q, rfl⟩ := Int.eq_ofNat_of_zero_le h0
    rw [if_pos (by simp; omega), if_pos (by simp; omega), rdOf_old t ii q (by omega)]
  · rw [if_neg (by simp; omega), if_neg (by simp; omega)]
theorem sizeF_more {t : List ByteArray} (h : rightB t = true) (hn : t.length < 8) {i : Int} (hi : i < t.length) : sizeF (t ++ [ii]) i = sizeF t i := by
  unfold sizeF
  rw [ofF_more h hn hi]
theorem sizeF_new {t : List ByteArray} (h : rightB t = true) (hn : t.length < 8) : sizeF (t ++ [ii]) ((t.length : Nat) : Int) = 2 := by
  have hl : (t ++ [ii]).length = t.length + 1 := by simp
  unfold sizeF ofF
  rw [rightB_more h hn, hl, if_pos (by simp; omega), rdOf_new]
  rfl
theorem toF_more {t : List ByteArray} (h : rightB t = true) (hn : t.length < 8) {i f : Int} (hi : i < t.length) : toF (t ++ [ii]) i f = toF t i f := by
  have hl : (t ++ [ii]).length = t.length + 1 := by simp
  unfold toF
  rw [sizeF_more h hn hi, ofF_more h hn hi, hl]
  by_cases hf : 0 ≤ f ∧ f < sizeF t i
  · rw [if_pos hf, if_pos hf]
    by_cases h0 : 0 ≤ i
    · obtain ⟨q, rfl⟩ := Int.eq_ofNat_of_zero_le h0
      obtain ⟨g, rfl⟩ := Int.eq_ofNat_of_zero_le hf.1
      have he : ofF t (q : Int) = rdOf ByteArray.empty t (q : Int) := by
        unfold ofF
        rw [h, if_pos (by simp; omega)]
      obtain ⟨_, _, c⟩ := oneB_parts (rightB_parts h q (by omega))
      have hg : g < (rdOf ByteArray.empty t (q : Int)).size := by
        have := hf.2
        unfold sizeF at this
        rw [he] at this
        omega
      rw [he]
      exact (letter_more hn (c g hg)).1
    · have : sizeF t i = 0 := by
        unfold sizeF ofF
        rw [if_neg (by simp; omega)]
        rfl
      omega
  · rw [if_neg hf, if_neg hf]
theorem fieldF_more {t : List ByteArray} (h : rightB t = true) (hn : t.length < 8) {i f : Int} (hi : i < t.length) : fieldF (t ++ [ii]) i f = fieldF t i f := by
  unfold fieldF
  rw [sizeF_more h hn hi, toF_more h hn hi]
theorem namedF_more {t : List ByteArray} {s : ByteArray} (h : rightB t = true) (hn : t.length < 8) (hs : ∀ j, j < s.size → 0 ≤ digF (bt s (j : Int)) t.length) {a : Int} (ha : 0 ≤ a) : namedF (t ++ [ii]) s a = namedF t s a := by
  have hl : (t ++ [ii]).length = t.length + 1 := by simp
  unfold namedF
  by_cases h1 : a < s.size
  · obtain ⟨q, rfl⟩ := Int.eq_ofNat_of_zero_le ha
    have h2 := hs q (by omega)
    rw [if_pos h1, if_pos h1, hl, h, rightB_more h hn, digF_more h2]
  · rw [if_neg h1, if_neg h1]
theorem numberF_more {t : List ByteArray} (h : rightB t = true) (hn : t.length < 8) {i f : Int} (hi : i < t.length) : numberF (t ++ [ii]) i f = numberF t i f := by
  unfold numberF
  rw [fieldF_more h hn hi]
theorem kindsF_more {t : List ByteArray} {lo gl : ByteArray} (hh : headB t lo gl = true) (hn : t.length < 8) (o a b c n : Int) (ha : 0 ≤ a) (hb : 0 ≤ b) (hc : 0 ≤ c) : kindsF (t ++ [ii]) lo gl o a b c n = kindsF t lo gl o a b c n := by
  obtain ⟨hr, hlo, hgl, _, _⟩ := headB_parts hh
  have la := (namedF_ok hr hlo ha).2
  have lb := (namedF_ok hr hlo hb).2
  unfold kindsF kinds3F kinds2F kinds1F
  rw [namedF_more hr hn hlo ha, namedF_more hr hn hlo hb, namedF_more hr hn hlo hc, namedF_more hr hn hgl ha, namedF_more hr hn hgl hb,
    numberF_more hr hn la, numberF_more hr hn lb, fieldF_more hr hn la, fieldF_more hr hn lb]
theorem headB_more {t : List ByteArray} {lo gl : ByteArray} (hh : headB t lo gl = true) (hn : t.length < 8) : headB (t ++ [ii]) lo gl = true := by
  have hl : (t ++ [ii]).length = t.length + 1 := by simp
  unfold headB refsB at hh ⊢
  simp only [Bool.and_eq_true, decide_eq_true_eq] at hh ⊢
  obtain ⟨⟨h1, h2⟩, h3⟩ := hh
  refine ⟨⟨allB_iff.2 fun j hj => ?_, rightB_more h2 hn⟩, h3⟩
  have := of_decide_eq_true (allB_iff.1 h1 j hj)
  rw [hl, digF_more this]
  exact decide_eq_true this
theorem needF_more {t : List ByteArray} (h : rightB t = true) (hn : t.length < 8) : ∀ d x, d ≤ t.length → needF (t ++ [ii]) (d + 1) x = mx (needF t d x) 2
  | 0, x, _ => by
    have hl : (t ++ [ii]).length = t.length + 1 := by simp
    unfold needF needF
    rw [hl, show t.length + 1 - (0 + 1) = t.length from by omega, sizeF_new h hn]
  | d + 1, x, hd => by
    have hl : (t ++ [ii]).length = t.length + 1 := by simp
    show needF (t ++ [ii]) (d + 1) (mx x (sizeF (t ++ [ii]) (((t ++ [ii]).length - (d + 1 + 1) : Nat) : Int))) = mx (needF t d (mx x (sizeF t ((t.length - (d + 1) : Nat) : Int)))) 2
    rw [hl, show t.length + 1 - (d + 1 + 1) = t.length - (d + 1) from by omega, sizeF_more h hn (by omega)]
    exact needF_more h hn d _ (by omega)

theorem of_noneG {t : List ByteArray} {lo gl : ByteArray} {code : List S32} (h1 : headB t lo gl = true) (h2 : 1 ≤ code.length ∧ code.length ≤ 200) (h : ∀ j, j < code.length → badI t lo gl code.length (code.getD j z32) = none) : checkF t lo gl code = (-1, 0) :=
  checkF_minus t lo gl code ((checkF_ok t lo gl code).2 ⟨h1, h2, h⟩)
theorem needs_law (t : List ByteArray) (lo gl : ByteArray) (code : List S32) (ht : t.length ≤ 9223372036854775807) (hs : lo.size + gl.size ≤ 9223372036854775807) (hn : code.length ≤ 9223372036854775807) (hw : Wf code) :
    Ev (fun k => lockstitchlaw05_CheckNeeds.f k t lo gl code) true := by
  have j0 : ∀ x, (x = false → t.length < 8) → Ev (fun k => lockstitchlaw05_CheckNeeds.j0 k x t lo gl code) true := by
    intro x hx
    refine Ev.step (fun k => by simp only [lockstitchlaw05_CheckNeeds.j0]; rfl) ?_
    refine Ev.out (Ev.ite (b := true) (a := true) (fun _ => Ev.now _) fun hx2 => ?_) (by split <;> rfl)
    have h8 : t.length < 8 := hx (by simpa using hx2)
    refine Ev.bind (check_f t lo gl code ht hs hn hw) ?_
    refine Ev.out (Ev.ite (b := true) (a := true) (fun hok => ?_) fun _ => Ev.now _) (by split <;> rfl)
    obtain ⟨hh, hl, hall⟩ := (checkF_ok t lo gl code).1 hok
    obtain ⟨hr, hlo, hgl, _, _⟩ := headB_parts hh
    have hl' : (t ++ [ii]).length = t.length + 1 := by simp
    have e1 := checkF_minus t lo gl code hok
    have e2 : checkF (t ++ [ii]) lo gl code = (-1, 0) := of_noneG (headB_more hh h8) hl fun j hj => by
      have := hall j hj
      unfold badI at this ⊢
      rw [show kindsI (t ++ [ii]) lo gl (code.getD j z32) = kindsI t lo gl (code.getD j z32) from kindsF_more hh h8 _ _ _ _ _ (hw j).1.1 (hw j).2.1.1 (hw j).2.2.1]
      exact this
    refine Ev.congr (fun k => if_pos (by simp; omega)) ?_
    show Ev (fun k => if ([] ++ t).length < 8796093022208 then (some ([] ++ t ++ [ii])).bind _ else none) true
    refine Ev.congr (fun k => if_pos (by simp; omega)) ?_
    rw [List.nil_append]
    show Ev (fun k => (check_Check.f k (t ++ [ii]) lo gl code).bind fun bt236 => _) true
    refine Ev.bind (check_f (t ++ [ii]) lo gl code (by omega) hs hn hw) ?_
    rw [e1, e2]
    refine Ev.congr (fun k => (if_pos rfl).trans (if_pos rfl)) ?_
    refine Ev.bind (need_f (t ++ [ii]) lo gl code (by omega)) (Ev.bind (need_f t lo gl code ht) ?_)
    rw [hl', needF_more hr h8 t.length 0 (Nat.le_refl _)]
    exact Ev.congr (f := fun _ => some true) (fun k => by simp) (Ev.now _)
  refine Ev.bind alive_f (Ev.congr (fun k => if_pos rfl) ?_)
  obtain ⟨b, hb⟩ := few_f t lo gl code ht
  refine Ev.bind hb ?_
  refine Ev.out (Ev.ite (b := true) (a := true) (fun _ => j0 _ fun h => ?_) fun _ => j0 _ fun h => by cases h) (by split <;> rfl)
  have := of_decide_eq_false h
  omega
end Go.Proofs.YtdkachialdabaaaDoor.P
