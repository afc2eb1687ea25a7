/-
  PLAIN LEAN: the comparison of lines, the answers that are fixed; the law WordLines.
-/
import Derived.Test.YtkhdcihjlobhfaaDoorPlainC
namespace Go.Proofs.YtkhdcihjlobhfaaDoor.P
open Go Go.RowKit Go.Proofs.YtkhdcihjlobhfaaDoorW.PrintWords Go.Proofs.YtkhdcihjlobhfaaDoorW.PrintLast Go.Proofs.YtkhdcihjlobhfaaDoorW.PrintMore

/-! ### Same -/
theorem rd_L1_at (a : List (List ByteArray)) (i : Nat) (x : List ByteArray) (h : a[i]? = some x) : rd_L1 a (i : Int) = x := by
  unfold rd_L1
  rw [Int.toNat_natCast, List.getD_eq_getElem?_getD, h]
  rfl
theorem rdOf_at (a : List ByteArray) (i : Nat) (x : ByteArray) (h : a[i]? = some x) : rdOf ByteArray.empty a (i : Int) = x := by
  unfold rdOf
  rw [Int.toNat_natCast, List.getD_eq_getElem?_getD, h]
  rfl
theorem toList_inj {a b : ByteArray} : a.toList = b.toList ↔ a = b := by
  rw [ByteArray.toList_eq, ByteArray.toList_eq]
  constructor
  · intro h
    rw [← Bs_data a, ← Bs_data b, h]
  · rintro rfl; rfl
theorem same_l1 (a b : List (List ByteArray)) (n : Int) (i : Nat) (hi : i < 1000000) (x y : List ByteArray) (hx : a[i]? = some x) (hy : b[i]? = some y) (hxy : x.length = y.length) (hl : x.length ≤ 1000000) :
    ∀ (d j : Nat), j + d = x.length →
      ((x.drop j = y.drop j → ∀ r, Ev (fun k => lockstitchlaw02_Same.l0 k a b n ((i + 1 : Nat) : Int)) r → Ev (fun k => lockstitchlaw02_Same.l1 k a b (i : Int) n (i : Int) ((x.length : Nat) : Int) (j : Int)) r) ∧
       (x.drop j ≠ y.drop j → Ev (fun k => lockstitchlaw02_Same.l1 k a b (i : Int) n (i : Int) ((x.length : Nat) : Int) (j : Int)) false))
  | 0, j, hj => by
    rw [List.drop_eq_nil_of_le (show x.length ≤ j by omega), List.drop_eq_nil_of_le (show y.length ≤ j by omega)]
    refine ⟨fun _ r hr => Ev.step (fun k => ?_) hr, fun h => absurd rfl h⟩
    simp only [lockstitchlaw02_Same.l1]
    rw [if_neg (by omega), wrap_nat i (by omega)]
  | d + 1, j, hj => by
    have hlx : j < x.length := by omega
    have hly : j < y.length := by omega
    have hp : x[j]? = some x[j] := List.getElem?_eq_getElem hlx
    have hq : y[j]? = some y[j] := List.getElem?_eq_getElem hly
    have hdx : x.drop j = x[j] :: x.drop (j + 1) := List.drop_eq_getElem_cons hlx
    have hdy : y.drop j = y[j] :: y.drop (j + 1) := List.drop_eq_getElem_cons hly
    generalize x[j] = p at hp hdx
    generalize y[j] = q at hq hdy
    have ih := same_l1 a b n i hi x y hx hy hxy hl d (j + 1) (by omega)
    have hia : i < a.length := (List.getElem?_eq_some_iff.1 hx).1
    have hib : i < b.length := (List.getElem?_eq_some_iff.1 hy).1
    have unf : ∀ k, lockstitchlaw02_Same.l1 (k + 1) a b (i : Int) n (i : Int) ((x.length : Nat) : Int) (j : Int) = if p = q then lockstitchlaw02_Same.l1 k a b (i : Int) n (i : Int) ((x.length : Nat) : Int) ((j + 1 : Nat) : Int) else some false := by
      intro k
      conv => lhs; simp only [lockstitchlaw02_Same.l1]
      rw [rd_L1_at a i x hx, rd_L1_at b i y hy, rdOf_at x j p hp, rdOf_at y j q hq, if_pos (by omega), if_pos (by omega), if_pos (by omega), if_pos (by omega), if_pos (by omega), if_pos (by omega), if_pos (by omega), wrap_nat j (by omega)]
      by_cases e : p = q
      · rw [if_pos e, if_pos (toList_inj.2 e)]
      · rw [if_neg e, if_neg (fun h => e (toList_inj.1 h))]
    rw [hdx, hdy]
    by_cases e : p = q
    · subst e
      refine ⟨fun h r hr => Ev.step (fun k => by rw [unf k, if_pos rfl]) (ih.1 (by injection h) r hr), fun h => Ev.step (fun k => by rw [unf k, if_pos rfl]) (ih.2 (fun h2 => h (by rw [h2])))⟩
    · refine ⟨fun h => absurd (by injection h) e, fun _ => Ev.step (f := fun _ => some _) (fun k => by rw [unf k, if_neg e]) (Ev.now _)⟩
theorem same_l0 (a b : List (List ByteArray)) (hab : a.length = b.length) (hl : a.length ≤ 1000000) (hx : ∀ x ∈ a, x.length ≤ 1000000) : ∀ (d i : Nat), i + d = a.length →
    Ev (fun k => lockstitchlaw02_Same.l0 k a b ((a.length : Nat) : Int) (i : Int)) (decide (a.drop i = b.drop i))
  | 0, i, hi => by
    rw [List.drop_eq_nil_of_le (show a.length ≤ i by omega), List.drop_eq_nil_of_le (show b.length ≤ i by omega)]
    refine Ev.step (f := fun _ => some _) (fun k => ?_) (Ev.now _)
    simp only [lockstitchlaw02_Same.l0]
    rw [if_neg (by omega)]
    simp
  | d + 1, i, hi => by
    have hia : i < a.length := by omega
    have hib : i < b.length := by omega
    have hp : a[i]? = some a[i] := List.getElem?_eq_getElem hia
    have hq : b[i]? = some b[i] := List.getElem?_eq_getElem hib
    have hda : a.drop i = a[i] :: a.drop (i + 1) := List.drop_eq_getElem_cons hia
    have hdb : b.drop i = b[i] :: b.drop (i + 1) := List.drop_eq_getElem_cons hib
    have hxl := hx a[i] (List.getElem_mem hia)
    generalize a[i] = x at hp hda hxl
    generalize b[i] = y at hq hdb
    have ih := same_l0 a b hab hl hx d (i + 1) (by omega)
    have unf : ∀ k, lockstitchlaw02_Same.l0 (k + 1) a b ((a.length : Nat) : Int) (i : Int) = if x.length = y.length then lockstitchlaw02_Same.l1 k a b (i : Int) ((a.length : Nat) : Int) (i : Int) ((x.length : Nat) : Int) ((0 : Nat) : Int) else some false := by
      intro k
      conv => lhs; simp only [lockstitchlaw02_Same.l0]
      rw [rd_L1_at a i x hp, rd_L1_at b i y hq, if_pos (by omega), if_pos (by omega), if_pos (by omega), if_pos (by omega)]
      by_cases e : x.length = y.length
      · rw [if_pos e, if_pos (by omega)]
        rfl
      · rw [if_neg e, if_neg (by omega)]
    rw [hda, hdb]
    by_cases e : x.length = y.length
    · have h := same_l1 a b ((a.length : Nat) : Int) i (by omega) x y hp hq e hxl x.length 0 (Nat.zero_add _)
      rw [List.drop_zero, List.drop_zero] at h
      refine Ev.step (fun k => by rw [unf k, if_pos e]) ?_
      by_cases exy : x = y
      · have e2 : decide (x :: a.drop (i + 1) = y :: b.drop (i + 1)) = decide (a.drop (i + 1) = b.drop (i + 1)) := decide_eq_decide.2 (by simp [exy])
        rw [e2]
        exact h.1 exy _ ih
      · have e2 : decide (x :: a.drop (i + 1) = y :: b.drop (i + 1)) = false := decide_eq_false (by simp [exy])
        rw [e2]
        exact h.2 exy
    · have e2 : decide (x :: a.drop (i + 1) = y :: b.drop (i + 1)) = false := decide_eq_false (fun h => e (by injection h with h1 _; rw [h1]))
      rw [e2]
      exact Ev.step (f := fun _ => some _) (fun k => by rw [unf k, if_neg e]) (Ev.now _)
theorem same_ev (a b : List (List ByteArray)) (hl : a.length ≤ 1000000) (hx : ∀ x ∈ a, x.length ≤ 1000000) : Ev (fun k => lockstitchlaw02_Same.f k a b) (decide (a = b)) := by
  unfold lockstitchlaw02_Same.f
  by_cases e : a.length = b.length
  · exact Ev.congr (fun k => if_pos (by omega)) (same_l0 a b e hl hx a.length 0 (Nat.zero_add _))
  · have : decide (a = b) = false := decide_eq_false (fun h => e (by rw [h]))
    rw [this]
    exact Ev.congr (f := fun _ => some _) (fun k => if_neg (by omega)) (Ev.now _)
theorem decide_conv (A B : List (List (List UInt8))) : decide (conv A = conv B) = decide (A = B) := decide_eq_decide.2 ⟨conv_inj, fun h => by rw [h]⟩
/-- How long lines can be. -/
def Small (A : List (List (List UInt8))) : Prop := A.length ≤ 1000000 ∧ ∀ x ∈ A, x.length ≤ 1000000
theorem same_conv (A B : List (List (List UInt8))) (h : Small A) : Ev (fun k => lockstitchlaw02_Same.f k (conv A) (conv B)) (decide (A = B)) := by
  rw [← decide_conv]
  refine same_ev _ _ (by rw [conv_length]; exact h.1) fun x hx => ?_
  obtain ⟨y, hy, rfl⟩ := List.mem_map.1 hx
  rw [List.length_map]
  exact h.2 y hy
theorem goodL_len (xs : List (List UInt8)) : (goodL xs).length ≤ xs.length := by
  induction xs with
  | nil => simp [goodL]
  | cons x xs ih =>
    have e : goodL (x :: xs) = keep (toks x) ++ goodL xs := by simp [goodL]
    rw [e, List.length_append, List.length_cons]
    have : (keep (toks x)).length ≤ 1 := by unfold keep; split <;> simp
    omega
theorem linesR_small (s : ByteArray) (hs : s.size ≤ 20000) : Small (linesR s).1 := by
  unfold linesR
  have hl := spl_len_le 10 s.data.toList
  rw [data_size] at hl
  rcases LR_parts (spl 10 s.data.toList) with h | ⟨a, x, b, he, ha, hx⟩
  · rw [LR_good h]
    simp only [List.nil_append]
    refine ⟨by have := goodL_len (spl 10 s.data.toList); omega, fun ws hw => ?_⟩
    unfold goodL at hw
    obtain ⟨x, hx, hk⟩ := List.mem_flatMap.1 hw
    obtain ⟨rfl, _⟩ := keep_mem hk
    have h1 := toks_len x
    have h2 := spl_mem_len hx
    rw [data_size] at h2
    omega
  · rw [he, LR_bad ha _ _ x hx]
    exact ⟨by simp, by simp⟩

/-! ### The answers that are fixed -/
theorem alive_ev : Ev (fun k => lockstitchlaw02_alive.f k) true := by
  unfold lockstitchlaw02_alive.f
  refine Ev.bind (lines_ev _ (by decide)) (Ev.bind (lines_ev _ (by decide)) ?_)
  have e1 : outR (linesR (⟨#[115, 101, 116, 32, 48, 32, 53, 32, 35, 32, 102, 105, 118, 101, 10, 10, 32, 110, 101, 119, 32, 49]⟩ : ByteArray)) = (conv [[[115, 101, 116], [48], [53]], [[110, 101, 119], [49]]], 0, 0) := by kernel_rfl
  have e2 : outR (linesR (⟨#[97, 10, 66]⟩ : ByteArray)) = (conv [], 2, 4) := by kernel_rfl
  have e3 : word_Number.f (⟨#[45, 55, 48]⟩ : ByteArray) = some (-70, 0) := by kernel_rfl
  have e4 : word_Number.f (⟨#[45, 48, 55]⟩ : ByteArray) = some (0, 4) := by kernel_rfl
  have e5 : word_Join.f (conv [[[115, 101, 116], [48], [53]], [[110, 101, 119], [49]]]) = some ⟨#[115, 101, 116, 32, 48, 32, 53, 10, 110, 101, 119, 32, 49, 10]⟩ := by kernel_rfl
  rw [e1, e2, e3, e4]
  simp only [Option.bind_some]
  refine Ev.bind (same_conv [[[115, 101, 116], [48], [53]], [[110, 101, 119], [49]]] [[[115, 101, 116], [48], [53]], [[110, 101, 119], [49]]] ⟨by decide, by decide⟩) ?_
  rw [e5]
  refine Ev.congr (f := fun _ => some true) (fun k => ?_) (Ev.now _)
  rw [decide_eq_true rfl]
  simp [ByteArray.toList_eq]

theorem wordLines_law (s : ByteArray) : Ev (fun k => lockstitchlaw02_WordLines.f k s) true := by
  unfold lockstitchlaw02_WordLines.f
  refine Ev.bind alive_ev (Ev.congr (fun k => if_pos rfl) ?_)
  by_cases h : (s.size : Int) > 3000
  · refine Ev.congr (fun k => if_pos h) ?_
    by_cases hb : s.size ≤ 20000
    · refine Ev.bind (lines_ev s hb) ?_
      exact Ev.congr (f := fun _ => some _) (fun k => if_pos (by omega)) (Ev.now _)
    · refine Ev.congr (f := fun _ => some true) (fun k => ?_) (Ev.now _)
      rw [lines_big s (by omega) k]
      simp only [Option.bind_some]
      rw [if_neg (by omega)]
      rfl
  · refine Ev.congr (fun k => if_neg h) ?_
    refine Ev.bind (lines_ev s (by omega)) (Ev.bind (rlines_ev s (by omega)) (Ev.bind (same_conv _ _ (linesR_small s (by omega))) ?_))
    rw [decide_eq_true rfl]
    refine Ev.congr (f := fun _ => some true) (fun k => ?_) (Ev.now _)
    rw [if_pos rfl, if_pos rfl]
    simp
end Go.Proofs.YtkhdcihjlobhfaaDoor.P
