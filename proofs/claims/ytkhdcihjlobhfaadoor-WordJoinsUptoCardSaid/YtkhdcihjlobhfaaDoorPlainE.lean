/-
  PLAIN LEAN: texts that are put together; the laws WordAgain and WordTwo.
-/
import Derived.Test.YtkhdcihjlobhfaaDoorPlainD
import Derived.Test.YtkhdcihjlobhfaaDoorPx8
import Derived.Test.YtkhdcihjlobhfaaDoorPx9
namespace Go.Proofs.YtkhdcihjlobhfaaDoor.P
open Go Go.RowKit Go.Proofs.YtkhdcihjlobhfaaDoorW.PrintWords Go.Proofs.YtkhdcihjlobhfaaDoorW.PrintLast Go.Proofs.YtkhdcihjlobhfaaDoorW.PrintMore

/-! ### Texts -/
theorem spl_glue {c : UInt8} {a b x y : List UInt8} {A B : List (List UInt8)} (ha : spl c a = A ++ [x]) (hb : spl c b = y :: B) : spl c (a ++ b) = A ++ (x ++ y) :: B := by
  induction a generalizing A x with
  | nil =>
    cases A with
    | nil =>
      simp only [spl, List.nil_append, List.cons.injEq, and_true] at ha
      subst ha
      simpa using hb
    | cons p P => simp [spl] at ha
  | cons h t ih =>
    unfold spl at ha
    simp only [List.cons_append]
    unfold spl
    by_cases e : h = c
    · rw [if_pos e] at ha ⊢
      cases A with
      | nil =>
        simp only [List.nil_append, List.cons.injEq] at ha
        exact absurd ha.2 (spl_ne c t)
      | cons p P =>
        simp only [List.cons_append, List.cons.injEq] at ha
        rw [ih ha.2, ← ha.1]
        rfl
    · rw [if_neg e] at ha ⊢
      cases hs : spl c t with
      | nil => exact absurd hs (spl_ne c t)
      | cons q Q =>
        rw [hs] at ha
        simp only [List.headD_cons, List.tail_cons] at ha
        cases A with
        | nil =>
          simp only [List.nil_append, List.cons.injEq] at ha
          obtain ⟨rfl, rfl⟩ := ha
          have h1 := ih (A := []) (x := q) hs
          rw [h1]
          rfl
        | cons p P =>
          simp only [List.cons_append, List.cons.injEq] at ha
          obtain ⟨rfl, rfl⟩ := ha
          have h1 := ih (A := q :: P) (x := x) hs
          rw [h1]
          rfl
theorem last_of {α : Type} {L : List α} (h : L ≠ []) : ∃ A x, L = A ++ [x] := ⟨L.dropLast, L.getLast h, (List.dropLast_concat_getLast h).symm⟩
theorem first_of {α : Type} {L : List α} (h : L ≠ []) : ∃ x A, L = x :: A := by
  cases L with
  | nil => exact absurd rfl h
  | cons x A => exact ⟨x, A, rfl⟩
theorem tw_in {x z : List UInt8} (h : (35 : UInt8) ∈ x) : (x ++ z).takeWhile (· ≠ 35) = x.takeWhile (· ≠ 35) := by
  rcases parted (35 : UInt8) x with hc | ⟨a, b, rfl, ha⟩
  · exact absurd h hc
  · have h1 : ∀ x ∈ a, (decide (x ≠ 35)) = true := by
      intro x hx
      simp only [ne_eq, decide_eq_true_eq]
      rintro rfl
      exact ha hx
    rw [List.append_assoc, List.takeWhile_append_of_pos h1, List.takeWhile_append_of_pos h1]
    simp
theorem toks_in {x z : List UInt8} (h : (35 : UInt8) ∈ x) : toks (x ++ z) = toks x := by
  unfold toks
  rw [tw_in h]
theorem toks_sp {x : List UInt8} (h : (35 : UInt8) ∉ x) (z : List UInt8) : toks (x ++ 32 :: z) = toks x ++ toks z := by
  unfold toks
  have h1 : ∀ y ∈ x, (decide (y ≠ 35)) = true := by
    intro y hy
    simp only [ne_eq, decide_eq_true_eq]
    rintro rfl
    exact h hy
  rw [List.takeWhile_append_of_pos h1, List.takeWhile_cons, if_pos (by decide), spl_sep, List.filter_append, takeWhile_free h]
theorem toks_mid (x y : List UInt8) : toks (x ++ 32 :: 32 :: y) = toks (x ++ 32 :: y) := by
  by_cases h : (35 : UInt8) ∈ x
  · rw [toks_in h, toks_in h]
  · rw [toks_sp h, toks_sp h]
    have := toks_sp (x := []) (by simp) y
    rw [List.nil_append] at this
    rw [this]
    rfl
theorem toks_hash (m : List UInt8) : toks (35 :: m) = [] := by simp [toks, spl]
theorem toks_tail (x m : List UInt8) : toks (x ++ 32 :: 35 :: m) = toks x := by
  by_cases h : (35 : UInt8) ∈ x
  · exact toks_in h
  · rw [toks_sp h, toks_hash, List.append_nil]

/-! ### Join -/
theorem joinB_conv (L : List (List (List UInt8))) : joinB (conv L) = joinL L := by
  unfold joinB conv joinL
  rw [List.map_map]
  congr 1
  refine List.map_congr_left fun ws _ => ?_
  show Lib.join ((ws.map Bs).map (·.data.toList)) [32] ++ [10] = _
  rw [List.map_map]
  congr 2
  conv => rhs; rw [← List.map_id ws]
  exact List.map_congr_left fun x _ => rfl
theorem join_f (L : List (List (List UInt8))) (h : Small L) (hl : (joinL L).length ≤ 1000000) : word_Join.f (conv L) = some (Bs (joinL L)) := by
  unfold word_Join.f
  rw [joinB_conv, if_pos]
  · rfl
  · refine ⟨by rw [conv_length]; have := h.1; omega, fun x hx => ?_, by omega⟩
    obtain ⟨y, hy, rfl⟩ := List.mem_map.1 hx
    rw [List.length_map]
    have := h.2 y hy
    omega
theorem outR_ok (L : List (List (List UInt8))) : outR (L, 0, 0) = (conv L, 0, 0) := rfl

theorem wordAgain_law (s : ByteArray) : Ev (fun k => lockstitchlaw02_WordAgain.f k s) true := by
  unfold lockstitchlaw02_WordAgain.f
  refine Ev.bind alive_ev (Ev.congr (fun k => if_pos rfl) ?_)
  by_cases h : (s.size : Int) > 3000
  · exact Ev.congr (f := fun _ => some _) (fun k => if_pos h) (Ev.now _)
  refine Ev.congr (fun k => if_neg h) ?_
  have hsm := linesR_small s (by omega)
  refine Ev.bind (lines_ev s (by omega)) ?_
  rcases LR_parts (spl 10 s.data.toList) with hg | ⟨a, x, b, he, ha, hx⟩
  · have hR : linesR s = (goodL (spl 10 s.data.toList), 0, 0) := by
      unfold linesR
      rw [LR_good hg]
      rfl
    rw [hR] at hsm ⊢
    have hlen := len_again s.data.toList
    rw [data_size] at hlen
    generalize hL : goodL (spl 10 s.data.toList) = L at hsm hlen
    have hm : ∀ ws ∈ L, ws ≠ [] ∧ ∀ w ∈ ws, okw w = true ∧ w ≠ [] := by
      intro ws hw
      rw [← hL] at hw
      exact goodL_mem hg hw
    rw [outR_ok]
    refine Ev.congr (fun k => if_pos rfl) ?_
    simp only [join_f L hsm (by omega), Option.bind_some]
    have hsz : (Bs (joinL L)).size = (joinL L).length := Bs_size _
    have hR2 : linesR (Bs (joinL L)) = (L, 0, 0) := LR_joinL (fun ws hw => (hm ws hw).1) (fun ws hw => (hm ws hw).2)
    have hlv := lines_ev (Bs (joinL L)) (by omega)
    rw [hR2, outR_ok] at hlv
    refine Ev.bind hlv (Ev.congr (fun k => (if_pos rfl).trans (if_pos rfl)) ?_)
    refine Ev.bind (same_conv L L hsm) ?_
    rw [decide_eq_true rfl]
    refine Ev.congr (f := fun _ => some true) (fun k => ?_) (Ev.now _)
    rw [if_pos rfl, join_f L hsm (by omega), Option.bind_some, if_pos rfl]
    congr 1
    rw [decide_eq_true_eq]
    unfold wrap64
    omega
  · have hR : linesR s = ([], 0 + a.length + 1, 4) := by
      unfold linesR
      rw [he, LR_bad ha 0 [] x hx b]
    rw [hR]
    refine Ev.congr (f := fun _ => some true) (fun k => ?_) (Ev.now _)
    rw [if_neg (show ¬ (outR (([] : List (List (List UInt8))), 0 + a.length + 1, 4)).2.2 = 0 from by show ¬ ((4 : Nat) : Int) = 0; omega)]
    rfl

/-! ### Counting newlines -/
theorem count_at {s : List UInt8} {i : Nat} {c : UInt8} (h : s[i]? = some c) : (s.drop i).count 10 = (if c = 10 then 1 else 0) + (s.drop (i + 1)).count 10 := by
  obtain ⟨hl, hc⟩ := List.getElem?_eq_some_iff.1 h
  rw [List.drop_eq_getElem_cons hl, hc]
  by_cases e : c = 10
  · rw [if_pos e, e, List.count_cons_self]; omega
  · rw [if_neg e, List.count_cons_of_ne e]; omega
theorem byte_ten (c : UInt8) : ((c.toNat : Int) = 10) ↔ c = 10 := by
  constructor
  · intro h; exact UInt8.toNat_inj.1 (by show c.toNat = 10; omega)
  · rintro rfl; rfl
theorem two_l0 (s : List UInt8) (hs : s.length ≤ 100000) (x5 : List (List ByteArray)) (x6 x7 : Int) (x8 : List (List ByteArray)) (x9 x10 : Int) (x11 : List (List ByteArray)) (x12 x13 : Int) :
    ∀ (d i : Nat), i + d = s.length → ∀ m : Nat, m ≤ i + 1 → ∀ r, Ev (fun k => lockstitchlaw02_WordTwo.l0 k (Bs s) x5 x6 x7 x8 x9 x10 x11 x12 x13 ((m + (s.drop i).count 10 : Nat) : Int) ((s.length : Nat) : Int) ((s.length : Nat) : Int)) r →
      Ev (fun k => lockstitchlaw02_WordTwo.l0 k (Bs s) x5 x6 x7 x8 x9 x10 x11 x12 x13 ((m : Nat) : Int) ((s.length : Nat) : Int) (i : Int)) r
  | 0, i, hi, m, hm, r, hr => by
    obtain rfl : i = s.length := by omega
    rw [List.drop_length] at hr
    exact hr
  | d + 1, i, hi, m, hm, r, hr => by
    have hlt : i < s.length := by omega
    have hc : s[i]? = some s[i] := List.getElem?_eq_getElem hlt
    generalize s[i] = c at hc
    have hb := bt_Bs s i c hc
    rw [count_at hc] at hr
    by_cases e : c = 10
    · rw [if_pos e] at hr
      have h := two_l0 s hs x5 x6 x7 x8 x9 x10 x11 x12 x13 d (i + 1) (by omega) (m + 1) (by omega) r (by rw [show m + 1 + (s.drop (i + 1)).count 10 = m + (1 + (s.drop (i + 1)).count 10) from by omega]; exact hr)
      refine Ev.step (fun k => ?_) h
      conv => lhs; simp only [lockstitchlaw02_WordTwo.l0]
      rw [Bs_size, if_pos (by omega), if_pos (by omega), if_pos (by omega), hb, if_pos ((byte_ten c).2 e), wrap_nat m (by omega), wrap_nat i (by omega)]
    · rw [if_neg e, Nat.zero_add] at hr
      have h := two_l0 s hs x5 x6 x7 x8 x9 x10 x11 x12 x13 d (i + 1) (by omega) m (by omega) r hr
      refine Ev.step (fun k => ?_) h
      conv => lhs; simp only [lockstitchlaw02_WordTwo.l0]
      rw [Bs_size, if_pos (by omega), if_pos (by omega), if_pos (by omega), hb, if_neg (fun h => e ((byte_ten c).1 h)), wrap_nat i (by omega)]
theorem LR_n {n : Nat} {acc : List (List (List UInt8))} {xs : List (List UInt8)} (a : List (List UInt8)) (x : List UInt8) (b : List (List UInt8)) (he : xs = a ++ x :: b) (ha : ∀ y ∈ a, okL y = true) (hx : okL x = false) : LR n acc xs = ([], n + a.length + 1, 4) := by
  rw [he, LR_bad ha n acc x hx b]
theorem app_two (s t : ByteArray) : (s ++ (⟨#[10]⟩ : ByteArray)) ++ t = Bs (s.data.toList ++ 10 :: t.data.toList) := by
  have h : ((s ++ (⟨#[10]⟩ : ByteArray)) ++ t).data.toList = s.data.toList ++ 10 :: t.data.toList := by
    rw [ByteArray.data_append, ByteArray.data_append]
    simp
  rw [← Bs_data ((s ++ (⟨#[10]⟩ : ByteArray)) ++ t), h]
theorem wordTwo_law (s t : ByteArray) : Ev (fun k => lockstitchlaw02_WordTwo.f k s t) true := by
  unfold lockstitchlaw02_WordTwo.f
  refine Ev.bind alive_ev (Ev.congr (fun k => if_pos rfl) ?_)
  by_cases h : (s.size : Int) > 3000
  · refine Ev.congr (fun k => if_pos h) ?_
    exact Ev.step (f := fun _ => some _) (fun k => by simp only [lockstitchlaw02_WordTwo.j0]; rw [if_pos trivial]) (Ev.now _)
  refine Ev.congr (fun k => if_neg h) ?_
  by_cases h2 : (t.size : Int) > 3000
  · rw [decide_eq_true h2]
    exact Ev.step (f := fun _ => some _) (fun k => by simp only [lockstitchlaw02_WordTwo.j0]; rw [if_pos trivial]) (Ev.now _)
  rw [decide_eq_false h2]
  have hds := data_size s
  have hdt := data_size t
  have hsz : (Bs (s.data.toList ++ 10 :: t.data.toList)).size = s.size + 1 + t.size := by
    rw [Bs_size, List.length_append, List.length_cons]; omega
  have hsm := linesR_small s (by omega)
  have hsmc := linesR_small (Bs (s.data.toList ++ 10 :: t.data.toList)) (by omega)
  have key : ∀ r, Ev (fun k => lockstitchlaw02_WordTwo.l0 k s (outR (linesR s)).1 (outR (linesR s)).2.1 (outR (linesR s)).2.2 (outR (linesR t)).1 (outR (linesR t)).2.1 (outR (linesR t)).2.2 (outR (linesR (Bs (s.data.toList ++ 10 :: t.data.toList)))).1 (outR (linesR (Bs (s.data.toList ++ 10 :: t.data.toList)))).2.1 (outR (linesR (Bs (s.data.toList ++ 10 :: t.data.toList)))).2.2 (((spl 10 s.data.toList).length : Nat) : Int) ((s.data.toList.length : Nat) : Int) ((s.data.toList.length : Nat) : Int)) r →
      Ev (fun k => lockstitchlaw02_WordTwo.j0 k s t false) r := by
    intro r hr
    refine Ev.step (fun k => by simp only [lockstitchlaw02_WordTwo.j0]; rw [if_neg (by simp)]) ?_
    refine Ev.bind (lines_ev s (by omega)) (Ev.bind (lines_ev t (by omega)) ?_)
    have e0 : (s ++ (⟨#[10]⟩ : ByteArray)).size = s.size + 1 := by rw [ByteArray.size_append]; rfl
    refine Ev.congr (fun k => (if_pos (by omega)).trans (if_pos (by rw [e0]; omega))) ?_
    rw [app_two]
    refine Ev.bind (lines_ev _ (by omega)) ?_
    have h0 := two_l0 s.data.toList (by omega) (outR (linesR s)).1 (outR (linesR s)).2.1 (outR (linesR s)).2.2 (outR (linesR t)).1 (outR (linesR t)).2.1 (outR (linesR t)).2.2 (outR (linesR (Bs (s.data.toList ++ 10 :: t.data.toList)))).1 (outR (linesR (Bs (s.data.toList ++ 10 :: t.data.toList)))).2.1 (outR (linesR (Bs (s.data.toList ++ 10 :: t.data.toList)))).2.2 s.data.toList.length 0 (Nat.zero_add _) 1 (Nat.le_refl _) r
    rw [List.drop_zero, Bs_data] at h0
    rw [spl_length, Nat.add_comm] at hr
    have h1 := h0 hr
    rw [hds] at h1
    exact h1
  refine key _ ?_
  have hc : linesR (Bs (s.data.toList ++ 10 :: t.data.toList)) = LR 0 [] (spl 10 s.data.toList ++ spl 10 t.data.toList) := by
    show LR 0 [] (spl 10 (s.data.toList ++ 10 :: t.data.toList)) = _
    rw [spl_sep]
  rcases LR_parts (spl 10 s.data.toList) with hg | ⟨a, x, b, he, ha, hx⟩
  · have hR : linesR s = (goodL (spl 10 s.data.toList), 0, 0) := by
      unfold linesR
      rw [LR_good hg]
      rfl
    rw [LR_app hg] at hc
    rcases LR_parts (spl 10 t.data.toList) with hg2 | ⟨a, x, b, he, ha, hx⟩
    · have hR2 : linesR t = (goodL (spl 10 t.data.toList), 0, 0) := by
        unfold linesR
        rw [LR_good hg2]
        rfl
      rw [LR_good hg2, List.nil_append] at hc
      have hsm2 := linesR_small t (by omega)
      rw [hR] at hsm
      rw [hR2] at hsm2
      rw [hc] at hsmc
      rw [hR, hR2, hc, outR_ok, outR_ok, outR_ok]
      refine Ev.step (f := fun k => (lockstitchlaw02_Same.f k (conv (goodL (spl 10 s.data.toList) ++ goodL (spl 10 t.data.toList))) (([] ++ conv (goodL (spl 10 s.data.toList))) ++ conv (goodL (spl 10 t.data.toList)))).bind fun t295 => some t295) (fun k => ?_) ?_
      · conv => lhs; simp only [lockstitchlaw02_WordTwo.l0]
        have l1 : (goodL (spl 10 s.data.toList)).length ≤ 1000000 := hsm.1
        have l2 : (goodL (spl 10 t.data.toList)).length ≤ 1000000 := hsm2.1
        rw [if_neg (by omega), if_pos trivial, if_pos trivial, if_pos trivial, if_pos trivial, if_pos (by rw [conv_length]; simp only [List.length_nil]; omega)]
        simp only [Option.bind_some]
        rw [if_pos (by simp only [List.nil_append, conv_length]; omega)]
      · rw [List.nil_append, ← conv_app]
        refine Ev.bind (same_conv _ _ hsmc) ?_
        rw [decide_eq_true rfl]
        exact Ev.now _
    · have hR2 : linesR t = ([], 0 + a.length + 1, 4) := LR_n a x b he ha hx
      have hc2 : linesR (Bs (s.data.toList ++ 10 :: t.data.toList)) = ([], 0 + (spl 10 s.data.toList).length + a.length + 1, 4) := by
        rw [hc]
        exact LR_n a x b he ha hx
      rw [hR, hR2, hc2, outR_ok]
      refine Ev.step (f := fun _ => some true) (fun k => ?_) (Ev.now _)
      have hal : a.length ≤ 3001 := by
        have h1 := spl_len_le 10 t.data.toList
        rw [he, List.length_append] at h1
        omega
      have hsl := spl_len_le 10 s.data.toList
      conv => lhs; simp only [lockstitchlaw02_WordTwo.l0, outR]
      rw [if_neg (by omega), if_pos trivial, if_neg (by decide), if_pos trivial]
      congr 1
      rw [beq_iff_eq]
      unfold wrap64
      omega
  · have hR : linesR s = ([], 0 + a.length + 1, 4) := LR_n a x b he ha hx
    have hc2 : linesR (Bs (s.data.toList ++ 10 :: t.data.toList)) = ([], 0 + a.length + 1, 4) := by
      rw [hc]
      exact LR_n a x (b ++ spl 10 t.data.toList) (by rw [he]; simp) ha hx
    rw [hR, hc2]
    refine Ev.step (f := fun _ => some true) (fun k => ?_) (Ev.now _)
    conv => lhs; simp only [lockstitchlaw02_WordTwo.l0, outR]
    rw [if_neg (by omega), if_neg (by decide), if_pos trivial]
    simp
end Go.Proofs.YtkhdcihjlobhfaaDoor.P
