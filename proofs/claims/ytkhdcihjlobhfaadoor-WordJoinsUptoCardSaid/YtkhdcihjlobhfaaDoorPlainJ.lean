/-
  PLAIN LEAN: lines as a text, by the document and by the program; the law WordJoins for lines that are not past all bounds.
-/
import Derived.Test.YtkhdcihjlobhfaaDoorPlainE
import Derived.Test.YtkhdcihjlobhfaaDoorPx6
namespace Go.Proofs.YtkhdcihjlobhfaaDoor.P
open Go Go.RowKit Go.Proofs.YtkhdcihjlobhfaaDoorW.PrintWords Go.Proofs.YtkhdcihjlobhfaaDoorW.PrintLast Go.Proofs.YtkhdcihjlobhfaaDoorW.PrintMore

/-- How much there is of words, of lines. -/
def totW (x : List (List UInt8)) : Nat := (x.map fun w => w.length + 1).sum
def tot (L : List (List (List UInt8))) : Nat := (L.map fun x => totW x + 1).sum
theorem totW_cons (w : List UInt8) (x : List (List UInt8)) : totW (w :: x) = w.length + 1 + totW x := by simp [totW]
theorem tot_cons (x : List (List UInt8)) (L : List (List (List UInt8))) : tot (x :: L) = totW x + 1 + tot L := by simp [tot]
theorem len_totW (x : List (List UInt8)) : x.length ≤ totW x := by
  induction x with
  | nil => simp [totW]
  | cons w r ih => rw [totW_cons, List.length_cons]; omega
theorem mem_totW {x : List (List UInt8)} {w : List UInt8} (h : w ∈ x) : w.length + 1 ≤ totW x := by
  induction x with
  | nil => cases h
  | cons y r ih =>
    rw [totW_cons]
    rcases List.mem_cons.1 h with rfl | h
    · omega
    · have := ih h; omega
theorem len_tot (L : List (List (List UInt8))) : L.length ≤ tot L := by
  induction L with
  | nil => simp [tot]
  | cons x r ih => rw [tot_cons, List.length_cons]; omega
theorem mem_tot {L : List (List (List UInt8))} {x : List (List UInt8)} (h : x ∈ L) : totW x + 1 ≤ tot L := by
  induction L with
  | nil => cases h
  | cons y r ih =>
    rw [tot_cons]
    rcases List.mem_cons.1 h with rfl | h
    · omega
    · have := ih h; omega
theorem len_tail_le (x : List (List UInt8)) : (Lib.joinTail [32] x).length = totW x := len_joinTail x
theorem len_join_le (x : List (List UInt8)) : (Lib.join x [32]).length ≤ totW x := by
  cases x with
  | nil => simp [Lib.join_nil]
  | cons w r => rw [Lib.join_cons, List.length_append, len_tail_le, totW_cons]; omega
theorem joinL_cons (x : List (List UInt8)) (L : List (List (List UInt8))) : joinL (x :: L) = Lib.join x [32] ++ 10 :: joinL L := by simp [joinL]
theorem len_joinL (L : List (List (List UInt8))) : (joinL L).length ≤ tot L := by
  induction L with
  | nil => simp [joinL]
  | cons x r ih =>
    rw [joinL_cons, tot_cons, List.length_append, List.length_cons]
    have := len_join_le x
    omega
theorem rd_conv (L : List (List (List UInt8))) (i : Nat) (x : List (List UInt8)) (h : L[i]? = some x) : rd_L1 (conv L) (i : Int) = x.map Bs := by
  refine rd_L1_at _ i _ ?_
  unfold conv
  rw [List.getElem?_map, h]
  rfl
theorem tot_drop (L : List (List (List UInt8))) (i : Nat) : tot (L.drop i) ≤ tot L := by
  induction L generalizing i with
  | nil => simp
  | cons x r ih =>
    cases i with
    | zero => simp
    | succ i => rw [List.drop_succ_cons, tot_cons]; have := ih i; omega
theorem totW_drop (L : List (List UInt8)) (i : Nat) : totW (L.drop i) ≤ totW L := by
  induction L generalizing i with
  | nil => simp
  | cons x r ih =>
    cases i with
    | zero => simp
    | succ i => rw [List.drop_succ_cons, totW_cons]; have := ih i; omega

/-! ### few -/
theorem few_l1 (L : List (List (List UInt8))) (n : Int) (i : Nat) (hi : i < 2000000) (x : List (List UInt8)) (hx : totW x ≤ 2000000) :
    ∀ (d j : Nat), j + d = x.length → ∀ m : Nat, m + totW (x.drop j) ≤ 4000000 → ∀ r, Ev (fun k => lockstitchlaw02_few.l0 k ((m + totW (x.drop j) + 1 : Nat) : Int) (conv L) n ((i + 1 : Nat) : Int)) r →
      Ev (fun k => lockstitchlaw02_few.l1 k ((m : Nat) : Int) (conv L) n (i : Int) (x.map Bs) ((x.length : Nat) : Int) (j : Int)) r
  | 0, j, hj, m, hm, r, hr => by
    rw [List.drop_eq_nil_of_le (by omega)] at hr hm
    have e : totW [] = 0 := rfl
    rw [e] at hr hm
    refine Ev.step (fun k => ?_) hr
    conv => lhs; simp only [lockstitchlaw02_few.l1]
    rw [if_neg (by omega), wrap_nat i (by omega), wrap_nat m (by omega)]
  | d + 1, j, hj, m, hm, r, hr => by
    have hlt : j < x.length := by omega
    have hw : x[j]? = some x[j] := List.getElem?_eq_getElem hlt
    have hdr : x.drop j = x[j] :: x.drop (j + 1) := List.drop_eq_getElem_cons hlt
    have hxl := len_totW x
    generalize x[j] = w at hw hdr
    rw [hdr, totW_cons] at hr hm
    have ih := few_l1 L n i hi x hx d (j + 1) (by omega) (m + (w.length + 1)) (by omega) r (by rw [show m + (w.length + 1) + totW (x.drop (j + 1)) + 1 = m + (w.length + 1 + totW (x.drop (j + 1))) + 1 from by omega]; exact hr)
    refine Ev.step (fun k => ?_) ih
    conv => lhs; simp only [lockstitchlaw02_few.l1]
    have e1 : wrap64 (((Bs w).size : Int) + 1) = ((w.length + 1 : Nat) : Int) := by rw [Bs_size]; exact wrap_nat _ (by omega)
    have e2 : wrap64 (((m : Nat) : Int) + ((w.length + 1 : Nat) : Int)) = ((m + (w.length + 1) : Nat) : Int) := by unfold wrap64; omega
    rw [if_pos (by omega), if_pos (by omega), if_pos (by rw [List.length_map]; omega), rd_Bs x j w hw, e1, e2, wrap_nat j (by omega)]
theorem few_l0 (L : List (List (List UInt8))) (hL : tot L ≤ 1048576) : ∀ (d i : Nat), i + d = L.length → ∀ m : Nat, m + tot (L.drop i) ≤ 2000000 →
    Ev (fun k => lockstitchlaw02_few.l0 k ((m : Nat) : Int) (conv L) ((L.length : Nat) : Int) (i : Int)) (decide (m + tot (L.drop i) ≤ 3000))
  | 0, i, hi, m, hm => by
    rw [List.drop_eq_nil_of_le (by omega)]
    refine Ev.step (f := fun _ => some _) (fun k => ?_) (Ev.now _)
    simp only [lockstitchlaw02_few.l0]
    rw [if_neg (by omega)]
    congr 1
    have e : tot [] = 0 := rfl
    rw [e]
    exact decide_eq_decide.2 (by omega)
  | d + 1, i, hi, m, hm => by
    have hlt : i < L.length := by omega
    have hw : L[i]? = some L[i] := List.getElem?_eq_getElem hlt
    have hdr : L.drop i = L[i] :: L.drop (i + 1) := List.drop_eq_getElem_cons hlt
    have hmem := mem_tot (List.getElem_mem hlt)
    have hll := len_tot L
    generalize L[i] = x at hw hdr hmem
    rw [hdr, tot_cons] at hm ⊢
    have ih := few_l0 L hL d (i + 1) (by omega) (m + totW x + 1) (by omega)
    have e : decide (m + totW x + 1 + tot (L.drop (i + 1)) ≤ 3000) = decide (m + (totW x + 1 + tot (L.drop (i + 1))) ≤ 3000) := decide_eq_decide.2 (by omega)
    rw [e] at ih
    have h1 := few_l1 L ((L.length : Nat) : Int) i (by omega) x (by omega) x.length 0 (Nat.zero_add _) m (by rw [List.drop_zero]; omega) _ (by rw [List.drop_zero]; exact ih)
    refine Ev.step (fun k => ?_) h1
    conv => lhs; simp only [lockstitchlaw02_few.l0]
    rw [if_pos (by omega), if_pos (by omega), if_pos (by rw [conv_length]; omega), rd_conv L i x hw, List.length_map]
    rfl
theorem few_ev (L : List (List (List UInt8))) (hL : tot L ≤ 1048576) : Ev (fun k => lockstitchlaw02_few.f k (conv L)) (decide (tot L ≤ 3000)) := by
  have h := few_l0 L hL L.length 0 (Nat.zero_add _) 0 (by rw [List.drop_zero]; omega)
  rw [List.drop_zero, Nat.zero_add] at h
  refine Ev.congr (fun k => ?_) h
  unfold lockstitchlaw02_few.f
  rw [conv_length]
  rfl

/-! ### The document's Join -/
def restJ (x : List (List UInt8)) (j : Nat) : List UInt8 := if j = 0 then Lib.join x [32] else Lib.joinTail [32] (x.drop j)
theorem restJ_step {x : List (List UInt8)} {j : Nat} {w : List UInt8} (h : x[j]? = some w) : restJ x j = (if 0 < j then [32] else []) ++ w ++ restJ x (j + 1) := by
  obtain ⟨hl, hw⟩ := List.getElem?_eq_some_iff.1 h
  have hdr : x.drop j = w :: x.drop (j + 1) := by rw [List.drop_eq_getElem_cons hl, hw]
  unfold restJ
  rw [if_neg (by omega : ¬ j + 1 = 0)]
  by_cases e : j = 0
  · subst e
    rw [List.drop_zero] at hdr
    rw [if_pos rfl, if_neg (by omega), List.nil_append]
    conv => lhs; rw [hdr, Lib.join_cons]
  · rw [if_neg e, if_pos (by omega), hdr]
    simp [Lib.joinTail]
theorem rj_l1 (L : List (List (List UInt8))) (i : Nat) (x : List (List UInt8)) (hx : L[i]? = some x) (hi : i < 2000000) (hb : totW x ≤ 2000000) :
    ∀ (d j : Nat), j + d = x.length → ∀ o : List UInt8, o.length ≤ 4000000 → ∀ r, (∀ o' : List UInt8, o' = o ++ restJ x j ++ [10] → Ev (fun k => lockstitchref02_Join.l0 k (conv L) (Bs o') ((i + 1 : Nat) : Int)) r) →
      o.length + (restJ x j).length ≤ 4000000 → Ev (fun k => lockstitchref02_Join.l1 k (conv L) (Bs o) (i : Int) (j : Int)) r
  | 0, j, hj, o, ho, r, hr, hlen => by
    have e : restJ x j = [] := by
      unfold restJ
      by_cases e : j = 0
      · subst e
        have : x = [] := List.length_eq_zero_iff.1 (by omega)
        rw [if_pos rfl, this]
        rfl
      · rw [if_neg e, List.drop_eq_nil_of_le (by omega)]
        rfl
    have hil : i < L.length := (List.getElem?_eq_some_iff.1 hx).1
    refine Ev.step (fun k => ?_) (hr (o ++ [10]) (by rw [e, List.append_nil]))
    conv => lhs; simp only [lockstitchref02_Join.l1]
    rw [rd_conv L i x hx, if_pos (by omega), if_pos (by rw [conv_length]; omega), List.length_map, if_neg (by omega), Bs_size, if_pos (by omega), wrap_nat i (by omega), show (⟨#[10]⟩ : ByteArray) = Bs [10] from rfl, Bs_app]
  | d + 1, j, hj, o, ho, r, hr, hlen => by
    have hlt : j < x.length := by omega
    have hw : x[j]? = some x[j] := List.getElem?_eq_getElem hlt
    have hm := mem_totW (List.getElem_mem hlt)
    have hxl := len_totW x
    generalize x[j] = w at hw hm
    have hil : i < L.length := (List.getElem?_eq_some_iff.1 hx).1
    rw [restJ_step hw] at hr hlen
    simp only [List.length_append] at hlen
    by_cases e : 0 < j
    · rw [if_pos e] at hr hlen
      have ih := rj_l1 L i x hx hi hb d (j + 1) (by omega) (o ++ [32] ++ w) (by simp only [List.length_append, List.length_cons, List.length_nil] at hlen ⊢; omega) r (fun o' h' => hr o' (by rw [h']; simp)) (by simp only [List.length_append, List.length_cons, List.length_nil] at hlen ⊢; omega)
      refine Ev.step (fun k => ?_) ih
      conv => lhs; simp only [lockstitchref02_Join.l1]
      simp only [List.length_cons, List.length_nil] at hlen
      have e32 : Bs o ++ (⟨#[32]⟩ : ByteArray) = Bs (o ++ [32]) := Bs_app o [32]
      rw [rd_conv L i x hx, rd_Bs x j w hw, e32, Bs_app, Bs_size, Bs_size, Bs_size, List.length_map, if_pos (by omega), if_pos (by rw [conv_length]; omega), if_pos (by omega), if_pos (by omega), if_pos (by omega), if_pos (by omega), if_pos (by simp only [List.length_append, List.length_cons, List.length_nil]; omega), wrap_nat j (by omega)]
    · rw [if_neg e] at hr hlen
      have ih := rj_l1 L i x hx hi hb d (j + 1) (by omega) (o ++ w) (by simp only [List.length_append, List.length_nil] at hlen ⊢; omega) r (fun o' h' => hr o' (by rw [h']; simp)) (by simp only [List.length_append, List.length_nil] at hlen ⊢; omega)
      refine Ev.step (fun k => ?_) ih
      conv => lhs; simp only [lockstitchref02_Join.l1]
      simp only [List.length_nil] at hlen
      rw [rd_conv L i x hx, rd_Bs x j w hw, Bs_app, Bs_size, Bs_size, List.length_map, if_pos (by omega), if_pos (by rw [conv_length]; omega), if_pos (by omega), if_neg (by omega), if_pos (by omega), if_pos (by omega), wrap_nat j (by omega)]
theorem rj_l0 (L : List (List (List UInt8))) (hL : tot L ≤ 1048576) : ∀ (d i : Nat), i + d = L.length → ∀ o : List UInt8, o.length + tot (L.drop i) ≤ 2000000 →
    Ev (fun k => lockstitchref02_Join.l0 k (conv L) (Bs o) (i : Int)) (Bs (o ++ joinL (L.drop i)))
  | 0, i, hi, o, ho => by
    rw [List.drop_eq_nil_of_le (by omega)]
    refine Ev.step (f := fun _ => some _) (fun k => ?_) (Ev.now _)
    simp only [lockstitchref02_Join.l0]
    rw [conv_length, if_neg (by omega)]
    simp [joinL]
  | d + 1, i, hi, o, ho => by
    have hlt : i < L.length := by omega
    have hw : L[i]? = some L[i] := List.getElem?_eq_getElem hlt
    have hdr : L.drop i = L[i] :: L.drop (i + 1) := List.drop_eq_getElem_cons hlt
    have hmem := mem_tot (List.getElem_mem hlt)
    have hll := len_tot L
    generalize L[i] = x at hw hdr hmem
    rw [hdr, tot_cons] at ho
    rw [hdr, joinL_cons]
    have hjl := len_join_le x
    have e0 : restJ x 0 = Lib.join x [32] := if_pos rfl
    have h1 := rj_l1 L i x hw (by omega) (by omega) x.length 0 (Nat.zero_add _) o (by omega) (Bs (o ++ (Lib.join x [32] ++ 10 :: joinL (L.drop (i + 1))))) (fun o' h' => by
      have ih := rj_l0 L hL d (i + 1) (by omega) o' (by rw [h', e0]; simp only [List.length_append, List.length_cons, List.length_nil]; omega)
      have e : o' ++ joinL (L.drop (i + 1)) = o ++ (Lib.join x [32] ++ 10 :: joinL (L.drop (i + 1))) := by rw [h', e0]; simp
      rw [e] at ih
      exact ih) (by rw [e0]; omega)
    refine Ev.step (fun k => ?_) h1
    conv => lhs; simp only [lockstitchref02_Join.l0]
    rw [conv_length, if_pos (by omega)]
    rfl
theorem rjoin_ev (L : List (List (List UInt8))) (hL : tot L ≤ 1048576) : Ev (fun k => lockstitchref02_Join.f k (conv L)) (Bs (joinL L)) := by
  have h := rj_l0 L hL L.length 0 (Nat.zero_add _) [] (by rw [List.drop_zero]; simp only [List.length_nil]; omega)
  rw [List.drop_zero, List.nil_append] at h
  exact h

/-! ### The law -/
theorem wj_l1 (L : List (List (List UInt8))) (s : ByteArray) (n : Int) (i : Nat) (hi : i < 2000000) (x : List (List UInt8)) (hb : totW x ≤ 100000) (x22 : List (List ByteArray)) :
    ∀ (d j : Nat), j + d = x.length → ((x ≠ [] → (∀ w ∈ x.drop j, mayR w = true) → Ev (fun k => lockstitchlaw02_WordJoins.l0 k (conv L) s x22 n ((i + 1 : Nat) : Int)) true)) →
      Ev (fun k => lockstitchlaw02_WordJoins.l1 k (conv L) s (x.map Bs) x22 n (i : Int) (x.map Bs) ((x.length : Nat) : Int) (j : Int)) true
  | 0, j, hj, h => by
    by_cases e : x = []
    · subst e
      refine Ev.step (f := fun _ => some true) (fun k => ?_) (Ev.now _)
      conv => lhs; simp only [lockstitchlaw02_WordJoins.l1]
      rw [if_neg (by simp only [List.length_nil]; omega), if_pos (by simp)]
    · have hp : 0 < x.length := List.length_pos_iff.2 e
      refine Ev.step (fun k => ?_) (h e (by rw [List.drop_eq_nil_of_le (by omega)]; simp))
      conv => lhs; simp only [lockstitchlaw02_WordJoins.l1]
      rw [if_neg (by omega), List.length_map, if_neg (by omega), wrap_nat i (by omega)]
  | d + 1, j, hj, h => by
    have hlt : j < x.length := by omega
    have hw : x[j]? = some x[j] := List.getElem?_eq_getElem hlt
    have hdr : x.drop j = x[j] :: x.drop (j + 1) := List.drop_eq_getElem_cons hlt
    have hm := mem_totW (List.getElem_mem hlt)
    have hxl := len_totW x
    generalize x[j] = w at hw hm hdr
    have unf : ∀ k, lockstitchlaw02_WordJoins.l1 (k + 1) (conv L) s (x.map Bs) x22 n (i : Int) (x.map Bs) ((x.length : Nat) : Int) (j : Int) = (lockstitchref02_May.f k (Bs w)).bind fun t215 => if t215 = true then lockstitchlaw02_WordJoins.l1 k (conv L) s (x.map Bs) x22 n (i : Int) (x.map Bs) ((x.length : Nat) : Int) ((j + 1 : Nat) : Int) else some true := by
      intro k
      conv => lhs; simp only [lockstitchlaw02_WordJoins.l1]
      rw [if_pos (by omega), if_pos (by omega), if_pos (by rw [List.length_map]; omega), rd_Bs x j w hw, wrap_nat j (by omega)]
    have hmay := may_ev w (by omega)
    cases ho : mayR w with
    | true =>
      rw [ho] at hmay
      refine Ev.step unf (Ev.bind hmay (Ev.congr (fun k => if_pos rfl) ?_))
      refine wj_l1 L s n i hi x hb x22 d (j + 1) (by omega) fun h1 h2 => h h1 fun y hy => ?_
      rw [hdr] at hy
      rcases List.mem_cons.1 hy with rfl | hy
      · exact ho
      · exact h2 y hy
    | false =>
      rw [ho] at hmay
      refine Ev.step unf (Ev.bind hmay (Ev.congr (f := fun _ => some true) (fun k => if_neg (by simp)) (Ev.now _)))
theorem wj_l0 (L : List (List (List UInt8))) (hL : tot L ≤ 100000) (s : ByteArray) : ∀ (d i : Nat), i + d = L.length →
    ((∀ x ∈ L.drop i, x ≠ [] ∧ ∀ w ∈ x, mayR w = true) → Ev (fun k => lockstitchlaw02_WordJoins.l0 k (conv L) s (conv L) ((L.length : Nat) : Int) ((L.length : Nat) : Int)) true) →
    Ev (fun k => lockstitchlaw02_WordJoins.l0 k (conv L) s (conv L) ((L.length : Nat) : Int) (i : Int)) true
  | 0, i, hi, h => by
    obtain rfl : i = L.length := by omega
    exact h (by rw [List.drop_length]; simp)
  | d + 1, i, hi, h => by
    have hlt : i < L.length := by omega
    have hw : L[i]? = some L[i] := List.getElem?_eq_getElem hlt
    have hdr : L.drop i = L[i] :: L.drop (i + 1) := List.drop_eq_getElem_cons hlt
    have hmem := mem_tot (List.getElem_mem hlt)
    have hll := len_tot L
    generalize L[i] = x at hw hdr hmem
    have h1 := wj_l1 L s ((L.length : Nat) : Int) i (by omega) x (by omega) (conv L) x.length 0 (Nat.zero_add _) (fun hne hmay => by
      refine wj_l0 L hL s d (i + 1) (by omega) fun hrest => h fun y hy => ?_
      rw [hdr] at hy
      rcases List.mem_cons.1 hy with rfl | hy
      · exact ⟨hne, fun w hw => hmay w (by rw [List.drop_zero]; exact hw)⟩
      · exact hrest y hy)
    refine Ev.step (fun k => ?_) h1
    conv => lhs; simp only [lockstitchlaw02_WordJoins.l0]
    rw [if_pos (by omega), if_pos (by omega), if_pos (by rw [conv_length]; omega), rd_conv L i x hw, List.length_map]
    rfl
theorem wordJoins_law (L : List (List (List UInt8))) (hL : tot L ≤ 1048576) : Ev (fun k => lockstitchlaw02_WordJoins.f k (conv L)) true := by
  unfold lockstitchlaw02_WordJoins.f
  refine Ev.bind alive_ev (Ev.congr (fun k => if_pos rfl) ?_)
  refine Ev.bind (few_ev L hL) ?_
  have hll := len_tot L
  have hjl := len_joinL L
  by_cases ht : tot L ≤ 3000
  · have hsm : Small L := ⟨by omega, fun x hx => by have := mem_tot hx; have := len_totW x; omega⟩
    rw [decide_eq_true ht]
    refine Ev.congr (fun k => if_pos rfl) ?_
    rw [join_f L hsm (by omega)]
    simp only [Option.bind_some]
    refine Ev.bind (rjoin_ev L hL) (Ev.congr (fun k => if_pos rfl) ?_)
    have h0 := wj_l0 L (by omega) (Bs (joinL L)) L.length 0 (Nat.zero_add _) (fun hall => by
      rw [List.drop_zero] at hall
      have hok : ∀ ws ∈ L, ∀ w ∈ ws, okw w = true ∧ w ≠ [] := by
        intro ws hs w hw
        have hm := (hall ws hs).2 w hw
        have hne : w ≠ [] := by
          rintro rfl
          simp [mayR] at hm
        rw [mayR_ok hne] at hm
        exact ⟨hm, hne⟩
      have hR : linesR (Bs (joinL L)) = (L, 0, 0) := LR_joinL (fun ws hs => (hall ws hs).1) hok
      have hev := lines_ev (Bs (joinL L)) (by rw [Bs_size]; omega)
      rw [hR, outR_ok] at hev
      refine Ev.step (f := fun k => (word_Lines.f k (Bs (joinL L))).bind fun bt207 => (lockstitchlaw02_Same.f k bt207.1 (conv L)).bind fun t212 => if t212 = true then (if bt207.2.1 = 0 then some (bt207.2.2 == 0) else some false) else some false) (fun k => ?_) ?_
      · conv => lhs; simp only [lockstitchlaw02_WordJoins.l0]
        rw [if_neg (by omega)]
      · refine Ev.bind hev (Ev.bind (same_conv L L hsm) ?_)
        rw [decide_eq_true rfl]
        exact Ev.congr (f := fun _ => some true) (fun k => rfl) (Ev.now _))
    rw [← conv_length L] at h0
    exact h0
  · rw [decide_eq_false ht]
    exact Ev.congr (f := fun _ => some true) (fun k => if_neg (by simp)) (Ev.now _)
end Go.Proofs.YtkhdcihjlobhfaaDoor.P
