/-
  PLAIN LEAN: what the document's Lines, the comparison, and the answers that are fixed come to; the law WordLines.
-/
import Derived.Test.YtkhdcihjlobhfaaDoorPlainB
namespace Go.Proofs.YtkhdcihjlobhfaaDoor.P
open Go Go.RowKit Go.Proofs.YtkhdcihjlobhfaaDoorW.PrintWords Go.Proofs.YtkhdcihjlobhfaaDoorW.PrintLast Go.Proofs.YtkhdcihjlobhfaaDoorW.PrintMore

/-! ### The document's May -/
theorem may_chain (c : UInt8) (X : Option Bool) :
    (if (c.toNat : Int) ≥ 97 then (if (c.toNat : Int) ≤ 122 then X else (if (c.toNat : Int) ≥ 48 then (if (c.toNat : Int) ≤ 57 then X else (if ((c.toNat : Int) = 45) then X else (some false))) else (if ((c.toNat : Int) = 45) then X else (some false)))) else (if (c.toNat : Int) ≥ 48 then (if (c.toNat : Int) ≤ 57 then X else (if ((c.toNat : Int) = 45) then X else (some false))) else (if ((c.toNat : Int) = 45) then X else (some false)))) = if okc c = true then X else some false := by
  unfold okc
  simp only [Bool.or_eq_true, decide_eq_true_eq]
  by_cases h1 : 97 ≤ c.toNat <;> by_cases h2 : c.toNat ≤ 122 <;> by_cases h3 : 48 ≤ c.toNat <;> by_cases h4 : c.toNat ≤ 57 <;> by_cases h5 : c.toNat = 45
  all_goals first
    | omega
    | (repeat' split) <;> first | rfl | omega
theorem may_l0 (w : List UInt8) (hw : w.length ≤ 1000000) : ∀ (d i : Nat), i + d = w.length →
    Ev (fun k => lockstitchref02_May.l0 k (Bs w) (i : Int)) ((w.drop i).all okc && decide (1 ≤ w.length) && decide (w.length ≤ 30))
  | 0, i, hi => by
    rw [List.drop_eq_nil_of_le (by omega)]
    refine Ev.step (f := fun _ => some _) (fun k => ?_) (Ev.now _)
    simp only [lockstitchref02_May.l0]
    rw [Bs_size, if_neg (by omega)]
    simp only [List.all_nil, Bool.true_and]
    by_cases h1 : 1 ≤ w.length
    · rw [if_pos (by omega), decide_eq_true h1, Bool.true_and]
      congr 1
      exact decide_eq_decide.2 (by omega)
    · rw [if_neg (by omega), decide_eq_false h1, Bool.false_and]
  | d + 1, i, hi => by
    have hlt : i < w.length := by omega
    have hc : w[i]? = some w[i] := List.getElem?_eq_getElem hlt
    have hdr : w.drop i = w[i] :: w.drop (i + 1) := List.drop_eq_getElem_cons hlt
    generalize w[i] = c at hc hdr
    have unf : ∀ k, lockstitchref02_May.l0 (k + 1) (Bs w) (i : Int) = if okc c = true then lockstitchref02_May.l0 k (Bs w) ((i + 1 : Nat) : Int) else some false := by
      intro k
      rw [← may_chain c, ← bt_Bs w i c hc, ← wrap_nat i (by omega)]
      conv => lhs; simp only [lockstitchref02_May.l0]
      rw [Bs_size, if_pos (by omega), if_pos (by omega)]
    rw [hdr, List.all_cons]
    cases ho : okc c with
    | true =>
      rw [Bool.true_and]
      exact Ev.step (fun k => by rw [unf k, if_pos ho]) (may_l0 w hw d (i + 1) (by omega))
    | false =>
      simp only [Bool.false_and]
      exact Ev.step (f := fun _ => some _) (fun k => by rw [unf k, if_neg (by rw [ho]; simp)]) (Ev.now _)
def mayR (w : List UInt8) : Bool := w.all okc && decide (1 ≤ w.length) && decide (w.length ≤ 30)
theorem may_ev (w : List UInt8) (hw : w.length ≤ 1000000) : Ev (fun k => lockstitchref02_May.f k (Bs w)) (mayR w) := may_l0 w hw w.length 0 (Nat.zero_add _)
theorem mayR_ok {w : List UInt8} (h : w ≠ []) : mayR w = okw w := by
  have : 1 ≤ w.length := List.length_pos_iff.2 h
  unfold mayR okw
  rw [decide_eq_true this, Bool.and_true, Bool.and_comm]

/-! ### The document's words of a line -/
def lineF (cur : List UInt8) : List UInt8 → List (List UInt8)
  | [] => if cur = [] then [] else [cur]
  | c :: r => if c = 35 then (if cur = [] then [] else [cur]) else if c = 32 then (if cur = [] then [] else [cur]) ++ lineF [] r else lineF (cur ++ [c]) r
theorem lineF_eq (cur l : List UInt8) (h : (32 : UInt8) ∉ cur) : lineF cur l = (spl 32 (cur ++ l.takeWhile (· ≠ 35))).filter (· ≠ []) := by
  have one : ∀ cur : List UInt8, ([cur] : List (List UInt8)).filter (· ≠ []) = if cur = [] then [] else [cur] := by
    intro cur
    by_cases e : cur = [] <;> simp [e]
  induction l generalizing cur with
  | nil =>
    rw [List.takeWhile_nil, List.append_nil, spl_free 32 h, one]
    rfl
  | cons c r ih =>
    rw [List.takeWhile_cons]
    unfold lineF
    by_cases e : c = 35
    · subst e
      simp only [ne_eq, not_true_eq_false, decide_false, Bool.false_eq_true, if_false, if_true]
      rw [List.append_nil, spl_free 32 h, one]
    · have hd : (decide (c ≠ 35)) = true := by simpa using e
      rw [if_neg e, if_pos hd]
      by_cases e2 : c = 32
      · subst e2
        rw [if_pos rfl, spl_sep, List.filter_append, spl_free 32 h, one, ih [] (by simp), List.nil_append]
      · rw [if_neg e2, ih (cur ++ [c]) (by simp only [List.mem_append, List.mem_singleton, not_or]; exact ⟨h, fun e' => e2 e'.symm⟩)]
        simp
theorem lineF_toks (l : List UInt8) : lineF [] l = toks l := by
  rw [lineF_eq [] l (by simp)]
  rfl
theorem extract_one (w : List UInt8) (i : Nat) (c : UInt8) (h : w[i]? = some c) : (Bs w).extract i (i + 1) = Bs [c] := by
  have h1 : ((Bs w).extract i (i + 1)).data.toList = [c] := by
    rw [Lib.extract_data]
    have : (Bs w).data.toList = w := rfl
    obtain ⟨hl, hc⟩ := List.getElem?_eq_some_iff.1 h
    rw [this, List.drop_eq_getElem_cons hl, hc]
    simp
  rw [← Bs_data ((Bs w).extract i (i + 1)), h1]
theorem Bs_app (a b : List UInt8) : Bs a ++ Bs b = Bs (a ++ b) := by
  have : (Bs a ++ Bs b).data.toList = a ++ b := by
    rw [ByteArray.data_append]
    simp [Bs]
  rw [← Bs_data (Bs a ++ Bs b), this]
theorem line_l0 (w : List UInt8) (hw : w.length ≤ 1000000) : ∀ (d i : Nat), i + d = w.length → ∀ (acc : List (List UInt8)) (cur : List UInt8), acc.length ≤ i → cur.length ≤ i →
    Ev (fun k => lockstitchref02_line.l0 k (Bs w) (acc.map Bs) (Bs cur) (i : Int)) ((acc ++ lineF cur (w.drop i)).map Bs)
  | 0, i, hi, acc, cur, ha, hc => by
    rw [List.drop_eq_nil_of_le (by omega)]
    refine Ev.step (f := fun _ => some _) (fun k => ?_) (Ev.now _)
    simp only [lockstitchref02_line.l0]
    rw [Bs_size, if_neg (by omega), Bs_toList]
    unfold lineF
    by_cases e : cur = []
    · rw [if_pos e, if_pos e, List.append_nil]
    · rw [if_neg e, if_neg e, if_pos (by rw [List.length_map]; omega), List.map_append]
      rfl
  | d + 1, i, hi, acc, cur, ha, hcur => by
    have hlt : i < w.length := by omega
    have hc : w[i]? = some w[i] := List.getElem?_eq_getElem hlt
    have hdr : w.drop i = w[i] :: w.drop (i + 1) := List.drop_eq_getElem_cons hlt
    generalize w[i] = c at hc hdr
    have hb := bt_Bs w i c hc
    have hx := extract_one w i c hc
    rw [hdr]
    unfold lineF
    have e0 : Bs ([] : List UInt8) = (⟨#[]⟩ : ByteArray) := rfl
    by_cases e : c = 35
    · subst e
      rw [if_pos rfl]
      refine Ev.step (f := fun _ => some _) (fun k => ?_) (Ev.now _)
      simp only [lockstitchref02_line.l0]
      rw [Bs_size, if_pos (by omega), if_pos (by omega), hb, if_pos (by decide), Bs_toList]
      by_cases e : cur = []
      · rw [if_pos e, if_pos e, List.append_nil]
      · rw [if_neg e, if_neg e, if_pos (by rw [List.length_map]; omega), List.map_append]
        rfl
    · have n35 : ¬ (c.toNat : Int) = 35 := fun h => e (UInt8.toNat_inj.1 (by show c.toNat = 35; omega))
      rw [if_neg e]
      by_cases e2 : c = 32
      · subst e2
        rw [if_pos rfl]
        by_cases e3 : cur = []
        · subst e3
          rw [if_pos rfl, List.nil_append]
          refine Ev.step (fun k => ?_) (line_l0 w hw d (i + 1) (by omega) acc [] (by omega) (by simp))
          conv => lhs; simp only [lockstitchref02_line.l0]
          rw [Bs_size, if_pos (by omega), if_pos (by omega), hb, if_neg (by decide), if_pos (by decide), Bs_toList, if_pos rfl, wrap_nat i (by omega)]
          rfl
        · rw [if_neg e3]
          have := line_l0 w hw d (i + 1) (by omega) (acc ++ [cur]) [] (by rw [List.length_append, List.length_singleton]; omega) (by simp)
          rw [List.append_assoc] at this
          refine Ev.step (fun k => ?_) this
          conv => lhs; simp only [lockstitchref02_line.l0]
          rw [Bs_size, if_pos (by omega), if_pos (by omega), hb, if_neg (by decide), if_pos (by decide), Bs_toList, if_neg e3, if_pos (by rw [List.length_map]; omega), wrap_nat i (by omega), List.map_append]
          rfl
      · have n32 : ¬ (c.toNat : Int) = 32 := fun h => e2 (UInt8.toNat_inj.1 (by show c.toNat = 32; omega))
        rw [if_neg e2]
        have := line_l0 w hw d (i + 1) (by omega) acc (cur ++ [c]) (by omega) (by rw [List.length_append, List.length_singleton]; omega)
        refine Ev.step (fun k => ?_) this
        conv => lhs; simp only [lockstitchref02_line.l0]
        rw [wrap_nat i (by omega)]
        have h1 : ((i : Int)).toNat = i := Int.toNat_natCast i
        have h2 : (((i + 1 : Nat) : Int)).toNat = i + 1 := Int.toNat_natCast (i + 1)
        rw [h1, h2, hx, Bs_size, Bs_size, Bs_size, if_pos (by omega), if_pos (by omega), hb, if_neg n35, if_neg n32, if_pos (by omega), if_pos (by omega), if_pos (by simp only [List.length_singleton]; omega), Bs_app]
theorem line_ev (w : List UInt8) (hw : w.length ≤ 1000000) : Ev (fun k => lockstitchref02_line.f k (Bs w)) ((toks w).map Bs) := by
  have := line_l0 w hw w.length 0 (Nat.zero_add _) [] [] (Nat.le_refl _) (Nat.le_refl _)
  rw [List.drop_zero, lineF_toks, List.nil_append] at this
  exact this

/-! ### The document's Lines -/
theorem rl1_ev (s : List UInt8) (hs : s.length ≤ 100000) (x5 : List (List ByteArray)) (hx5 : x5.length ≤ 1000000) (n i : Nat) (hn : n < 1000000) (hi : i < 1000000) (t : List (List UInt8)) (ht : t.length ≤ 1000000) (h0 : ∀ w ∈ t, w ≠ [] ∧ w.length ≤ 1000000) :
    ∀ (d j : Nat), j + d = t.length →
      (((t.drop j).all okw = false → Ev (fun k => lockstitchref02_Lines.l1 k (Bs s) x5 (n : Int) (i : Int) (t.map Bs) (j : Int)) ([], (n : Int), 4)) ∧
       ((t.drop j).all okw = true → ∀ r, Ev (fun k => lockstitchref02_Lines.l0 k (Bs s) (x5 ++ conv (keep t)) ((i + 1 : Nat) : Int) ((n + 1 : Nat) : Int) ((i + 1 : Nat) : Int)) r →
        Ev (fun k => lockstitchref02_Lines.l1 k (Bs s) x5 (n : Int) (i : Int) (t.map Bs) (j : Int)) r))
  | 0, j, hj => by
    rw [List.drop_eq_nil_of_le (by omega)]
    refine ⟨fun h => by simp at h, fun _ r hr => Ev.step (fun k => ?_) hr⟩
    simp only [lockstitchref02_Lines.l1]
    rw [List.length_map, if_neg (by omega), wrap_nat i (by omega), wrap_nat n (by omega)]
    by_cases e : t = []
    · subst e
      rw [if_neg (by simp)]
      simp [keep, conv]
    · have hp : 0 < t.length := List.length_pos_iff.2 e
      rw [if_pos (by omega), if_pos (by omega)]
      simp [keep, conv, e]
  | d + 1, j, hj => by
    have hlt : j < t.length := by omega
    have hw : t[j]? = some t[j] := List.getElem?_eq_getElem hlt
    have hdr : t.drop j = t[j] :: t.drop (j + 1) := List.drop_eq_getElem_cons hlt
    have hm := h0 t[j] (List.getElem_mem hlt)
    generalize t[j] = w at hw hdr hm
    have ih := rl1_ev s hs x5 hx5 n i hn hi t ht h0 d (j + 1) (by omega)
    have hmay := may_ev w hm.2
    rw [mayR_ok hm.1] at hmay
    have unf : ∀ k, lockstitchref02_Lines.l1 (k + 1) (Bs s) x5 (n : Int) (i : Int) (t.map Bs) (j : Int) = (lockstitchref02_May.f k (Bs w)).bind fun t165 => if t165 = true then lockstitchref02_Lines.l1 k (Bs s) x5 (n : Int) (i : Int) (t.map Bs) ((j + 1 : Nat) : Int) else some ([], (n : Int), 4) := by
      intro k
      conv => lhs; simp only [lockstitchref02_Lines.l1]
      rw [List.length_map, if_pos (by omega), if_pos (by omega), rd_Bs t j w hw, wrap_nat j (by omega)]
    rw [hdr, List.all_cons]
    cases ho : okw w with
    | true =>
      rw [ho] at hmay
      rw [Bool.true_and]
      refine ⟨fun hf => Ev.step unf (Ev.bind hmay ?_), fun htr r hr => Ev.step unf (Ev.bind hmay ?_)⟩
      · exact Ev.congr (fun k => if_pos rfl) (ih.1 hf)
      · exact Ev.congr (fun k => if_pos rfl) (ih.2 htr r hr)
    | false =>
      rw [ho] at hmay
      rw [Bool.false_and]
      refine ⟨fun _ => Ev.step unf (Ev.bind hmay ?_), fun htr => by cases htr⟩
      exact Ev.congr (f := fun _ => some _) (fun k => if_neg (by simp)) (Ev.now _)
theorem extract_Bs (w : List UInt8) (a b : Nat) : (Bs w).extract a b = Bs ((w.drop a).take (b - a)) := by
  rw [← Bs_data ((Bs w).extract a b), Lib.extract_data]
  rfl
theorem take_mem_len {t : List (List UInt8)} {l : List UInt8} (h : t = toks l) : ∀ w ∈ t, w ≠ [] ∧ w.length ≤ l.length := by
  subst h
  intro w hw
  refine ⟨(toks_mem hw).1, ?_⟩
  unfold toks at hw
  have h1 := spl_mem_len (List.mem_filter.1 hw).1
  have h2 := takeWhile_len (· ≠ 35) l
  omega
theorem toks_len (l : List UInt8) : (toks l).length ≤ l.length + 1 := by
  have h1 : (toks l).length ≤ (spl 32 (l.takeWhile (· ≠ 35))).length := List.length_filter_le _ _
  have h2 := spl_len_le 32 (l.takeWhile (· ≠ 35))
  have h3 := takeWhile_len (· ≠ 35) l
  omega
/-- The document's loop at place i of s, the line having begun at 'from'. -/
theorem rl0_ev (s : List UInt8) (hs : s.length ≤ 20000) : ∀ (d i : Nat), i + d = s.length + 1 → ∀ (fr n : Nat) (acc : List (List (List UInt8))), fr ≤ i → n ≤ i → acc.length ≤ n → (10 : UInt8) ∉ (s.drop fr).take (i - fr) →
    Ev (fun k => lockstitchref02_Lines.l0 k (Bs s) (conv acc) (fr : Int) ((n + 1 : Nat) : Int) (i : Int)) (if i = s.length + 1 then outR (acc, 0, 0) else outR (LR n acc (spl 10 (s.drop fr))))
  | 0, i, hi, fr, n, acc, hf, hn, ha, hnl => by
    rw [if_pos (by omega)]
    refine Ev.step (f := fun _ => some _) (fun k => ?_) (Ev.now _)
    simp only [lockstitchref02_Lines.l0]
    rw [Bs_size, if_neg (by omega)]
    rfl
  | d + 1, i, hi, fr, n, acc, hf, hn, ha, hnl => by
    rw [if_neg (by omega)]
    -- what a line's end comes to
    have fin : ∀ rest : List (List UInt8), spl 10 (s.drop fr) = (s.drop fr).take (i - fr) :: rest → (∀ acc' : List (List (List UInt8)), acc'.length ≤ n + 1 → Ev (fun k => lockstitchref02_Lines.l0 k (Bs s) (conv acc') ((i + 1 : Nat) : Int) ((n + 1 + 1 : Nat) : Int) ((i + 1 : Nat) : Int)) (outR (LR (n + 1) acc' rest))) →
        Ev (fun k => lockstitchref02_Lines.j1 k (Bs s) (conv acc) (fr : Int) ((n + 1 : Nat) : Int) (i : Int) false) (outR (LR n acc (spl 10 (s.drop fr)))) := by
      intro rest hsp hr
      rw [hsp]
      generalize hx : (s.drop fr).take (i - fr) = x
      have hxl : x.length ≤ 20000 := by
        rw [← hx, List.length_take, List.length_drop]; omega
      have unf : ∀ k, lockstitchref02_Lines.j1 (k + 1) (Bs s) (conv acc) (fr : Int) ((n + 1 : Nat) : Int) (i : Int) false = (lockstitchref02_line.f k (Bs x)).bind fun t161 => lockstitchref02_Lines.l1 k (Bs s) (conv acc) ((n + 1 : Nat) : Int) (i : Int) t161 ((0 : Nat) : Int) := by
        intro k
        conv => lhs; simp only [lockstitchref02_Lines.j1]
        have h1 : ((i : Int)).toNat = i := Int.toNat_natCast i
        have h2 : ((fr : Int)).toNat = fr := Int.toNat_natCast fr
        rw [h1, h2, extract_Bs s fr i, hx, Bs_size, if_neg (by simp), if_pos (by omega), if_pos (by omega), if_pos (by omega)]
        rfl
      refine Ev.step unf (Ev.bind (line_ev x (by omega)) ?_)
      have h := rl1_ev s (by omega) (conv acc) (by rw [conv_length]; omega) (n + 1) i (by omega) (by omega) (toks x) (by have := toks_len x; omega) (fun w hw => ⟨(take_mem_len rfl w hw).1, by have := (take_mem_len rfl w hw).2; omega⟩) (toks x).length 0 (Nat.zero_add _)
      rw [List.drop_zero] at h
      unfold LR
      cases ho : okL x with
      | true =>
        rw [if_pos rfl]
        refine h.2 ho _ ?_
        rw [← conv_app]
        refine hr _ ?_
        rw [List.length_append]
        have : (keep (toks x)).length ≤ 1 := by unfold keep; split <;> simp
        omega
      | false =>
        rw [if_neg (by simp)]
        exact h.1 ho
    by_cases he : i = s.length
    · -- the text's end
      subst he
      have hsp : spl 10 (s.drop fr) = (s.drop fr).take (s.length - fr) :: [] := by
        have e : (s.drop fr).take (s.length - fr) = s.drop fr := List.take_of_length_le (by rw [List.length_drop]; omega)
        rw [e] at hnl ⊢
        exact spl_free 10 hnl
      refine Ev.step (f := fun k => lockstitchref02_Lines.j1 k (Bs s) (conv acc) (fr : Int) ((n + 1 : Nat) : Int) ((s.length : Nat) : Int) false) (fun k => ?_) ?_
      · conv => lhs; simp only [lockstitchref02_Lines.l0]
        rw [Bs_size, if_pos (by omega), if_neg (by omega)]
      · refine fin [] hsp fun acc' ha' => ?_
        have h := rl0_ev s hs d (s.length + 1) (by omega) (s.length + 1) (n + 1) acc' (Nat.le_refl _) (by omega) ha' (by simp)
        rw [if_pos rfl] at h
        exact h
    · have hlt : i < s.length := by omega
      have hc : s[i]? = some s[i] := List.getElem?_eq_getElem hlt
      have hdr : s.drop i = s[i] :: s.drop (i + 1) := List.drop_eq_getElem_cons hlt
      generalize s[i] = c at hc hdr
      have hb := bt_Bs s i c hc
      have hsplit : s.drop fr = (s.drop fr).take (i - fr) ++ c :: s.drop (i + 1) := by
        have h1 := (List.take_append_drop (i - fr) (s.drop fr)).symm
        rw [List.drop_drop, show fr + (i - fr) = i from by omega, hdr] at h1
        exact h1
      by_cases e : c = 10
      · subst e
        have hsp : spl 10 (s.drop fr) = (s.drop fr).take (i - fr) :: spl 10 (s.drop (i + 1)) := by
          conv => lhs; rw [hsplit]
          rw [spl_sep, spl_free 10 hnl]
          rfl
        refine Ev.step (f := fun k => lockstitchref02_Lines.j1 k (Bs s) (conv acc) (fr : Int) ((n + 1 : Nat) : Int) (i : Int) false) (fun k => ?_) ?_
        · conv => lhs; simp only [lockstitchref02_Lines.l0]
          rw [Bs_size, if_pos (by omega), if_pos (by omega), if_pos (by omega), hb]
          rfl
        · refine fin _ hsp fun acc' ha' => ?_
          have h := rl0_ev s hs d (i + 1) (by omega) (i + 1) (n + 1) acc' (Nat.le_refl _) (by omega) ha' (by simp)
          rw [if_neg (by omega)] at h
          exact h
      · have ne : ((c.toNat : Int) != 10) = true := by
          rw [bne_iff_ne]
          intro h
          exact e (UInt8.toNat_inj.1 (by show c.toNat = 10; omega))
        have h := rl0_ev s hs d (i + 1) (by omega) fr n acc (by omega) (by omega) ha (by
          rw [show i + 1 - fr = (i - fr) + 1 from by omega, List.take_add_one]
          have hg : (s.drop fr)[i - fr]? = some c := by
            rw [List.getElem?_drop, show fr + (i - fr) = i from by omega, hc]
          rw [hg]
          simp only [Option.toList_some, List.mem_append, List.mem_singleton, not_or]
          exact ⟨hnl, fun e' => e e'.symm⟩)
        rw [if_neg (by omega)] at h
        refine Ev.step (f := fun k => lockstitchref02_Lines.j1 k (Bs s) (conv acc) (fr : Int) ((n + 1 : Nat) : Int) (i : Int) true) (fun k => ?_) (Ev.step (fun k => ?_) h)
        · conv => lhs; simp only [lockstitchref02_Lines.l0]
          rw [Bs_size, if_pos (by omega), if_pos (by omega), if_pos (by omega), hb, ne]
        · conv => lhs; simp only [lockstitchref02_Lines.j1]
          rw [if_pos trivial, wrap_nat i (by omega)]
theorem rlines_ev (s : ByteArray) (hs : s.size ≤ 20000) : Ev (fun k => lockstitchref02_Lines.f k s) (outR (linesR s)) := by
  have h := rl0_ev s.data.toList (by rw [data_size]; exact hs) (s.data.toList.length + 1) 0 (by omega) 0 0 [] (Nat.le_refl _) (Nat.le_refl _) (Nat.le_refl _) (by simp)
  rw [if_neg (by omega), List.drop_zero, Bs_data] at h
  refine Ev.congr (fun k => ?_) h
  unfold lockstitchref02_Lines.f
  rw [if_neg (by omega)]
  rfl
end Go.Proofs.YtkhdcihjlobhfaaDoor.P
