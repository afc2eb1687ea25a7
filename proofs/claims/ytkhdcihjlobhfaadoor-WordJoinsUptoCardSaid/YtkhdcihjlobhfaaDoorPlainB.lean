/-
  PLAIN LEAN: what word.Lines and the document's Lines come to.
-/
import Derived.Test.YtkhdcihjlobhfaaDoorPx3
import Derived.Test.YtkhdcihjlobhfaaDoorPlainA
namespace Go.Proofs.YtkhdcihjlobhfaaDoor.P
open Go Go.RowKit Go.Proofs.YtkhdcihjlobhfaaDoorW.PrintWords Go.Proofs.YtkhdcihjlobhfaaDoorW.PrintLast Go.Proofs.YtkhdcihjlobhfaaDoorW.PrintMore

/-! ### Bytes -/
def Bs (w : List UInt8) : ByteArray := ⟨w.toArray⟩
theorem Bs_data (s : ByteArray) : Bs s.data.toList = s := by cases s; rfl
theorem data_Bs (w : List UInt8) : (Bs w).data.toList = w := rfl
theorem Bs_toList (w : List UInt8) : (Bs w).toList = w := by rw [ByteArray.toList_eq]; rfl
theorem Bs_size (w : List UInt8) : (Bs w).size = w.length := by simp [Bs, ByteArray.size]
theorem Bs_inj {a b : List UInt8} (h : Bs a = Bs b) : a = b := by
  have := congrArg (fun s : ByteArray => s.data.toList) h
  exact this
theorem mapBs_inj {a b : List (List UInt8)} (h : a.map Bs = b.map Bs) : a = b := by
  induction a generalizing b with
  | nil => cases b with | nil => rfl | cons y ys => simp at h
  | cons x xs ih =>
    cases b with
    | nil => simp at h
    | cons y ys =>
      simp only [List.map_cons, List.cons.injEq] at h
      rw [Bs_inj h.1, ih h.2]
theorem data_size (s : ByteArray) : s.data.toList.length = s.size := (Lib.size_eq s).symm
def conv (L : List (List (List UInt8))) : List (List ByteArray) := L.map (·.map Bs)
theorem conv_inj {a b : List (List (List UInt8))} (h : conv a = conv b) : a = b := by
  unfold conv at h
  induction a generalizing b with
  | nil => cases b with | nil => rfl | cons y ys => simp at h
  | cons x xs ih =>
    cases b with
    | nil => simp at h
    | cons y ys =>
      simp only [List.map_cons, List.cons.injEq] at h
      rw [mapBs_inj h.1, ih h.2]
theorem conv_app (a b : List (List (List UInt8))) : conv (a ++ b) = conv a ++ conv b := by simp [conv]
theorem conv_length (a : List (List (List UInt8))) : (conv a).length = a.length := by simp [conv]
def outR (R : List (List (List UInt8)) × Nat × Nat) : List (List ByteArray) × Int × Int := (conv R.1, (R.2.1 : Int), (R.2.2 : Int))
theorem rd_Bs (L : List (List UInt8)) (i : Nat) (x : List UInt8) (h : L[i]? = some x) : rdOf ByteArray.empty (L.map Bs) (i : Int) = Bs x := by
  unfold rdOf
  rw [Int.toNat_natCast, List.getD_eq_getElem?_getD, List.getElem?_map, h]
  rfl
theorem bt_Bs (w : List UInt8) (i : Nat) (c : UInt8) (h : w[i]? = some c) : bt (Bs w) (i : Int) = (c.toNat : Int) := by
  obtain ⟨hl, hc⟩ := List.getElem?_eq_some_iff.1 h
  have hs : ((i : Int)).toNat < (Bs w).size := by rw [Int.toNat_natCast, Bs_size]; exact hl
  unfold bt
  rw [dif_pos hs]
  have : (Bs w)[((i : Int)).toNat]'hs = c := by rw [← hc]; rfl
  rw [this]
theorem wrap_nat (i : Nat) (h : i < 4611686018427387904) : wrap64 ((i : Int) + 1) = ((i + 1 : Nat) : Int) := by unfold wrap64; omega

/-! ### What is given -/
theorem split_f (s : ByteArray) (c : UInt8) (hs : s.size < 4294967281) : strings_Split.f s ⟨#[c]⟩ = some ((spl c s.data.toList).map Bs) := by
  unfold strings_Split.f
  rw [if_pos ⟨hs, by simp [ByteArray.size]⟩]
  congr 1
  have h := Lib.splitB_data ⟨#[c]⟩ 0 (Lib.countB s ⟨#[c]⟩) s
  have hk : Lib.countB s ⟨#[c]⟩ = s.data.toList.count c := Lib.count_one c s.data.toList
  have h1 : Lib.splitK [c] 0 (Lib.countB s ⟨#[c]⟩) s.data.toList = spl c s.data.toList := splitK_one c _ _ (by rw [hk]; exact Nat.le_refl _)
  have h2 : (Lib.splitB ⟨#[c]⟩ 0 (Lib.countB s ⟨#[c]⟩) s).map (·.data.toList) = spl c s.data.toList := h.trans h1
  rw [← h2, List.map_map]
  conv => lhs; rw [← List.map_id (Lib.splitB ⟨#[c]⟩ 0 (Lib.countB s ⟨#[c]⟩) s)]
  refine List.map_congr_left fun x _ => ?_
  exact (Bs_data x).symm
theorem cut_f (s : ByteArray) (hs : s.size < 4294967281) : ∃ b t, strings_Cut.f s ⟨#[35]⟩ = some (Bs (s.data.toList.takeWhile (· ≠ 35)), b, t) := by
  unfold strings_Cut.f
  rw [if_pos hs]
  refine ⟨⟨(Lib.cut s.data.toList [35]).2.1.toArray⟩, (Lib.cut s.data.toList [35]).2.2, ?_⟩
  rw [← cut_one 35 s.data.toList]
  rfl
theorem okc_set : ∀ b : UInt8, ([97, 98, 99, 100, 101, 102, 103, 104, 105, 106, 107, 108, 109, 110, 111, 112, 113, 114, 115, 116, 117, 118, 119, 120, 121, 122, 48, 49, 50, 51, 52, 53, 54, 55, 56, 57, 45] : List UInt8).contains b = okc b := by
  have h : ∀ n : Fin 256, ([97, 98, 99, 100, 101, 102, 103, 104, 105, 106, 107, 108, 109, 110, 111, 112, 113, 114, 115, 116, 117, 118, 119, 120, 121, 122, 48, 49, 50, 51, 52, 53, 54, 55, 56, 57, 45] : List UInt8).contains (UInt8.ofNat n.val) = okc (UInt8.ofNat n.val) := by decide +kernel
  intro b
  have := h ⟨b.toNat, b.toNat_lt⟩
  simpa using this
theorem may_f (w : List UInt8) : word_may.f (Bs w) = some (okw w) := by
  unfold word_may.f okw
  rw [Bs_size]
  by_cases hl : w.length ≤ 30
  · rw [if_pos (by omega)]
    unfold strings_Trim.f
    rw [if_pos ⟨by rw [Bs_size]; omega, by decide, by decide +kernel⟩]
    simp only [Option.bind_some]
    congr 1
    rw [decide_eq_true hl, Bool.true_and, Bool.eq_iff_iff, beq_iff_eq, ByteArray.toList_eq, List.all_eq_true]
    show Lib.trimS w [97, 98, 99, 100, 101, 102, 103, 104, 105, 106, 107, 108, 109, 110, 111, 112, 113, 114, 115, 116, 117, 118, 119, 120, 121, 122, 48, 49, 50, 51, 52, 53, 54, 55, 56, 57, 45] = [] ↔ _
    rw [trimS_nil]
    constructor
    · intro h x hx
      rw [← okc_set]
      exact h x hx
    · intro h x hx
      rw [okc_set]
      exact h x hx
  · rw [if_neg (by omega), decide_eq_false hl, Bool.false_and]

/-! ### word.Lines -/
theorem filter_step {M : List (List UInt8)} {j : Nat} {w : List UInt8} (h : M[j]? = some w) : (M.drop j).filter (· ≠ []) = (if w = [] then [] else [w]) ++ (M.drop (j + 1)).filter (· ≠ []) := by
  obtain ⟨hl, hw⟩ := List.getElem?_eq_some_iff.1 h
  rw [List.drop_eq_getElem_cons hl, hw, List.filter_cons]
  by_cases e : w = []
  · simp [e]
  · simp [e]
theorem l1_ev (T : List ByteArray) (n : Int) (i : Nat) (hi : i < 1000000) (x5 : List (List ByteArray)) (hx5 : x5.length ≤ 1000000) (M : List (List UInt8)) (hM : M.length ≤ 1000000) :
    ∀ (d j : Nat), j + d = M.length → ∀ (acc : List (List UInt8)), acc.length ≤ j →
      ((((M.drop j).filter (· ≠ [])).all okw = false → Ev (fun k => word_Lines.l1 k x5 (i : Int) (acc.map Bs) T n (i : Int) (M.map Bs) ((M.length : Nat) : Int) (j : Int)) ([], ((i + 1 : Nat) : Int), 4)) ∧
       (((M.drop j).filter (· ≠ [])).all okw = true → ∀ r, Ev (fun k => word_Lines.l0 k (x5 ++ conv (keep (acc ++ (M.drop j).filter (· ≠ [])))) T n ((i + 1 : Nat) : Int)) r →
        Ev (fun k => word_Lines.l1 k x5 (i : Int) (acc.map Bs) T n (i : Int) (M.map Bs) ((M.length : Nat) : Int) (j : Int)) r))
  | 0, j, hj, acc, ha => by
    have hd : M.drop j = [] := List.drop_eq_nil_of_le (by omega)
    rw [hd]
    refine ⟨fun h => by simp at h, fun _ r hr => ?_⟩
    refine Ev.step (fun k => ?_) hr
    simp only [word_Lines.l1]
    rw [if_neg (by omega), List.length_map, wrap_nat i (by omega)]
    simp only [List.filter_nil, List.append_nil]
    by_cases e : acc = []
    · subst e
      rw [if_neg (by simp)]
      simp [keep, conv]
    · have hp : 0 < acc.length := List.length_pos_iff.2 e
      rw [if_pos (by omega), if_pos (by omega)]
      simp [keep, conv, e]
  | d + 1, j, hj, acc, ha => by
    have hlt : j < M.length := by omega
    have hw : M[j]? = some M[j] := List.getElem?_eq_getElem hlt
    generalize M[j] = w at hw
    have ih := l1_ev T n i hi x5 hx5 M hM d (j + 1) (by omega)
    rw [filter_step hw]
    have unf : ∀ k, word_Lines.l1 (k + 1) x5 (i : Int) (acc.map Bs) T n (i : Int) (M.map Bs) ((M.length : Nat) : Int) (j : Int) =
        if w = [] then word_Lines.l1 k x5 (i : Int) (acc.map Bs) T n (i : Int) (M.map Bs) ((M.length : Nat) : Int) ((j + 1 : Nat) : Int)
        else if okw w = true then word_Lines.l1 k x5 (i : Int) ((acc ++ [w]).map Bs) T n (i : Int) (M.map Bs) ((M.length : Nat) : Int) ((j + 1 : Nat) : Int) else some ([], ((i + 1 : Nat) : Int), 4) := by
      intro k
      conv => lhs; simp only [word_Lines.l1]
      rw [if_pos (by omega), if_pos (by omega), if_pos (by rw [List.length_map]; omega), rd_Bs M j w hw, Bs_toList, may_f, Option.bind_some, wrap_nat j (by omega), wrap_nat i (by omega),
        if_pos (show (acc.map Bs).length < 8796093022208 by rw [List.length_map]; omega), List.map_append]
      rfl
    by_cases e : w = []
    · rw [if_pos e, List.nil_append]
      have h := ih acc (by omega)
      refine ⟨fun hf => Ev.step (fun k => by rw [unf k, if_pos e]) (h.1 hf), fun ht r hr => Ev.step (fun k => by rw [unf k, if_pos e]) (h.2 ht r hr)⟩
    · rw [if_neg e, List.singleton_append, List.all_cons]
      have h := ih (acc ++ [w]) (by rw [List.length_append, List.length_singleton]; omega)
      cases ho : okw w with
      | true =>
        rw [Bool.true_and]
        have e2 : acc ++ w :: (M.drop (j + 1)).filter (· ≠ []) = (acc ++ [w]) ++ (M.drop (j + 1)).filter (· ≠ []) := by simp
        rw [e2]
        refine ⟨fun hf => Ev.step (fun k => by rw [unf k, if_neg e, if_pos ho]) (h.1 hf), fun ht r hr => Ev.step (fun k => by rw [unf k, if_neg e, if_pos ho]) (h.2 ht r hr)⟩
      | false =>
        rw [Bool.false_and]
        refine ⟨fun _ => Ev.step (f := fun _ => some _) (fun k => by rw [unf k, if_neg e, if_neg (by rw [ho]; simp)]) (Ev.now _), fun ht => by cases ht⟩
theorem takeWhile_len (p : UInt8 → Bool) (l : List UInt8) : (l.takeWhile p).length ≤ l.length := (List.takeWhile_prefix _).length_le
theorem spl_len_le (c : UInt8) (l : List UInt8) : (spl c l).length ≤ l.length + 1 := by
  rw [spl_length]
  have := List.count_le_length (a := c) (l := l)
  omega
theorem l0_ev (T : List (List UInt8)) (hT : T.length ≤ 30000) (hx : ∀ x ∈ T, x.length ≤ 30000) :
    ∀ (d i : Nat), i + d = T.length → ∀ (acc : List (List (List UInt8))), acc.length ≤ i →
      Ev (fun k => word_Lines.l0 k (conv acc) (T.map Bs) ((T.length : Nat) : Int) (i : Int)) (outR (LR i acc (T.drop i)))
  | 0, i, hi, acc, ha => by
    have hd : T.drop i = [] := List.drop_eq_nil_of_le (by omega)
    rw [hd]
    refine Ev.step (f := fun _ => some _) (fun k => ?_) (Ev.now _)
    simp only [word_Lines.l0]
    rw [if_neg (by omega)]
    rfl
  | d + 1, i, hi, acc, ha => by
    have hlt : i < T.length := by omega
    have hw : T[i]? = some T[i] := List.getElem?_eq_getElem hlt
    have hdr : T.drop i = T[i] :: T.drop (i + 1) := List.drop_eq_getElem_cons hlt
    have hxl := hx T[i] (List.getElem_mem hlt)
    generalize T[i] = x at hw hdr hxl
    obtain ⟨b, t, hc⟩ := cut_f (Bs x) (by rw [Bs_size]; omega)
    rw [data_Bs] at hc
    have hlen : (spl 32 (x.takeWhile (· ≠ 35))).length ≤ 30001 := by
      have h1 := spl_len_le 32 (x.takeWhile (· ≠ 35))
      have h2 := takeWhile_len (· ≠ 35) x
      omega
    have hsp : strings_Split.f (Bs (x.takeWhile (· ≠ 35))) ⟨#[32]⟩ = some ((spl 32 (x.takeWhile (· ≠ 35))).map Bs) := split_f _ 32 (by rw [Bs_size]; have := takeWhile_len (· ≠ 35) x; omega)
    have unf : ∀ k, word_Lines.l0 (k + 1) (conv acc) (T.map Bs) ((T.length : Nat) : Int) (i : Int) =
        word_Lines.l1 k (conv acc) (i : Int) (([] : List (List UInt8)).map Bs) (T.map Bs) ((T.length : Nat) : Int) (i : Int) ((spl 32 (x.takeWhile (· ≠ 35))).map Bs) (((spl 32 (x.takeWhile (· ≠ 35))).length : Nat) : Int) ((0 : Nat) : Int) := by
      intro k
      conv => lhs; simp only [word_Lines.l0]
      rw [if_pos (by omega), if_pos (by omega), if_pos (by rw [List.length_map]; omega), rd_Bs T i x hw, hc, Option.bind_some, hsp, Option.bind_some, List.length_map]
      rfl
    refine Ev.step unf ?_
    have h := l1_ev (T.map Bs) ((T.length : Nat) : Int) i (by omega) (conv acc) (by rw [conv_length]; omega) (spl 32 (x.takeWhile (· ≠ 35))) (by omega) (spl 32 (x.takeWhile (· ≠ 35))).length 0 (Nat.zero_add _) [] (Nat.le_refl _)
    rw [hdr]
    unfold LR
    have ht : (List.drop 0 (spl 32 (x.takeWhile (· ≠ 35)))).filter (· ≠ []) = toks x := rfl
    rw [ht, List.nil_append] at h
    cases ho : okL x with
    | true =>
      rw [if_pos rfl]
      refine h.2 ho _ ?_
      rw [← conv_app]
      refine l0_ev T hT hx d (i + 1) (by omega) _ ?_
      rw [List.length_append]
      have : (keep (toks x)).length ≤ 1 := by unfold keep; split <;> simp
      omega
    | false =>
      rw [if_neg (by simp)]
      exact h.1 ho
theorem spl_mem_len {c : UInt8} {l p : List UInt8} (h : p ∈ spl c l) : p.length ≤ l.length := by
  have h1 := sum_spl c l
  have : ∀ L : List (List UInt8), p ∈ L → p.length + 1 ≤ (L.map fun w => w.length + 1).sum := by
    intro L
    induction L with
    | nil => intro h; cases h
    | cons y ys ih =>
      intro h
      rcases List.mem_cons.1 h with rfl | h
      · simp only [List.map_cons, List.sum_cons]; omega
      · have := ih h
        simp only [List.map_cons, List.sum_cons]; omega
  have := this _ h
  omega
/-- What Lines tells. -/
def linesR (s : ByteArray) : List (List (List UInt8)) × Nat × Nat := LR 0 [] (spl 10 s.data.toList)
theorem lines_ev (s : ByteArray) (hs : s.size ≤ 20000) : Ev (fun k => word_Lines.f k s) (outR (linesR s)) := by
  have hl := spl_len_le 10 s.data.toList
  rw [data_size] at hl
  refine Ev.congr (f := fun k => word_Lines.l0 k (conv []) ((spl 10 s.data.toList).map Bs) (((spl 10 s.data.toList).length : Nat) : Int) ((0 : Nat) : Int)) (fun k => ?_) ?_
  · unfold word_Lines.f
    rw [if_neg (by omega), split_f s 10 (by omega), Option.bind_some, List.length_map]
    rfl
  · have := l0_ev (spl 10 s.data.toList) (by omega) (fun x hx => by have := spl_mem_len hx; rw [data_size] at this; omega) (spl 10 s.data.toList).length 0 (Nat.zero_add _) [] (Nat.le_refl _)
    exact this
theorem lines_big (s : ByteArray) (hs : 20000 < s.size) (k : Nat) : word_Lines.f k s = some ([], 0, 3) := by
  unfold word_Lines.f
  rw [if_pos (by omega)]
end Go.Proofs.YtkhdcihjlobhfaaDoor.P
