/-
  PLAIN LEAN: the laws WordErrors and WordSpaces.
-/
import Derived.Test.YtkhdcihjlobhfaaDoorPlainE
import Derived.Test.YtkhdcihjlobhfaaDoorPx7
import Derived.Lib.LazyBuf
namespace Go.Proofs.YtkhdcihjlobhfaaDoor.P
open Go Go.RowKit Go.Proofs.YtkhdcihjlobhfaaDoorW.PrintWords Go.Proofs.YtkhdcihjlobhfaaDoorW.PrintLast Go.Proofs.YtkhdcihjlobhfaaDoorW.PrintMore

theorem app_Bs (s t : ByteArray) : s ++ t = Bs (s.data.toList ++ t.data.toList) := by
  have h : (s ++ t).data.toList = s.data.toList ++ t.data.toList := by
    rw [ByteArray.data_append]
    simp
  rw [← Bs_data (s ++ t), h]
theorem size_data (s : ByteArray) : s.size = s.data.toList.length := (data_size s).symm

/-! ### WordErrors -/
theorem err_l0 (s : List UInt8) (hs : s.length ≤ 100000) (x1 : ByteArray) (x2 : Int) :
    ∀ (d i : Nat), i + d = s.length → ∀ m : Nat, m ≤ i + 2 → ∀ r, Ev (fun k => lockstitchlaw02_WordErrors.l0 k (Bs s) x1 x2 ((m + (s.drop i).count 10 : Nat) : Int) ((s.length : Nat) : Int) ((s.length : Nat) : Int)) r →
      Ev (fun k => lockstitchlaw02_WordErrors.l0 k (Bs s) x1 x2 ((m : Nat) : Int) ((s.length : Nat) : Int) (i : Int)) r
  | 0, i, hi, m, hm, r, hr => by
    obtain rfl : i = s.length := by omega
    rw [List.drop_length] at hr
    exact hr
  | d + 1, i, hi, m, hm, r, hr => by
    have hlt : i < s.length := by omega
    have hc : s[i]? = some s[i] := List.getElem?_eq_getElem hlt
    generalize s[i] = c at hc
    have hb := bt_Bs s i c hc
    rw [count_at hc] at hr
    by_cases e : c = 10
    · rw [if_pos e] at hr
      have h := err_l0 s hs x1 x2 d (i + 1) (by omega) (m + 1) (by omega) r (by rw [show m + 1 + (s.drop (i + 1)).count 10 = m + (1 + (s.drop (i + 1)).count 10) from by omega]; exact hr)
      refine Ev.step (fun k => ?_) h
      conv => lhs; simp only [lockstitchlaw02_WordErrors.l0]
      rw [Bs_size, if_pos (by omega), if_pos (by omega), if_pos (by omega), hb, if_pos ((byte_ten c).2 e), wrap_nat m (by omega), wrap_nat i (by omega)]
    · rw [if_neg e, Nat.zero_add] at hr
      have h := err_l0 s hs x1 x2 d (i + 1) (by omega) m (by omega) r hr
      refine Ev.step (fun k => ?_) h
      conv => lhs; simp only [lockstitchlaw02_WordErrors.l0]
      rw [Bs_size, if_pos (by omega), if_pos (by omega), if_pos (by omega), hb, if_neg (fun h => e ((byte_ten c).1 h)), wrap_nat i (by omega)]
theorem bad_line (c : UInt8) (h1 : c ≠ 32) (h2 : c ≠ 35) (h3 : okc c = false) : okL [111, 107, 32, c] = false := by
  have e : ([111, 107, 32, c] : List UInt8) = [111, 107] ++ 32 :: [c] := rfl
  have t1 : toks [111, 107] = [[111, 107]] := by decide
  have t2 : toks [c] = [[c]] := by
    simp [toks, spl, h1, h2]
  unfold okL
  rw [e, toks_sp (by decide), t1, t2]
  simp [okw, h3]
theorem wordErrors_law (s t : ByteArray) (a : Int) (ha : 0 ≤ a ∧ a ≤ 255) : Ev (fun k => lockstitchlaw02_WordErrors.f k s t a) true := by
  obtain ⟨c, hc⟩ : ∃ c : UInt8, (c.toNat : Int) = a := ⟨UInt8.ofNat a.toNat, by
    have : (UInt8.ofNat a.toNat).toNat = a.toNat % 256 := UInt8.toNat_ofNat'
    rw [this]; omega⟩
  have hst : strOfNums ([a] : List Int) = Bs [c] := by
    rw [← hc]
    exact Go.Lib.Lz.strOfNums_map [c]
  have done : ∀ b, b = true → Ev (fun k => lockstitchlaw02_WordErrors.j0 k s t a b) true := by
    rintro b rfl
    exact Ev.step (f := fun _ => some _) (fun k => by simp only [lockstitchlaw02_WordErrors.j0]; rw [if_pos trivial]) (Ev.now _)
  unfold lockstitchlaw02_WordErrors.f
  refine Ev.bind alive_ev (Ev.congr (fun k => if_pos rfl) ?_)
  by_cases h : (s.size : Int) > 3000
  · exact Ev.congr (fun k => if_pos h) (done _ rfl)
  refine Ev.congr (fun k => if_neg h) ?_
  by_cases h2 : (t.size : Int) > 3000
  · exact Ev.congr (fun k => if_pos h2) (done _ rfl)
  refine Ev.congr (fun k => if_neg h2) ?_
  rw [hst]
  refine Ev.bind (may_ev [c] (by simp)) ?_
  cases hm : mayR [c] with
  | true => exact Ev.congr (fun k => if_pos rfl) (done _ rfl)
  | false =>
    refine Ev.congr (fun k => if_neg (by simp)) ?_
    by_cases h32 : a = 32
    · exact Ev.congr (fun k => if_pos h32) (done _ rfl)
    refine Ev.congr (fun k => if_neg h32) ?_
    by_cases h35 : a = 35
    · exact Ev.congr (fun k => if_pos h35) (done _ rfl)
    refine Ev.congr (fun k => if_neg h35) ?_
    by_cases h10 : a = 10
    · exact done _ (beq_iff_eq.2 h10)
    rw [show (a == 10) = false from beq_eq_false_iff_ne.2 h10]
    have n32 : c ≠ 32 := by rintro rfl; exact h32 hc.symm
    have n35 : c ≠ 35 := by rintro rfl; exact h35 hc.symm
    have n10 : c ≠ 10 := by rintro rfl; exact h10 hc.symm
    have hbad : okc c = false := by
      cases ho : okc c with
      | false => rfl
      | true => simp [mayR, ho] at hm
    refine Ev.step (fun k => by simp only [lockstitchlaw02_WordErrors.j0]; rw [if_neg (by simp)]) ?_
    refine Ev.bind (lines_ev s (by omega)) ?_
    rcases LR_parts (spl 10 s.data.toList) with hg | ⟨a', x, b, he, ha', hx⟩
    · have hR : linesR s = (goodL (spl 10 s.data.toList), 0, 0) := by
        unfold linesR
        rw [LR_good hg]
        rfl
      rw [hR]
      refine Ev.congr (fun k => if_pos rfl) ?_
      have h0 := err_l0 s.data.toList (by rw [data_size]; omega) t a s.data.toList.length 0 (Nat.zero_add _) 2 (by omega) true
      rw [List.drop_zero, Bs_data, data_size] at h0
      refine h0 ?_
      have hcnt : s.data.toList.count 10 ≤ s.size := by
        have := List.count_le_length (a := (10 : UInt8)) (l := s.data.toList)
        rw [data_size] at this
        exact this
      have hsz : s.size ≤ 3000 := by omega
      have htz : t.size ≤ 3000 := by omega
      have htext : ((((s ++ (⟨#[10, 111, 107, 32]⟩ : ByteArray)) ++ Bs [c]) ++ (⟨#[10]⟩ : ByteArray)) ++ t) = Bs (s.data.toList ++ 10 :: ([111, 107, 32, c] ++ 10 :: t.data.toList)) := by
        rw [app_Bs, app_Bs, app_Bs, app_Bs]
        simp [data_Bs]
      have hlr : linesR (Bs (s.data.toList ++ 10 :: ([111, 107, 32, c] ++ 10 :: t.data.toList))) = ([], 0 + (spl 10 s.data.toList).length + 1, 4) := by
        show LR 0 [] (spl 10 (s.data.toList ++ 10 :: ([111, 107, 32, c] ++ 10 :: t.data.toList))) = _
        rw [spl_sep, spl_sep, spl_free 10 (show (10 : UInt8) ∉ ([111, 107, 32, c] : List UInt8) by simp only [List.mem_cons, List.not_mem_nil, or_false, not_or]; exact ⟨by decide, by decide, by decide, fun e => n10 e.symm⟩)]
        exact LR_n _ _ _ rfl hg (bad_line c n32 n35 hbad)
      have hev := lines_ev (Bs (s.data.toList ++ 10 :: ([111, 107, 32, c] ++ 10 :: t.data.toList))) (by rw [Bs_size]; simp only [List.length_append, List.length_cons, List.length_nil, data_size]; omega)
      rw [hlr] at hev
      refine Ev.step (f := fun k => (word_Lines.f k (Bs (s.data.toList ++ 10 :: ([111, 107, 32, c] ++ 10 :: t.data.toList)))).bind fun bt254 => if (bt254.1.length : Int) = 0 then (if bt254.2.1 = ((2 + s.data.toList.count 10 : Nat) : Int) then some (bt254.2.2 == 4) else some false) else some false) (fun k => ?_) ?_
      · conv => lhs; simp only [lockstitchlaw02_WordErrors.l0]
        have e1 : (s ++ (⟨#[10, 111, 107, 32]⟩ : ByteArray)).size = s.size + 4 := by rw [ByteArray.size_append]; rfl
        have e2 : ((s ++ (⟨#[10, 111, 107, 32]⟩ : ByteArray)) ++ Bs [c]).size = s.size + 5 := by rw [ByteArray.size_append, e1]; rfl
        have e3 : (((s ++ (⟨#[10, 111, 107, 32]⟩ : ByteArray)) ++ Bs [c]) ++ (⟨#[10]⟩ : ByteArray)).size = s.size + 6 := by rw [ByteArray.size_append, e2]; rfl
        have e4 : (Bs [c]).size = 1 := rfl
        rw [if_neg (by omega), if_pos (by omega)]
        simp only [Option.bind_some]
        rw [hst, e1, e2, e3, e4, if_pos (by omega), if_pos (by omega), if_pos (by omega), htext]
      · refine Ev.bind hev ?_
        refine Ev.congr (f := fun _ => some true) (fun k => ?_) (Ev.now _)
        rw [if_pos (show ((outR (([] : List (List (List UInt8))), 0 + (spl 10 s.data.toList).length + 1, 4)).1.length : Int) = 0 from rfl), if_pos]
        · rfl
        · show ((0 + (spl 10 s.data.toList).length + 1 : Nat) : Int) = _
          rw [spl_length]
          omega
    · have hR : linesR s = ([], 0 + a'.length + 1, 4) := LR_n a' x b he ha' hx
      rw [hR]
      refine Ev.congr (f := fun _ => some true) (fun k => ?_) (Ev.now _)
      exact if_neg (by show ¬ ((4 : Nat) : Int) = 0; omega)

/-! ### WordSpaces -/
/-- Has 'more' a newline? Then the law lets it go; else on to the end. -/
theorem sp_l0 (s : ByteArray) (x1 : Int) (m : List UInt8) (hm : m.length ≤ 100000) (x7 : List (List ByteArray)) :
    ∀ (d i : Nat), i + d = m.length → (((10 : UInt8) ∉ m.drop i → Ev (fun k => lockstitchlaw02_WordSpaces.l0 k s x1 (Bs m) x7 ((m.length : Nat) : Int) ((m.length : Nat) : Int)) true) → Ev (fun k => lockstitchlaw02_WordSpaces.l0 k s x1 (Bs m) x7 ((m.length : Nat) : Int) (i : Int)) true)
  | 0, i, hi, h => by
    obtain rfl : i = m.length := by omega
    exact h (by rw [List.drop_length]; simp)
  | d + 1, i, hi, h => by
    have hlt : i < m.length := by omega
    have hc : m[i]? = some m[i] := List.getElem?_eq_getElem hlt
    have hdr : m.drop i = m[i] :: m.drop (i + 1) := List.drop_eq_getElem_cons hlt
    generalize m[i] = c at hc hdr
    have hb := bt_Bs m i c hc
    by_cases e : c = 10
    · refine Ev.step (f := fun _ => some true) (fun k => ?_) (Ev.now _)
      conv => lhs; simp only [lockstitchlaw02_WordSpaces.l0]
      rw [Bs_size, if_pos (by omega), if_pos (by omega), if_pos (by omega), hb, if_pos ((byte_ten c).2 e)]
    · have h' := sp_l0 s x1 m hm x7 d (i + 1) (by omega) (fun hn => h (by
        rw [hdr]
        simp only [List.mem_cons, not_or]
        exact ⟨fun e' => e e'.symm, hn⟩))
      refine Ev.step (fun k => ?_) h'
      conv => lhs; simp only [lockstitchlaw02_WordSpaces.l0]
      rw [Bs_size, if_pos (by omega), if_pos (by omega), if_pos (by omega), hb, if_neg (fun h => e ((byte_ten c).1 h)), wrap_nat i (by omega)]
theorem toks_nil : toks [] = [] := by decide
theorem toks_blank : toks [32] = [] := by decide
theorem okL_of {x y : List UInt8} (h : toks x = toks y) : okL x = okL y := by unfold okL; rw [h]
theorem LR_keep (n n' : Nat) (acc : List (List (List UInt8))) {xs ys : List (List UInt8)} (hx : ∀ x ∈ xs, okL x = true) (hy : ∀ y ∈ ys, okL y = true) (h : goodL xs = goodL ys) : LR n acc xs = LR n' acc ys := by
  rw [LR_good hx, LR_good hy, h]
theorem goodL_app (a b : List (List UInt8)) : goodL (a ++ b) = goodL a ++ goodL b := by simp [goodL]
theorem goodL_cons (x : List UInt8) (b : List (List UInt8)) : goodL (x :: b) = keep (toks x) ++ goodL b := by simp [goodL]
theorem more_lines (s m : List UInt8) (hm : (10 : UInt8) ∉ m) (hg : ∀ x ∈ spl 10 s, okL x = true) :
    LR 0 [] (spl 10 (10 :: 10 :: (s ++ (32 :: 35 :: m) ++ 10 :: 32 :: 10 :: []))) = (goodL (spl 10 s), 0, 0) := by
  obtain ⟨A, x, hA⟩ := last_of (spl_ne 10 s)
  have h1 : spl 10 (s ++ (32 :: 35 :: m)) = A ++ [x ++ 32 :: 35 :: m] := by
    have := spl_glue (c := 10) (b := 32 :: 35 :: m) (y := 32 :: 35 :: m) (B := []) hA (spl_free 10 (by simp only [List.mem_cons, not_or]; exact ⟨by decide, by decide, hm⟩))
    exact this
  have h2 : spl 10 (10 :: 10 :: (s ++ (32 :: 35 :: m) ++ 10 :: 32 :: 10 :: [])) = [] :: [] :: (A ++ [x ++ 32 :: 35 :: m] ++ [[32], []]) := by
    have e1 : (10 : UInt8) :: 10 :: (s ++ (32 :: 35 :: m) ++ 10 :: 32 :: 10 :: []) = [] ++ 10 :: ([] ++ 10 :: (s ++ (32 :: 35 :: m) ++ 10 :: ([32] ++ 10 :: []))) := rfl
    rw [e1, spl_sep, spl_sep, spl_sep, spl_sep, h1]
    rfl
  rw [h2]
  have hx : okL x = true := hg x (by rw [hA]; simp)
  have hall : ∀ y ∈ [] :: [] :: (A ++ [x ++ 32 :: 35 :: m] ++ [[32], []]), okL y = true := by
    intro y hy
    simp only [List.mem_cons, List.mem_append, List.not_mem_nil, or_false] at hy
    rcases hy with rfl | rfl | (hy | rfl) | rfl | rfl
    · decide
    · decide
    · exact hg y (by rw [hA]; simp [hy])
    · rw [okL_of (toks_tail x m)]; exact hx
    · decide
    · decide
  rw [LR_good hall, hA]
  simp only [goodL_app, goodL_cons, toks_tail, toks_nil, toks_blank]
  simp [keep, goodL]
theorem twice_lines (a b : List UInt8) (hg : ∀ x ∈ spl 10 (a ++ 32 :: b), okL x = true) :
    LR 0 [] (spl 10 (a ++ 32 :: 32 :: b)) = (goodL (spl 10 (a ++ 32 :: b)), 0, 0) := by
  obtain ⟨A, x, hA⟩ := last_of (spl_ne 10 a)
  obtain ⟨y, B, hB⟩ := first_of (spl_ne 10 b)
  have h32 : ∀ l : List UInt8, (10 : UInt8) ∉ l → spl 10 (l ++ b) = (l ++ y) :: B := by
    intro l hl
    have := spl_glue (c := 10) (a := l) (A := []) (x := l) (by rw [spl_free 10 hl]; rfl) hB
    exact this
  have h1 : spl 10 (a ++ 32 :: b) = A ++ (x ++ 32 :: y) :: B := spl_glue hA (h32 [32] (by decide))
  have h2 : spl 10 (a ++ 32 :: 32 :: b) = A ++ (x ++ 32 :: 32 :: y) :: B := spl_glue hA (h32 [32, 32] (by decide))
  rw [h2, h1]
  rw [h1] at hg
  have hall : ∀ z ∈ A ++ (x ++ 32 :: 32 :: y) :: B, okL z = true := by
    intro z hz
    simp only [List.mem_append, List.mem_cons] at hz
    rcases hz with hz | rfl | hz
    · exact hg z (by simp [hz])
    · rw [okL_of (toks_mid x y)]; exact hg _ (by simp)
    · exact hg z (by simp [hz])
  rw [LR_good hall]
  simp only [goodL_app, goodL_cons, toks_mid, List.nil_append]
theorem wordSpaces_law (s : ByteArray) (a : Int) (m : ByteArray) (ha : 0 ≤ a ∧ a ≤ 65535) : Ev (fun k => lockstitchlaw02_WordSpaces.f k s a m) true := by
  have done : ∀ b, b = true → Ev (fun k => lockstitchlaw02_WordSpaces.j0 k s a m b) true := by
    rintro b rfl
    exact Ev.step (f := fun _ => some _) (fun k => by simp only [lockstitchlaw02_WordSpaces.j0]; rw [if_pos trivial]) (Ev.now _)
  unfold lockstitchlaw02_WordSpaces.f
  refine Ev.bind alive_ev (Ev.congr (fun k => if_pos rfl) ?_)
  by_cases h : (s.size : Int) > 3000
  · exact Ev.congr (fun k => if_pos h) (done _ rfl)
  refine Ev.congr (fun k => if_neg h) ?_
  by_cases h2 : (m.size : Int) > 3000
  · exact done _ (decide_eq_true h2)
  rw [decide_eq_false h2]
  refine Ev.step (fun k => by simp only [lockstitchlaw02_WordSpaces.j0]; rw [if_neg (by simp)]) ?_
  refine Ev.bind (lines_ev s (by omega)) ?_
  rcases (LR_parts (spl 10 s.data.toList)).symm with ⟨a', x, b, he, ha', hx⟩ | hg
  · have hR : linesR s = ([], 0 + a'.length + 1, 4) := LR_n a' x b he ha' hx
    rw [hR]
    refine Ev.congr (f := fun _ => some true) (fun k => ?_) (Ev.now _)
    exact if_neg (by show ¬ ((4 : Nat) : Int) = 0; omega)
  have hsm := linesR_small s (by omega)
  have hR : linesR s = (goodL (spl 10 s.data.toList), 0, 0) := by
    unfold linesR
    rw [LR_good hg]
    rfl
  rw [hR] at hsm ⊢
  generalize hL : goodL (spl 10 s.data.toList) = L at hsm
  rw [outR_ok]
  refine Ev.congr (fun k => if_pos rfl) ?_
  have hds := data_size s
  have hdm := data_size m
  have h0 := sp_l0 s a m.data.toList (by omega) (conv L) m.data.toList.length 0 (Nat.zero_add _)
  rw [List.drop_zero, Bs_data, hdm] at h0
  refine h0 fun hnl => ?_
  have htext : (((((⟨#[10, 10]⟩ : ByteArray) ++ s) ++ (⟨#[32, 35]⟩ : ByteArray)) ++ m) ++ (⟨#[10, 32, 10]⟩ : ByteArray)) = Bs (10 :: 10 :: (s.data.toList ++ (32 :: 35 :: m.data.toList) ++ 10 :: 32 :: 10 :: [])) := by
    rw [app_Bs, app_Bs, app_Bs, app_Bs]
    simp [data_Bs]
  have hev := lines_ev (Bs (10 :: 10 :: (s.data.toList ++ (32 :: 35 :: m.data.toList) ++ 10 :: 32 :: 10 :: []))) (by rw [Bs_size]; simp only [List.length_append, List.length_cons, List.length_nil]; omega)
  have hlr : linesR (Bs (10 :: 10 :: (s.data.toList ++ (32 :: 35 :: m.data.toList) ++ 10 :: 32 :: 10 :: []))) = (L, 0, 0) := by
    rw [← hL]
    exact more_lines s.data.toList m.data.toList hnl hg
  rw [hlr, outR_ok] at hev
  have e1 : ((⟨#[10, 10]⟩ : ByteArray) ++ s).size = s.size + 2 := by rw [ByteArray.size_append]; show 2 + s.size = _; omega
  have e2 : (((⟨#[10, 10]⟩ : ByteArray) ++ s) ++ (⟨#[32, 35]⟩ : ByteArray)).size = s.size + 4 := by rw [ByteArray.size_append, e1]; rfl
  have e3 : ((((⟨#[10, 10]⟩ : ByteArray) ++ s) ++ (⟨#[32, 35]⟩ : ByteArray)) ++ m).size = s.size + 4 + m.size := by rw [ByteArray.size_append, e2]
  have w1 : wrap64 ((s.size : Int) + 1) = (s.size : Int) + 1 := by unfold wrap64; omega
  have w2 : wrap64 a = a := by unfold wrap64; omega
  have hmod : Int.tmod a ((s.size : Int) + 1) = a % ((s.size : Int) + 1) := Int.tmod_eq_emod_of_nonneg ha.1
  have hm0 : 0 ≤ a % ((s.size : Int) + 1) := Int.emod_nonneg _ (by omega)
  have hm1 : a % ((s.size : Int) + 1) < (s.size : Int) + 1 := Int.emod_lt_of_pos _ (by omega)
  -- the last piece: the text with a space doubled, or the text itself
  have hlast : ∀ b : Bool, (b = true → ∃ p q, s.data.toList = p ++ 32 :: q ∧ (p.length : Int) = a % ((s.size : Int) + 1)) → Ev (fun k => lockstitchlaw02_WordSpaces.j2 k s (conv L) (conv L) 0 s (a % ((s.size : Int) + 1)) b) true := by
    intro b hb
    cases b with
    | false =>
      refine Ev.step (fun k => by simp only [lockstitchlaw02_WordSpaces.j2]; rw [if_neg (by simp)]) ?_
      have hs := lines_ev s (by omega)
      rw [hR, hL, outR_ok] at hs
      refine Ev.bind hs (Ev.congr (fun k => if_pos trivial) ?_)
      refine Ev.bind (same_conv L L hsm) ?_
      rw [decide_eq_true rfl]
      refine Ev.congr (fun k => (if_pos rfl).trans (if_pos rfl)) ?_
      refine Ev.bind (same_conv L L hsm) ?_
      rw [decide_eq_true rfl]
      exact Ev.now _
    | true =>
      obtain ⟨p, q, hpq, hp⟩ := hb rfl
      rw [← hp]
      have hlen : s.size = p.length + 1 + q.length := by
        rw [← hds, hpq, List.length_append, List.length_cons]; omega
      have x1 : s.extract 0 p.length = Bs p := by
        rw [← Bs_data s, extract_Bs, hpq]
        simp
      have x2 : s.extract (p.length + 1) s.size = Bs q := by
        rw [hlen]
        rw [← Bs_data s, extract_Bs, hpq]
        congr 1
        rw [List.drop_append, List.drop_eq_nil_of_le (by omega)]
        simp [show p.length + 1 - p.length = 1 from by omega]
      have htx : ((Bs p ++ (⟨#[32, 32]⟩ : ByteArray)) ++ Bs q) = Bs (p ++ 32 :: 32 :: q) := by
        rw [app_Bs, app_Bs]
        simp [data_Bs]
      have hev2 := lines_ev (Bs (p ++ 32 :: 32 :: q)) (by rw [Bs_size]; simp only [List.length_append, List.length_cons]; omega)
      have hlr2 : linesR (Bs (p ++ 32 :: 32 :: q)) = (L, 0, 0) := by
        rw [← hL, hpq]
        exact twice_lines p q (by rw [← hpq]; exact hg)
      rw [hlr2, outR_ok] at hev2
      refine Ev.step (f := fun k => (word_Lines.f k (Bs (p ++ 32 :: 32 :: q))).bind fun bt227 => (lockstitchlaw02_Same.f k (conv L) (conv L)).bind fun t232 => if t232 = true then (if bt227.2.2 = 0 then (lockstitchlaw02_Same.f k (conv L) bt227.1).bind fun t233 => some t233 else some false) else some false) (fun k => ?_) ?_
      · conv => lhs; simp only [lockstitchlaw02_WordSpaces.j2]
        have z1 : (Bs p).size = p.length := Bs_size p
        have z2 : (Bs q).size = q.length := Bs_size q
        have z3 : (Bs p ++ (⟨#[32, 32]⟩ : ByteArray)).size = p.length + 2 := by rw [ByteArray.size_append, z1]; rfl
        have t1 : ((p.length : Int)).toNat = p.length := Int.toNat_natCast _
        have t2 : (((p.length + 1 : Nat) : Int)).toNat = p.length + 1 := Int.toNat_natCast _
        rw [wrap_nat p.length (by omega), t1, t2, x1, x2, z1, z2, z3, htx, if_pos trivial, if_pos (by omega), if_pos (by omega), if_pos (by omega), if_pos (by omega), if_pos (by omega), if_pos (by omega)]
        simp only [if_true]
      · refine Ev.bind hev2 (Ev.bind (same_conv L L hsm) ?_)
        rw [decide_eq_true rfl]
        refine Ev.congr (fun k => (if_pos rfl).trans (if_pos rfl)) ?_
        refine Ev.bind (same_conv L L hsm) ?_
        rw [decide_eq_true rfl]
        exact Ev.now _
  by_cases hi : a % ((s.size : Int) + 1) < (s.size : Int)
  · obtain ⟨i, hi0⟩ : ∃ i : Nat, (i : Int) = a % ((s.size : Int) + 1) := ⟨(a % ((s.size : Int) + 1)).toNat, by omega⟩
    have hil : i < s.data.toList.length := by omega
    have hc : s.data.toList[i]? = some s.data.toList[i] := List.getElem?_eq_getElem hil
    have hdr : s.data.toList.drop i = s.data.toList[i] :: s.data.toList.drop (i + 1) := List.drop_eq_getElem_cons hil
    generalize s.data.toList[i] = c at hc hdr
    have hb := bt_Bs s.data.toList i c hc
    rw [Bs_data] at hb
    have hfin := hlast (bt s (a % ((s.size : Int) + 1)) == 32) (fun hq => by
      rw [← hi0, hb, beq_iff_eq] at hq
      have e32 : c = 32 := UInt8.toNat_inj.1 (by show c.toNat = 32; omega)
      refine ⟨s.data.toList.take i, s.data.toList.drop (i + 1), ?_, ?_⟩
      · rw [← e32, ← hdr, List.take_append_drop]
      · rw [List.length_take]; omega)
    refine Ev.step (f := fun k => (word_Lines.f k (Bs (10 :: 10 :: (s.data.toList ++ (32 :: 35 :: m.data.toList) ++ 10 :: 32 :: 10 :: [])))).bind fun bt222 => lockstitchlaw02_WordSpaces.j2 k s (conv L) bt222.1 bt222.2.2 s (a % ((s.size : Int) + 1)) (bt s (a % ((s.size : Int) + 1)) == 32)) (fun k => ?_) (Ev.bind hev hfin)
    conv => lhs; simp only [lockstitchlaw02_WordSpaces.l0]
    rw [w1, w2, hmod, htext, e1, e2, e3, if_neg (by omega), if_pos (by omega), if_pos (by omega), if_pos (by omega), if_pos (by omega)]
    congr 1
    funext bt222
    rw [if_neg (by omega), if_pos hi, if_pos hm0]
  · have hfin := hlast false (fun h => by cases h)
    refine Ev.step (f := fun k => (word_Lines.f k (Bs (10 :: 10 :: (s.data.toList ++ (32 :: 35 :: m.data.toList) ++ 10 :: 32 :: 10 :: [])))).bind fun bt222 => lockstitchlaw02_WordSpaces.j2 k s (conv L) bt222.1 bt222.2.2 s (a % ((s.size : Int) + 1)) false) (fun k => ?_) (Ev.bind hev hfin)
    conv => lhs; simp only [lockstitchlaw02_WordSpaces.l0]
    rw [w1, w2, hmod, htext, e1, e2, e3, if_neg (by omega), if_pos (by omega), if_pos (by omega), if_pos (by omega), if_pos (by omega)]
    congr 1
    funext bt222
    rw [if_neg (by omega), if_neg hi]
end Go.Proofs.YtkhdcihjlobhfaaDoor.P
