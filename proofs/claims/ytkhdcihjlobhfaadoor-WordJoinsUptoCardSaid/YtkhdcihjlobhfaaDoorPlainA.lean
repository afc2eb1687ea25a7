/-
  PLAIN LEAN: lines and words of a text, as lists of bytes; no program in sight.
-/
import Derived.Lib.SplitLaws
import Derived.Lib.IndexMore
import Derived.Lib.SlTrimSet
import Derived.Lib.Join
namespace Go.Proofs.YtkhdcihjlobhfaaDoor.P
open Go

/-! ### Splitting -/
def spl (c : UInt8) : List UInt8 → List (List UInt8)
  | [] => [[]]
  | x :: xs => if x = c then [] :: spl c xs else (x :: (spl c xs).headD []) :: (spl c xs).tail
theorem spl_ne (c : UInt8) (l : List UInt8) : spl c l ≠ [] := by
  cases l with
  | nil => simp [spl]
  | cons x xs => unfold spl; split <;> simp
theorem headD_app {α : Type} {a b : List α} (d : α) (h : a ≠ []) : (a ++ b).headD d = a.headD d := by
  cases a with
  | nil => exact absurd rfl h
  | cons x xs => rfl
theorem tail_app {α : Type} {a b : List α} (h : a ≠ []) : (a ++ b).tail = a.tail ++ b := by
  cases a with
  | nil => exact absurd rfl h
  | cons x xs => rfl
theorem spl_sep (c : UInt8) (a b : List UInt8) : spl c (a ++ c :: b) = spl c a ++ spl c b := by
  induction a with
  | nil => simp [spl]
  | cons x xs ih =>
    simp only [List.cons_append, spl]
    by_cases h : x = c
    · rw [if_pos h, if_pos h, ih]; rfl
    · rw [if_neg h, if_neg h, ih, headD_app _ (spl_ne c xs), tail_app (spl_ne c xs)]; rfl
theorem spl_free (c : UInt8) {l : List UInt8} (h : c ∉ l) : spl c l = [l] := by
  induction l with
  | nil => rfl
  | cons x xs ih =>
    simp only [List.mem_cons, not_or] at h
    unfold spl
    rw [if_neg (fun e => h.1 e.symm), ih h.2]
    rfl
theorem spl_length (c : UInt8) (l : List UInt8) : (spl c l).length = l.count c + 1 := by
  induction l with
  | nil => rfl
  | cons x xs ih =>
    unfold spl
    by_cases h : x = c
    · rw [if_pos h, h, List.count_cons_self]; simp [ih]
    · have h1 : 0 < (spl c xs).length := List.length_pos_iff.2 (spl_ne c xs)
      rw [if_neg h, List.count_cons_of_ne h]
      simp only [List.length_cons, List.length_tail]
      omega
theorem spl_mem {c : UInt8} {l p : List UInt8} (h : p ∈ spl c l) : c ∉ p := by
  induction l generalizing p with
  | nil => simp [spl] at h; subst h; simp
  | cons x xs ih =>
    unfold spl at h
    by_cases e : x = c
    · rw [if_pos e] at h
      rcases List.mem_cons.1 h with h | h
      · subst h; simp
      · exact ih h
    · rw [if_neg e] at h
      rcases List.mem_cons.1 h with h | h
      · subst h
        simp only [List.mem_cons, not_or]
        refine ⟨fun e' => e e'.symm, ?_⟩
        apply ih
        cases hs : spl c xs with
        | nil => exact absurd hs (spl_ne c xs)
        | cons y ys => simp
      · exact ih (List.mem_of_mem_tail h)
theorem parted {α : Type} [DecidableEq α] (c : α) (l : List α) : c ∉ l ∨ ∃ a b, l = a ++ c :: b ∧ c ∉ a := by
  induction l with
  | nil => exact .inl (by simp)
  | cons x xs ih =>
    by_cases e : x = c
    · subst e
      exact .inr ⟨[], xs, rfl, by simp⟩
    · rcases ih with h | ⟨a, b, h, ha⟩
      · exact .inl (by simp only [List.mem_cons, not_or]; exact ⟨fun e' => e e'.symm, h⟩)
      · exact .inr ⟨x :: a, b, by rw [h]; rfl, by simp only [List.mem_cons, not_or]; exact ⟨fun e' => e e'.symm, ha⟩⟩
theorem indexByte_free {c : UInt8} {l : List UInt8} (h : c ∉ l) : Lib.indexByte l c = -1 := by
  induction l with
  | nil => rfl
  | cons x xs ih =>
    simp only [List.mem_cons, not_or] at h
    unfold Lib.indexByte
    rw [if_neg (by simp; exact fun e => h.1 e.symm), ih h.2]
    rfl
theorem indexByte_at {c : UInt8} {a b : List UInt8} (h : c ∉ a) : Lib.indexByte (a ++ c :: b) c = a.length := by
  induction a with
  | nil => simp [Lib.indexByte]
  | cons x xs ih =>
    simp only [List.mem_cons, not_or] at h
    simp only [List.cons_append]
    unfold Lib.indexByte
    rw [if_neg (by simp; exact fun e => h.1 e.symm), ih h.2, if_neg (by simp)]
    simp
theorem takeWhile_all {p : UInt8 → Bool} {l : List UInt8} (h : ∀ x ∈ l, p x = true) : l.takeWhile p = l := by
  induction l with
  | nil => rfl
  | cons x xs ih => rw [List.takeWhile_cons, if_pos (h x (by simp)), ih (fun y hy => h y (by simp [hy]))]
theorem takeWhile_mem {p : UInt8 → Bool} {l : List UInt8} {x : UInt8} (h : x ∈ l.takeWhile p) : p x = true := by
  induction l with
  | nil => cases h
  | cons y ys ih =>
    rw [List.takeWhile_cons] at h
    by_cases e : p y = true
    · rw [if_pos e] at h
      rcases List.mem_cons.1 h with rfl | h
      · exact e
      · exact ih h
    · rw [if_neg e] at h
      cases h
theorem splitK_one (c : UInt8) : ∀ (k : Nat) (l : List UInt8), l.count c ≤ k → Lib.splitK [c] 0 k l = spl c l
  | 0, l, h => by
    have hc : c ∉ l := List.count_eq_zero.1 (by omega)
    rw [spl_free c hc]
    rfl
  | k + 1, l, h => by
    unfold Lib.splitK
    rw [Lib.index_one]
    rcases parted c l with hc | ⟨a, b, rfl, ha⟩
    · rw [indexByte_free hc, spl_free c hc]
      rfl
    · rw [indexByte_at ha, if_neg (by simp), spl_sep, spl_free c ha]
      have hk : b.count c ≤ k := by
        rw [List.count_append, List.count_cons_self] at h
        omega
      have e1 : (a ++ c :: b).take ((a.length : Int).toNat + 0) = a := by simp
      have e2 : (a ++ c :: b).drop ((a.length : Int).toNat + [c].length) = b := by
        rw [Int.toNat_natCast]
        simp [List.drop_append]
      rw [e1, e2, splitK_one c k b hk]
      rfl
theorem cut_one (c : UInt8) (l : List UInt8) : (Lib.cut l [c]).1 = l.takeWhile (· ≠ c) := by
  unfold Lib.cut
  rw [Lib.index_one]
  rcases parted c l with hc | ⟨a, b, rfl, ha⟩
  · rw [indexByte_free hc, if_neg (by omega)]
    symm
    refine takeWhile_all fun x hx => ?_
    simp only [ne_eq, decide_eq_true_eq]
    rintro rfl
    exact hc hx
  · rw [indexByte_at ha, if_pos (by omega), Int.toNat_natCast]
    have h1 : ∀ x ∈ a, (decide (x ≠ c)) = true := by
      intro x hx
      simp only [ne_eq, decide_eq_true_eq]
      rintro rfl
      exact ha hx
    rw [List.takeWhile_append_of_pos h1]
    simp
theorem dropWhile_nil {p : UInt8 → Bool} {l : List UInt8} : l.dropWhile p = [] ↔ ∀ x ∈ l, p x = true := by
  induction l with
  | nil => simp
  | cons x xs ih =>
    rw [List.dropWhile_cons]
    by_cases h : p x = true
    · rw [if_pos h, ih]; simp [h]
    · rw [if_neg h]; simp [h]
theorem dropWhile_first {p : UInt8 → Bool} {l : List UInt8} {x : UInt8} {xs : List UInt8} (h : l.dropWhile p = x :: xs) : ¬ p x = true := by
  induction l with
  | nil => cases h
  | cons y ys ih =>
    rw [List.dropWhile_cons] at h
    by_cases e : p y = true
    · rw [if_pos e] at h; exact ih h
    · rw [if_neg e] at h
      injection h with h1 h2
      subst h1
      exact e
theorem trimS_nil {l cs : List UInt8} : Lib.trimS l cs = [] ↔ ∀ x ∈ l, cs.contains x = true := by
  unfold Lib.trimS Lib.trimLeftS Lib.trimRightS
  rw [dropWhile_nil]
  constructor
  · intro h
    cases hd : l.reverse.dropWhile (cs.contains ·) with
    | nil =>
      intro x hx
      exact dropWhile_nil.1 hd x (by simp [hx])
    | cons y ys =>
      exact absurd (h y (by rw [hd]; simp)) (dropWhile_first hd)
  · intro h
    have : l.reverse.dropWhile (cs.contains ·) = [] := dropWhile_nil.2 fun x hx => h x (by simpa using hx)
    rw [this]
    simp

/-! ### Words of a line, lines of a text -/
def okc (b : UInt8) : Bool := decide (97 ≤ b.toNat ∧ b.toNat ≤ 122) || decide (48 ≤ b.toNat ∧ b.toNat ≤ 57) || decide (b.toNat = 45)
def okw (w : List UInt8) : Bool := decide (w.length ≤ 30) && w.all okc
def toks (l : List UInt8) : List (List UInt8) := (spl 32 (l.takeWhile (· ≠ 35))).filter (· ≠ [])
def keep (t : List (List UInt8)) : List (List (List UInt8)) := if t = [] then [] else [t]
def okL (x : List UInt8) : Bool := (toks x).all okw
def goodL (xs : List (List UInt8)) : List (List (List UInt8)) := xs.flatMap fun x => keep (toks x)
/-- The words of lines, from line n on (the first one is 0). -/
def LR : Nat → List (List (List UInt8)) → List (List UInt8) → List (List (List UInt8)) × Nat × Nat
  | _, acc, [] => (acc, 0, 0)
  | n, acc, x :: r => if okL x then LR (n + 1) (acc ++ keep (toks x)) r else ([], n + 1, 4)
theorem LR_app {xs : List (List UInt8)} (h : ∀ x ∈ xs, okL x = true) (n : Nat) (acc : List (List (List UInt8))) (ys : List (List UInt8)) : LR n acc (xs ++ ys) = LR (n + xs.length) (acc ++ goodL xs) ys := by
  induction xs generalizing n acc with
  | nil => simp [goodL]
  | cons x xs ih =>
    simp only [List.cons_append, LR]
    rw [if_pos (h x (by simp)), ih (fun y hy => h y (by simp [hy]))]
    simp only [List.length_cons, goodL, List.flatMap_cons, List.append_assoc]
    rw [show n + 1 + xs.length = n + (xs.length + 1) from by omega]
theorem LR_good {xs : List (List UInt8)} (h : ∀ x ∈ xs, okL x = true) (n : Nat) (acc : List (List (List UInt8))) : LR n acc xs = (acc ++ goodL xs, 0, 0) := by
  have := LR_app h n acc []
  rw [List.append_nil] at this
  rw [this]
  rfl
theorem LR_bad {xs : List (List UInt8)} (h : ∀ x ∈ xs, okL x = true) (n : Nat) (acc : List (List (List UInt8))) (x : List UInt8) (hx : okL x = false) (ys : List (List UInt8)) : LR n acc (xs ++ x :: ys) = ([], n + xs.length + 1, 4) := by
  rw [LR_app h]
  simp [LR, hx]
theorem LR_parts (xs : List (List UInt8)) : (∀ x ∈ xs, okL x = true) ∨ ∃ a x b, xs = a ++ x :: b ∧ (∀ y ∈ a, okL y = true) ∧ okL x = false := by
  induction xs with
  | nil => exact .inl (by simp)
  | cons x xs ih =>
    cases hx : okL x with
    | false => exact .inr ⟨[], x, xs, rfl, by simp, hx⟩
    | true =>
      rcases ih with h | ⟨a, y, b, h, ha, hy⟩
      · refine .inl fun z hz => ?_
        rcases List.mem_cons.1 hz with rfl | hz
        · exact hx
        · exact h z hz
      · refine .inr ⟨x :: a, y, b, by rw [h]; rfl, fun z hz => ?_, hy⟩
        rcases List.mem_cons.1 hz with rfl | hz
        · exact hx
        · exact ha z hz
theorem LR_ok {xs : List (List UInt8)} {n : Nat} {acc : List (List (List UInt8))} (h : (LR n acc xs).2.2 = 0) : ∀ x ∈ xs, okL x = true := by
  rcases LR_parts xs with h1 | ⟨a, x, b, rfl, ha, hx⟩
  · exact h1
  · rw [LR_bad ha _ _ x hx] at h
    cases h
theorem LR_congr (n : Nat) (acc : List (List (List UInt8))) {xs ys : List (List UInt8)} (h : xs.map toks = ys.map toks) : LR n acc xs = LR n acc ys := by
  induction xs generalizing n acc ys with
  | nil =>
    cases ys with
    | nil => rfl
    | cons y ys => simp at h
  | cons x xs ih =>
    cases ys with
    | nil => simp at h
    | cons y ys =>
      simp only [List.map_cons, List.cons.injEq] at h
      unfold LR okL
      rw [h.1]
      split
      · exact ih _ _ h.2
      · rfl

/-! ### Words -/
theorem toks_mem {l w : List UInt8} (h : w ∈ toks l) : w ≠ [] ∧ (32 : UInt8) ∉ w ∧ (35 : UInt8) ∉ w := by
  unfold toks at h
  rw [List.mem_filter] at h
  refine ⟨by simpa using h.2, spl_mem h.1, ?_⟩
  have h35 : (35 : UInt8) ∉ l.takeWhile (· ≠ 35) := by
    intro hm
    have := takeWhile_mem hm
    simp at this
  intro hw
  refine h35 ?_
  generalize l.takeWhile (· ≠ 35) = m at h
  have : ∀ (m w : List UInt8), w ∈ spl 32 m → ∀ x ∈ w, x ∈ m := by
    intro m
    induction m with
    | nil => intro w hw x hx; simp [spl] at hw; subst hw; cases hx
    | cons y ys ih =>
      intro w hw x hx
      unfold spl at hw
      by_cases e : y = 32
      · rw [if_pos e] at hw
        rcases List.mem_cons.1 hw with rfl | hw
        · cases hx
        · exact List.mem_cons_of_mem _ (ih w hw x hx)
      · rw [if_neg e] at hw
        rcases List.mem_cons.1 hw with rfl | hw
        · rcases List.mem_cons.1 hx with rfl | hx
          · simp
          · refine List.mem_cons_of_mem _ (ih ((spl 32 ys).headD []) ?_ x hx)
            cases hs : spl 32 ys with
            | nil => exact absurd hs (spl_ne 32 ys)
            | cons a b => simp
        · exact List.mem_cons_of_mem _ (ih w (List.mem_of_mem_tail hw) x hx)
  exact this m w h.1 35 hw
/-- Words that may be told apart. -/
def plainW (w : List UInt8) : Prop := w ≠ [] ∧ (32 : UInt8) ∉ w ∧ (35 : UInt8) ∉ w
theorem join_free {ws : List (List UInt8)} (h : ∀ w ∈ ws, plainW w) : (35 : UInt8) ∉ Lib.join ws [32] := by
  cases ws with
  | nil => simp [Lib.join_nil]
  | cons w r =>
    rw [Lib.join_cons]
    unfold Lib.joinTail
    simp only [List.mem_append, List.mem_flatten, List.mem_map, not_or, not_exists, not_and]
    refine ⟨(h w (by simp)).2.2, ?_⟩
    rintro x ⟨y, hy, rfl⟩
    simp only [List.cons_append, List.nil_append, List.mem_cons, not_or]
    exact ⟨by decide, (h y (by simp [hy])).2.2⟩
theorem spl_join {ws : List (List UInt8)} (h : ∀ w ∈ ws, (32 : UInt8) ∉ w) (w : List UInt8) (hw : (32 : UInt8) ∉ w) : spl 32 (w ++ Lib.joinTail [32] ws) = w :: ws := by
  induction ws generalizing w with
  | nil => simp [Lib.joinTail, spl_free 32 hw]
  | cons x xs ih =>
    have e : w ++ Lib.joinTail [32] (x :: xs) = w ++ 32 :: (x ++ Lib.joinTail [32] xs) := by simp [Lib.joinTail]
    rw [e, spl_sep, spl_free 32 hw, ih (fun y hy => h y (by simp [hy])) x (h x (by simp))]
    rfl
theorem takeWhile_free {l : List UInt8} (h : (35 : UInt8) ∉ l) : l.takeWhile (· ≠ 35) = l := by
  refine takeWhile_all fun x hx => ?_
  simp only [ne_eq, decide_eq_true_eq]
  rintro rfl
  exact h hx
theorem toks_join {ws : List (List UInt8)} (h : ∀ w ∈ ws, plainW w) : toks (Lib.join ws [32]) = ws := by
  unfold toks
  rw [takeWhile_free (join_free h)]
  cases ws with
  | nil => rfl
  | cons w r =>
    rw [Lib.join_cons, spl_join (fun y hy => (h y (by simp [hy])).2.1) w (h w (by simp)).2.1, List.filter_eq_self]
    intro x hx
    simpa using (h x hx).1
theorem okc_nl {b : UInt8} (h : okc b = true) : b ≠ 10 ∧ b ≠ 32 ∧ b ≠ 35 := by
  refine ⟨?_, ?_, ?_⟩ <;> (rintro rfl; exact absurd h (by decide))
theorem okw_plain {w : List UInt8} (h : okw w = true) (h0 : w ≠ []) : plainW w ∧ (10 : UInt8) ∉ w := by
  simp only [okw, Bool.and_eq_true, List.all_eq_true] at h
  exact ⟨⟨h0, fun hm => (okc_nl (h.2 _ hm)).2.1 rfl, fun hm => (okc_nl (h.2 _ hm)).2.2 rfl⟩, fun hm => (okc_nl (h.2 _ hm)).1 rfl⟩
theorem join_nl {ws : List (List UInt8)} (h : ∀ w ∈ ws, (10 : UInt8) ∉ w) : (10 : UInt8) ∉ Lib.join ws [32] := by
  cases ws with
  | nil => simp [Lib.join_nil]
  | cons w r =>
    rw [Lib.join_cons]
    unfold Lib.joinTail
    simp only [List.mem_append, List.mem_flatten, List.mem_map, not_or, not_exists, not_and]
    refine ⟨h w (by simp), ?_⟩
    rintro x ⟨y, hy, rfl⟩
    simp only [List.cons_append, List.nil_append, List.mem_cons, not_or]
    exact ⟨by decide, h y (by simp [hy])⟩
/-- Lines of words as a text. -/
def joinL (L : List (List (List UInt8))) : List UInt8 := (L.map fun ws => Lib.join ws [32] ++ [10]).flatten
theorem spl_joinL {L : List (List (List UInt8))} (h : ∀ ws ∈ L, ∀ w ∈ ws, (10 : UInt8) ∉ w) : spl 10 (joinL L) = L.map (fun ws => Lib.join ws [32]) ++ [[]] := by
  induction L with
  | nil => rfl
  | cons x xs ih =>
    have e : joinL (x :: xs) = Lib.join x [32] ++ 10 :: joinL xs := by simp [joinL]
    rw [e, spl_sep, spl_free 10 (join_nl (h x (by simp))), ih (fun y hy => h y (by simp [hy]))]
    rfl
/-- Lines of words that may be are what their text has. -/
theorem LR_joinL {L : List (List (List UInt8))} (h0 : ∀ ws ∈ L, ws ≠ []) (h : ∀ ws ∈ L, ∀ w ∈ ws, okw w = true ∧ w ≠ []) : LR 0 [] (spl 10 (joinL L)) = (L, 0, 0) := by
  have hp : ∀ ws ∈ L, ∀ w ∈ ws, plainW w := fun ws hs w hw => (okw_plain (h ws hs w hw).1 (h ws hs w hw).2).1
  have ht : ∀ ws ∈ L, toks (Lib.join ws [32]) = ws := fun ws hs => toks_join (hp ws hs)
  rw [spl_joinL (fun ws hs w hw => (okw_plain (h ws hs w hw).1 (h ws hs w hw).2).2), LR_app]
  · have e : goodL (L.map fun ws => Lib.join ws [32]) = L := by
      have : ∀ M : List (List (List UInt8)), (∀ ws ∈ M, ws ≠ [] ∧ toks (Lib.join ws [32]) = ws) → goodL (M.map fun ws => Lib.join ws [32]) = M := by
        intro M hM
        induction M with
        | nil => rfl
        | cons x xs ih =>
          have hx := hM x (by simp)
          have hi := ih (fun y hy => hM y (by simp [hy]))
          unfold goodL at hi ⊢
          rw [List.map_cons, List.flatMap_cons, hi, hx.2]
          unfold keep
          rw [if_neg hx.1]
          rfl
      exact this L fun ws hs => ⟨h0 ws hs, ht ws hs⟩
    rw [e]
    simp [LR, okL, toks, spl, keep]
  · intro x hx
    obtain ⟨ws, hs, rfl⟩ := List.mem_map.1 hx
    unfold okL
    rw [ht ws hs, List.all_eq_true]
    exact fun w hw => (h ws hs w hw).1
theorem keep_mem {t ws : List (List UInt8)} (h : ws ∈ keep t) : ws = t ∧ t ≠ [] := by
  unfold keep at h
  split at h
  · cases h
  · exact ⟨by simpa using h, by assumption⟩
theorem goodL_mem {xs : List (List UInt8)} (h : ∀ x ∈ xs, okL x = true) {ws : List (List UInt8)} (hs : ws ∈ goodL xs) : ws ≠ [] ∧ ∀ w ∈ ws, okw w = true ∧ w ≠ [] := by
  unfold goodL at hs
  obtain ⟨x, hx, hk⟩ := List.mem_flatMap.1 hs
  obtain ⟨rfl, hn⟩ := keep_mem hk
  refine ⟨hn, fun w hw => ⟨?_, (toks_mem hw).1⟩⟩
  have := h x hx
  unfold okL at this
  exact List.all_eq_true.1 this w hw

/-! ### Lengths -/
theorem len_joinTail (ws : List (List UInt8)) : (Lib.joinTail [32] ws).length = (ws.map fun w => w.length + 1).sum := by
  induction ws with
  | nil => rfl
  | cons w r ih =>
    have : Lib.joinTail [32] (w :: r) = 32 :: w ++ Lib.joinTail [32] r := by simp [Lib.joinTail]
    rw [this]
    simp only [List.length_append, List.length_cons, List.map_cons, List.sum_cons, ih]
theorem sum_spl (c : UInt8) (l : List UInt8) : ((spl c l).map fun w => w.length + 1).sum = l.length + 1 := by
  induction l with
  | nil => rfl
  | cons x xs ih =>
    unfold spl
    split
    · simp only [List.map_cons, List.sum_cons, ih, List.length_nil, List.length_cons]; omega
    · cases hs : spl c xs with
      | nil => exact absurd hs (spl_ne c xs)
      | cons y ys =>
        rw [hs] at ih
        simp only [List.headD_cons, List.tail_cons, List.map_cons, List.sum_cons, List.length_cons] at ih ⊢
        omega
theorem sum_filter (L : List (List UInt8)) (p : List UInt8 → Bool) : ((L.filter p).map fun w => w.length + 1).sum ≤ (L.map fun w => w.length + 1).sum := by
  induction L with
  | nil => simp
  | cons x xs ih =>
    rw [List.filter_cons]
    split
    · simp only [List.map_cons, List.sum_cons]; omega
    · simp only [List.map_cons, List.sum_cons]; omega
theorem len_toks (l : List UInt8) : (Lib.join (toks l) [32]).length ≤ l.length := by
  have h1 := sum_filter (spl 32 (l.takeWhile (· ≠ 35))) (· ≠ [])
  rw [sum_spl] at h1
  have h2 : (l.takeWhile (· ≠ 35)).length ≤ l.length := (List.takeWhile_prefix _).length_le
  have h3 : ((toks l).map fun w => w.length + 1).sum ≤ (l.takeWhile (· ≠ 35)).length + 1 := h1
  cases ht : toks l with
  | nil => simp [Lib.join_nil]
  | cons w r =>
    rw [ht] at h3
    rw [Lib.join_cons, List.length_append, len_joinTail]
    simp only [List.map_cons, List.sum_cons] at h3
    omega
theorem len_goodL (xs : List (List UInt8)) : (joinL (goodL xs)).length ≤ (xs.map fun x => x.length + 1).sum := by
  induction xs with
  | nil => simp [goodL, joinL]
  | cons x xs ih =>
    have e : goodL (x :: xs) = keep (toks x) ++ goodL xs := by simp [goodL]
    have e2 : ∀ a b, joinL (a ++ b) = joinL a ++ joinL b := by intro a b; simp [joinL]
    rw [e, e2, List.length_append]
    simp only [List.map_cons, List.sum_cons]
    have h := len_toks x
    have : (joinL (keep (toks x))).length ≤ x.length + 1 := by
      unfold keep
      split
      · simp [joinL]
      · simp only [joinL, List.map_cons, List.map_nil, List.flatten_cons, List.flatten_nil, List.append_nil, List.length_append, List.length_cons, List.length_nil]
        omega
    omega
theorem len_again (l : List UInt8) : (joinL (goodL (spl 10 l))).length ≤ l.length + 1 := by
  have := len_goodL (spl 10 l)
  rw [sum_spl] at this
  exact this
end Go.Proofs.YtkhdcihjlobhfaaDoor.P
