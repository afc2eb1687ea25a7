/-
  PLAIN LEAN: numbers and their words; the law WordNumbers.
-/
import Derived.Test.YtkhdcihjlobhfaaDoorPlainD
import Derived.Test.YtkhdcihjlobhfaaDoorPx5
namespace Go.Proofs.YtkhdcihjlobhfaaDoor.P
open Go Go.RowKit Go.Proofs.YtkhdcihjlobhfaaDoorW.PrintWords Go.Proofs.YtkhdcihjlobhfaaDoorW.PrintLast Go.Proofs.YtkhdcihjlobhfaaDoorW.PrintMore

/-! ### Decimal digits -/
def isD (c : UInt8) : Bool := decide (48 ≤ c.toNat ∧ c.toNat ≤ 57)
def valF (acc : Nat) (D : List UInt8) : Nat := D.foldl (fun a c => a * 10 + (c.toNat - 48)) acc
theorem valF_ge (D : List UInt8) (acc : Nat) : acc ≤ valF acc D := by
  induction D generalizing acc with
  | nil => exact Nat.le_refl _
  | cons c r ih =>
    have := ih (acc * 10 + (c.toNat - 48))
    show acc ≤ valF (acc * 10 + (c.toNat - 48)) r
    omega
theorem valF_cons (acc : Nat) (c : UInt8) (r : List UInt8) : valF acc (c :: r) = valF (acc * 10 + (c.toNat - 48)) r := by
  unfold valF
  rw [List.foldl_cons]
theorem valF_snoc (acc : Nat) (D : List UInt8) (c : UInt8) : valF acc (D ++ [c]) = valF acc D * 10 + (c.toNat - 48) := by
  unfold valF
  rw [List.foldl_append, List.foldl_cons, List.foldl_nil]
theorem mul_step (a q : Nat) : a * (q * 10) = a * 10 * q := by rw [Nat.mul_comm q 10, ← Nat.mul_assoc]
theorem valF_lt : ∀ (D : List UInt8), (∀ c ∈ D, isD c = true) → ∀ acc : Nat, valF acc D < (acc + 1) * 10 ^ D.length
  | [], _, acc => by
    show acc < (acc + 1) * 1
    omega
  | c :: r, h, acc => by
    have h1 := valF_lt r (fun x hx => h x (List.mem_cons_of_mem _ hx)) (acc * 10 + (c.toNat - 48))
    have hc : 48 ≤ c.toNat ∧ c.toNat ≤ 57 := of_decide_eq_true (h c (List.mem_cons_self ..))
    rw [valF_cons]
    have e : (acc + 1) * 10 ^ (c :: r).length = (acc + 1) * 10 * 10 ^ r.length := by
      rw [List.length_cons, Nat.pow_succ]
      exact mul_step _ _
    rw [e]
    refine Nat.lt_of_lt_of_le h1 ?_
    generalize 10 ^ r.length = q
    exact Nat.mul_le_mul_right q (by omega)
theorem valF_pow (D : List UInt8) (acc : Nat) : acc * 10 ^ D.length ≤ valF acc D := by
  induction D generalizing acc with
  | nil => simp [valF]
  | cons c r ih =>
    rw [valF_cons]
    refine Nat.le_trans ?_ (ih _)
    rw [List.length_cons, Nat.pow_succ, Nat.mul_comm (10 ^ r.length) 10, ← Nat.mul_assoc]
    exact Nat.mul_le_mul_right _ (by omega)
theorem parseM_eq (M : Nat) (hM : M = 18446744073709551615) (D : List UInt8) (h : ∀ c ∈ D, isD c = true) (acc : Nat) (ha : acc ≤ M) : Lib.parseUintM M acc D = if valF acc D ≤ M then .ok (valF acc D) else .range := by
  induction D generalizing acc with
  | nil =>
    show Lib.NumEnd.ok acc = if acc ≤ M then Lib.NumEnd.ok acc else Lib.NumEnd.range
    rw [if_pos ha]
  | cons c r ih =>
    have hc := h c (by simp)
    simp only [isD, decide_eq_true_eq] at hc
    have hge := valF_ge r (acc * 10 + (c.toNat - 48))
    rw [valF_cons]
    unfold Lib.parseUintM
    rw [if_pos hc]
    by_cases h1 : 1844674407370955162 ≤ acc
    · rw [if_pos h1, if_neg (by omega)]
    · rw [if_neg h1]
      by_cases h2 : M < acc * 10 + (c.toNat - 48)
      · rw [if_pos h2, if_neg (by omega)]
      · rw [if_neg h2]
        exact ih (fun x hx => h x (by simp [hx])) _ (by omega)
theorem digit_set : ∀ b : UInt8, ([48, 49, 50, 51, 52, 53, 54, 55, 56, 57] : List UInt8).contains b = isD b := by
  have h : ∀ n : Fin 256, ([48, 49, 50, 51, 52, 53, 54, 55, 56, 57] : List UInt8).contains (UInt8.ofNat n.val) = isD (UInt8.ofNat n.val) := by decide +kernel
  intro b
  have := h ⟨b.toNat, b.toNat_lt⟩
  simpa using this
theorem trim_digits {D : List UInt8} : Lib.trimS D [48, 49, 50, 51, 52, 53, 54, 55, 56, 57] = [] ↔ ∀ c ∈ D, isD c = true := by
  rw [trimS_nil]
  constructor
  · intro h x hx; rw [← digit_set]; exact h x hx
  · intro h x hx; rw [digit_set]; exact h x hx

/-! ### A word that may be a number -/
theorem unsigned_neg (D : List UInt8) : unsigned (45 :: D) = D := rfl
theorem unsigned_pos (w : List UInt8) (h : w.head? ≠ some 45) : unsigned w = w := by
  unfold unsigned Lib.trimPrefix Lib.hasPrefix
  cases w with
  | nil => rfl
  | cons c r =>
    rw [if_neg]
    intro hp
    simp only [List.isPrefixOf, Bool.and_true, beq_iff_eq] at hp
    exact h (by rw [← hp]; rfl)
/-- What a number's digits, behind the sign, must be. -/
structure Num (w D : List UInt8) : Prop where
  ne : D ≠ []
  dig : ∀ c ∈ D, isD c = true
  zero : D.head? = some 48 → w = [48]
theorem numOk_iff (w : List UInt8) : numOk w = true ↔ Num w (unsigned w) := by
  unfold numOk
  simp only [Bool.and_eq_true, Bool.not_eq_true', List.isEmpty_iff, List.isEmpty_eq_false_iff, Bool.and_eq_false_iff, beq_eq_false_iff_ne, Bool.not_eq_false', beq_iff_eq]
  rw [trim_digits]
  constructor
  · rintro ⟨⟨h1, h2⟩, h3⟩
    exact ⟨h1, h2, fun h => by rcases h3 with h3 | h3; exact absurd h h3; exact h3⟩
  · rintro ⟨h1, h2, h3⟩
    refine ⟨⟨h1, h2⟩, ?_⟩
    by_cases h : (unsigned w).head? = some 48
    · exact .inr (h3 h)
    · exact .inl h
def inR (neg : Bool) (u : Nat) : Bool := if neg then decide (u ≤ 9223372036854775808) else decide (u < 9223372036854775808)
def sgn (neg : Bool) (u : Nat) : Int := if neg then -(u : Int) else u
theorem isD_ne {c : UInt8} (h : isD c = true) : c.toNat ≠ 43 ∧ c.toNat ≠ 45 := by
  simp only [isD, decide_eq_true_eq] at h
  omega
theorem parse_core (D : List UInt8) (h : ∀ c ∈ D, isD c = true) (hne : D ≠ []) : Lib.parseUintB 64 D = if valF 0 D ≤ 18446744073709551615 then .ok (valF 0 D) else .range := by
  unfold Lib.parseUintB
  rw [if_neg hne]
  exact parseM_eq _ (by decide) D h 0 (by omega)
theorem numOf_eq (neg : Bool) (D : List UInt8) (h : ∀ c ∈ D, isD c = true) (hne : D ≠ []) : numOf (if neg then 45 :: D else D) = if inR neg (valF 0 D) then (sgn neg (valF 0 D), 0) else (0, 3) := by
  have hc := parse_core D h hne
  generalize valF 0 D = u at hc ⊢
  unfold numOf
  cases neg with
  | true =>
    simp only [if_true]
    unfold Lib.parseIntB
    dsimp only
    rw [if_pos (show (45 : UInt8).toNat = 43 ∨ (45 : UInt8).toNat = 45 from Or.inr rfl), hc]
    by_cases hu : u ≤ 18446744073709551615
    · rw [if_pos hu]
      simp only [show ((45 : UInt8).toNat = 45) = True from eq_true rfl, not_true_eq_false, false_and, if_false, true_and, if_true]
      by_cases h2 : 2 ^ (64 - 1) < u
      · rw [if_pos h2]
        have : inR true u = false := by unfold inR; rw [if_pos rfl]; exact decide_eq_false (by omega)
        rw [this]
        rfl
      · rw [if_neg h2]
        have : inR true u = true := by unfold inR; rw [if_pos rfl]; exact decide_eq_true (by omega)
        rw [this]
        rfl
    · rw [if_neg hu]
      have : inR true u = false := by unfold inR; rw [if_pos rfl]; exact decide_eq_false (by omega)
      rw [this]
      rfl
  | false =>
    simp only [Bool.false_eq_true, if_false]
    cases D with
    | nil => exact absurd rfl hne
    | cons c r =>
      have hcd := isD_ne (h c (by simp))
      unfold Lib.parseIntB
      simp only []
      rw [if_neg (by intro h; rcases h with h | h; exact hcd.1 h; exact hcd.2 h), hc]
      by_cases hu : u ≤ 18446744073709551615
      · rw [if_pos hu]
        simp only [eq_false hcd.2, not_false_eq_true, true_and, false_and, if_false]
        by_cases h2 : 2 ^ (64 - 1) ≤ u
        · rw [if_pos h2]
          have : inR false u = false := by unfold inR; rw [if_neg (by simp)]; exact decide_eq_false (by omega)
          rw [this]
          rfl
        · rw [if_neg h2]
          have : inR false u = true := by unfold inR; rw [if_neg (by simp)]; exact decide_eq_true (by omega)
          rw [this]
          rfl
      · rw [if_neg hu]
        have : inR false u = false := by unfold inR; rw [if_neg (by simp)]; exact decide_eq_false (by omega)
        rw [this]
        rfl
/-- Each word has a sign, or none. -/
theorem signed (w : List UInt8) : ∃ neg : Bool, w = (if neg then 45 :: unsigned w else unsigned w) ∧ (neg = true ↔ w.head? = some 45) := by
  cases w with
  | nil => exact ⟨false, rfl, by simp⟩
  | cons c r =>
    by_cases e : c = 45
    · subst e
      exact ⟨true, rfl, by simp⟩
    · refine ⟨false, ?_, by simp [e]⟩
      rw [unsigned_pos _ (by simp [e])]
      rfl

/-! ### The document's -/
theorem bt0 (c : UInt8) (r : List UInt8) : bt (Bs (c :: r)) 0 = (c.toNat : Int) := bt_Bs (c :: r) 0 c rfl
theorem dig_l0 (D : List UInt8) (hD : D.length ≤ 100000) : ∀ (d i : Nat), i + d = D.length → Ev (fun k => lockstitchref02_digits.l0 k (Bs D) (i : Int)) ((D.drop i).all isD)
  | 0, i, hi => by
    rw [List.drop_eq_nil_of_le (by omega)]
    refine Ev.step (f := fun _ => some true) (fun k => ?_) (Ev.now _)
    simp only [lockstitchref02_digits.l0]
    rw [Bs_size, if_neg (by omega)]
  | d + 1, i, hi => by
    have hlt : i < D.length := by omega
    have hc : D[i]? = some D[i] := List.getElem?_eq_getElem hlt
    have hdr : D.drop i = D[i] :: D.drop (i + 1) := List.drop_eq_getElem_cons hlt
    generalize D[i] = c at hc hdr
    have hb := bt_Bs D i c hc
    rw [hdr, List.all_cons]
    have ih := dig_l0 D hD d (i + 1) (by omega)
    cases hd : isD c with
    | true =>
      have h2 := hd
      simp only [isD, decide_eq_true_eq] at h2
      rw [Bool.true_and]
      refine Ev.step (fun k => ?_) ih
      conv => lhs; simp only [lockstitchref02_digits.l0]
      rw [Bs_size, if_pos (by omega), if_pos (by omega), hb, if_neg (by omega), if_neg (by omega), wrap_nat i (by omega)]
    | false =>
      have h2 := hd
      simp only [isD, decide_eq_false_iff_not] at h2
      rw [Bool.false_and]
      refine Ev.step (f := fun _ => some false) (fun k => ?_) (Ev.now _)
      conv => lhs; simp only [lockstitchref02_digits.l0]
      rw [Bs_size, if_pos (by omega), if_pos (by omega), hb]
      by_cases h3 : (c.toNat : Int) < 48
      · rw [if_pos h3]
      · rw [if_neg h3, if_pos (by omega)]
theorem dig_j1 (w D : List UInt8) (hD : D.length ≤ 100000) : Ev (fun k => lockstitchref02_digits.j1 k (Bs w) (Bs D)) (!D.isEmpty && !(D.head? == some 48 && decide (1 < D.length ∨ 1 < w.length)) && D.all isD) := by
  cases D with
  | nil =>
    refine Ev.step (f := fun k => lockstitchref02_digits.j2 k (Bs []) true) (fun k => ?_) (Ev.step (f := fun _ => some false) (fun k => ?_) (Ev.now _))
    · conv => lhs; simp only [lockstitchref02_digits.j1]
      rw [Bs_toList, if_pos rfl]
    · simp only [lockstitchref02_digits.j2]
      rw [if_pos trivial]
  | cons c r =>
    have hb := bt0 c r
    have h0 := dig_l0 (c :: r) hD (c :: r).length 0 (Nat.zero_add _)
    rw [List.drop_zero] at h0
    have fin : ∀ b : Bool, Ev (fun k => lockstitchref02_digits.j2 k (Bs (c :: r)) b) (!b && (c :: r).all isD) := by
      intro b
      cases b with
      | true => exact Ev.step (f := fun _ => some false) (fun k => by simp only [lockstitchref02_digits.j2]; rw [if_pos trivial]) (Ev.now _)
      | false => exact Ev.step (fun k => by simp only [lockstitchref02_digits.j2]; rw [if_neg (by simp)]) (by rw [Bool.not_false, Bool.true_and]; exact h0)
    have hlen : (Bs (c :: r)).size = (c :: r).length := Bs_size _
    by_cases h48 : c = 48
    · subst h48
      by_cases hr : 1 < ((48 : UInt8) :: r).length
      · have := fin true
        refine Ev.step (f := fun k => lockstitchref02_digits.j2 k (Bs (48 :: r)) true) (fun k => ?_) ?_
        · conv => lhs; simp only [lockstitchref02_digits.j1]
          rw [Bs_toList, if_neg (by simp), hlen, if_pos (by simp only [List.length_cons]; omega), hb, if_pos (by decide), if_pos (by omega)]
        · rw [show (!((48 : UInt8) :: r).isEmpty && !(((48 : UInt8) :: r).head? == some 48 && decide (1 < ((48 : UInt8) :: r).length ∨ 1 < w.length)) && ((48 : UInt8) :: r).all isD) = (!true && ((48 : UInt8) :: r).all isD) from by rw [decide_eq_true (Or.inl hr)]; simp]
          exact this
      · refine Ev.step (f := fun k => lockstitchref02_digits.j2 k (Bs (48 :: r)) (decide (1 < w.length))) (fun k => ?_) ?_
        · conv => lhs; simp only [lockstitchref02_digits.j1]
          rw [Bs_toList, if_neg (by simp), hlen, if_pos (by simp only [List.length_cons]; omega), hb, if_pos (by decide), if_neg (by omega), Bs_size]
          congr 1
          exact decide_eq_decide.2 (by omega)
        · have hd : decide (1 < ((48 : UInt8) :: r).length ∨ 1 < w.length) = decide (1 < w.length) := decide_eq_decide.2 ⟨fun h => h.resolve_left hr, Or.inr⟩
          rw [hd]
          have := fin (decide (1 < w.length))
          simpa using this
    · have hne : ¬ (c.toNat : Int) = 48 := fun h => h48 (UInt8.toNat_inj.1 (by show c.toNat = 48; omega))
      refine Ev.step (f := fun k => lockstitchref02_digits.j2 k (Bs (c :: r)) false) (fun k => ?_) ?_
      · conv => lhs; simp only [lockstitchref02_digits.j1]
        rw [Bs_toList, if_neg (by simp), hlen, if_pos (by simp only [List.length_cons]; omega), hb, if_neg hne]
      · have := fin false
        have hcb : (c == 48) = false := by simp [h48]
        simpa [hcb] using this
theorem digits_ev (w : List UInt8) (hw : w.length ≤ 10000) : Ev (fun k => lockstitchref02_digits.f k (Bs w)) (numOk w) := by
  have hle : (unsigned w).length ≤ w.length := trimPrefix_le w [45]
  have hj := dig_j1 w (unsigned w) (by omega)
  have hr : (!(unsigned w).isEmpty && !((unsigned w).head? == some 48 && decide (1 < (unsigned w).length ∨ 1 < w.length)) && (unsigned w).all isD) = numOk w := by
    rw [Bool.eq_iff_iff, numOk_iff]
    simp only [Bool.and_eq_true, Bool.not_eq_true', List.isEmpty_eq_false_iff, Bool.and_eq_false_iff, beq_eq_false_iff_ne, decide_eq_false_iff_not, List.all_eq_true]
    have key : (unsigned w).head? = some 48 → (w = [48] ↔ ¬ (1 < (unsigned w).length ∨ 1 < w.length)) := by
      intro hh
      constructor
      · rintro rfl; decide
      · intro hn
        obtain ⟨neg, hs, _⟩ := signed w
        cases hu : unsigned w with
        | nil => rw [hu] at hh; cases hh
        | cons c r =>
          rw [hu] at hh hs hn
          simp only [List.head?_cons, Option.some.injEq] at hh
          subst hh
          have hrl : r = [] := by
            cases r with
            | nil => rfl
            | cons a b => simp at hn
          subst hrl
          cases neg with
          | true => rw [hs] at hn; simp at hn
          | false => exact hs
    constructor
    · rintro ⟨⟨h1, h2⟩, h3⟩
      exact ⟨h1, h3, fun hh => (key hh).2 (by rcases h2 with h2 | h2; exact absurd hh h2; exact h2)⟩
    · rintro ⟨h1, h2, h3⟩
      refine ⟨⟨h1, ?_⟩, h2⟩
      by_cases hh : (unsigned w).head? = some 48
      · exact .inr ((key hh).1 (h3 hh))
      · exact .inl hh
  rw [hr] at hj
  cases w with
  | nil =>
    refine Ev.congr (f := fun k => lockstitchref02_digits.j0 k (Bs []) (Bs []) false) (fun k => ?_) (Ev.step (fun k => ?_) hj)
    · unfold lockstitchref02_digits.f
      rw [Bs_size, if_neg (by simp)]
    · conv => lhs; simp only [lockstitchref02_digits.j0]
      rw [if_neg (by simp)]
      rfl
  | cons c r =>
    have hb := bt0 c r
    refine Ev.congr (f := fun k => lockstitchref02_digits.j0 k (Bs (c :: r)) (Bs (c :: r)) (bt (Bs (c :: r)) 0 == 45)) (fun k => ?_) ?_
    · unfold lockstitchref02_digits.f
      rw [Bs_size, if_pos (by simp only [List.length_cons]; omega), if_pos (by simp only [List.length_cons]; omega)]
    · rw [hb]
      by_cases e : c = 45
      · subst e
        refine Ev.step (fun k => ?_) hj
        conv => lhs; simp only [lockstitchref02_digits.j0]
        rw [Bs_size, if_pos (by decide), if_pos (by simp only [List.length_cons]; omega), extract_Bs]
        rw [unsigned_neg]
        congr 2
        simp
      · have hne : ((c.toNat : Int) == 45) = false := beq_eq_false_iff_ne.2 fun h => e (UInt8.toNat_inj.1 (by show c.toNat = 45; omega))
        rw [hne]
        refine Ev.step (fun k => ?_) hj
        conv => lhs; simp only [lockstitchref02_digits.j0]
        rw [if_neg (by simp), unsigned_pos _ (by simp [e])]
theorem u64_nat (n : Nat) (h : n < 18446744073709551616) : IntKind.u64.wrap (n : Int) = (n : Int) := by
  have : IntKind.u64.wrap (n : Int) = (n : Int) % 18446744073709551616 := rfl
  rw [this]
  omega
theorem num_l0 (D : List UInt8) (hD : D.length ≤ 100000) (h : ∀ c ∈ D, isD c = true) (neg : Bool) (r : Int × Int) (hr : Ev (fun k => lockstitchref02_Number.j2 k (Bs D) neg ((valF 0 (D.take 19) : Nat) : Int)) r) :
    ∀ (d i : Nat), i + d = 19 → i ≤ D.length → Ev (fun k => lockstitchref02_Number.l0 k (Bs D) neg ((valF 0 (D.take i) : Nat) : Int) (i : Int)) r
  | 0, i, hi, hl => by
    obtain rfl : i = 19 := by omega
    refine Ev.step (fun k => ?_) hr
    conv => lhs; simp only [lockstitchref02_Number.l0]
    rw [Bs_size]
    by_cases hlt : (((19 : Nat) : Nat) : Int) < (D.length : Int)
    · rw [if_pos hlt, if_neg (by omega)]
    · rw [if_neg hlt]
  | d + 1, i, hi, hl => by
    by_cases hlt : i < D.length
    · have hc : D[i]? = some D[i] := List.getElem?_eq_getElem hlt
      have hm := h D[i] (List.getElem_mem hlt)
      have htk : D.take (i + 1) = D.take i ++ [D[i]] := List.take_succ_eq_append_getElem hlt
      generalize D[i] = c at hc hm htk
      have hb := bt_Bs D i c hc
      have hv : valF 0 (D.take (i + 1)) = valF 0 (D.take i) * 10 + (c.toNat - 48) := by rw [htk, valF_snoc]
      have hlim : valF 0 (D.take i) < 1000000000000000000 := by
        have h1 := valF_lt (D.take i) (fun x hx => h x (List.mem_of_mem_take hx)) 0
        have h2 : (D.take i).length ≤ 18 := by rw [List.length_take]; omega
        have h3 : 10 ^ (D.take i).length ≤ 10 ^ 18 := Nat.pow_le_pow_right (by omega) h2
        have h4 : (10 : Nat) ^ 18 = 1000000000000000000 := by decide
        omega
      have ih := num_l0 D hD h neg r hr d (i + 1) (by omega) (by omega)
      refine Ev.step (fun k => ?_) ih
      conv => lhs; simp only [lockstitchref02_Number.l0]
      simp only [isD, decide_eq_true_eq] at hm
      rw [Bs_size, if_pos (by omega), if_pos (by omega), if_pos (by omega), hb, wrap_nat i (by omega)]
      rw [hv]
      generalize valF 0 (D.take i) = v at hlim ⊢
      have u1 : IntKind.u64.wrap ((v : Int) * 10) = ((v * 10 : Nat) : Int) := by
        rw [show (v : Int) * 10 = ((v * 10 : Nat) : Int) from by omega]
        exact u64_nat _ (by omega)
      have u2 : IntKind.u64.wrap (((v * 10 : Nat) : Int) + ((c.toNat : Int) - 48) % 256) = ((v * 10 + (c.toNat - 48) : Nat) : Int) := by
        rw [show ((v * 10 : Nat) : Int) + ((c.toNat : Int) - 48) % 256 = ((v * 10 + (c.toNat - 48) : Nat) : Int) from by omega]
        exact u64_nat _ (by omega)
      rw [u1, u2]
    · have e : D.take i = D.take 19 := by
        rw [List.take_of_length_le (by omega), List.take_of_length_le (by omega)]
      rw [e]
      refine Ev.step (fun k => ?_) hr
      conv => lhs; simp only [lockstitchref02_Number.l0]
      rw [Bs_size, if_neg (by omega)]
end Go.Proofs.YtkhdcihjlobhfaaDoor.P
