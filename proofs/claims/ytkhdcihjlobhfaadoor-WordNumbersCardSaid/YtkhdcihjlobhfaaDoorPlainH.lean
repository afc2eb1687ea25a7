/-
  PLAIN LEAN: the document's number of a word, the numbers' texts; the law WordNumbers.
-/
import Derived.Test.YtkhdcihjlobhfaaDoorPlainG
namespace Go.Proofs.YtkhdcihjlobhfaaDoor.P
open Go Go.RowKit Go.Proofs.YtkhdcihjlobhfaaDoorW.PrintWords Go.Proofs.YtkhdcihjlobhfaaDoorW.PrintLast Go.Proofs.YtkhdcihjlobhfaaDoorW.PrintMore

theorem lead_big {c : UInt8} {r : List UInt8} (hc : isD c = true) (h48 : c ≠ 48) : 10 ^ r.length ≤ valF 0 (c :: r) := by
  rw [valF_cons]
  have hd : 48 ≤ c.toNat ∧ c.toNat ≤ 57 := of_decide_eq_true hc
  have hne : c.toNat ≠ 48 := fun h => h48 (UInt8.toNat_inj.1 h)
  have h1 := valF_pow r (0 * 10 + (c.toNat - 48))
  refine Nat.le_trans ?_ h1
  generalize 10 ^ r.length = q
  have : 1 * q ≤ (0 * 10 + (c.toNat - 48)) * q := Nat.mul_le_mul_right q (by omega)
  omega
theorem pow19 : (10 : Nat) ^ 19 = 10000000000000000000 := by decide
theorem num_j2 (D : List UInt8) (hD : D.length ≤ 100000) (hd : ∀ c ∈ D, isD c = true) (hz : D.head? = some 48 → D.length ≤ 1) (neg : Bool) :
    Ev (fun k => lockstitchref02_Number.j2 k (Bs D) neg ((valF 0 (D.take 19) : Nat) : Int)) (if inR neg (valF 0 D) then (sgn neg (valF 0 D), 0) else (0, 3)) := by
  have j3t : ∀ x : Int, ∀ b : Bool, b = true → Ev (fun k => lockstitchref02_Number.j3 k neg x b) (0, 3) := by
    rintro x b rfl
    exact Ev.step (f := fun _ => some _) (fun k => by simp only [lockstitchref02_Number.j3]; rw [if_pos trivial]) (Ev.now _)
  by_cases hl : 19 < D.length
  · have hb : inR neg (valF 0 D) = false := by
      cases D with
      | nil => simp at hl
      | cons c r =>
        have h48 : c ≠ 48 := by rintro rfl; have := hz rfl; omega
        have h1 := lead_big (r := r) (hd c (by simp)) h48
        have h2 : (10 : Nat) ^ 19 ≤ 10 ^ r.length := Nat.pow_le_pow_right (by omega) (by rw [List.length_cons] at hl; omega)
        rw [pow19] at h2
        unfold inR
        cases neg <;> simp <;> omega
    rw [hb, if_neg (by simp)]
    refine Ev.step (f := fun k => lockstitchref02_Number.j3 k neg ((valF 0 (D.take 19) : Nat) : Int) (decide (((Bs D).size : Int) > 19))) (fun k => ?_) (j3t _ _ (decide_eq_true (by rw [Bs_size]; omega)))
    conv => lhs; simp only [lockstitchref02_Number.j2]
    rw [if_pos (by rw [Bs_size]; omega)]
  · have htk : D.take 19 = D := List.take_of_length_le (by omega)
    rw [htk]
    generalize valF 0 D = u
    by_cases h1 : 9223372036854775808 < u
    · have hb : inR neg u = false := by unfold inR; cases neg <;> simp <;> omega
      rw [hb, if_neg (by simp)]
      refine Ev.step (f := fun k => lockstitchref02_Number.j3 k neg (u : Int) (decide ((u : Int) > 9223372036854775808))) (fun k => ?_) (j3t _ _ (decide_eq_true (by omega)))
      conv => lhs; simp only [lockstitchref02_Number.j2]
      rw [if_neg (by rw [Bs_size]; omega), if_pos (by omega)]
    · by_cases h2 : u = 9223372036854775808
      · subst h2
        refine Ev.step (f := fun k => lockstitchref02_Number.j3 k neg (((9223372036854775808 : Nat) : Nat) : Int) (!neg)) (fun k => ?_) ?_
        · conv => lhs; simp only [lockstitchref02_Number.j2]
          rw [if_neg (by rw [Bs_size]; omega), if_neg (by omega), if_pos (by omega)]
        · cases neg with
          | false => exact j3t _ _ rfl
          | true =>
            refine Ev.step (f := fun _ => some _) (fun k => ?_) (Ev.now _)
            simp only [lockstitchref02_Number.j3]
            have hi : inR true 9223372036854775808 = true := by decide
            have hw : wrap64 (-wrap64 ((9223372036854775808 : Nat) : Int)) = sgn true 9223372036854775808 := by unfold sgn wrap64; rw [if_pos rfl]; omega
            rw [if_neg (by simp), if_pos trivial, if_pos hi, hw]
      · have hb : inR neg u = true := by unfold inR; cases neg <;> simp <;> omega
        rw [hb, if_pos rfl]
        refine Ev.step (f := fun k => lockstitchref02_Number.j3 k neg (u : Int) false) (fun k => ?_) (Ev.step (f := fun _ => some _) (fun k => ?_) (Ev.now _))
        · conv => lhs; simp only [lockstitchref02_Number.j2]
          rw [if_neg (by rw [Bs_size]; omega), if_neg (by omega), if_neg (by omega)]
        · simp only [lockstitchref02_Number.j3]
          have hw : wrap64 (u : Int) = u := by unfold wrap64; omega
          rw [if_neg (by simp), hw]
          cases neg with
          | true =>
            have hw2 : wrap64 (-(u : Int)) = -(u : Int) := by unfold wrap64; omega
            rw [if_pos rfl, hw2]
            rfl
          | false => rw [if_neg (by simp)]; rfl
def numR (w : List UInt8) : Int × Int := if numOk w then numOf w else (0, 4)
theorem rnum_ev (w : List UInt8) (hw : w.length ≤ 10000) : Ev (fun k => lockstitchref02_Number.f k (Bs w)) (numR w) := by
  unfold lockstitchref02_Number.f
  refine Ev.bind (digits_ev w hw) ?_
  unfold numR
  cases hn : numOk w with
  | false => exact Ev.congr (f := fun _ => some _) (fun k => if_neg (by simp)) (Ev.now _)
  | true =>
    refine Ev.congr (fun k => if_pos rfl) ?_
    rw [if_pos rfl]
    obtain ⟨hne, hdig, hzero⟩ := (numOk_iff w).1 hn
    obtain ⟨neg, hs, hneg⟩ := signed w
    have hle : (unsigned w).length ≤ w.length := trimPrefix_le w [45]
    have hz : (unsigned w).head? = some 48 → (unsigned w).length ≤ 1 := fun h => by
      have := hzero h
      rw [this] at hle ⊢
      decide
    have hj2 := num_j2 (unsigned w) (by omega) hdig hz neg
    have hl0 := num_l0 (unsigned w) (by omega) hdig neg _ hj2 19 0 rfl (Nat.zero_le _)
    have hof : numOf w = if inR neg (valF 0 (unsigned w)) then (sgn neg (valF 0 (unsigned w)), 0) else (0, 3) := by
      rw [← numOf_eq neg (unsigned w) hdig hne, ← hs]
    rw [← hof] at hl0
    have hj0 : Ev (fun k => lockstitchref02_Number.j0 k (Bs (unsigned w)) neg) (numOf w) := Ev.step (fun k => by simp only [lockstitchref02_Number.j0]; rfl) hl0
    cases w with
    | nil => simp [unsigned, Lib.trimPrefix, Lib.hasPrefix] at hne
    | cons c r =>
      have hb := bt0 c r
      refine Ev.congr (fun k => if_pos (by rw [Bs_size]; simp only [List.length_cons]; omega)) ?_
      rw [hb]
      by_cases e : c = 45
      · subst e
        obtain rfl : neg = true := hneg.2 rfl
        refine Ev.congr (fun k => ?_) hj0
        rw [if_pos (by decide), if_pos (by rw [Bs_size]; simp only [List.length_cons]; omega), extract_Bs, Bs_size]
        rw [unsigned_neg]
        have e1 : List.take (((45 : UInt8) :: r).length - 1) (List.drop 1 ((45 : UInt8) :: r)) = r := by simp
        rw [e1]
        rfl
      · have hne45 : ¬ (c.toNat : Int) = 45 := fun h => e (UInt8.toNat_inj.1 (by show c.toNat = 45; omega))
        obtain rfl : neg = false := by
          cases neg with
          | false => rfl
          | true => exact absurd (by simpa using hneg.1 rfl) e
        refine Ev.congr (fun k => ?_) hj0
        rw [if_neg hne45, show ((c.toNat : Int) == 45) = false from beq_eq_false_iff_ne.2 hne45, unsigned_pos (c :: r) (by simp [e])]

/-! ### The texts of numbers -/
theorem digit_of (d : Nat) (h : d < 10) : (UInt8.ofNat (48 + d)).toNat = 48 + d := by
  have : (UInt8.ofNat (48 + d)).toNat = (48 + d) % 256 := UInt8.toNat_ofNat'
  omega
theorem dec_props (n : Nat) : ∀ u : Nat, u ≤ n → (∀ c ∈ Lib.decDigits u, isD c = true) ∧ Lib.decDigits u ≠ [] ∧ valF 0 (Lib.decDigits u) = u ∧ ((Lib.decDigits u).head? = some 48 → u = 0) := by
  induction n with
  | zero =>
    intro u hu
    obtain rfl : u = 0 := by omega
    rw [Lib.decDigits_one (by omega)]
    refine ⟨by decide, by decide, ?_, fun _ => rfl⟩
    decide
  | succ n ih =>
    intro u hu
    by_cases h : u < 10
    · rw [Lib.decDigits_one h]
      have hd := digit_of u h
      refine ⟨?_, by simp, ?_, ?_⟩
      · intro c hc
        rw [List.mem_singleton.1 hc]
        unfold isD
        rw [hd]
        exact decide_eq_true (by omega)
      · rw [valF_cons, hd]
        show 0 * 10 + (48 + u - 48) = u
        omega
      · intro hh
        simp only [List.head?_cons, Option.some.injEq] at hh
        have := congrArg UInt8.toNat hh
        rw [hd] at this
        have h48 : (48 : UInt8).toNat = 48 := rfl
        omega
    · have ih' := ih (u / 10) (by omega)
      rw [Lib.decDigits, dif_neg h]
      have hd := digit_of (u % 10) (by omega)
      refine ⟨?_, by simp, ?_, ?_⟩
      · intro c hc
        rcases List.mem_append.1 hc with hc | hc
        · exact ih'.1 c hc
        · rw [List.mem_singleton.1 hc]
          unfold isD
          rw [hd]
          exact decide_eq_true (by omega)
      · rw [valF_snoc, ih'.2.2.1, hd]
        omega
      · intro hh
        have : (Lib.decDigits (u / 10) ++ [UInt8.ofNat (48 + u % 10)]).head? = (Lib.decDigits (u / 10)).head? := by
          cases hq : Lib.decDigits (u / 10) with
          | nil => exact absurd hq ih'.2.1
          | cons a b => rfl
        rw [this] at hh
        have := ih'.2.2.2 hh
        omega
theorem dec_back (n : Nat) : ∀ D : List UInt8, D.length ≤ n → D ≠ [] → (∀ c ∈ D, isD c = true) → (D.head? = some 48 → D = [48]) → Lib.decDigits (valF 0 D) = D := by
  induction n with
  | zero => intro D h h0; exact absurd (List.length_eq_zero_iff.1 (by omega)) h0
  | succ n ih =>
    intro D hl h0 hd hz
    obtain ⟨A, c, rfl⟩ : ∃ A c, D = A ++ [c] := ⟨D.dropLast, D.getLast h0, (List.dropLast_concat_getLast h0).symm⟩
    have hc : 48 ≤ c.toNat ∧ c.toNat ≤ 57 := of_decide_eq_true (hd c (by simp))
    have hof : UInt8.ofNat (48 + (c.toNat - 48)) = c := by
      rw [show 48 + (c.toNat - 48) = c.toNat from by omega]
      exact UInt8.ofNat_toNat
    rw [valF_snoc]
    by_cases hA : A = []
    · subst hA
      have : valF 0 ([] : List UInt8) * 10 + (c.toNat - 48) = c.toNat - 48 := by show 0 * 10 + _ = _; omega
      rw [this, Lib.decDigits_one (by omega), hof]
      rfl
    · have hAd : ∀ x ∈ A, isD x = true := fun x hx => hd x (by simp [hx])
      have hhead : (A ++ [c]).head? = A.head? := by
        cases A with
        | nil => exact absurd rfl hA
        | cons a b => rfl
      have hAz : A.head? = some 48 → False := by
        intro h
        have := hz (by rw [hhead]; exact h)
        have h2 := congrArg List.length this
        rw [List.length_append] at h2
        simp at h2
        exact hA h2
      have hpos : 1 ≤ valF 0 A := by
        cases A with
        | nil => exact absurd rfl hA
        | cons a b =>
          have h1 := lead_big (r := b) (hAd a (by simp)) (fun e => hAz (by rw [e]; rfl))
          have h2 : 1 ≤ 10 ^ b.length := Nat.one_le_pow _ _ (by omega)
          omega
      have hih := ih A (by rw [List.length_append] at hl; simp at hl; omega) hA hAd (fun h => (hAz h).elim)
      rw [Lib.decDigits, dif_neg (by omega), show (valF 0 A * 10 + (c.toNat - 48)) / 10 = valF 0 A from by omega, show (valF 0 A * 10 + (c.toNat - 48)) % 10 = c.toNat - 48 from by omega, hih, hof]
theorem dec_len (u : Nat) (h : u ≤ 9223372036854775808) : (Lib.decDigits u).length ≤ 20 := by
  have hp := dec_props u u (Nat.le_refl _)
  cases hq : Lib.decDigits u with
  | nil => simp
  | cons c r =>
    rw [hq] at hp
    by_cases h48 : c = 48
    · subst h48
      have h0 := hp.2.2.2 rfl
      subst h0
      rw [Lib.decDigits_one (by omega)] at hq
      rw [← hq]
      decide
    · have h1 := lead_big (r := r) (hp.1 c (by simp)) h48
      rw [hp.2.2.1] at h1
      rw [List.length_cons]
      rcases Nat.lt_or_ge r.length 19 with h2 | h2
      · omega
      · have h3 : (10 : Nat) ^ 19 ≤ 10 ^ r.length := Nat.pow_le_pow_right (by omega) h2
        rw [pow19] at h3
        omega
theorem itoa_form (n : Int) : ∃ neg : Bool, Lib.itoa n = (if neg then 45 :: Lib.decDigits n.natAbs else Lib.decDigits n.natAbs) ∧ sgn neg n.natAbs = n ∧ (neg = true → n < 0) ∧ (neg = false → 0 ≤ n) := by
  unfold Lib.itoa
  by_cases h : n < 0
  · rw [if_pos h]
    refine ⟨true, rfl, ?_, fun _ => h, (fun h => by cases h)⟩
    unfold sgn
    rw [if_pos rfl]
    omega
  · rw [if_neg h]
    refine ⟨false, ?_, ?_, (fun h => by cases h), fun _ => by omega⟩
    · rw [if_neg (by simp), show n.toNat = n.natAbs from by omega]
    · unfold sgn
      rw [if_neg (by simp)]
      omega
theorem itoa_num (n : Int) (h0 : -9223372036854775808 ≤ n) (h1 : n ≤ 9223372036854775807) : numOk (Lib.itoa n) = true ∧ numOf (Lib.itoa n) = (n, 0) ∧ (Lib.itoa n).length ≤ 21 := by
  obtain ⟨neg, hi, hs, hn1, hn2⟩ := itoa_form n
  have hp := dec_props n.natAbs n.natAbs (Nat.le_refl _)
  have hl := dec_len n.natAbs (by omega)
  rw [hi]
  have hhead : (Lib.decDigits n.natAbs).head? ≠ some 45 := by
    intro h
    cases hq : Lib.decDigits n.natAbs with
    | nil => exact hp.2.1 hq
    | cons c r =>
      rw [hq] at h hp
      have := hp.1 c (by simp)
      simp only [List.head?_cons, Option.some.injEq] at h
      subst h
      exact absurd this (by decide)
  refine ⟨?_, ?_, ?_⟩
  · rw [numOk_iff]
    cases neg with
    | true =>
      rw [if_pos rfl, unsigned_neg]
      refine ⟨hp.2.1, hp.1, fun h => ?_⟩
      have := hp.2.2.2 h
      have := hn1 rfl
      omega
    | false =>
      rw [if_neg (by simp), unsigned_pos _ hhead]
      refine ⟨hp.2.1, hp.1, fun h => ?_⟩
      rw [hp.2.2.2 h, Lib.decDigits_one (by omega)]
      rfl
  · rw [numOf_eq neg _ hp.1 hp.2.1, hp.2.2.1, if_pos, hs]
    unfold inR
    cases neg with
    | true => rw [if_pos rfl]; exact decide_eq_true (by omega)
    | false => have := hn2 rfl; rw [if_neg (by simp)]; exact decide_eq_true (by omega)
  · cases neg with
    | true => rw [if_pos rfl, List.length_cons]; omega
    | false => rw [if_neg (by simp)]; omega
theorem num_itoa (w : List UInt8) (h : numOk w = true) (x : Int) (hx : numOf w = (x, 0)) : Lib.itoa x = w ∧ -9223372036854775808 ≤ x ∧ x ≤ 9223372036854775807 := by
  obtain ⟨hne, hdig, hzero⟩ := (numOk_iff w).1 h
  obtain ⟨neg, hs, hneg⟩ := signed w
  have hof : numOf w = if inR neg (valF 0 (unsigned w)) then (sgn neg (valF 0 (unsigned w)), 0) else (0, 3) := by
    rw [← numOf_eq neg (unsigned w) hdig hne, ← hs]
  rw [hof] at hx
  cases hr : inR neg (valF 0 (unsigned w)) with
  | false => rw [hr, if_neg (by simp)] at hx; injection hx with _ h2; cases h2
  | true =>
    rw [hr, if_pos rfl] at hx
    injection hx with hx _
    have hz : (unsigned w).head? = some 48 → unsigned w = [48] ∧ w = [48] := fun hh => by
      have := hzero hh
      exact ⟨by rw [this]; rfl, this⟩
    have hb := dec_back (unsigned w).length (unsigned w) (Nat.le_refl _) hne hdig (fun hh => (hz hh).1)
    have hpos : neg = true → 1 ≤ valF 0 (unsigned w) := by
      rintro rfl
      cases hu : unsigned w with
      | nil => exact absurd hu hne
      | cons c r =>
        have h48 : c ≠ 48 := by
          rintro rfl
          have h1 := (hz (by rw [hu]; rfl)).2
          have h2 := hneg.1 rfl
          rw [h1] at h2
          exact absurd h2 (by decide)
        have h1 := lead_big (r := r) (hdig c (by rw [hu]; simp)) h48
        have h2 : 1 ≤ 10 ^ r.length := Nat.one_le_pow _ _ (by omega)
        omega
    generalize valF 0 (unsigned w) = u at hb hpos hr hx
    unfold sgn at hx
    unfold inR at hr
    unfold Lib.itoa
    cases neg with
    | true =>
      have := hpos rfl
      rw [if_pos rfl] at hx hr hs
      have hr := of_decide_eq_true hr
      subst hx
      refine ⟨?_, by omega, by omega⟩
      rw [if_pos (by omega), show (-(u : Int)).natAbs = u from by omega, hb]
      exact hs.symm
    | false =>
      rw [if_neg (by simp)] at hx hr hs
      have hr := of_decide_eq_true hr
      subst hx
      refine ⟨?_, by omega, by omega⟩
      rw [if_neg (by omega), Int.toNat_natCast, hb]
      exact hs.symm

/-! ### The law -/
theorem num_f (w : List UInt8) (hw : w.length ≤ 10000) : word_Number.f (Bs w) = some (numR w) := by
  unfold word_Number.f numR
  rw [Bs_size, if_pos (by omega), data_Bs]
  split <;> rfl
theorem fmt_f (n : Int) (h0 : -9223372036854775808 ≤ n) (h1 : n ≤ 9223372036854775807) : strconv_FormatInt_20.f n 10 = some (Bs (Lib.itoa n)) := by
  unfold strconv_FormatInt_20.f
  rw [if_pos rfl, if_pos ⟨h0, h1⟩]
  rfl
theorem wordNumbers_law (s : ByteArray) (n : Int) (h0 : -9223372036854775808 ≤ n) (h1 : n ≤ 9223372036854775807) : Ev (fun k => lockstitchlaw02_WordNumbers.f k s n) true := by
  unfold lockstitchlaw02_WordNumbers.f
  refine Ev.bind alive_ev (Ev.congr (fun k => if_pos rfl) ?_)
  by_cases h : (s.size : Int) > 3000
  · exact Ev.congr (f := fun _ => some _) (fun k => if_pos h) (Ev.now _)
  refine Ev.congr (fun k => if_neg h) ?_
  have hds := data_size s
  have hf := num_f s.data.toList (by omega)
  have hr := rnum_ev s.data.toList (by omega)
  rw [Bs_data] at hf hr
  have hit := itoa_num n h0 h1
  have hfi := num_f (Lib.itoa n) (by omega)
  have hri : numR (Lib.itoa n) = (n, 0) := by
    unfold numR
    rw [hit.1, if_pos rfl, hit.2.1]
  rw [hf, fmt_f n h0 h1]
  simp only [Option.bind_some]
  rw [hfi, hri]
  refine Ev.bind hr ?_
  refine Ev.congr (f := fun _ => some true) (fun k => ?_) (Ev.now _)
  simp only [Option.bind_some]
  rw [if_pos trivial, if_pos trivial, if_pos trivial, if_pos trivial]
  by_cases h2 : (numR s.data.toList).2 = 0
  · rw [if_pos h2]
    unfold numR at h2 ⊢
    cases hn : numOk s.data.toList with
    | false => rw [hn, if_neg (by simp)] at h2; exact absurd h2 (by decide)
    | true =>
      rw [hn, if_pos rfl] at h2
      rw [if_pos rfl]
      obtain ⟨ht, hb0, hb1⟩ := num_itoa s.data.toList hn (numOf s.data.toList).1 (by rw [← h2])
      rw [fmt_f _ hb0 hb1, ht, Bs_data]
      simp
  · rw [if_neg h2]
end Go.Proofs.YtkhdcihjlobhfaaDoor.P
