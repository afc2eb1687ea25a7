/-
  PLAIN LEAN: runs; the law ModelFurther.
-/
import Derived.Test.YtlemecdddhdagaaDoorPlainE
namespace Go.Proofs.YtlemecdddhdagaaDoor.P
open Go.RowKit Go.Proofs.YtlemecdddhdagaaDoorW.PrintWords Go.Proofs.YtlemecdddhdagaaDoorW.PrintLast Go.Proofs.YtlemecdddhdagaaDoorW.PrintMore
set_option linter.unusedVariables false

/-- A program that Check lets through. -/
structure Ok (t : List ByteArray) (lo gl : ByteArray) (code : List S55) : Prop where
  right : rightB t = true
  lo8 : lo.size ≤ 8
  gl4 : gl.size ≤ 4
  len : 1 ≤ code.length ∧ code.length ≤ 200
  fine : ∀ j : Nat, j < code.length → Fine t lo gl code.length (code.getD j z55)
  wf : Wf code
theorem ok_of {t : List ByteArray} {lo gl : ByteArray} {code : List S55} (h : (checkF t lo gl code).2 = 0) (hw : Wf code) : Ok t lo gl code := by
  obtain ⟨h1, h2, h3⟩ := (checkF_ok t lo gl code).1 h
  obtain ⟨q1, q2, q3, q4, q5⟩ := headB_parts h1
  exact ⟨q1, q4, q5, h2, fun j hj => fine_of (h3 j hj), hw⟩
section
variable {t : List ByteArray} {lo gl : ByteArray} {code : List S55}
theorem Ok.step (h : Ok t lo gl code) {n : Nat} {s : St} {ty : List Int} (hI : Inv t lo gl n s ty) (hn : n ≤ 1000000) (h0 : 0 ≤ s.pc) (h1 : s.pc < code.length) :
    ∃ s' e, doF (sz0 t lo) s (rd_T55 code s.pc) = some (s', e) ∧ Next t lo gl code.length n (rd_T55 code s.pc) s s' e := by
  have hw := h.wf s.pc.toNat
  exact step_ok h.right h.lo8 h.gl4 (h.fine s.pc.toNat (by omega)) hw.1 hw.2.1 hw.2.2 hI hn h.len.2 h0 h1
/-- A run answers, and prints behind what was printed. -/
theorem run_ext (h : Ok t lo gl code) : ∀ (f : Nat) (s : St) (n : Nat) (ty : List Int) (k : Nat), Inv t lo gl n s ty → n + f ≤ 900000 → 0 ≤ s.pc → f < k → ∃ l e, runL (sz0 t lo) code k s f = some (s.out ++ l, e) := by
  intro f
  induction f with
  | zero =>
    intro s n ty k hI hn h0 hk
    obtain ⟨k, rfl⟩ : ∃ j, k = j + 1 := ⟨k - 1, by omega⟩
    rw [runL]
    by_cases hlt : s.pc < code.length
    · obtain ⟨s', e, hd, hN⟩ := h.step hI (by omega) h0 hlt
      have hout : s'.out.take s.out.length = s.out := by rw [hN.out]; simp
      have hle : s.out.length ≤ s'.out.length := by rw [hN.out]; simp
      rw [if_pos hlt, if_pos h0, hd]
      simp only [Option.bind_some]
      rw [if_pos hle, hout]
      by_cases he : e = 0
      · exact ⟨[], 10, by rw [if_pos he, if_pos (by simp), List.append_nil]⟩
      · exact ⟨[], e, by rw [if_neg he, List.append_nil]⟩
    · exact ⟨[], 0, by rw [if_neg hlt, List.append_nil]⟩
  | succ f ih =>
    intro s n ty k hI hn h0 hk
    obtain ⟨k, rfl⟩ : ∃ j, k = j + 1 := ⟨k - 1, by omega⟩
    rw [runL]
    by_cases hlt : s.pc < code.length
    · obtain ⟨s', e, hd, hN⟩ := h.step hI (by omega) h0 hlt
      have hout : s'.out.take s.out.length = s.out := by rw [hN.out]; simp
      have hle : s.out.length ≤ s'.out.length := by rw [hN.out]; simp
      rw [if_pos hlt, if_pos h0, hd]
      simp only [Option.bind_some]
      rw [if_pos hle, hout]
      by_cases he : e = 0
      · obtain ⟨ty', hI'⟩ := hN.inv
        obtain ⟨l, e', hr⟩ := ih s' (n + 1) ty' k hI' (by omega) (hN.pc he).1 (by omega)
        rw [if_pos he, if_neg (by omega), show wrap64 (((f + 1 : Nat) : Int) - 1) = (f : Int) by unfold wrap64; omega, hr, hN.out]
        exact ⟨(if (rd_T55 code s.pc).f0 = 14 then [s.x (rd_T55 code s.pc).f1.toNat] else []) ++ l, e', by rw [List.append_assoc]⟩
      · exact ⟨[], e, by rw [if_neg he, List.append_nil]⟩
    · exact ⟨[], 0, by rw [if_neg hlt, List.append_nil]⟩
/-- With more fuel: the same, and perhaps more behind; one that ended ends alike. -/
theorem run_more (h : Ok t lo gl code) : ∀ (f m : Nat) (s : St) (n : Nat) (ty : List Int) (k : Nat), Inv t lo gl n s ty → n + f + m ≤ 900000 → 0 ≤ s.pc → f + m < k → ∃ l e l' e', runL (sz0 t lo) code k s f = some (l, e) ∧ runL (sz0 t lo) code k s ((f + m : Nat) : Int) = some (l ++ l', e') ∧ (e = 10 ∨ e' = e ∧ l' = []) ∧ l.length ≤ n + f := by
  intro f
  induction f with
  | zero =>
    intro m s n ty k hI hn h0 hk
    obtain ⟨l', e', hr⟩ := run_ext h m s n ty k hI (by omega) h0 (by omega)
    obtain ⟨k, rfl⟩ : ∃ j, k = j + 1 := ⟨k - 1, by omega⟩
    rw [Nat.zero_add, hr]
    by_cases hlt : s.pc < code.length
    · obtain ⟨s', e, hd, hN⟩ := h.step hI (by omega) h0 hlt
      have hout : s'.out.take s.out.length = s.out := by rw [hN.out]; simp
      have hle : s.out.length ≤ s'.out.length := by rw [hN.out]; simp
      rw [runL, if_pos hlt, if_pos h0, hd] at hr ⊢
      simp only [Option.bind_some] at hr ⊢
      rw [if_pos hle, hout] at hr ⊢
      by_cases he : e = 0
      · exact ⟨s.out, 10, l', e', by rw [if_pos he, if_pos (by simp)], rfl, .inl rfl, hI.few.2⟩
      · rw [if_neg he] at hr
        have q := Prod.mk.inj (Option.some.inj hr)
        have ql : l' = [] := by
          have := q.1
          exact (List.append_cancel_left (show s.out ++ l' = s.out ++ [] by rw [List.append_nil]; exact this.symm))
        exact ⟨s.out, e, l', e', by rw [if_neg he], rfl, .inr ⟨q.2.symm, ql⟩, hI.few.2⟩
    · rw [runL, if_neg hlt] at hr ⊢
      have q := Prod.mk.inj (Option.some.inj hr)
      have ql : l' = [] := (List.append_cancel_left (show s.out ++ l' = s.out ++ [] by rw [List.append_nil]; exact q.1.symm))
      exact ⟨s.out, 0, l', e', rfl, rfl, .inr ⟨q.2.symm, ql⟩, hI.few.2⟩
  | succ f ih =>
    intro m s n ty k hI hn h0 hk
    obtain ⟨k, rfl⟩ : ∃ j, k = j + 1 := ⟨k - 1, by omega⟩
    rw [runL, runL]
    by_cases hlt : s.pc < code.length
    · obtain ⟨s', e, hd, hN⟩ := h.step hI (by omega) h0 hlt
      have hout : s'.out.take s.out.length = s.out := by rw [hN.out]; simp
      have hle : s.out.length ≤ s'.out.length := by rw [hN.out]; simp
      rw [if_pos hlt, if_pos h0, hd, if_pos hlt, if_pos h0]
      simp only [Option.bind_some]
      rw [if_pos hle, hout, if_pos hle]
      by_cases he : e = 0
      · obtain ⟨ty', hI'⟩ := hN.inv
        obtain ⟨l, e1, l', e2, hr1, hr2, hr3, hr4⟩ := ih m s' (n + 1) ty' k hI' (by omega) (hN.pc he).1 (by omega)
        rw [if_pos he, if_neg (by omega), show wrap64 (((f + 1 : Nat) : Int) - 1) = (f : Int) by unfold wrap64; omega, if_pos he, if_neg (by omega), show wrap64 (((f + 1 + m : Nat) : Int) - 1) = ((f + m : Nat) : Int) by unfold wrap64; omega]
        exact ⟨l, e1, l', e2, hr1, hr2, hr3, by omega⟩
      · rw [if_neg he, if_neg he]
        exact ⟨s.out, e, [], e, rfl, by rw [List.append_nil], .inr ⟨rfl, rfl⟩, by have := hI.few.2; omega⟩
    · rw [if_neg hlt, if_neg hlt]
      exact ⟨s.out, 0, [], 0, rfl, by rw [List.append_nil], .inr ⟨rfl, rfl⟩, by have := hI.few.2; omega⟩
/-! ### From the closed runs to the printed ones -/
theorem sz_ev (ht : t.length ≤ 9223372036854775807) : ∃ K, ∀ k, K ≤ k → ∀ a, LeO (sz0 t lo a) (szF k t lo gl code a) := by
  have one : ∀ a : Nat, a < 256 → ∃ K, ∀ k, K ≤ k → szF k t lo gl code a = some (sizeF t (namedF t lo a)) := fun a ha =>
    Ev.bind (local_f t lo gl code a ht (by omega) (by omega)) (size_f t _ ht)
  have many : ∀ m : Nat, m ≤ 256 → ∃ K, ∀ k, K ≤ k → ∀ a : Nat, a < m → szF k t lo gl code a = some (sizeF t (namedF t lo a)) := fun m => by
    induction m with
    | zero => exact fun _ => ⟨0, fun _ _ a ha => absurd ha (Nat.not_lt_zero a)⟩
    | succ m ih =>
      intro hm
      obtain ⟨K1, h1⟩ := ih (by omega)
      obtain ⟨K2, h2⟩ := one m (by omega)
      refine ⟨max K1 K2, fun k hk a ha => ?_⟩
      by_cases ham : a = m
      · rw [ham]
        exact h2 k (by omega)
      · exact h1 k (by omega) a (by omega)
  obtain ⟨K, hK⟩ := many 256 (Nat.le_refl _)
  refine ⟨K, fun k hk a r hr => ?_⟩
  unfold sz0 at hr
  split at hr
  · rename_i ha
    obtain ⟨b, rfl⟩ := Int.eq_ofNat_of_zero_le ha.1
    rw [hK k hk b (by omega)]
    exact hr
  · cases hr
theorem run_of (ht : t.length ≤ 9223372036854775807) (hs : lo.size + gl.size ≤ 9223372036854775807) (hc : code.length ≤ 9223372036854775807) (hw : Wf code) (hok : (checkF t lo gl code).2 = 0) {f : Int} (hf : 0 ≤ f) {K : Nat} {r : List Int × Int} (hr : runL (sz0 t lo) code K St0 f = some r) :
    Ev (fun k => model_Run.f k t lo gl code f) r := by
  obtain ⟨K1, h1⟩ := check_f t lo gl code ht hs hc hw
  obtain ⟨K2, h2⟩ := sz_ev (t := t) (lo := lo) (gl := gl) (code := code) ht
  refine Ev.of (k := max (max K1 K2) (K + 1)) (fun k => model_Run.mono _ _ _ _ _ k) ?_
  have e1 := h1 (max (max K1 K2) (K + 1)) (by omega)
  have e2 := h2 (max (max K1 K2) (K + 1)) (by omega)
  have e3 : K + 1 ≤ max (max K1 K2) (K + 1) := by omega
  generalize max (max K1 K2) (K + 1) = M at e1 e2 e3 ⊢
  have q : runL (szF M t lo gl code) code (K + 1) St0 f = some r := runL_mono e2 code K St0 f r hr
  have q2 : runL (szF M t lo gl code) code M St0 f = some r := at_rounds (g := fun k => runL (szF M t lo gl code) code k St0 f) (fun k => runL_mono (fun a => LeO.refl _) code k St0 f) e3 q
  unfold model_Run.f
  rw [show check_Check.f M t lo gl code = some (checkF t lo gl code) from e1, Option.bind_some, if_pos hok, if_neg (by omega)]
  exact q2
theorem run_bad (ht : t.length ≤ 9223372036854775807) (hs : lo.size + gl.size ≤ 9223372036854775807) (hc : code.length ≤ 9223372036854775807) (hw : Wf code) (hok : (checkF t lo gl code).2 ≠ 0) (f : Int) :
    Ev (fun k => model_Run.f k t lo gl code f) ([], 2) := by
  refine Ev.bind (check_f t lo gl code ht hs hc hw) ?_
  exact Ev.congr (fun k => if_neg hok) (Ev.now _)
theorem nums_f (l : List Int) (hl : l.length ≤ 4611686018427387904) : Ev (fun k => lockstitchref06_Nums.f k l l) true := by
  have loop : ∀ d i : Nat, i + d = l.length → Ev (fun k => lockstitchref06_Nums.l0 k l l i) true := fun d => by
    induction d with
    | zero =>
      intro i hi
      refine Ev.step (f := fun _ => some true) (fun k => ?_) (Ev.now _)
      simp only [lockstitchref06_Nums.l0]
      rw [if_neg (by omega)]
    | succ d ih =>
      intro i hi
      refine Ev.step (f := fun k => lockstitchref06_Nums.l0 k l l ((i + 1 : Nat) : Int)) (fun k => ?_) (ih (i + 1) (by omega))
      simp only [lockstitchref06_Nums.l0]
      rw [if_pos (by omega), if_pos (by omega), if_pos (by omega), if_pos trivial, wrapN (i := i) (n := l.length) (by omega) (by omega)]
  exact Ev.congr (fun k => if_pos rfl) (loop l.length 0 (by omega))
end
end Go.Proofs.YtlemecdddhdagaaDoor.P
