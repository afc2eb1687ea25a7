/-
  PLAIN LEAN: the law CheckEach.
-/
import Derived.Test.YtdkachialdabaaaDoorPlainC
import Derived.Test.YtdkachialdabaaaDoorPx8
namespace Go.Proofs.YtdkachialdabaaaDoor.P
open Go.RowKit Go.Proofs.YtdkachialdabaaaDoorW.PrintWords Go.Proofs.YtdkachialdabaaaDoorW.PrintLast Go.Proofs.YtdkachialdabaaaDoorW.PrintMore
/-! ### CheckEach -/
def pr : S32 := ⟨14, 0, 0, 0, 0⟩
theorem badI_pr (t : List ByteArray) (lo gl : ByteArray) (n : Nat) : badI t lo gl n pr = none := by
  have h1 : rightI pr = true := by decide +kernel
  have h2 : jumpy pr = false := by decide
  unfold badI
  rw [if_pos h1, h2, Bool.false_and, if_neg (by decide), if_pos]
  rfl
def alone (n i : Nat) (x : S32) : List S32 := (List.replicate n pr).set i x
theorem alone_len (n i : Nat) (x : S32) : (alone n i x).length = n := by simp [alone]
theorem alone_at (n i j : Nat) (x : S32) (hi : i < n) : (alone n i x).getD j z32 = if j = i then x else if j < n then pr else z32 := by
  unfold alone
  rw [List.getD_eq_getElem?_getD, List.getElem?_set, List.length_replicate, List.getElem?_replicate]
  by_cases h : i = j
  · rw [if_pos h, if_pos hi, if_pos h.symm]
    rfl
  · have h' : ¬ j = i := fun e => h e.symm
    rw [if_neg h, if_neg h']
    split <;> rfl
theorem alone_wf {n i : Nat} {x : S32} (hi : i < n) (hx : (0 ≤ x.f1 ∧ x.f1 ≤ 255) ∧ (0 ≤ x.f2 ∧ x.f2 ≤ 255) ∧ (0 ≤ x.f3 ∧ x.f3 ≤ 255)) : Wf (alone n i x) := fun j => by
  rw [alone_at n i j x hi]
  split
  · exact hx
  · split
    · decide
    · decide
theorem check_alone (t : List ByteArray) (lo gl : ByteArray) (n i : Nat) (x : S32) (hi : i < n) (hn : n ≤ 200) (hh : headB t lo gl = true) :
    checkF t lo gl (alone n i x) = (match badI t lo gl n x with | some e => ((i : Int), e) | none => (-1, 0)) := by
  have at_ : ∀ j, j < n → badI t lo gl (alone n i x).length ((alone n i x).getD j z32) = if j = i then badI t lo gl n x else none := fun j hj => by
    rw [alone_len, alone_at n i j x hi]
    split
    · rfl
    · exact badI_pr t lo gl n
  unfold checkF
  rw [if_pos hh, if_pos (by rw [alone_len]; omega)]
  rcases scanC_first t lo gl (alone n i x) with ⟨h1, h2⟩ | ⟨j, e, h3, h4, h5, _⟩
  · have := h2 i (by rw [alone_len]; exact hi)
    rw [at_ i hi, if_pos rfl] at this
    rw [this, h1]
  · rw [alone_len] at h3
    rw [at_ j h3] at h4
    split at h4
    · rename_i h
      rw [h4, h5, h]
    · cases h4

theorem each_law (t : List ByteArray) (lo gl : ByteArray) (code : List S32) (ht : t.length ≤ 9223372036854775807) (hs : lo.size + gl.size ≤ 9223372036854775807) (hw : Wf code) :
    Ev (fun k => lockstitchlaw05_CheckEach.f k t lo gl code) true := by
  have j0 : ∀ x, (x = false → 1 ≤ code.length ∧ code.length ≤ 60) → Ev (fun k => lockstitchlaw05_CheckEach.j0 k x t lo gl code) true := by
    intro x hx
    refine Ev.step (fun k => by simp only [lockstitchlaw05_CheckEach.j0]; rfl) ?_
    refine Ev.out (Ev.ite (b := true) (a := true) (fun _ => Ev.now _) fun hx2 => ?_) (by split <;> rfl)
    have hl := hx (by simpa using hx2)
    clear hx hx2
    refine Ev.bind (check_f t lo gl code ht hs (by omega) hw) ?_
    generalize hc : checkF t lo gl code = c
    obtain ⟨at_, e⟩ := c
    show Ev (fun k => lockstitchlaw05_CheckEach.l0 k at_ e (-1) code (code.length : Int) 0 t lo gl code) true
    -- what each place tells
    let one : Nat → Int × Int := fun i => checkF t lo gl (alone code.length i (code.getD i z32))
    -- the inner loop
    have inner : ∀ (x5 : Int) (i : Nat), i < code.length → Ev (fun k => lockstitchlaw05_CheckEach.j3 k at_ e x5 (i : Int) (one i).1 (one i).2 code (code.length : Int) (i : Int) (if (one i).2 = 0 then false else decide (x5 < 0)) t lo gl code) true →
        Ev (fun k => lockstitchlaw05_CheckEach.l1 k at_ e x5 (i : Int) code code.length (i : Int) code.length 0 t lo gl code (code.getD i z32).f0 (code.getD i z32).f1 (code.getD i z32).f2 (code.getD i z32).f3 (code.getD i z32).f4 t lo gl []) true := by
      intro x5 i hi hj
      have lp : ∀ d j, j + d = code.length → Ev (fun k => lockstitchlaw05_CheckEach.l1 k at_ e x5 (i : Int) code code.length (i : Int) code.length (j : Nat) t lo gl code (code.getD i z32).f0 (code.getD i z32).f1 (code.getD i z32).f2 (code.getD i z32).f3 (code.getD i z32).f4 t lo gl (List.replicate j pr)) true := by
        intro d
        induction d with
        | zero =>
          intro j hjd
          obtain rfl : j = code.length := by omega
          refine Ev.step (f := fun k => (check_Check.f k t lo gl (alone code.length i (code.getD i z32))).bind fun bt230 => (if bt230.2 = 0 then (lockstitchlaw05_CheckEach.j3 k at_ e x5 i bt230.1 bt230.2 code code.length i false t lo gl code) else (lockstitchlaw05_CheckEach.j3 k at_ e x5 i bt230.1 bt230.2 code code.length i (decide (x5 < 0)) t lo gl code))) (fun k => ?_) (Ev.bind (check_f t lo gl _ ht hs (by rw [alone_len]; omega) (alone_wf hi (hw i))) ?_)
          · simp only [lockstitchlaw05_CheckEach.l1]
            rw [if_neg (by omega), if_pos (by omega), if_pos (by rw [List.length_replicate]; omega), Int.toNat_natCast]
            rfl
          · show Ev (fun k => if (one i).2 = 0 then (lockstitchlaw05_CheckEach.j3 k at_ e x5 i (one i).1 (one i).2 code code.length i false t lo gl code) else (lockstitchlaw05_CheckEach.j3 k at_ e x5 i (one i).1 (one i).2 code code.length i (decide (x5 < 0)) t lo gl code)) true
            by_cases h : (one i).2 = 0
            · rw [if_pos h] at hj
              exact Ev.congr (fun k => if_pos h) hj
            · rw [if_neg h] at hj
              exact Ev.congr (fun k => if_neg h) hj
        | succ d ih =>
          intro j hjd
          refine Ev.step (fun k => ?_) (ih (j + 1) (by omega))
          simp only [lockstitchlaw05_CheckEach.l1]
          rw [if_pos (by omega), if_pos (by rw [List.length_replicate]; omega), wrapN (i := j) (n := code.length) (by omega) (by omega), List.replicate_succ']
          rfl
      exact lp code.length 0 (by omega)
    -- a place, then the next
    have place : ∀ (x5 : Int) (i : Nat), i < code.length → Ev (fun k => lockstitchlaw05_CheckEach.j3 k at_ e x5 (i : Int) (one i).1 (one i).2 code (code.length : Int) (i : Int) (if (one i).2 = 0 then false else decide (x5 < 0)) t lo gl code) true →
        Ev (fun k => lockstitchlaw05_CheckEach.l0 k at_ e x5 code code.length (i : Int) t lo gl code) true := by
      intro x5 i hi hj
      refine Ev.step (fun k => ?_) (inner x5 i hi hj)
      simp only [lockstitchlaw05_CheckEach.l0]
      rw [if_pos (by omega), if_pos (by omega), if_pos (by omega), rd_at]
    have skip : ∀ (x5 : Int) (i : Nat), i < code.length → Ev (fun k => lockstitchlaw05_CheckEach.l0 k at_ e x5 code code.length ((i + 1 : Nat) : Int) t lo gl code) true → Ev (fun k => lockstitchlaw05_CheckEach.j3 k at_ e x5 (i : Int) (one i).1 (one i).2 code (code.length : Int) (i : Int) false t lo gl code) true := by
      intro x5 i hi hj
      refine Ev.step (fun k => ?_) hj
      simp only [lockstitchlaw05_CheckEach.j3]
      rw [if_neg (by decide), wrapN (i := i) (n := code.length) hi (by omega)]
    have last : ∀ x5 : Int, (0 ≤ x5 ↔ e ≠ 0) → (at_ < 0 ∨ at_ = x5) → Ev (fun k => lockstitchlaw05_CheckEach.l0 k at_ e x5 code code.length ((code.length : Nat) : Int) t lo gl code) true := by
      intro x5 h1 h2
      refine Ev.step (f := fun _ => some true) (fun k => ?_) (Ev.now _)
      simp only [lockstitchlaw05_CheckEach.l0]
      rw [if_neg (by omega), if_pos]
      · rcases h2 with h2 | h2
        · rw [if_pos h2]
        · by_cases h3 : at_ < 0
          · rw [if_pos h3]
          · rw [if_neg h3, h2]
            simp
      · by_cases h : e = 0
        · rw [h, decide_eq_false (by rw [ge_iff_le, h1]; simp [h])]
          rfl
        · rw [decide_eq_true (h1.2 h), bne_iff_ne.2 h]
          rfl
    -- once there is a first one
    have after : ∀ (f : Nat), e ≠ 0 → (at_ < 0 ∨ at_ = (f : Int)) → ∀ d i, i + d = code.length → Ev (fun k => lockstitchlaw05_CheckEach.l0 k at_ e (f : Int) code code.length (i : Int) t lo gl code) true := by
      intro f he ha d
      induction d with
      | zero =>
        intro i hi
        obtain rfl : i = code.length := by omega
        exact last f ⟨fun _ => he, fun _ => by omega⟩ ha
      | succ d ih =>
        intro i hi
        refine place f i (by omega) ?_
        rw [show (if (one i).2 = 0 then false else decide ((f : Int) < 0)) = false from by split; rfl; exact decide_eq_false (by omega)]
        exact skip f i (by omega) (ih (i + 1) (by omega))
    have first : ∀ i : Nat, i < code.length → (one i).2 = e → e ≠ 0 → (at_ < 0 ∨ ((one i).1 = at_ ∧ at_ = (i : Int))) → Ev (fun k => lockstitchlaw05_CheckEach.l0 k at_ e (-1) code code.length (i : Int) t lo gl code) true := by
      intro i hi h1 h2 h3
      refine place (-1) i hi ?_
      rw [if_neg (by rw [h1]; exact h2), decide_eq_true (by decide)]
      refine Ev.step (fun k => ?_) (after i h2 (by omega) (code.length - (i + 1)) (i + 1) (by omega))
      simp only [lockstitchlaw05_CheckEach.j3]
      rw [if_pos trivial, if_pos h1, wrapN (i := i) (n := code.length) hi (by omega)]
      by_cases h4 : at_ ≥ 0
      · rw [if_pos h4, if_pos (by omega)]
      · rw [if_neg h4]
    by_cases hh : headB t lo gl = true
    · have hone : ∀ i, i < code.length → one i = (match badI t lo gl code.length (code.getD i z32) with | some e => ((i : Int), e) | none => (-1, 0)) := fun i hi => check_alone t lo gl code.length i _ hi (by omega) hh
      have hcs : scanC t lo gl code = (at_, e) := by
        rw [← hc]
        unfold checkF
        rw [if_pos hh, if_pos (by omega)]
      have pass : ∀ q : Nat, q ≤ code.length → (∀ j, j < q → badI t lo gl code.length (code.getD j z32) = none) → Ev (fun k => lockstitchlaw05_CheckEach.l0 k at_ e (-1) code code.length (q : Int) t lo gl code) true → ∀ d i, i + d = q → Ev (fun k => lockstitchlaw05_CheckEach.l0 k at_ e (-1) code code.length (i : Int) t lo gl code) true := by
        intro q hq hall hlast d
        induction d with
        | zero => 
          intro i hi
          have : i = q := by omega
          rw [this]
          exact hlast
        | succ d ih =>
          intro i hi
          refine place (-1) i (by omega) ?_
          have : (one i).2 = 0 := by rw [hone i (by omega), hall i (by omega)]
          rw [if_pos this]
          exact skip (-1) i (by omega) (ih (i + 1) (by omega))
      rcases scanC_first t lo gl code with ⟨h1, h2⟩ | ⟨j, e', h3, h4, h5, h6⟩
      · rw [hcs] at h1
        injection h1 with ha he
        exact pass code.length (Nat.le_refl _) h2 (last (-1) (by omega) (by omega)) code.length 0 (by omega)
      · rw [hcs] at h5
        injection h5 with ha he
        have ho := hone j h3
        rw [h4] at ho
        exact pass j (by omega) h6 (first j h3 (by rw [ho, he]) (by rw [he]; exact badI_code h4) (.inr ⟨by rw [ho, ha], ha⟩)) j 0 (by omega)
    · have hx : ∀ code', checkF t lo gl code' = (-1, 5) := fun code' => if_neg hh
      rw [hx] at hc
      injection hc with ha he
      exact first 0 (by omega) (by show (checkF t lo gl _).2 = e; rw [hx]; exact he) (by omega) (.inl (by omega))
  refine Ev.bind alive_f (Ev.congr (fun k => if_pos rfl) ?_)
  obtain ⟨b, hb⟩ := few_f t lo gl code ht
  refine Ev.bind hb ?_
  refine Ev.out (Ev.ite (b := true) (a := true) (fun _ => Ev.out (Ev.ite (b := true) (a := true) (fun _ => j0 _ fun h => by cases h) fun h1 => j0 _ fun h => ?_) (by split <;> rfl)) fun _ => j0 _ fun h => by cases h) (by split <;> rfl)
  have := of_decide_eq_false h
  omega
end Go.Proofs.YtdkachialdabaaaDoor.P
