/-
  PLAIN LEAN: Check as a closed function, and the laws CheckNames, CheckFewer, CheckEach on it.
-/
import Derived.Test.YtlemecdddhdagaaDoorPlainA
import Derived.Test.YtlemecdddhdagaaDoorPx4
namespace Go.Proofs.YtlemecdddhdagaaDoor.P
open Go.RowKit Go.Proofs.YtlemecdddhdagaaDoorW.PrintWords Go.Proofs.YtlemecdddhdagaaDoorW.PrintLast Go.Proofs.YtlemecdddhdagaaDoorW.PrintMore

def rightI (x : S55) : Bool := if x.f0 < 1 then false else if x.f0 > 15 then false else
  ((hasB x.f0 98 || x.f2 == 0) && (hasB x.f0 99 || x.f3 == 0) && (hasB x.f0 110 || x.f4 == 0) && (hasB x.f0 97 || x.f1 == 0))
theorem rightI_f (x : S55) : code_Right.f x.f0 x.f1 x.f2 x.f3 x.f4 = some (rightI x) := by
  unfold code_Right.f rightI
  split
  · rfl
  · split <;> rfl
def jumpy (x : S55) : Bool := x.f0 == 3 || x.f0 == 4
def kindsI (t : List ByteArray) (lo gl : ByteArray) (x : S55) : Bool := kindsF t lo gl x.f0 x.f1 x.f2 x.f3 x.f4
def badI (t : List ByteArray) (lo gl : ByteArray) (n : Nat) (x : S55) : Option Int :=
  if rightI x = true then (if (jumpy x && (decide (x.f4 < 0) || decide (x.f4 > n))) = true then some 12 else if kindsI t lo gl x = true then none else some 5) else some 4
def headB (t : List ByteArray) (lo gl : ByteArray) : Bool := refsB t (lo ++ gl) && (decide (lo.size ≤ 8) && decide (gl.size ≤ 4))
def scanC (t : List ByteArray) (lo gl : ByteArray) (code : List S55) : Int × Int :=
  scan (fun i => (badI t lo gl code.length (code.getD i z55)).map fun e => ((i : Int), e)) (-1, 0) code.length 0
def checkF (t : List ByteArray) (lo gl : ByteArray) (code : List S55) : Int × Int :=
  if headB t lo gl = true then (if 1 ≤ code.length ∧ code.length ≤ 200 then scanC t lo gl code else (-1, 3)) else (-1, 5)
def Wf (code : List S55) : Prop := ∀ i : Nat, (0 ≤ (code.getD i z55).f1 ∧ (code.getD i z55).f1 ≤ 255) ∧ (0 ≤ (code.getD i z55).f2 ∧ (code.getD i z55).f2 ≤ 255) ∧ (0 ≤ (code.getD i z55).f3 ∧ (code.getD i z55).f3 ≤ 255)

theorem check_loop (t : List ByteArray) (lo gl : ByteArray) (code : List S55) (ht : t.length ≤ 9223372036854775807) (hn : code.length ≤ 9223372036854775807) (hw : Wf code) :
    Ev (fun k => check_Check.l0 k code code.length 0 t lo gl code) (scanC t lo gl code) := by
  have rd_e : ∀ i : Nat, rd_T55 code (i : Int) = code.getD i z55 := fun i => rfl
  -- the last part of one place
  have j2 : ∀ (i : Nat) (x : Bool) (r r' : Int × Int), i < code.length → (x = false → kindsI t lo gl (code.getD i z55) = true → Ev (fun k => check_Check.l0 k code code.length ((i + 1 : Nat) : Int) t lo gl code) r) →
      r' = (if x = true then ((i : Int), 12) else if kindsI t lo gl (code.getD i z55) = true then r else ((i : Int), 5)) →
      Ev (fun k => check_Check.j2 k (i : Int) code code.length (i : Int) x t lo gl code (code.getD i z55).f0 (code.getD i z55).f1 (code.getD i z55).f2 (code.getD i z55).f3 (code.getD i z55).f4) r' := by
    intro i x r r' hi hr e
    rw [e]
    refine Ev.step (fun k => by simp only [check_Check.j2]; rfl) ?_
    refine Ev.ite (fun _ => Ev.now _) fun hx => ?_
    refine Ev.bind (kinds_f t lo gl code _ _ _ _ _ ht (hw i).1 (hw i).2.1 (hw i).2.2) ?_
    refine Ev.ite (fun h => ?_) (fun _ => Ev.now _)
    rw [wrapN hi hn]
    exact hr (by simpa using hx) h
  have place : ∀ (i : Nat) (r r' : Int × Int), i < code.length → (badI t lo gl code.length (code.getD i z55) = none → Ev (fun k => check_Check.l0 k code code.length ((i + 1 : Nat) : Int) t lo gl code) r) →
      r' = (match badI t lo gl code.length (code.getD i z55) with | some e => ((i : Int), e) | none => r) →
      Ev (fun k => check_Check.l0 k code code.length (i : Int) t lo gl code) r' := by
    intro i r r' hi hr e
    rw [e]
    generalize hx : code.getD i z55 = x at *
    refine Ev.step (f := fun k => (code_Right.f x.f0 x.f1 x.f2 x.f3 x.f4).bind fun t165 => (if t165 = true then (if x.f0 = 3 then (if x.f4 < 0 then (check_Check.j2 k i code code.length i true t lo gl code x.f0 x.f1 x.f2 x.f3 x.f4) else (check_Check.j2 k i code code.length i (decide (x.f4 > (code.length : Int))) t lo gl code x.f0 x.f1 x.f2 x.f3 x.f4)) else (if x.f0 = 4 then (if x.f4 < 0 then (check_Check.j2 k i code code.length i true t lo gl code x.f0 x.f1 x.f2 x.f3 x.f4) else (check_Check.j2 k i code code.length i (decide (x.f4 > (code.length : Int))) t lo gl code x.f0 x.f1 x.f2 x.f3 x.f4)) else (check_Check.j2 k i code code.length i false t lo gl code x.f0 x.f1 x.f2 x.f3 x.f4))) else (some ((i : Int), 4)))) (fun k => ?_) ?_
    · simp only [check_Check.l0]
      rw [if_pos (by omega), if_pos (by omega), if_pos (by omega), rd_e, hx]
    · rw [rightI_f]
      simp only [Option.bind_some]
      by_cases h1 : rightI x = true
      · refine Ev.congr (fun k => if_pos h1) ?_
        have J : ∀ b r0, badI t lo gl code.length x = (if b = true then some 12 else if kindsI t lo gl x = true then none else some 5) → r0 = (match badI t lo gl code.length x with | some e => ((i : Int), e) | none => r) → Ev (fun k => check_Check.j2 k i code code.length i b t lo gl code x.f0 x.f1 x.f2 x.f3 x.f4) r0 := by
          intro b r0 hb e0
          have := j2 i b r r0 hi (fun hbf hk => by
            refine hr ?_
            rw [hx] at hk
            rw [hb, hbf, if_neg (by decide), if_pos hk]) (by
              rw [e0, hb, hx]
              cases b
              · cases kindsI t lo gl x <;> rfl
              · rfl)
          rw [hx] at this
          exact this
        have hbad : ∀ b, (jumpy x && (decide (x.f4 < 0) || decide (x.f4 > code.length))) = b → badI t lo gl code.length x = (if b = true then some 12 else if kindsI t lo gl x = true then none else some 5) := by
          intro b hb
          unfold badI
          rw [if_pos h1, hb]
        by_cases h3 : x.f0 = 3
        · refine Ev.congr (fun k => if_pos h3) ?_
          by_cases h4 : x.f4 < 0
          · exact Ev.congr (fun k => if_pos h4) (J true _ (hbad true (by simp [jumpy, h3, h4])) rfl)
          · exact Ev.congr (fun k => if_neg h4) (J _ _ (hbad _ (by simp [jumpy, h3, h4])) rfl)
        · refine Ev.congr (fun k => if_neg h3) ?_
          by_cases h5 : x.f0 = 4
          · refine Ev.congr (fun k => if_pos h5) ?_
            by_cases h4 : x.f4 < 0
            · exact Ev.congr (fun k => if_pos h4) (J true _ (hbad true (by simp [jumpy, h5, h4])) rfl)
            · exact Ev.congr (fun k => if_neg h4) (J _ _ (hbad _ (by simp [jumpy, h5, h4])) rfl)
          · exact Ev.congr (fun k => if_neg h5) (J false _ (hbad false (by simp [jumpy, h3, h5])) rfl)
      · refine Ev.congr (fun k => if_neg h1) ?_
        have : badI t lo gl code.length x = some 4 := by unfold badI; rw [if_neg h1]
        rw [this]
        exact Ev.now _
  have := loop_first (g := fun k i => check_Check.l0 k code code.length (i : Nat) t lo gl code) (fun i => (badI t lo gl code.length (code.getD i z55)).map fun e => ((i : Int), e)) code.length (-1, 0)
    (fun i hi hb q hq => ?_) (fun i hi b hb => ?_) (fun _ => ?_) code.length 0 (by omega) (fun j hj => by omega)
  · exact this
  · refine place i q q hi (fun _ => hq) ?_
    rw [Option.map_eq_none_iff] at hb
    rw [hb]
  · refine place i (0, 0) b hi (fun h => by rw [h] at hb; cases hb) ?_
    cases h : badI t lo gl code.length (code.getD i z55) with
    | none => rw [h] at hb; cases hb
    | some e => rw [h] at hb; cases hb; rfl
  · refine Ev.step (f := fun _ => some (-1, 0)) (fun k => ?_) (Ev.now _)
    simp only [check_Check.l0]
    rw [if_neg (by omega)]

theorem check_f (t : List ByteArray) (lo gl : ByteArray) (code : List S55) (ht : t.length ≤ 9223372036854775807) (hs : lo.size + gl.size ≤ 9223372036854775807) (hn : code.length ≤ 9223372036854775807) (hw : Wf code) :
    Ev (fun k => check_Check.f k t lo gl code) (checkF t lo gl code) := by
  have j0 : ∀ x, Ev (fun k => check_Check.j0 k code.length x t lo gl code) (if x = true then (-1, 5) else if (code.length : Int) < 1 then (-1, 3) else if (code.length : Int) > 200 then (-1, 3) else scanC t lo gl code) := fun x => by
    refine Ev.step (fun k => by simp only [check_Check.j0]; rfl) ?_
    exact Ev.ite (fun _ => Ev.now _) fun _ => Ev.ite (fun _ => Ev.now _) fun _ => Ev.ite (fun _ => Ev.now _) fun _ => check_loop t lo gl code ht hn hw
  have sz : (lo ++ gl).size = lo.size + gl.size := by simp
  refine Ev.congr (fun k => if_pos hs) (Ev.bind (refs_f t (lo ++ gl) ht (by rw [sz]; omega)) ?_)
  refine Ev.out (Ev.ite (fun _ => Ev.ite (fun _ => j0 _) fun _ => j0 _) fun _ => j0 _) ?_
  unfold checkF headB
  cases refsB t (lo ++ gl)
  · rfl
  · rw [if_pos rfl, Bool.true_and]
    by_cases h1 : lo.size ≤ 8
    · by_cases h2 : gl.size ≤ 4
      · rw [if_neg (by omega), decide_eq_true h1, decide_eq_true h2, if_neg (by simp; omega), show (true && true) = true from rfl, if_pos rfl]
        by_cases h3 : (code.length : Int) < 1
        · rw [if_pos h3, if_neg (by omega)]
        · by_cases h4 : (code.length : Int) > 200
          · rw [if_neg h3, if_pos h4, if_neg (by omega)]
          · rw [if_neg h3, if_neg h4, if_pos (by omega)]
      · rw [if_neg (by omega), decide_eq_true h1, decide_eq_false h2, if_pos (by simp; omega), if_neg (by decide)]
    · rw [if_pos (by omega), decide_eq_false h1, if_pos rfl, if_neg (by simp)]

/-- What it is that Check finds nothing. -/
theorem scanC_first (t : List ByteArray) (lo gl : ByteArray) (code : List S55) :
    (scanC t lo gl code = (-1, 0) ∧ ∀ j, j < code.length → badI t lo gl code.length (code.getD j z55) = none) ∨
    ∃ j e, j < code.length ∧ badI t lo gl code.length (code.getD j z55) = some e ∧ scanC t lo gl code = ((j : Int), e) ∧ ∀ q, q < j → badI t lo gl code.length (code.getD q z55) = none := by
  unfold scanC
  rcases scan_first (bad := fun i => (badI t lo gl code.length (code.getD i z55)).map fun e => ((i : Int), e)) (fin := ((-1, 0) : Int × Int)) code.length 0 with ⟨h1, h2⟩ | ⟨j, b, _, h2, h3, h4, h5⟩
  · refine .inl ⟨h1, fun j hj => ?_⟩
    have := h2 j (Nat.zero_le _) (by omega)
    rwa [Option.map_eq_none_iff] at this
  · rw [Option.map_eq_some_iff] at h3
    obtain ⟨e, h3, rfl⟩ := h3
    refine .inr ⟨j, e, by omega, h3, h4, fun q hq => ?_⟩
    have := h5 q (Nat.zero_le _) hq
    rwa [Option.map_eq_none_iff] at this
theorem badI_code {t : List ByteArray} {lo gl : ByteArray} {n : Nat} {x : S55} {e : Int} (h : badI t lo gl n x = some e) : e ≠ 0 := by
  unfold badI at h
  split at h
  · split at h
    · injection h; omega
    · split at h
      · cases h
      · injection h; omega
  · injection h; omega
theorem checkF_ok (t : List ByteArray) (lo gl : ByteArray) (code : List S55) : (checkF t lo gl code).2 = 0 ↔ headB t lo gl = true ∧ (1 ≤ code.length ∧ code.length ≤ 200) ∧ ∀ j, j < code.length → badI t lo gl code.length (code.getD j z55) = none := by
  unfold checkF
  by_cases h1 : headB t lo gl = true
  · rw [if_pos h1]
    by_cases h2 : 1 ≤ code.length ∧ code.length ≤ 200
    · rw [if_pos h2]
      rcases scanC_first t lo gl code with ⟨h3, h4⟩ | ⟨j, e, h3, h4, h5, _⟩
      · rw [h3]
        exact ⟨fun _ => ⟨h1, h2, h4⟩, fun _ => rfl⟩
      · rw [h5]
        refine ⟨fun h => absurd h (badI_code h4), fun h => ?_⟩
        rw [h.2.2 j h3] at h4
        cases h4
    · rw [if_neg h2]
      exact ⟨fun h => by simp at h, fun h => absurd h.2.1 h2⟩
  · rw [if_neg h1]
    exact ⟨fun h => by simp at h, fun h => absurd h.1 h1⟩
theorem checkF_minus (t : List ByteArray) (lo gl : ByteArray) (code : List S55) (h : (checkF t lo gl code).2 = 0) : checkF t lo gl code = (-1, 0) := by
  obtain ⟨h1, h2, h3⟩ := (checkF_ok t lo gl code).1 h
  unfold checkF
  rw [if_pos h1, if_pos h2]
  rcases scanC_first t lo gl code with ⟨h4, _⟩ | ⟨j, e, h5, h6, _⟩
  · exact h4
  · rw [h3 j h5] at h6
    cases h6
end Go.Proofs.YtlemecdddhdagaaDoor.P
