/-
  PLAIN LEAN: full.Last and full.Full as closed functions.
-/
import Derived.Test.YtbmhmlgfpijmhaaDoorPlainA
import Derived.Test.YtbmhmlgfpijmhaaDoorPx4
namespace Go.Proofs.YtbmhmlgfpijmhaaDoor.P
open Go.RowKit Go.Proofs.YtbmhmlgfpijmhaaDoorW.PrintWords Go.Proofs.YtbmhmlgfpijmhaaDoorW.PrintLast Go.Proofs.YtbmhmlgfpijmhaaDoorW.PrintMore

def U8 (n : Int) : Prop := 0 ≤ n ∧ n ≤ 255
def I64 (n : Int) : Prop := -9223372036854775808 ≤ n ∧ n ≤ 9223372036854775807
def WfI (x : S39) : Prop := U8 x.f0 ∧ U8 x.f1 ∧ U8 x.f2 ∧ U8 x.f3 ∧ I64 x.f4
def Wf (code : List S39) : Prop := ∀ i : Nat, WfI (code.getD i z39)
theorem wf_z : WfI z39 := by
  unfold WfI U8 I64
  decide
theorem rd_at (l : List S39) (i : Nat) : rd_T39 l (i : Int) = l.getD i z39 := rfl
theorem getD_take (l : List S39) (m i : Nat) : (l.take m).getD i z39 = if i < m then l.getD i z39 else z39 := by
  rw [List.getD_eq_getElem?_getD, List.getD_eq_getElem?_getD, List.getElem?_take]
  split <;> rfl
theorem getD_drop (l : List S39) (m i : Nat) : (l.drop m).getD i z39 = l.getD (m + i) z39 := by
  rw [List.getD_eq_getElem?_getD, List.getD_eq_getElem?_getD, List.getElem?_drop]
theorem Wf.take {code : List S39} (h : Wf code) (m : Nat) : Wf (code.take m) := fun i => by
  rw [getD_take]
  split
  · exact h i
  · exact wf_z

theorem alive_f : Ev (fun k => lockstitchlaw10_alive.f k) true := Ev.of (k := 40) lockstitchlaw10_alive.mono (by kernel_rfl)

theorem rightB_one {t : List ByteArray} (h : rightB t = true) (i : Nat) (hi : i < t.length) : 1 ≤ sizeF t i ∧ sizeF t i ≤ 6 := by
  have h' := h
  unfold rightB at h'
  simp only [Bool.and_eq_true, decide_eq_true_eq] at h'
  have h2 := allB_iff.1 h'.1 i hi
  unfold oneB at h2
  simp only [Bool.and_eq_true, decide_eq_true_eq] at h2
  unfold sizeF ofF
  rw [h, if_pos (by simp; omega)]
  omega
theorem sizeF_range (t : List ByteArray) (i : Int) : 0 ≤ sizeF t i ∧ sizeF t i ≤ 6 := by
  by_cases h : (rightB t && (decide (0 ≤ i) && decide (i < t.length))) = true
  · simp only [Bool.and_eq_true, decide_eq_true_eq] at h
    obtain ⟨n, rfl⟩ := Int.eq_ofNat_of_zero_le h.2.1
    have := rightB_one h.1 n (by omega)
    omega
  · unfold sizeF ofF
    rw [if_neg h]
    decide

theorem wrap_place (a i : Nat) (h : a + 1 + i ≤ 9223372036854775807) : wrap64 (wrap64 ((a : Int) + 1) + (i : Int)) = ((a + 1 + i : Nat) : Int) := by
  have e1 : wrap64 ((a : Int) + 1) = (a : Int) + 1 := by unfold wrap64; omega
  rw [e1]
  unfold wrap64
  omega
theorem shl_pow : ∀ n : Fin 7, shl .i64 1 ((n.val : Nat) : Int) = ((2 ^ n.val : Nat) : Int) := by decide +kernel
theorem or_pow : ∀ h : Fin 64, ∀ n : Fin 6, Go.bits .or .i64 ((h.val : Nat) : Int) ((2 ^ n.val : Nat) : Int) = ((h.val ||| 2 ^ n.val : Nat) : Int) ∧ (h.val ||| 2 ^ n.val) < 64 := by decide +kernel

/-- What an instruction is to an object in local a: none: here it ends; some none: it does not matter; some (some n): it writes field n. -/
def cls (a : Int) (x : S39) : Option (Option Nat) :=
  if x.f0 = 1 ∨ x.f0 = 2 ∨ x.f0 = 14 ∨ x.f0 = 15 then some none
  else if x.f0 = 6 ∨ x.f0 = 7 then (if x.f1 = a then none else some none)
  else if x.f0 = 9 ∨ x.f0 = 11 then (if x.f1 = a ∧ 0 ≤ x.f4 ∧ x.f4 < 6 then some (some x.f4.toNat) else none)
  else none
theorem cls_field {a : Int} {x : S39} {n : Nat} (h : cls a x = some (some n)) : n < 6 ∧ x.f4 = n ∧ x.f1 = a ∧ (x.f0 = 9 ∨ x.f0 = 11) := by
  unfold cls at h
  split at h
  · cases h
  · split at h
    · split at h <;> cases h
    · split at h
      · rename_i h9
        split at h
        · rename_i h1
          injection h with h
          injection h with h
          omega
        · cases h
      · cases h
/-- Where the last write of an object is, among what is behind its making. -/
def runL (a : Int) (whole : Nat) (y : List S39) : Nat → Nat → Nat → Option Nat
  | 0, _, _ => none
  | d + 1, i, had => match cls a (y.getD i z39) with
    | none => none
    | some none => runL a whole y d (i + 1) had
    | some (some n) => if had ||| 2 ^ n = whole then some i else runL a whole y d (i + 1) (had ||| 2 ^ n)
def place (at_ : Nat) : Option Nat → Int
  | some j => ((at_ + 1 + j : Nat) : Int)
  | none => -1

theorem last_loop (at_ : Nat) (a : Int) (whole : Nat) (y : List S39) (hy : at_ + 1 + y.length ≤ 9223372036854775807) :
    ∀ d i had, i + d = y.length → had < 64 → Ev (fun k => full_Last.l0 k (at_ : Nat) a (whole : Nat) (had : Nat) y (y.length : Nat) (i : Nat)) (place at_ (runL a whole y d i had)) := by
  intro d
  induction d with
  | zero =>
    intro i had hi hh
    refine Ev.step (f := fun _ => some (-1)) (fun k => ?_) (Ev.now _)
    simp only [full_Last.l0]
    rw [if_neg (by omega)]
  | succ d ih =>
    intro i had hi hh
    generalize hx : y.getD i z39 = x
    have nxt : ∀ had' : Nat, had' < 64 → Ev (fun k => full_Last.l0 k (at_ : Nat) a (whole : Nat) (had' : Nat) y (y.length : Nat) (wrap64 ((i : Int) + 1))) (place at_ (runL a whole y d (i + 1) had')) := fun had' h' => by
      rw [wrapN (i := i) (n := y.length) (by omega) (by omega)]
      exact ih (i + 1) had' (by omega) h'
    have step : runL a whole y (d + 1) i had = match cls a x with
      | none => none
      | some none => runL a whole y d (i + 1) had
      | some (some n) => if had ||| 2 ^ n = whole then some i else runL a whole y d (i + 1) (had ||| 2 ^ n) := by
      rw [← hx]
      rfl
    -- the parts, from behind
    have j5 : ∀ b : Bool, (b = false → x.f1 = a ∧ 0 ≤ x.f4 ∧ x.f4 < 6) → Ev (fun k => full_Last.j5 k (at_ : Nat) a (whole : Nat) (had : Nat) (i : Nat) y (y.length : Nat) (i : Nat) b x.f0 x.f1 x.f2 x.f3 x.f4)
        (if b = true then -1 else if had ||| 2 ^ x.f4.toNat = whole then ((at_ + 1 + i : Nat) : Int) else place at_ (runL a whole y d (i + 1) (had ||| 2 ^ x.f4.toNat))) := fun b hb => by
      refine Ev.step (fun k => by simp only [full_Last.j5]; rfl) ?_
      refine Ev.ite (fun _ => Ev.now _) fun hb2 => ?_
      obtain ⟨_, h0, h6⟩ := hb (by simpa using hb2)
      obtain ⟨n, hn⟩ := Int.eq_ofNat_of_zero_le h0
      have e1 : shl .i64 1 x.f4 = ((2 ^ n : Nat) : Int) := by rw [hn]; exact shl_pow ⟨n, by omega⟩
      have e2 := or_pow ⟨had, hh⟩ ⟨n, by omega⟩
      dsimp only at e2
      rw [e1, e2.1, hn, Int.toNat_natCast]
      refine Ev.congr (fun k => if_pos (by omega)) ?_
      have e3 : wrap64 (wrap64 ((at_ : Int) + 1) + (i : Int)) = ((at_ + 1 + i : Nat) : Int) := wrap_place at_ i (by omega)
      rw [e3]
      refine Ev.out (Ev.ite (fun _ => Ev.now ((at_ + 1 + i : Nat) : Int)) fun _ => nxt (had ||| 2 ^ n) e2.2) ?_
      by_cases h : had ||| 2 ^ n = whole
      · rw [if_pos h, if_pos (by rw [h])]
      · rw [if_neg h, if_neg (by omega)]
    have j4 : ∀ b : Bool, Ev (fun k => full_Last.j4 k (at_ : Nat) a (whole : Nat) (had : Nat) (i : Nat) y (y.length : Nat) (i : Nat) b x.f0 x.f1 x.f2 x.f3 x.f4)
        (if b = true then (if x.f1 = a ∧ 0 ≤ x.f4 ∧ x.f4 < 6 then (if had ||| 2 ^ x.f4.toNat = whole then ((at_ + 1 + i : Nat) : Int) else place at_ (runL a whole y d (i + 1) (had ||| 2 ^ x.f4.toNat))) else -1) else -1) := fun b => by
      refine Ev.step (fun k => by simp only [full_Last.j4]; rfl) ?_
      refine Ev.ite (fun _ => ?_) fun _ => Ev.now _
      by_cases h1 : x.f1 = a
      · refine Ev.congr (fun k => if_pos h1) ?_
        by_cases h2 : x.f4 < 0
        · refine Ev.congr (fun k => if_pos h2) (Ev.out (j5 true fun h => by cases h) ?_)
          rw [if_pos rfl, if_neg (by omega)]
        · refine Ev.congr (fun k => if_neg h2) ?_
          by_cases h3 : x.f4 ≥ 6
          · rw [decide_eq_true h3]
            refine Ev.out (j5 true fun h => by cases h) ?_
            rw [if_pos rfl, if_neg (by omega)]
          · rw [decide_eq_false h3]
            refine Ev.out (j5 false fun _ => ⟨h1, by omega, by omega⟩) ?_
            rw [if_neg (by decide), if_pos (show x.f1 = a ∧ 0 ≤ x.f4 ∧ x.f4 < 6 from ⟨h1, by omega, by omega⟩)]
      · refine Ev.congr (fun k => if_neg h1) (Ev.out (j5 true fun h => by cases h) ?_)
        rw [if_pos rfl, if_neg (fun h => h1 h.1)]
    have j3 : ∀ b : Bool, Ev (fun k => full_Last.j3 k (at_ : Nat) a (whole : Nat) (had : Nat) (i : Nat) y (y.length : Nat) (i : Nat) x.f0 b x.f0 x.f1 x.f2 x.f3 x.f4)
        (if b = true then (if x.f1 = a then -1 else place at_ (runL a whole y d (i + 1) had)) else if x.f0 = 9 ∨ x.f0 = 11 then (if x.f1 = a ∧ 0 ≤ x.f4 ∧ x.f4 < 6 then (if had ||| 2 ^ x.f4.toNat = whole then ((at_ + 1 + i : Nat) : Int) else place at_ (runL a whole y d (i + 1) (had ||| 2 ^ x.f4.toNat))) else -1) else -1) := fun b => by
      refine Ev.step (fun k => by simp only [full_Last.j3]; rfl) ?_
      refine Ev.ite (fun _ => Ev.ite (fun _ => Ev.now _) fun _ => nxt had hh) fun _ => ?_
      refine Ev.out (Ev.ite (fun _ => j4 _) fun _ => j4 _) ?_
      by_cases h9 : x.f0 = 9
      · simp only [h9, beq_self_eq_true, if_true, true_or]
      · by_cases h11 : x.f0 = 11
        · simp only [h11, beq_self_eq_true, if_true, or_true]
          rw [if_neg (by decide)]
        · rw [if_neg h9, if_neg (by simpa using h11), if_neg (by omega)]
    have j2 : ∀ b : Bool, Ev (fun k => full_Last.j2 k (at_ : Nat) a (whole : Nat) (had : Nat) (i : Nat) y (y.length : Nat) (i : Nat) x.f0 b x.f0 x.f1 x.f2 x.f3 x.f4)
        (if b = true then place at_ (runL a whole y d (i + 1) had) else if x.f0 = 6 ∨ x.f0 = 7 then (if x.f1 = a then -1 else place at_ (runL a whole y d (i + 1) had)) else if x.f0 = 9 ∨ x.f0 = 11 then (if x.f1 = a ∧ 0 ≤ x.f4 ∧ x.f4 < 6 then (if had ||| 2 ^ x.f4.toNat = whole then ((at_ + 1 + i : Nat) : Int) else place at_ (runL a whole y d (i + 1) (had ||| 2 ^ x.f4.toNat))) else -1) else -1) := fun b => by
      refine Ev.step (fun k => by simp only [full_Last.j2]; rfl) ?_
      refine Ev.ite (fun _ => nxt had hh) fun _ => ?_
      refine Ev.out (Ev.ite (fun _ => j3 _) fun _ => j3 _) ?_
      by_cases h6 : x.f0 = 6
      · simp only [h6, beq_self_eq_true, if_true, true_or]
      · by_cases h7 : x.f0 = 7
        · simp only [h7, beq_self_eq_true, if_true, or_true]
          rw [if_neg (by decide)]
        · rw [if_neg h6, if_neg (by simpa using h7), if_neg (by omega : ¬ (x.f0 = 6 ∨ x.f0 = 7))]
    have fin : ∀ b : Bool, (b = true ↔ (x.f0 = 1 ∨ x.f0 = 2 ∨ x.f0 = 14 ∨ x.f0 = 15)) → Ev (fun k => full_Last.j2 k (at_ : Nat) a (whole : Nat) (had : Nat) (i : Nat) y (y.length : Nat) (i : Nat) x.f0 b x.f0 x.f1 x.f2 x.f3 x.f4) (place at_ (runL a whole y (d + 1) i had)) := fun b hb => by
      refine Ev.out (j2 b) ?_
      rw [step]
      unfold cls
      by_cases h1 : x.f0 = 1 ∨ x.f0 = 2 ∨ x.f0 = 14 ∨ x.f0 = 15
      · rw [if_pos (hb.2 h1), if_pos h1]
      · rw [if_neg (fun h => h1 (hb.1 h)), if_neg h1]
        by_cases h6 : x.f0 = 6 ∨ x.f0 = 7
        · rw [if_pos h6, if_pos h6]
          by_cases ha : x.f1 = a
          · rw [if_pos ha, if_pos ha]; rfl
          · rw [if_neg ha, if_neg ha]
        · rw [if_neg h6, if_neg h6]
          by_cases h9 : x.f0 = 9 ∨ x.f0 = 11
          · rw [if_pos h9, if_pos h9]
            by_cases hs : x.f1 = a ∧ 0 ≤ x.f4 ∧ x.f4 < 6
            · rw [if_pos hs, if_pos hs]
              dsimp only
              by_cases hw : had ||| 2 ^ x.f4.toNat = whole
              · rw [if_pos hw, if_pos hw]; rfl
              · rw [if_neg hw, if_neg hw]
            · rw [if_neg hs, if_neg hs]; rfl
          · rw [if_neg h9, if_neg h9]; rfl
    refine Ev.step (f := fun k => if x.f0 = 1 then (full_Last.j2 k (at_ : Nat) a (whole : Nat) (had : Nat) (i : Nat) y (y.length : Nat) (i : Nat) x.f0 (x.f0 == 1) x.f0 x.f1 x.f2 x.f3 x.f4) else (if x.f0 = 2 then (full_Last.j2 k (at_ : Nat) a (whole : Nat) (had : Nat) (i : Nat) y (y.length : Nat) (i : Nat) x.f0 (x.f0 == 2) x.f0 x.f1 x.f2 x.f3 x.f4) else (if x.f0 = 14 then (full_Last.j2 k (at_ : Nat) a (whole : Nat) (had : Nat) (i : Nat) y (y.length : Nat) (i : Nat) x.f0 (x.f0 == 14) x.f0 x.f1 x.f2 x.f3 x.f4) else (full_Last.j2 k (at_ : Nat) a (whole : Nat) (had : Nat) (i : Nat) y (y.length : Nat) (i : Nat) x.f0 (x.f0 == 15) x.f0 x.f1 x.f2 x.f3 x.f4)))) (fun k => ?_) ?_
    · simp only [full_Last.l0]
      rw [if_pos (by omega), if_pos (by omega), if_pos (by omega), rd_at, hx]
    · by_cases h1 : x.f0 = 1
      · exact Ev.congr (fun k => if_pos h1) (fin _ (by simp [h1]))
      · refine Ev.congr (fun k => if_neg h1) ?_
        by_cases h2 : x.f0 = 2
        · exact Ev.congr (fun k => if_pos h2) (fin _ (by simp [h2]))
        · refine Ev.congr (fun k => if_neg h2) ?_
          by_cases h3 : x.f0 = 14
          · exact Ev.congr (fun k => if_pos h3) (fin _ (by simp [h3]))
          · exact Ev.congr (fun k => if_neg h3) (fin _ (by simp [h1, h2, h3]))

def wholeOf (t : List ByteArray) (lo : ByteArray) (a : Int) : Nat := 2 ^ (sizeF t (namedF t lo a)).toNat - 1
def lastN (t : List ByteArray) (lo : ByteArray) (code : List S39) (at_ : Nat) : Int :=
  if (code.getD at_ z39).f0 = 5 then place at_ (runL (code.getD at_ z39).f1 (wholeOf t lo (code.getD at_ z39).f1) (code.drop (at_ + 1)) (code.length - (at_ + 1)) 0 0) else -1
theorem last_f (t : List ByteArray) (lo gl : ByteArray) (code : List S39) (at_ : Nat) (ha : at_ < code.length) (ht : t.length ≤ 9223372036854775807) (hn : code.length ≤ 9223372036854775807) (hw : Wf code) :
    Ev (fun k => full_Last.f k t lo gl code (at_ : Nat)) (lastN t lo code at_) := by
  refine Ev.congr (f := fun k => full_Last.j0 k (at_ : Nat) ((code.getD at_ z39).f0 != 5) t lo gl code) (fun k => ?_) ?_
  · unfold full_Last.f
    rw [if_neg (by omega), if_neg (by omega), if_pos (by omega), if_pos (by omega), rd_at]
  · have hx := hw at_
    unfold lastN
    generalize hxe : code.getD at_ z39 = x at hx ⊢
    by_cases h5 : x.f0 = 5
    · have eb : (x.f0 != 5) = false := by simp [h5]
      rw [eb, if_pos h5]
      have sr := sizeF_range t (namedF t lo x.f1)
      obtain ⟨s, hs⟩ := Int.eq_ofNat_of_zero_le sr.1
      have e1 : wrap64 ((at_ : Int) + 1) = ((at_ + 1 : Nat) : Int) := wrapN ha hn
      refine Ev.step (f := fun k => (check_Local.f k t lo gl code (rd_T39 code (at_ : Nat)).f1).bind fun t114 => ((kind_Size.f k t t114).bind fun t115 => (if 0 ≤ t115 then (full_Last.l0 k (at_ : Nat) (rd_T39 code (at_ : Nat)).f1 (wrap64 ((shl .i64 1 t115) - 1)) 0 (code.drop (at_ + 1)) ((code.drop (at_ + 1)).length : Int) 0) else none))) (fun k => ?_) ?_
      · simp only [full_Last.j0]
        rw [if_neg (by decide), if_pos (by omega), if_pos (by omega), e1]
        congr 1
        funext t114
        congr 1
        funext t115
        by_cases h : 0 ≤ t115
        · rw [if_pos h, if_pos h, if_pos (by omega), if_pos (by omega), Int.toNat_natCast]
          rfl
        · rw [if_neg h, if_neg h]
      · have ex : rd_T39 code (at_ : Nat) = x := (rd_at code at_).trans hxe
        rw [ex]
        refine Ev.bind (local_f t lo gl code x.f1 ht hx.2.1.1 hx.2.1.2) (Ev.bind (size_f t _ ht) ?_)
        rw [hs]
        refine Ev.congr (fun k => if_pos (by omega)) ?_
        have e2 : wrap64 (shl .i64 1 (s : Int) - 1) = ((2 ^ s - 1 : Nat) : Int) := by
          rw [shl_pow ⟨s, by omega⟩]
          have h1 : 2 ^ s ≤ 64 := Nat.pow_le_pow_right (by decide) (by omega : s ≤ 6)
          have h2 : 1 ≤ 2 ^ s := Nat.one_le_two_pow
          unfold wrap64
          dsimp only
          omega
        rw [e2]
        have hl : (code.drop (at_ + 1)).length = code.length - (at_ + 1) := List.length_drop
        have := last_loop at_ x.f1 (2 ^ s - 1) (code.drop (at_ + 1)) (by omega) (code.length - (at_ + 1)) 0 0 (by omega) (by decide)
        unfold wholeOf
        rw [hs, Int.toNat_natCast]
        exact this
    · have eb : (x.f0 != 5) = true := by simp [h5]
      rw [eb, if_neg h5]
      refine Ev.step (f := fun _ => some (-1)) (fun k => ?_) (Ev.now _)
      simp only [full_Last.j0]
      rw [if_pos trivial]
theorem full_f (t : List ByteArray) (lo gl : ByteArray) (code : List S39) (at_ : Nat) (ha : at_ < code.length) (ht : t.length ≤ 9223372036854775807) (hn : code.length ≤ 9223372036854775807) (hw : Wf code) :
    Ev (fun k => full_Full.f k t lo gl code (at_ : Nat)) (decide (lastN t lo code at_ ≥ 0)) := Ev.bind (last_f t lo gl code at_ ha ht hn hw) (Ev.now _)
end Go.Proofs.YtbmhmlgfpijmhaaDoor.P
