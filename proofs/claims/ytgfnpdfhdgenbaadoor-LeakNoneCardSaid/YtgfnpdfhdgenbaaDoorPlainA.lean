/-
  PLAIN LEAN: loops, lists, the kinds of types and locals as closed functions.
-/
import Derived.Test.YtgfnpdfhdgenbaaDoorPx3
namespace Go.Proofs.YtgfnpdfhdgenbaaDoor.P
open Go.RowKit Go.Proofs.YtgfnpdfhdgenbaaDoorW.PrintWords Go.Proofs.YtgfnpdfhdgenbaaDoorW.PrintLast Go.Proofs.YtgfnpdfhdgenbaaDoorW.PrintMore


theorem Ev.ite {α : Type} {p : Prop} [Decidable p] {f g : Nat → Option α} {a b : α} (h1 : p → Ev f a) (h2 : ¬p → Ev g b) : Ev (fun k => if p then f k else g k) (if p then a else b) := by
  by_cases h : p
  · rw [if_pos h]; exact Ev.congr (fun k => if_pos h) (h1 h)
  · rw [if_neg h]; exact Ev.congr (fun k => if_neg h) (h2 h)
theorem Ev.out {α : Type} {g : Nat → Option α} {a b : α} (h : Ev g a) (e : a = b) : Ev g b := e ▸ h

/-! ### Loops -/
/-- From place i on, d places: the first that is bad tells; else fin. -/
def scan {β : Type} (bad : Nat → Option β) (fin : β) : Nat → Nat → β
  | 0, _ => fin
  | d + 1, i => match bad i with
    | some b => b
    | none => scan bad fin d (i + 1)
theorem scan_none {β : Type} {bad : Nat → Option β} {fin : β} {d i : Nat} (h : bad i = none) : scan bad fin (d + 1) i = scan bad fin d (i + 1) := by simp [scan, h]
theorem scan_some {β : Type} {bad : Nat → Option β} {fin : β} {d i : Nat} {b : β} (h : bad i = some b) : scan bad fin (d + 1) i = b := by simp [scan, h]
theorem scan_fin {β : Type} {bad : Nat → Option β} {fin : β} : ∀ (d i : Nat), (∀ j, i ≤ j → j < i + d → bad j = none) → scan bad fin d i = fin
  | 0, _, _ => rfl
  | d + 1, i, h => by
    rw [scan_none (h i (Nat.le_refl _) (by omega))]
    exact scan_fin d (i + 1) fun j h1 h2 => h j (by omega) (by omega)
/-- Either none is bad, or there is a first one. -/
theorem scan_first {β : Type} {bad : Nat → Option β} {fin : β} : ∀ (d i : Nat), (scan bad fin d i = fin ∧ ∀ j, i ≤ j → j < i + d → bad j = none) ∨ ∃ j b, i ≤ j ∧ j < i + d ∧ bad j = some b ∧ scan bad fin d i = b ∧ ∀ q, i ≤ q → q < j → bad q = none
  | 0, _ => .inl ⟨rfl, fun j h1 h2 => by omega⟩
  | d + 1, i => by
    cases hb : bad i with
    | some b => exact .inr ⟨i, b, Nat.le_refl _, by omega, hb, scan_some hb, fun q h1 h2 => by omega⟩
    | none =>
      rw [scan_none hb]
      rcases scan_first (bad := bad) (fin := fin) d (i + 1) with ⟨h1, h2⟩ | ⟨j, b, h1, h2, h3, h4, h5⟩
      · refine .inl ⟨h1, fun j hj hj2 => ?_⟩
        rcases Nat.eq_or_lt_of_le hj with e | e
        · rw [← e]; exact hb
        · exact h2 j e (by omega)
      · refine .inr ⟨j, b, by omega, by omega, h3, h4, fun q hq hq2 => ?_⟩
        rcases Nat.eq_or_lt_of_le hq with e | e
        · rw [← e]; exact hb
        · exact h5 q e hq2
theorem scan_congr {β : Type} {bad bad' : Nat → Option β} {fin : β} : ∀ (d i : Nat), (∀ j, i ≤ j → j < i + d → bad j = bad' j) → scan bad fin d i = scan bad' fin d i
  | 0, _, _ => rfl
  | d + 1, i, h => by
    have h0 := h i (Nat.le_refl _) (by omega)
    cases hb : bad i with
    | some b => rw [scan_some hb, scan_some (h0 ▸ hb)]
    | none =>
      rw [scan_none hb, scan_none (h0 ▸ hb)]
      exact scan_congr d (i + 1) fun j h1 h2 => h j (by omega) (by omega)
theorem loop_first {β : Type} {g : Nat → Nat → Option β} (bad : Nat → Option β) (n : Nat) (fin : β)
    (step : ∀ i, i < n → bad i = none → ∀ r, Ev (fun k => g k (i + 1)) r → Ev (fun k => g k i) r)
    (stop : ∀ i, i < n → ∀ b, bad i = some b → Ev (fun k => g k i) b)
    (done : (∀ j, j < n → bad j = none) → Ev (fun k => g k n) fin) : ∀ d i, i + d = n → (∀ j, j < i → bad j = none) → Ev (fun k => g k i) (scan bad fin d i)
  | 0, i, h, hp => by
    obtain rfl : i = n := by omega
    exact done hp
  | d + 1, i, h, hp => by
    cases hb : bad i with
    | some b => rw [scan_some hb]; exact stop i (by omega) b hb
    | none =>
      rw [scan_none hb]
      refine step i (by omega) hb _ (loop_first bad n fin step stop done d (i + 1) (by omega) fun j hj => ?_)
      rcases Nat.lt_succ_iff_lt_or_eq.1 hj with h1 | h1
      · exact hp j h1
      · rw [h1]; exact hb
/-- A list whose elements are all good. -/
def allB (n : Nat) (p : Nat → Bool) : Bool := (List.range n).all p
theorem allB_iff {n : Nat} {p : Nat → Bool} : allB n p = true ↔ ∀ j, j < n → p j = true := by simp [allB]
theorem scan_all (n : Nat) (p : Nat → Bool) (fin : Bool) : scan (fun i => if p i then none else some false) fin n 0 = (allB n p && fin) := by
  rcases scan_first (bad := fun i => if p i then none else some false) (fin := fin) n 0 with ⟨h1, h2⟩ | ⟨j, b, h1, h2, h3, h4, h5⟩
  · rw [h1]
    have : allB n p = true := allB_iff.2 fun j hj => by
      have := h2 j (Nat.zero_le _) (by omega)
      simpa using this
    rw [this, Bool.true_and]
  · rw [h4]
    have hp : p j = false ∧ b = false := by
      cases hp : p j <;> simp [hp] at h3
      exact ⟨rfl, h3⟩
    have : allB n p = false := by
      rw [← Bool.not_eq_true, allB_iff]
      intro h
      have := h j (by omega)
      rw [hp.1] at this
      cases this
    rw [this, hp.2, Bool.false_and]

/-! ### kind -/
theorem wrapN {i n : Nat} (h : i < n) (hn : n ≤ 9223372036854775807) : wrap64 ((i : Int) + 1) = ((i + 1 : Nat) : Int) := by
  unfold wrap64
  omega
def digF (c n : Int) : Int := if 48 ≤ c then (if c - 48 < n then c - 48 else -1) else -1
theorem digF_nonneg {c n : Int} (h : 0 ≤ digF c n) : digF c n = c - 48 ∧ 48 ≤ c ∧ c - 48 < n := by
  unfold digF at h ⊢
  split at h <;> rename_i h1
  · split at h <;> rename_i h2
    · rw [if_pos h1, if_pos h2]; exact ⟨rfl, h1, h2⟩
    · omega
  · omega
theorem digF_iff {c n : Int} : 0 ≤ digF c n ↔ 48 ≤ c ∧ c - 48 < n := by
  refine ⟨fun h => (digF_nonneg h).2, fun ⟨h1, h2⟩ => ?_⟩
  unfold digF
  rw [if_pos h1, if_pos h2]
  omega
theorem empty_iff (s : ByteArray) : s.toList = ([] : List UInt8) ↔ s.size = 0 := by
  rw [ByteArray.toList_eq, ← List.length_eq_zero_iff, Array.length_toList]
  rfl

def okB (s : ByteArray) (n : Int) : Bool := allB s.size fun i => bt s i == 105 || decide (0 ≤ digF (bt s i) n)
def oneB (s : ByteArray) (n : Int) : Bool := decide (0 < s.size) && decide (s.size ≤ 6) && okB s n
def rightB (t : List ByteArray) : Bool := allB t.length (fun j => oneB (rdOf ByteArray.empty t j) t.length) && (decide (1 ≤ t.length) && decide (t.length ≤ 8))

def refsB (t : List ByteArray) (s : ByteArray) : Bool := allB s.size (fun i => decide (0 ≤ digF (bt s i) t.length)) && rightB t
/-! ### check -/
theorem size_extract1 (s : ByteArray) (a : Nat) (h : a < s.size) : (s.extract a (a + 1)).size = 1 := by
  simp
  omega
theorem bt_extract1 (s : ByteArray) (a : Nat) (h : a < s.size) : bt (s.extract a (a + 1)) 0 = bt s a := by
  unfold bt
  have h1 : (0 : Int).toNat < (s.extract a (a + 1)).size := by rw [size_extract1 s a h]; decide
  have h2 : (a : Int).toNat < s.size := by omega
  rw [dif_pos h1, dif_pos h2]
  congr 2
  show (s.extract a (a + 1)).data[(0 : Int).toNat] = s.data[(a : Int).toNat]
  simp
def namedF (t : List ByteArray) (s : ByteArray) (a : Int) : Int := if a < s.size then (if (decide (0 ≤ digF (bt s a) t.length) && rightB t) = true then bt s a - 48 else -1) else -1
def ofF (t : List ByteArray) (i : Int) : ByteArray := if (rightB t && (decide (0 ≤ i) && decide (i < t.length))) = true then rdOf ByteArray.empty t i else ⟨#[]⟩
def sizeF (t : List ByteArray) (i : Int) : Int := (ofF t i).size
def U8 (n : Int) : Prop := 0 ≤ n ∧ n ≤ 255
def I64 (n : Int) : Prop := -9223372036854775808 ≤ n ∧ n ≤ 9223372036854775807
def WfI (x : S45) : Prop := U8 x.f0 ∧ U8 x.f1 ∧ U8 x.f2 ∧ U8 x.f3 ∧ I64 x.f4
def Wf (code : List S45) : Prop := ∀ i : Nat, WfI (code.getD i z45)
theorem wf_z : WfI z45 := by
  unfold WfI U8 I64
  decide
theorem rd_at (l : List S45) (i : Nat) : rd_T45 l (i : Int) = l.getD i z45 := rfl
theorem getD_take (l : List S45) (m i : Nat) : (l.take m).getD i z45 = if i < m then l.getD i z45 else z45 := by
  rw [List.getD_eq_getElem?_getD, List.getD_eq_getElem?_getD, List.getElem?_take]
  split <;> rfl
theorem getD_drop (l : List S45) (m i : Nat) : (l.drop m).getD i z45 = l.getD (m + i) z45 := by
  rw [List.getD_eq_getElem?_getD, List.getD_eq_getElem?_getD, List.getElem?_drop]
theorem Wf.take {code : List S45} (h : Wf code) (m : Nat) : Wf (code.take m) := fun i => by
  rw [getD_take]
  split
  · exact h i
  · exact wf_z

theorem rightB_one {t : List ByteArray} (h : rightB t = true) (i : Nat) (hi : i < t.length) : 1 ≤ sizeF t i ∧ sizeF t i ≤ 6 := by
  have h' := h
  unfold rightB at h'
  simp only [Bool.and_eq_true, decide_eq_true_eq] at h'
  have h2 := allB_iff.1 h'.1 i hi
  unfold oneB at h2
  simp only [Bool.and_eq_true, decide_eq_true_eq] at h2
  unfold sizeF ofF
  rw [h, if_pos (by simp; omega)]
  omega
theorem sizeF_range (t : List ByteArray) (i : Int) : 0 ≤ sizeF t i ∧ sizeF t i ≤ 6 := by
  by_cases h : (rightB t && (decide (0 ≤ i) && decide (i < t.length))) = true
  · simp only [Bool.and_eq_true, decide_eq_true_eq] at h
    obtain ⟨n, rfl⟩ := Int.eq_ofNat_of_zero_le h.2.1
    have := rightB_one h.1 n (by omega)
    omega
  · unfold sizeF ofF
    rw [if_neg h]
    decide

end Go.Proofs.YtgfnpdfhdgenbaaDoor.P
