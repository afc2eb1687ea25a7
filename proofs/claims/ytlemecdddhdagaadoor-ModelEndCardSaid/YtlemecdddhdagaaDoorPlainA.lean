/-
  PLAIN LEAN: what kind's and check's functions come to, each as a closed function of its arguments.
-/
import Derived.Test.YtlemecdddhdagaaDoorPx3
namespace Go.Proofs.YtlemecdddhdagaaDoor.P
open Go.RowKit Go.Proofs.YtlemecdddhdagaaDoorW.PrintWords Go.Proofs.YtlemecdddhdagaaDoorW.PrintLast Go.Proofs.YtlemecdddhdagaaDoorW.PrintMore

theorem Ev.ite {α : Type} {p : Prop} [Decidable p] {f g : Nat → Option α} {a b : α} (h1 : p → Ev f a) (h2 : ¬p → Ev g b) : Ev (fun k => if p then f k else g k) (if p then a else b) := by
  by_cases h : p
  · rw [if_pos h]; exact Ev.congr (fun k => if_pos h) (h1 h)
  · rw [if_neg h]; exact Ev.congr (fun k => if_neg h) (h2 h)
theorem Ev.out {α : Type} {g : Nat → Option α} {a b : α} (h : Ev g a) (e : a = b) : Ev g b := e ▸ h

/-! ### Loops -/
/-- From place i on, d places: the first that is bad tells; else fin. -/
def scan {β : Type} (bad : Nat → Option β) (fin : β) : Nat → Nat → β
  | 0, _ => fin
  | d + 1, i => match bad i with
    | some b => b
    | none => scan bad fin d (i + 1)
theorem scan_none {β : Type} {bad : Nat → Option β} {fin : β} {d i : Nat} (h : bad i = none) : scan bad fin (d + 1) i = scan bad fin d (i + 1) := by simp [scan, h]
theorem scan_some {β : Type} {bad : Nat → Option β} {fin : β} {d i : Nat} {b : β} (h : bad i = some b) : scan bad fin (d + 1) i = b := by simp [scan, h]
theorem scan_fin {β : Type} {bad : Nat → Option β} {fin : β} : ∀ (d i : Nat), (∀ j, i ≤ j → j < i + d → bad j = none) → scan bad fin d i = fin
  | 0, _, _ => rfl
  | d + 1, i, h => by
    rw [scan_none (h i (Nat.le_refl _) (by omega))]
    exact scan_fin d (i + 1) fun j h1 h2 => h j (by omega) (by omega)
/-- Either none is bad, or there is a first one. -/
theorem scan_first {β : Type} {bad : Nat → Option β} {fin : β} : ∀ (d i : Nat), (scan bad fin d i = fin ∧ ∀ j, i ≤ j → j < i + d → bad j = none) ∨ ∃ j b, i ≤ j ∧ j < i + d ∧ bad j = some b ∧ scan bad fin d i = b ∧ ∀ q, i ≤ q → q < j → bad q = none
  | 0, _ => .inl ⟨rfl, fun j h1 h2 => by omega⟩
  | d + 1, i => by
    cases hb : bad i with
    | some b => exact .inr ⟨i, b, Nat.le_refl _, by omega, hb, scan_some hb, fun q h1 h2 => by omega⟩
    | none =>
      rw [scan_none hb]
      rcases scan_first (bad := bad) (fin := fin) d (i + 1) with ⟨h1, h2⟩ | ⟨j, b, h1, h2, h3, h4, h5⟩
      · refine .inl ⟨h1, fun j hj hj2 => ?_⟩
        rcases Nat.eq_or_lt_of_le hj with e | e
        · rw [← e]; exact hb
        · exact h2 j e (by omega)
      · refine .inr ⟨j, b, by omega, by omega, h3, h4, fun q hq hq2 => ?_⟩
        rcases Nat.eq_or_lt_of_le hq with e | e
        · rw [← e]; exact hb
        · exact h5 q e hq2
theorem scan_congr {β : Type} {bad bad' : Nat → Option β} {fin : β} : ∀ (d i : Nat), (∀ j, i ≤ j → j < i + d → bad j = bad' j) → scan bad fin d i = scan bad' fin d i
  | 0, _, _ => rfl
  | d + 1, i, h => by
    have h0 := h i (Nat.le_refl _) (by omega)
    cases hb : bad i with
    | some b => rw [scan_some hb, scan_some (h0 ▸ hb)]
    | none =>
      rw [scan_none hb, scan_none (h0 ▸ hb)]
      exact scan_congr d (i + 1) fun j h1 h2 => h j (by omega) (by omega)
theorem loop_first {β : Type} {g : Nat → Nat → Option β} (bad : Nat → Option β) (n : Nat) (fin : β)
    (step : ∀ i, i < n → bad i = none → ∀ r, Ev (fun k => g k (i + 1)) r → Ev (fun k => g k i) r)
    (stop : ∀ i, i < n → ∀ b, bad i = some b → Ev (fun k => g k i) b)
    (done : (∀ j, j < n → bad j = none) → Ev (fun k => g k n) fin) : ∀ d i, i + d = n → (∀ j, j < i → bad j = none) → Ev (fun k => g k i) (scan bad fin d i)
  | 0, i, h, hp => by
    obtain rfl : i = n := by omega
    exact done hp
  | d + 1, i, h, hp => by
    cases hb : bad i with
    | some b => rw [scan_some hb]; exact stop i (by omega) b hb
    | none =>
      rw [scan_none hb]
      refine step i (by omega) hb _ (loop_first bad n fin step stop done d (i + 1) (by omega) fun j hj => ?_)
      rcases Nat.lt_succ_iff_lt_or_eq.1 hj with h1 | h1
      · exact hp j h1
      · rw [h1]; exact hb
/-- A list whose elements are all good. -/
def allB (n : Nat) (p : Nat → Bool) : Bool := (List.range n).all p
theorem allB_iff {n : Nat} {p : Nat → Bool} : allB n p = true ↔ ∀ j, j < n → p j = true := by simp [allB]
theorem scan_all (n : Nat) (p : Nat → Bool) (fin : Bool) : scan (fun i => if p i then none else some false) fin n 0 = (allB n p && fin) := by
  rcases scan_first (bad := fun i => if p i then none else some false) (fin := fin) n 0 with ⟨h1, h2⟩ | ⟨j, b, h1, h2, h3, h4, h5⟩
  · rw [h1]
    have : allB n p = true := allB_iff.2 fun j hj => by
      have := h2 j (Nat.zero_le _) (by omega)
      simpa using this
    rw [this, Bool.true_and]
  · rw [h4]
    have hp : p j = false ∧ b = false := by
      cases hp : p j <;> simp [hp] at h3
      exact ⟨rfl, h3⟩
    have : allB n p = false := by
      rw [← Bool.not_eq_true, allB_iff]
      intro h
      have := h j (by omega)
      rw [hp.1] at this
      cases this
    rw [this, hp.2, Bool.false_and]

/-! ### kind -/
theorem wrapN {i n : Nat} (h : i < n) (hn : n ≤ 9223372036854775807) : wrap64 ((i : Int) + 1) = ((i + 1 : Nat) : Int) := by
  unfold wrap64
  omega
def digF (c n : Int) : Int := if 48 ≤ c then (if c - 48 < n then c - 48 else -1) else -1
theorem digit_f (c n : Int) (h0 : 0 ≤ c) (h1 : c ≤ 255) : kind_digit.f c n = some (digF c n) := by
  have e : wrap64 (wrap64 c - 48) = c - 48 := by unfold wrap64; omega
  unfold kind_digit.f digF
  rw [e]
  by_cases h : 48 ≤ c
  · rw [if_pos (by omega), if_pos h]
    by_cases h' : c - 48 < n
    · rw [if_pos h', if_pos h']
    · rw [if_neg h', if_neg h']
  · rw [if_neg (by omega), if_neg h]
theorem digit_bt (s : ByteArray) (i n : Int) : kind_digit.f (bt s i) n = some (digF (bt s i) n) := digit_f _ _ (bt_range s i).1 (bt_range s i).2
theorem digF_nonneg {c n : Int} (h : 0 ≤ digF c n) : digF c n = c - 48 ∧ 48 ≤ c ∧ c - 48 < n := by
  unfold digF at h ⊢
  split at h <;> rename_i h1
  · split at h <;> rename_i h2
    · rw [if_pos h1, if_pos h2]; exact ⟨rfl, h1, h2⟩
    · omega
  · omega
theorem digF_iff {c n : Int} : 0 ≤ digF c n ↔ 48 ≤ c ∧ c - 48 < n := by
  refine ⟨fun h => (digF_nonneg h).2, fun ⟨h1, h2⟩ => ?_⟩
  unfold digF
  rw [if_pos h1, if_pos h2]
  omega
theorem empty_iff (s : ByteArray) : s.toList = ([] : List UInt8) ↔ s.size = 0 := by
  rw [ByteArray.toList_eq, ← List.length_eq_zero_iff, Array.length_toList]
  rfl

def okB (s : ByteArray) (n : Int) : Bool := allB s.size fun i => bt s i == 105 || decide (0 ≤ digF (bt s i) n)
def oneB (s : ByteArray) (n : Int) : Bool := decide (0 < s.size) && decide (s.size ≤ 6) && okB s n
def rightB (t : List ByteArray) : Bool := allB t.length (fun j => oneB (rdOf ByteArray.empty t j) t.length) && (decide (1 ≤ t.length) && decide (t.length ≤ 8))

theorem right_l1 (t : List ByteArray) (s : ByteArray) (x6 : List ByteArray) (x7 x8 : Int) (hs : s.size ≤ 6) (r : Bool) (hr : okB s t.length = true → Ev (fun k => kind_Right.l0 k t x6 x7 (wrap64 (x8 + 1))) r) :
    Ev (fun k => kind_Right.l1 k t s x6 x7 x8 s.size 0) (okB s t.length && r) := by
  have := loop_first (g := fun k i => kind_Right.l1 k t s x6 x7 x8 s.size (i : Nat)) (fun i => if (bt s i == 105 || decide (0 ≤ digF (bt s i) t.length)) then none else some false) s.size r
    (fun i hi hb q hq => ?_) (fun i hi b hb => ?_) (fun hall => ?_) s.size 0 (by omega) (fun j hj => by omega)
  · rw [scan_all s.size (fun i => bt s i == 105 || decide (0 ≤ digF (bt s i) t.length))] at this
    exact this
  · refine Ev.step (fun k => ?_) hq
    simp only [kind_Right.l1]
    rw [if_pos (by omega), if_pos (by omega), if_pos (by omega), wrapN hi (by omega)]
    by_cases h : bt s i = 105
    · rw [if_pos h]
    · rw [if_neg h, digit_bt]
      simp only [Option.bind_some]
      have h2 : 0 ≤ digF (bt s i) t.length := by
        have := hb
        simp [h] at this
        exact this
      rw [if_neg (by omega)]
  · have hb' : ¬ bt s i = 105 ∧ ¬ 0 ≤ digF (bt s i) t.length ∧ b = false := by
      by_cases h : bt s i = 105
      · simp [h] at hb
      · by_cases h2 : 0 ≤ digF (bt s i) t.length
        · simp [h2] at hb
        · simp [h, h2] at hb
          exact ⟨h, h2, hb⟩
    obtain ⟨h1, h2, rfl⟩ := hb'
    refine Ev.step (f := fun _ => some false) (fun k => ?_) (Ev.now false)
    simp only [kind_Right.l1]
    rw [if_pos (by omega), if_pos (by omega), if_pos (by omega), if_neg h1, digit_bt]
    simp only [Option.bind_some]
    rw [if_pos (by omega)]
  · have hok : okB s t.length = true := allB_iff.2 fun j hj => by
      have := hall j hj
      cases h : (bt s j == 105 || decide (0 ≤ digF (bt s j) t.length)) <;> simp [h] at this ⊢
    refine Ev.step (fun k => ?_) (hr hok)
    simp only [kind_Right.l1]
    rw [if_neg (by omega)]

theorem right_f (t : List ByteArray) (ht : t.length ≤ 9223372036854775807) : Ev (fun k => kind_Right.f k t) (rightB t) := by
  have := loop_first (g := fun k i => kind_Right.l0 k t t t.length (i : Nat)) (fun i => if oneB (rdOf ByteArray.empty t i) t.length then none else some false) t.length (decide (1 ≤ t.length) && decide (t.length ≤ 8))
    (fun i hi hb q hq => ?_) (fun i hi b hb => ?_) (fun _ => ?_) t.length 0 (by omega) (fun j hj => by omega)
  · rw [scan_all t.length (fun i => oneB (rdOf ByteArray.empty t i) t.length)] at this
    exact this
  · have ho : oneB (rdOf ByteArray.empty t i) t.length = true := by
      cases h : oneB (rdOf ByteArray.empty t i) t.length <;> simp [h] at hb ⊢
    unfold oneB at ho
    simp only [Bool.and_eq_true, decide_eq_true_eq] at ho
    obtain ⟨⟨h1, h2⟩, h3⟩ := ho
    refine Ev.step (f := fun k => kind_Right.j1 k t (rdOf ByteArray.empty t i) t t.length i false) (fun k => ?_) (Ev.step (f := fun k => kind_Right.l1 k t (rdOf ByteArray.empty t i) t t.length i ((rdOf ByteArray.empty t i).size : Int) 0) (fun k => ?_) ?_)
    · simp only [kind_Right.l0]
      rw [if_pos (by omega), if_pos (by omega), if_pos (by omega), if_neg (by rw [empty_iff]; omega), decide_eq_false (by omega)]
    · simp only [kind_Right.j1]
      rw [if_neg (by decide)]
    · have := right_l1 t (rdOf ByteArray.empty t i) t t.length i h2 q (fun _ => by rw [wrapN hi ht]; exact hq)
      rw [h3, Bool.true_and] at this
      exact this
  · have ho : oneB (rdOf ByteArray.empty t i) t.length = false ∧ b = false := by
      cases h : oneB (rdOf ByteArray.empty t i) t.length <;> simp [h] at hb
      exact ⟨rfl, hb⟩
    obtain ⟨ho, rfl⟩ := ho
    by_cases h1 : (rdOf ByteArray.empty t i).size = 0
    · refine Ev.step (f := fun k => kind_Right.j1 k t (rdOf ByteArray.empty t i) t t.length i true) (fun k => ?_) (Ev.step (f := fun k => some false) (fun k => ?_) (Ev.now false))
      · simp only [kind_Right.l0]
        rw [if_pos (by omega), if_pos (by omega), if_pos (by omega), if_pos ((empty_iff _).2 h1)]
      · simp only [kind_Right.j1]
        rw [if_pos trivial]
    · by_cases h2 : (rdOf ByteArray.empty t i).size ≤ 6
      · have h3 : okB (rdOf ByteArray.empty t i) t.length = false := by
          have : decide (0 < (rdOf ByteArray.empty t i).size) = true := decide_eq_true (by omega)
          unfold oneB at ho
          rw [this, decide_eq_true h2] at ho
          simpa using ho
        refine Ev.step (f := fun k => kind_Right.j1 k t (rdOf ByteArray.empty t i) t t.length i false) (fun k => ?_) (Ev.step (f := fun k => kind_Right.l1 k t (rdOf ByteArray.empty t i) t t.length i ((rdOf ByteArray.empty t i).size : Int) 0) (fun k => ?_) ?_)
        · simp only [kind_Right.l0]
          rw [if_pos (by omega), if_pos (by omega), if_pos (by omega), if_neg (by rw [empty_iff]; omega), decide_eq_false (by omega)]
        · simp only [kind_Right.j1]
          rw [if_neg (by decide)]
        · have := right_l1 t (rdOf ByteArray.empty t i) t t.length i h2 true (fun h => by rw [h3] at h; cases h)
          rw [h3, Bool.false_and] at this
          exact this
      · refine Ev.step (f := fun k => kind_Right.j1 k t (rdOf ByteArray.empty t i) t t.length i true) (fun k => ?_) (Ev.step (f := fun k => some false) (fun k => ?_) (Ev.now false))
        · simp only [kind_Right.l0]
          rw [if_pos (by omega), if_pos (by omega), if_pos (by omega), if_neg (by rw [empty_iff]; omega), decide_eq_true (by omega)]
        · simp only [kind_Right.j1]
          rw [if_pos trivial]
  · refine Ev.step (f := fun _ => some (decide (1 ≤ t.length) && decide (t.length ≤ 8))) (fun k => ?_) (Ev.now _)
    simp only [kind_Right.l0]
    rw [if_neg (by omega)]
    by_cases h : 1 ≤ t.length
    · rw [if_pos (by omega), decide_eq_true h, Bool.true_and]
      congr 1
      exact decide_eq_decide.2 (by omega)
    · rw [if_neg (by omega), decide_eq_false h, Bool.false_and]

def refsB (t : List ByteArray) (s : ByteArray) : Bool := allB s.size (fun i => decide (0 ≤ digF (bt s i) t.length)) && rightB t
theorem refs_f (t : List ByteArray) (s : ByteArray) (ht : t.length ≤ 9223372036854775807) (hs : s.size ≤ 9223372036854775807) : Ev (fun k => kind_Refs.f k t s) (refsB t s) := by
  have := loop_first (g := fun k i => kind_Refs.l0 k t s s.size (i : Nat)) (fun i => if decide (0 ≤ digF (bt s i) t.length) then none else some false) s.size (rightB t)
    (fun i hi hb q hq => ?_) (fun i hi b hb => ?_) (fun _ => ?_) s.size 0 (by omega) (fun j hj => by omega)
  · rw [scan_all s.size (fun i => decide (0 ≤ digF (bt s i) t.length))] at this
    exact this
  · have h2 : 0 ≤ digF (bt s i) t.length := by
      by_cases h : 0 ≤ digF (bt s i) t.length
      · exact h
      · simp [h] at hb
    refine Ev.step (fun k => ?_) hq
    simp only [kind_Refs.l0]
    rw [if_pos (by omega), if_pos (by omega), if_pos (by omega), wrapN hi hs, digit_bt]
    simp only [Option.bind_some]
    rw [if_neg (by omega)]
  · have h2 : ¬ 0 ≤ digF (bt s i) t.length ∧ b = false := by
      by_cases h : 0 ≤ digF (bt s i) t.length
      · simp [h] at hb
      · simp [h] at hb
        exact ⟨h, hb⟩
    obtain ⟨h2, rfl⟩ := h2
    refine Ev.step (f := fun _ => some false) (fun k => ?_) (Ev.now false)
    simp only [kind_Refs.l0]
    rw [if_pos (by omega), if_pos (by omega), if_pos (by omega), digit_bt]
    simp only [Option.bind_some]
    rw [if_pos (by omega)]
  · refine Ev.step (f := fun k => (kind_Right.f k t).bind fun t104 => some t104) (fun k => ?_) (Ev.bind (right_f t ht) (Ev.now _))
    simp only [kind_Refs.l0]
    rw [if_neg (by omega)]

/-! ### check -/
theorem size_extract1 (s : ByteArray) (a : Nat) (h : a < s.size) : (s.extract a (a + 1)).size = 1 := by
  simp
  omega
theorem bt_extract1 (s : ByteArray) (a : Nat) (h : a < s.size) : bt (s.extract a (a + 1)) 0 = bt s a := by
  unfold bt
  have h1 : (0 : Int).toNat < (s.extract a (a + 1)).size := by rw [size_extract1 s a h]; decide
  have h2 : (a : Int).toNat < s.size := by omega
  rw [dif_pos h1, dif_pos h2]
  congr 2
  show (s.extract a (a + 1)).data[(0 : Int).toNat] = s.data[(a : Int).toNat]
  simp
def namedF (t : List ByteArray) (s : ByteArray) (a : Int) : Int := if a < s.size then (if (decide (0 ≤ digF (bt s a) t.length) && rightB t) = true then bt s a - 48 else -1) else -1
theorem named_f (t : List ByteArray) (s : ByteArray) (a : Int) (ht : t.length ≤ 9223372036854775807) (h0 : 0 ≤ a) (h1 : a ≤ 255) : Ev (fun k => check_named.f k t s a) (namedF t s a) := by
  have e1 : wrap64 a = a := by unfold wrap64; omega
  have e2 : wrap64 (a + 1) = a + 1 := by unfold wrap64; omega
  by_cases h : a < s.size
  · obtain ⟨n, rfl⟩ := Int.eq_ofNat_of_zero_le h0
    have hn : n < s.size := by omega
    have hr := refs_f t (s.extract n (n + 1)) ht (by rw [size_extract1 s n hn]; omega)
    have er : refsB t (s.extract n (n + 1)) = (decide (0 ≤ digF (bt s (n : Int)) t.length) && rightB t) := by
      unfold refsB
      rw [size_extract1 s n hn]
      congr 1
      show (List.range 1).all _ = _
      simp only [List.range_one, List.all_cons, List.all_nil, Bool.and_true]
      rw [show ((0 : Nat) : Int) = 0 from rfl, bt_extract1 s n hn]
    rw [er] at hr
    refine Ev.congr (f := fun k => (kind_Refs.f k t (s.extract n (n + 1))).bind fun t105 => if t105 = true then some ((bt s n - 48) % 256) else some (-1)) (fun k => ?_) (Ev.bind hr ?_)
    · unfold check_named.f
      rw [e1, e2, if_neg (by omega), if_pos (by omega), if_pos (by omega), if_pos (by omega)]
      rw [show ((n : Int) + 1).toNat = n + 1 from by omega, Int.toNat_natCast]
      congr 1
      funext t105
      by_cases hb : t105 = true
      · rw [if_pos hb, if_pos hb, if_pos (by omega), if_pos (by omega)]
      · rw [if_neg hb, if_neg hb]
    · unfold namedF
      rw [if_pos h]
      cases hb : (decide (0 ≤ digF (bt s (n : Int)) t.length) && rightB t)
      · rw [if_neg (by decide), if_neg (by decide)]
        exact Ev.now _
      · rw [if_pos rfl, if_pos rfl]
        have := digF_iff.1 (of_decide_eq_true (Bool.and_eq_true _ _ ▸ hb).1)
        have hr := bt_range s n
        rw [show (bt s (n : Int) - 48) % 256 = bt s n - 48 from by omega]
        exact Ev.now _
  · refine Ev.congr (f := fun _ => some (-1)) (fun k => ?_) (by unfold namedF; rw [if_neg h]; exact Ev.now _)
    unfold check_named.f
    rw [e1, if_pos (by omega)]
theorem local_f (t : List ByteArray) (lo gl : ByteArray) (code : List S55) (a : Int) (ht : t.length ≤ 9223372036854775807) (h0 : 0 ≤ a) (h1 : a ≤ 255) : Ev (fun k => check_Local.f k t lo gl code a) (namedF t lo a) :=
  Ev.bind (named_f t lo a ht h0 h1) (Ev.now _)
theorem glob_f (t : List ByteArray) (lo gl : ByteArray) (code : List S55) (a : Int) (ht : t.length ≤ 9223372036854775807) (h0 : 0 ≤ a) (h1 : a ≤ 255) : Ev (fun k => check_Glob.f k t lo gl code a) (namedF t gl a) :=
  Ev.bind (named_f t gl a ht h0 h1) (Ev.now _)

def ofF (t : List ByteArray) (i : Int) : ByteArray := if (rightB t && (decide (0 ≤ i) && decide (i < t.length))) = true then rdOf ByteArray.empty t i else ⟨#[]⟩
theorem of_f (t : List ByteArray) (i : Int) (ht : t.length ≤ 9223372036854775807) : Ev (fun k => kind_of.f k t i) (ofF t i) := by
  refine Ev.bind (right_f t ht) ?_
  unfold ofF
  cases rightB t
  · rw [if_neg (by decide), if_neg (by simp)]
    exact Ev.now _
  · rw [if_pos rfl]
    by_cases h0 : i < 0
    · rw [if_pos h0, if_neg (by simp; omega)]
      exact Ev.now _
    · by_cases h1 : i < t.length
      · rw [if_neg h0, if_neg (by omega), if_pos (by omega), if_pos h1, if_pos (by simp; omega)]
        exact Ev.now _
      · rw [if_neg h0, if_pos (by omega), if_neg (by simp; omega)]
        exact Ev.now _
def sizeF (t : List ByteArray) (i : Int) : Int := (ofF t i).size
theorem size_f (t : List ByteArray) (i : Int) (ht : t.length ≤ 9223372036854775807) : Ev (fun k => kind_Size.f k t i) (sizeF t i) := Ev.bind (of_f t i ht) (Ev.now _)
def toF (t : List ByteArray) (i f : Int) : Int := if 0 ≤ f ∧ f < sizeF t i then digF (bt (ofF t i) f) t.length else -1
theorem to_f (t : List ByteArray) (i f : Int) (ht : t.length ≤ 9223372036854775807) : Ev (fun k => kind_To.f k t i f) (toF t i f) := by
  refine Ev.bind (of_f t i ht) ?_
  unfold toF sizeF
  by_cases h0 : f < 0
  · rw [if_pos h0, if_neg (by omega)]
    exact Ev.now _
  · by_cases h1 : f < (ofF t i).size
    · rw [if_neg h0, if_neg (by omega), if_pos (by omega), if_pos h1, if_pos (by omega), digit_bt]
      exact Ev.now _
    · rw [if_neg h0, if_pos (by omega), if_neg (by omega)]
      exact Ev.now _
def fieldF (t : List ByteArray) (a n : Int) : Int × Bool := if 0 ≤ a ∧ 0 ≤ n ∧ n < sizeF t a then (toF t a n, true) else (-1, false)
theorem field_f (t : List ByteArray) (lo gl : ByteArray) (code : List S55) (a n : Int) (ht : t.length ≤ 9223372036854775807) : Ev (fun k => check_field.f k t lo gl code a n) (fieldF t a n) := by
  unfold fieldF
  by_cases h0 : a < 0
  · refine Ev.congr (f := fun _ => some (-1, false)) (fun k => ?_) (by rw [if_neg (by omega)]; exact Ev.now _)
    unfold check_field.f
    rw [if_pos h0]
  · by_cases h1 : n < 0
    · refine Ev.congr (f := fun _ => some (-1, false)) (fun k => ?_) (by rw [if_neg (by omega)]; exact Ev.now _)
      unfold check_field.f
      rw [if_neg h0, if_pos h1]
    · refine Ev.congr (f := fun k => (kind_Size.f k t a).bind fun t117 => if n ≥ t117 then some (-1, false) else (kind_To.f k t a n).bind fun t118 => some (t118, true)) (fun k => ?_) (Ev.bind (size_f t a ht) ?_)
      · unfold check_field.f
        rw [if_neg h0, if_neg h1]
      · refine Ev.out (Ev.ite (fun _ => Ev.now (-1, false)) (fun _ => Ev.bind (to_f t a n ht) (Ev.now (toF t a n, true)))) ?_
        by_cases h2 : n < sizeF t a
        · rw [if_neg (by omega), if_pos (by omega)]
        · rw [if_pos (by omega), if_neg (by omega)]
def numberF (t : List ByteArray) (a n : Int) : Bool := (fieldF t a n).2 && decide ((fieldF t a n).1 < 0)
theorem number_f (t : List ByteArray) (lo gl : ByteArray) (code : List S55) (a n : Int) (ht : t.length ≤ 9223372036854775807) : Ev (fun k => check_number.f k t lo gl code a n) (numberF t a n) := by
  refine Ev.bind (field_f t lo gl code a n ht) ?_
  unfold numberF
  refine Ev.out (Ev.ite (fun _ => Ev.now (decide ((fieldF t a n).1 < 0))) (fun _ => Ev.now false)) ?_
  cases (fieldF t a n).2 <;> simp
def intsF (l : List Int) : Bool := allB l.length fun i => decide (rd l i < 8)
theorem ints_f (l : List Int) (hl : l.length ≤ 9223372036854775807) : Ev (fun k => check_ints.f k l) (intsF l) := by
  have := loop_first (g := fun k i => check_ints.l0 k l l.length (i : Nat)) (fun i => if decide (rd l i < 8) then none else some false) l.length true
    (fun i hi hb q hq => ?_) (fun i hi b hb => ?_) (fun _ => ?_) l.length 0 (by omega) (fun j hj => by omega)
  · rw [scan_all l.length (fun i => decide (rd l i < 8)), Bool.and_true] at this
    exact this
  · have h2 : rd l i < 8 := by
      by_cases h : rd l i < 8
      · exact h
      · simp [h] at hb
    refine Ev.step (fun k => ?_) hq
    simp only [check_ints.l0]
    rw [if_pos (by omega), if_pos (by omega), if_pos (by omega), wrapN hi hl, if_neg (by omega)]
  · have h2 : ¬ rd l i < 8 ∧ b = false := by
      by_cases h : rd l i < 8
      · simp [h] at hb
      · simp [h] at hb
        exact ⟨h, hb⟩
    obtain ⟨h2, rfl⟩ := h2
    refine Ev.step (f := fun _ => some false) (fun k => ?_) (Ev.now false)
    simp only [check_ints.l0]
    rw [if_pos (by omega), if_pos (by omega), if_pos (by omega), if_pos (by omega)]
  · refine Ev.step (f := fun _ => some true) (fun k => ?_) (Ev.now _)
    simp only [check_ints.l0]
    rw [if_neg (by omega)]
def oneF (a b : Int) : Bool := decide (0 ≤ a) && a == b
theorem one_f (a b : Int) : check_one.f a b = some (oneF a b) := by
  unfold check_one.f oneF
  by_cases h : 0 ≤ a
  · rw [if_pos h, decide_eq_true h, Bool.true_and]
  · rw [if_neg h, decide_eq_false h, Bool.false_and]

def kinds1F (t : List ByteArray) (lo gl : ByteArray) (o a b c n : Int) : Bool :=
  if o = 7 then oneF (namedF t lo a) (namedF t lo b)
  else if o = 8 then (if intsF [a] = true then numberF t (namedF t lo b) n else false)
  else if o = 9 then (if intsF [b] = true then numberF t (namedF t lo a) n else false)
  else if o = 10 then oneF (namedF t lo a) (fieldF t (namedF t lo b) n).1
  else if o = 11 then oneF (namedF t lo b) (fieldF t (namedF t lo a) n).1
  else if o = 12 then oneF (namedF t lo a) (namedF t gl b)
  else if o = 13 then oneF (namedF t lo b) (namedF t gl a)
  else if o = 15 then (if intsF [a] = true then oneF (namedF t lo b) (namedF t lo c) else false)
  else true
def kinds2F (t : List ByteArray) (lo gl : ByteArray) (o a b c n : Int) (x : Bool) : Bool :=
  if x = true then decide (namedF t lo a ≥ 0) else kinds1F t lo gl o a b c n
def kinds3F (t : List ByteArray) (lo gl : ByteArray) (o a b c n : Int) (x : Bool) : Bool :=
  if x = true then intsF [a] else if o = 2 then intsF [a, b, c]
  else if o = 5 then kinds2F t lo gl o a b c n (o == 5) else kinds2F t lo gl o a b c n (o == 6)
def kindsF (t : List ByteArray) (lo gl : ByteArray) (o a b c n : Int) : Bool :=
  if o = 1 then kinds3F t lo gl o a b c n (o == 1) else if o = 4 then kinds3F t lo gl o a b c n (o == 4) else kinds3F t lo gl o a b c n (o == 14)
theorem kinds_f (t : List ByteArray) (lo gl : ByteArray) (code : List S55) (o a b c n : Int) (ht : t.length ≤ 9223372036854775807)
    (ha : 0 ≤ a ∧ a ≤ 255) (hb : 0 ≤ b ∧ b ≤ 255) (hc : 0 ≤ c ∧ c ≤ 255) : Ev (fun k => check_kinds.f k t lo gl code o a b c n) (kindsF t lo gl o a b c n) := by
  have one : ∀ x, Ev (fun k => (check_ints.f k [x]).bind fun q => some q) (intsF [x]) := fun x => Ev.bind (ints_f [x] (by simp)) (Ev.now _)
  have j1 : ∀ x, Ev (fun k => check_kinds.j1 k (namedF t lo a) (namedF t lo b) o x t lo gl code o a b c n) (kinds2F t lo gl o a b c n x) := fun x => by
    unfold kinds2F kinds1F
    refine Ev.step (fun k => by simp only [check_kinds.j1]; rfl) ?_
    refine Ev.ite (fun _ => Ev.now _) fun _ => ?_
    refine Ev.ite (fun _ => Ev.congr (fun k => by rw [one_f]; rfl) (Ev.now _)) fun _ => ?_
    refine Ev.ite (fun _ => Ev.bind (ints_f [a] (by simp)) (Ev.ite (fun _ => Ev.bind (number_f t lo gl code _ _ ht) (Ev.now _)) fun _ => Ev.now _)) fun _ => ?_
    refine Ev.ite (fun _ => Ev.bind (ints_f [b] (by simp)) (Ev.ite (fun _ => Ev.bind (number_f t lo gl code _ _ ht) (Ev.now _)) fun _ => Ev.now _)) fun _ => ?_
    refine Ev.ite (fun _ => Ev.bind (field_f t lo gl code _ _ ht) (Ev.congr (fun k => by rw [one_f]; rfl) (Ev.now _))) fun _ => ?_
    refine Ev.ite (fun _ => Ev.bind (field_f t lo gl code _ _ ht) (Ev.congr (fun k => by rw [one_f]; rfl) (Ev.now _))) fun _ => ?_
    refine Ev.ite (fun _ => Ev.bind (glob_f t lo gl code _ ht hb.1 hb.2) (Ev.congr (fun k => by rw [one_f]; rfl) (Ev.now _))) fun _ => ?_
    refine Ev.ite (fun _ => Ev.bind (glob_f t lo gl code _ ht ha.1 ha.2) (Ev.congr (fun k => by rw [one_f]; rfl) (Ev.now _))) fun _ => ?_
    refine Ev.ite (fun _ => Ev.bind (ints_f [a] (by simp)) (Ev.ite (fun _ => Ev.bind (local_f t lo gl code _ ht hc.1 hc.2) (Ev.congr (fun k => by rw [one_f]; rfl) (Ev.now _))) fun _ => Ev.now _)) fun _ => Ev.now _
  have j0 : ∀ x, Ev (fun k => check_kinds.j0 k (namedF t lo a) (namedF t lo b) o x t lo gl code o a b c n) (kinds3F t lo gl o a b c n x) := fun x => by
    unfold kinds3F
    refine Ev.step (fun k => by simp only [check_kinds.j0]; rfl) ?_
    refine Ev.ite (fun _ => one a) fun _ => ?_
    refine Ev.ite (fun _ => Ev.bind (ints_f [a, b, c] (by simp)) (Ev.now _)) fun _ => ?_
    exact Ev.ite (fun _ => j1 _) fun _ => j1 _
  refine Ev.bind (local_f t lo gl code a ht ha.1 ha.2) (Ev.bind (local_f t lo gl code b ht hb.1 hb.2) ?_)
  exact Ev.ite (fun _ => j0 _) fun _ => Ev.ite (fun _ => j0 _) fun _ => j0 _
end Go.Proofs.YtlemecdddhdagaaDoor.P
