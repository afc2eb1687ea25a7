/-
  LazyChain: what is in memory: the count, the row of values, each one's number and letter; a value is made of the one ahead of it: the contract of a value's Get, all those ahead of it not made yet.
-/
import Derived.Test.YthnllejpoklgbaaGet
import Derived.Test.YthnllejpoklgbaaCount
import Derived.Test.YthnllejpoklgbaaWWords
import Derived.Deep.OwnRows
import Derived.LoopTactic
namespace Go.Proofs.Ythnllejpoklgbaa.lazyChain
open Go.RowKit
set_option linter.unusedVariables false
set_option linter.unusedSimpArgs false
attribute [local go_sem ↓] Go.wp_at_zero Go.wp_at_succ

/-- The sum of the first j. -/
def P (zs : List Int) : Nat → Int
  | 0 => 0
  | j + 1 => wrap64 (P zs j + zs.getD j 0)
abbrev caps (C V x y : Nat) : Array Value := #[.pointer (some ⟨C, 0, none⟩), .pointer (some ⟨x, 0, none⟩), .pointer (some ⟨y, 0, none⟩), .pointer (some ⟨V, 0, none⟩)]
/-- Value j, the first A being made. -/
def val (C V : Nat) (ib nb : Nat → Nat) (zs : List Int) (A j : Nat) : Array Value :=
  if j < A then #[.int .u32 1, .int .i32 0, .int .u32 0, .func (.func 29) #[] (caps C V (nb j) (ib j)), .int .i64 (P zs (j + 1)), .int .u32 1]
  else #[.int .u32 0, .int .i32 0, .int .u32 0, .func (.func 29) #[] (caps C V (nb j) (ib j)), .int .i64 0, .int .u32 0]
/-- n values, the first A made; the count is c; the box holds v. -/
structure Ch (w : World) (C V : Nat) (v : Value) (n : Nat) (ib nb bv : Nat → Nat) (zs : List Int) (A c : Nat) : Prop where
  cnt : Blk w C 30 #[.int .i64 (c : Int)]
  box : Blk w V 80 #[v]
  num : ∀ j, j < n → Blk w (ib j) 3 #[.int .i64 (j : Int)]
  letter : ∀ j, j < n → Blk w (nb j) 81 #[.int .i8 (zs.getD j 0)]
  vals : ∀ j, j < n → Blk w (bv j) 92 (val C V ib nb zs A j)
/-- Which blocks a Get of value j - 1 writes. -/
def Sj (C : Nat) (bv : Nat → Nat) (j : Nat) (i : Nat) : Prop := i = C ∨ ∃ q, q < j ∧ i = bv q
section
variable {w w' : World} {C V n : Nat} {v : Value} {ib nb bv : Nat → Nat} {zs : List Int} {A c : Nat}
theorem blk_ne_type {g g' t t' : Nat} {cs cs' : Array Value} (h : Blk w g t cs) (h' : Blk w g' t' cs') (hne : t ≠ t') : g ≠ g' := by
  rintro rfl
  unfold Blk at h h'
  rw [h] at h'
  injection h' with h'
  injection h' with _ h'
  exact hne h'
theorem Ch.ib_inj (h : Ch w C V v n ib nb bv zs A c) {i j : Nat} (hi : i < n) (hj : j < n) (e : ib i = ib j) : i = j := by
  have a := h.num i hi
  have b := h.num j hj
  rw [e] at a
  unfold Blk at a b
  rw [a] at b
  injection b with b
  injection b with b
  have : (Value.int .i64 (i : Int)) = .int .i64 (j : Int) := by
    have := congrArg (fun x => x[0]?) b
    simpa using this
  injection this with _ this
  omega
theorem val3 (C V : Nat) (ib nb : Nat → Nat) (zs : List Int) (A j : Nat) : (val C V ib nb zs A j)[3]? = some (.func (.func 29) #[] (caps C V (nb j) (ib j))) := by
  unfold val
  split <;> rfl
theorem Ch.bv_inj (h : Ch w C V v n ib nb bv zs A c) {i j : Nat} (hi : i < n) (hj : j < n) (e : bv i = bv j) : i = j := by
  have a := h.vals i hi
  have b := h.vals j hj
  rw [e] at a
  unfold Blk at a b
  rw [a] at b
  injection b with b
  injection b with b
  have h3 := congrArg (fun x => x[3]?) b
  simp only [val3] at h3
  have : nb i = nb j ∧ ib i = ib j := by simpa [caps] using h3
  exact h.ib_inj hi hj this.2
theorem Ch.own (h : Ch w C V v n ib nb bv zs A c) {S : Nat → Prop} (ho : Own S w w') (hC : ¬ S C) (hV : ¬ S V) (hb : ∀ j, j < n → ¬ S (ib j) ∧ ¬ S (nb j) ∧ ¬ S (bv j)) : Ch w' C V v n ib nb bv zs A c :=
  ⟨h.cnt.own ho hC, h.box.own ho hV, fun j hj => (h.num j hj).own ho (hb j hj).1, fun j hj => (h.letter j hj).own ho (hb j hj).2.1, fun j hj => (h.vals j hj).own ho (hb j hj).2.2⟩
theorem Ch.idle (h : Ch w C V v n ib nb bv zs A c) (ho : Own (fun _ => False) w w') : Ch w' C V v n ib nb bv zs A c := h.own ho id id fun _ _ => ⟨id, id, id⟩
theorem Ch.less (h : Ch w C V v n ib nb bv zs A c) {k : Nat} (hk : k ≤ n) : Ch w C V v k ib nb bv zs A c :=
  ⟨h.cnt, h.box, fun j hj => h.num j (by omega), fun j hj => h.letter j (by omega), fun j hj => h.vals j (by omega)⟩
theorem val_not (h : n ≤ A) : val C V ib nb zs n n = #[.int .u32 0, .int .i32 0, .int .u32 0, .func (.func 29) #[] (caps C V (nb n) (ib n)), .int .i64 0, .int .u32 0] := if_neg (by omega)
theorem val_off {j : Nat} (h : A ≤ j) : val C V ib nb zs A j = #[.int .u32 0, .int .i32 0, .int .u32 0, .func (.func 29) #[] (caps C V (nb j) (ib j)), .int .i64 0, .int .u32 0] := if_neg (by omega)
theorem val_on {j : Nat} (h : j < A) : val C V ib nb zs A j = #[.int .u32 1, .int .i32 0, .int .u32 0, .func (.func 29) #[] (caps C V (nb j) (ib j)), .int .i64 (P zs (j + 1)), .int .u32 1] := if_pos h
end

/-- .. and the row of values. -/
structure Cg (w : World) (C V g m cp : Nat) (cur : Array Value) (n : Nat) (ib nb bv : Nat → Nat) (zs : List Int) (A c : Nat) : Prop where
  ch : Ch w C V (.slice (some ⟨g, 0, none⟩) m cp) n ib nb bv zs A c
  row : Blk w g 39 cur
section
variable {w w' : World} {C V g m cp n : Nat} {cur : Array Value} {ib nb bv : Nat → Nat} {zs : List Int} {A c : Nat}
theorem Cg.less (h : Cg w C V g m cp cur n ib nb bv zs A c) {k : Nat} (hk : k ≤ n) : Cg w C V g m cp cur k ib nb bv zs A c := ⟨h.ch.less hk, h.row⟩
theorem Cg.idle (h : Cg w C V g m cp cur n ib nb bv zs A c) (ho : Own (fun _ => False) w w') : Cg w' C V g m cp cur n ib nb bv zs A c := ⟨h.ch.idle ho, h.row.own ho id⟩
/-- A block that is of another type than all, or another value's, may be written. -/
theorem Cg.own1 (h : Cg w C V g m cp cur n ib nb bv zs A c) {b : Nat} (ho : Own (· = b) w w') (hC : C ≠ b) (hV : V ≠ b) (hg : g ≠ b) (hb : ∀ j, j < n → ib j ≠ b ∧ nb j ≠ b ∧ bv j ≠ b) : Cg w' C V g m cp cur n ib nb bv zs A c :=
  ⟨h.ch.own ho hC hV hb, h.row.own ho hg⟩
theorem sj_lt (h : Cg w C V g m cp cur n ib nb bv zs A c) {j : Nat} (hj : j ≤ n) : ∀ i, Sj C bv j i → i < w.heap.size := by
  rintro i (rfl | ⟨q, hq, rfl⟩)
  · exact h.ch.cnt.lt
  · exact (h.ch.vals q (by omega)).lt
end

theorem i8_wrap {z : Int} (h : -128 ≤ z ∧ z ≤ 127) : wrap64 z = z := by
  unfold wrap64
  omega
theorem i8_wrap0 {z : Int} (h : -128 ≤ z ∧ z ≤ 127) : wrap64 (0 + z) = z := by
  unfold wrap64
  omega
theorem one_wrap {c : Nat} (h : c ≤ 1000) : wrap64 ((c : Int) + 1) = ((c + 1 : Nat) : Int) := by
  unfold wrap64
  omega
theorem less_wrap {j : Nat} (h : j ≤ 1000) : wrap64 (((j + 1 : Nat) : Int) - 1) = (j : Int) := by
  unfold wrap64
  omega

/-- A value's function, those ahead of it not made: what Get of the one ahead does is told. -/
def GetSaid (C V g m cp : Nat) (cur : Array Value) (ib nb bv : Nat → Nat) (zs : List Int) (j : Nat) : Prop :=
  ∀ (w : World) (c : Nat), c + (j + 1) ≤ 1000 → Cg w C V g m cp cur (j + 1) ib nb bv zs 0 c →
    Calls Try.prog 22 #[.pointer (some ⟨bv j, 0, none⟩)] w fun e w' => e = .returned (.tuple #[.int .i64 (P zs (j + 1)), .bool true]) ∧ Own (Sj C bv (j + 1)) w w' ∧ Cg w' C V g m cp cur (j + 1) ib nb bv zs (j + 1) (c + (j + 1))
def FunSaid (C V g m cp : Nat) (cur : Array Value) (ib nb bv : Nat → Nat) (zs : List Int) (j : Nat) : Prop :=
  ∀ (w : World) (c : Nat), c + (j + 1) ≤ 1000 → Cg w C V g m cp cur j ib nb bv zs 0 c → Blk w (ib j) 3 #[.int .i64 (j : Int)] → Blk w (nb j) 81 #[.int .i8 (zs.getD j 0)] →
    Calls Try.prog 29 (caps C V (nb j) (ib j)) w fun e w' => e = .returned (.int .i64 (P zs (j + 1))) ∧ Own (Sj C bv j) w w' ∧ Cg w' C V g m cp cur j ib nb bv zs j (c + (j + 1))

theorem fun_get (C V g m cp : Nat) (cur : Array Value) (ib nb bv : Nat → Nat) (zs : List Int) (j : Nat) (hf : FunSaid C V g m cp cur ib nb bv zs j) : GetSaid C V g m cp cur ib nb bv zs j := by
  intro w c hc h
  have hv := h.ch.vals j (by omega)
  rw [val_off (by omega)] at hv
  have hn := h.ch.num j (by omega)
  have hl := h.ch.letter j (by omega)
  have nC : C ≠ bv j := blk_ne_type h.ch.cnt hv (by decide)
  have nV : V ≠ bv j := blk_ne_type h.ch.box hv (by decide)
  have ng : g ≠ bv j := blk_ne_type h.row hv (by decide)
  have nn : ib j ≠ bv j := blk_ne_type hn hv (by decide)
  have nl : nb j ≠ bv j := blk_ne_type hl hv (by decide)
  have nb' : ∀ q, q < j → ib q ≠ bv j ∧ nb q ≠ bv j ∧ bv q ≠ bv j := fun q hq =>
    ⟨blk_ne_type (h.ch.num q (by omega)) hv (by decide), blk_ne_type (h.ch.letter q (by omega)) hv (by decide), fun e => by
      have := h.ch.bv_inj (i := q) (j := j) (by omega) (by omega) e
      omega⟩
  have away : ¬ Sj C bv j (bv j) := by
    rintro (e | ⟨q, hq, e⟩)
    · exact nC e.symm
    · exact (nb' q hq).2.2 e.symm
  have mk : Makes (bv j) 29 (caps C V (nb j) (ib j)) (.int .i64 (P zs (j + 1))) (Sj C bv j) (fun W => Cg W C V g m cp cur j ib nb bv zs j (c + (j + 1))) w :=
    ⟨fun _ => rfl, fun W hW => hf W c hc ((h.less (Nat.le_succ j)).own1 hW nC nV ng nb') (hn.own hW nn) (hl.own hW nl), away⟩
  refine (get64_first (bv j) 29 _ (P zs (j + 1)) 0 (Sj C bv j) (fun W => Cg W C V g m cp cur j ib nb bv zs j (c + (j + 1))) (fun W W' hW hR => hR.own1 hW nC nV ng nb') w hv mk (sj_lt h (by omega))).mono ?_
  rintro e w' ⟨rfl, ho, hr, hb⟩
  refine ⟨rfl, ho.mono ?_, ⟨⟨hr.ch.cnt, hr.ch.box, fun q hq => ?_, fun q hq => ?_, fun q hq => ?_⟩, hr.row⟩⟩
  · rintro i _ (rfl | e | ⟨q, hq, e⟩)
    · exact .inr ⟨j, by omega, rfl⟩
    · exact .inl e
    · exact .inr ⟨q, by omega, e⟩
  · by_cases e : q = j
    · subst e
      refine hn.own ho ?_
      rintro (e | e | ⟨q', hq', e⟩)
      · exact nn e
      · exact blk_ne_type hn h.ch.cnt (by decide) e
      · exact blk_ne_type hn (h.ch.vals q' (by omega)) (by decide) e
    · exact hr.ch.num q (by omega)
  · by_cases e : q = j
    · subst e
      refine hl.own ho ?_
      rintro (e | e | ⟨q', hq', e⟩)
      · exact nl e
      · exact blk_ne_type hl h.ch.cnt (by decide) e
      · exact blk_ne_type hl (h.ch.vals q' (by omega)) (by decide) e
    · exact hr.ch.letter q (by omega)
  · by_cases e : q = j
    · subst e
      rw [val_on (by omega)]
      exact hb
    · have := hr.ch.vals q (by omega)
      rw [val_on (by omega)] at this
      rw [val_on (by omega)]
      exact this

set_option maxRecDepth 100000 in
set_option maxHeartbeats 1600000 in
theorem fun_zero (C V g m cp : Nat) (cur : Array Value) (ib nb bv : Nat → Nat) (zs : List Int) (hz : -128 ≤ zs.getD 0 0 ∧ zs.getD 0 0 ≤ 127) : FunSaid C V g m cp cur ib nb bv zs 0 := by
  intro w c hc h hn hl
  have add := add_blk C (c : Int) 1 w h.ch.cnt
  rw [one_wrap (by omega)] at add
  have nC : nb 0 ≠ C := blk_ne_type hl h.ch.cnt (by decide)
  have iC : ib 0 ≠ C := blk_ne_type hn h.ch.cnt (by decide)
  have VC : V ≠ C := blk_ne_type h.ch.box h.ch.cnt (by decide)
  have gC : g ≠ C := blk_ne_type h.row h.ch.cnt (by decide)
  have eP : P zs (0 + 1) = zs.getD 0 0 := by
    show wrap64 (0 + zs.getD 0 0) = _
    exact i8_wrap0 hz
  have eW : wrap64 (zs.getD 0 0) = zs.getD 0 0 := i8_wrap hz
  rw [eP]
  generalize zs.getD 0 0 = z at hl eW
  clear hz eP
  go_enter Try.func29, Try.ntmps29
  go_wp2_with (go_at_call 14; refine add.mono ?_; rintro e w1 ⟨rfl, ho, hb⟩; have l0 : w1.cell? ⟨nb 0, 0, none⟩ = some (.int .i8 z) := ((hl.own ho nC).cell 0).trans rfl; have n0 : w1.cell? ⟨ib 0, 0, none⟩ = some (.int .i64 0) := ((hn.own ho iC).cell 0).trans rfl)
  go_ret
  refine ⟨by first | rfl | (rw [eW]; rfl), ho.mono fun i _ hi => .inl hi, ⟨⟨hb, h.ch.box.own ho VC, fun j hj => absurd hj (Nat.not_lt_zero _), fun j hj => absurd hj (Nat.not_lt_zero _), fun j hj => absurd hj (Nat.not_lt_zero _)⟩, h.row.own ho gC⟩⟩

set_option maxRecDepth 100000 in
set_option maxHeartbeats 1600000 in
theorem fun_succ (C V g m cp : Nat) (cur : Array Value) (ib nb bv : Nat → Nat) (zs : List Int) (j : Nat) (hz : -128 ≤ zs.getD (j + 1) 0 ∧ zs.getD (j + 1) 0 ≤ 127) (hj : j < m) (hm : m ≤ 1000) (hcur : ∀ q, q < m → cur[q]? = some (.pointer (some ⟨bv q, 0, none⟩)))
    (hg : GetSaid C V g m cp cur ib nb bv zs j) : FunSaid C V g m cp cur ib nb bv zs (j + 1) := by
  intro w c hc h hn hl
  have add := add_blk C (c : Int) 1 w h.ch.cnt
  rw [one_wrap (by omega)] at add
  have nC : nb (j + 1) ≠ C := blk_ne_type hl h.ch.cnt (by decide)
  have iC : ib (j + 1) ≠ C := blk_ne_type hn h.ch.cnt (by decide)
  have VC : V ≠ C := blk_ne_type h.ch.box h.ch.cnt (by decide)
  have gC : g ≠ C := blk_ne_type h.row h.ch.cnt (by decide)
  have hcn : ∀ q, q < j + 1 → ib q ≠ C ∧ nb q ≠ C ∧ bv q ≠ C := fun q hq => ⟨blk_ne_type (h.ch.num q hq) h.ch.cnt (by decide), blk_ne_type (h.ch.letter q hq) h.ch.cnt (by decide), blk_ne_type (h.ch.vals q hq) h.ch.cnt (by decide)⟩
  have hadd : ∀ w1, Own (· = C) w w1 → Blk w1 C 30 #[.int .i64 ((c + 1 : Nat) : Int)] → Cg w1 C V g m cp cur (j + 1) ib nb bv zs 0 (c + 1) := fun w1 ho hb =>
    ⟨⟨hb, h.ch.box.own ho VC, fun q hq => (h.ch.num q hq).own ho (hcn q hq).1, fun q hq => (h.ch.letter q hq).own ho (hcn q hq).2.1, fun q hq => (h.ch.vals q hq).own ho (hcn q hq).2.2⟩, h.row.own ho gC⟩
  have eP : P zs (j + 1 + 1) = wrap64 (zs.getD (j + 1) 0 + P zs (j + 1)) := by
    rw [Int.add_comm]
    rfl
  have eW : wrap64 (zs.getD (j + 1) 0) = zs.getD (j + 1) 0 := i8_wrap hz
  have eL := less_wrap (j := j) (by omega)
  have j0 : (0 ≤ (j : Int)) = True := eq_true (by omega)
  have j1 : ((j : Int) < (m : Int)) = True := eq_true (by omega)
  have jp : decide (0 < ((j + 1 : Nat) : Int)) = true := decide_eq_true (by omega)
  have hcj := hcur j hj
  rw [eP]
  generalize zs.getD (j + 1) 0 = z at hl eW
  clear hz eP hcur
  go_enter Try.func29, Try.ntmps29
  go_wp2_with (first | (go_at_call 14; refine add.mono ?_; rintro e w1 ⟨rfl, ho, hb⟩; have hw1 := hadd w1 ho hb; have l0 : w1.cell? ⟨nb (j + 1), 0, none⟩ = some (.int .i8 z) := ((hl.own ho nC).cell 0).trans rfl; have n0 : w1.cell? ⟨ib (j + 1), 0, none⟩ = some (.int .i64 ((j + 1 : Nat) : Int)) := ((hn.own ho iC).cell 0).trans rfl; have v0 : w1.cell? ⟨V, 0, none⟩ = some (.slice (some ⟨g, 0, none⟩) m cp) := (hw1.ch.box.cell 0).trans rfl; have g0 : w1.cell? ⟨g, j, none⟩ = some (.pointer (some ⟨bv j, 0, none⟩)) := (hw1.row.cell j).trans hcj) | (go_at_call 22; refine (hg w1 (c + 1) (by omega) hw1).mono ?_; rintro e w2 ⟨rfl, ho2, hw2⟩))
  go_ret
  refine ⟨rfl, ?_, ?_⟩
  · exact (ho.mono fun i _ hi => .inl hi).trans ho2
  · have e : c + 1 + (j + 1) = c + (j + 1 + 1) := by omega
    rw [e] at hw2
    exact hw2

theorem fun_all (C V g m cp : Nat) (cur : Array Value) (ib nb bv : Nat → Nat) (zs : List Int) (hm : m ≤ 1000) (hz : ∀ j, j < m → -128 ≤ zs.getD j 0 ∧ zs.getD j 0 ≤ 127) (hcur : ∀ q, q < m → cur[q]? = some (.pointer (some ⟨bv q, 0, none⟩))) :
    ∀ j, j < m → GetSaid C V g m cp cur ib nb bv zs j := by
  intro j
  induction j with
  | zero => exact fun h => fun_get C V g m cp cur ib nb bv zs 0 (fun_zero C V g m cp cur ib nb bv zs (hz 0 h))
  | succ j ih => exact fun h => fun_get C V g m cp cur ib nb bv zs (j + 1) (fun_succ C V g m cp cur ib nb bv zs j (hz _ h) (by omega) hm hcur (ih (by omega)))
end Go.Proofs.Ythnllejpoklgbaa.lazyChain
