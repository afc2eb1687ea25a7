/-
  leak.May AS A LEAN FUNCTION, and its table in memory: one row of rows, each of them a block of its own.
-/
import Derived.Test.YtgfnpdfhdgenbaaDoorPx0
import Derived.Deep.OwnRows
namespace Go.Proofs.YtgfnpdfhdgenbaaDoor.P
open Go.RowKit Go.Proofs.YtgfnpdfhdgenbaaDoorW.PrintWords Go.Proofs.YtgfnpdfhdgenbaaDoorW.PrintLast Go.Proofs.YtgfnpdfhdgenbaaDoorW.PrintMore
set_option linter.unusedVariables false

/-- A table of m columns. -/
abbrev Tb := Nat → Nat → Bool
def markF (X : Tb) (a k : Nat) : Tb := fun a' k' => (a' == a && k' == k) || X a' k'
def mergeF (X : Tb) (a b : Nat) : Tb := fun a' k => X a' k || (a' == a && X b k)
/-- What row b has and row a lacks, of the first k. -/
def moreF (X : Tb) (a b k : Nat) : Bool := (List.range k).any fun j => X b j && !X a j
def newsL (n : Nat) : List S45 → Nat → Tb → Tb
  | [], _, X => X
  | x :: xs, k, X => newsL n xs (k + 1) (if x.f0 = 5 ∧ x.f1 < n then markF X x.f1.toNat k else X)
def passL (n m : Nat) : List S45 → Bool → Tb → Bool × Tb
  | [], b, X => (b, X)
  | x :: xs, b, X => if x.f0 = 7 ∧ x.f1 < n ∧ x.f2 < n then passL n m xs (moreF X x.f1.toNat x.f2.toNat m || b) (mergeF X x.f1.toNat x.f2.toNat) else passL n m xs b X
def roundsL (n m : Nat) (code : List S45) : Nat → Tb → Option Tb
  | 0, _ => none
  | k + 1, X => if (passL n m code false X).1 = true then roundsL n m code k (passL n m code false X).2 else some (passL n m code false X).2
def rowM (m : Nat) (f : Nat → Bool) : List Bool := (List.range m).map f
def tabM (n m : Nat) (X : Tb) : List (List Bool) := (List.range n).map fun a => rowM m (X a)
def okU (x : S45) : Bool := decide (0 ≤ x.f1) && decide (x.f1 ≤ 255) && decide (0 ≤ x.f2) && decide (x.f2 ≤ 255)
def leak_May.f (k : Nat) (t : List ByteArray) (lo gl : ByteArray) (code : List S45) : Option (List (List Bool)) :=
  if lo.size ≤ 8 ∧ code.length ≤ 1000 ∧ code.all okU = true then (roundsL lo.size (code.length + 1) code k (newsL lo.size code 0 fun _ _ => false)).bind fun X => some (tabM lo.size (code.length + 1) X) else none
theorem roundsL_mono (n m : Nat) (code : List S45) : ∀ k X, LeO (roundsL n m code k X) (roundsL n m code (k + 1) X) := by
  intro k
  induction k with
  | zero => intro X; exact LeO.none _
  | succ k ih =>
    intro X
    rw [roundsL, roundsL.eq_2 n m code X (k + 1)]
    exact LeO.ite (ih _) (LeO.refl _)
theorem leak_May.mono : ∀ a0 a1 a2 a3 k, LeO (leak_May.f k a0 a1 a2 a3) (leak_May.f (k + 1) a0 a1 a2 a3) := by
  intro a0 a1 a2 a3 k
  unfold leak_May.f
  exact LeO.ite (LeO.bind (roundsL_mono _ _ _ _ _) fun _ => LeO.refl _) (LeO.none _)

/-! ### In memory -/
/-- The table X: the rows' row is block O, row a is block r0 + a. -/
structure Mat (w : World) (O r0 n m : Nat) (X : Tb) : Prop where
  out : w.rowIs O 40 n fun a => .slice (some ⟨r0 + a, 0, none⟩) m m
  row : ∀ a, a < n → w.rowIs (r0 + a) 4 m fun k => .bool (X a k)
  lt : O < r0
section
variable {w w' : World} {O r0 n m a b k : Nat} {X Y : Tb}
theorem Mat.of (h : Mat w O r0 n m X) (hb : ∀ i, i < w.heap.size → w'.heap[i]? = w.heap[i]?) : Mat w' O r0 n m X :=
  ⟨h.out.of_block (hb _ h.out.lt), fun a ha => (h.row a ha).of_block (hb _ (h.row a ha).lt), h.lt⟩
theorem Mat.alloc (h : Mat w O r0 n m X) (o : Obj) : Mat (w.alloc o) O r0 n m X := ⟨h.out.alloc o, fun a ha => (h.row a ha).alloc o, h.lt⟩
theorem Mat.drew (h : Mat w O r0 n m X) : Mat w.drew O r0 n m X := ⟨h.out.drew, fun a ha => (h.row a ha).drew, h.lt⟩
theorem Mat.drewN (h : Mat w O r0 n m X) (j : Nat) : Mat (w.drewN j) O r0 n m X := h.of fun _ _ => rfl
theorem Mat.congr (h : Mat w O r0 n m X) (e : ∀ a k, a < n → k < m → X a k = Y a k) : Mat w O r0 n m Y :=
  ⟨h.out, fun a ha => (h.row a ha).congr fun k hk => by rw [e a k ha hk], h.lt⟩
theorem Mat.mark (h : Mat w O r0 n m X) (ha : a < n) : Mat (w.setCell ⟨r0 + a, k, none⟩ (.bool true)) O r0 n m (markF X a k) := by
  refine ⟨h.out.setOther (by show O ≠ r0 + a; have := h.lt; omega) _, fun a' ha' => ?_, h.lt⟩
  by_cases e : a' = a
  · subst e
    refine ((h.row a' ha').set k (.bool true)).congr fun j hj => ?_
    by_cases ej : j = k
    · subst ej
      simp [markF]
    · simp [markF, ej]
  · refine ((h.row a' ha').setOther (by show r0 + a' ≠ r0 + a; omega) _).congr fun j hj => ?_
    simp [markF, e]
theorem Mat.set_other (h : Mat w O r0 n m X) {p : Addr} (hp : ∀ i, i ≤ n → p.block ≠ r0 + i ∨ i = n) (hO : p.block ≠ O) (u : Value) : Mat (w.setCell p u) O r0 n m X :=
  ⟨h.out.setOther (fun e => hO e.symm) _, fun a ha => (h.row a ha).setOther (fun e => by rcases hp a (by omega) with h1 | h1; exact h1 e.symm; omega) _, h.lt⟩
theorem rowIs_own {t : TypeId} {f : Nat → Value} (h : w.rowIs b t n f) {base : Nat} (hb : base ≤ b) (hn : n ≤ maxLen) : w.ownsRow base t 1 (.slice (some ⟨b, 0, none⟩) n n) n ((List.range n).map f) := by
  obtain ⟨c, hc, hs, hf⟩ := h
  refine ⟨by simp, .inr ⟨b, n, c, rfl, hb, hc, Nat.le_refl _, hn, by omega, ?_⟩⟩
  apply List.ext_getElem?
  intro i
  rw [List.getElem?_take, List.getElem?_map]
  by_cases hi : i < n
  · rw [if_pos (by omega), List.getElem?_range hi]
    show c.toList[i]? = some (f i)
    rw [Array.getElem?_toList]
    exact hf i hi
  · rw [if_neg (by omega), List.getElem?_eq_none (by simp; omega)]
    rfl
theorem Mat.S {base : Nat} (h : Mat w O r0 n m X) (hb : base ≤ O) (hn : n ≤ maxLen) (hm : m ≤ maxLen) : Kd.S (Kd.slice 4 Kd.bool) 40 w base (fun _ => True) (.slice (some ⟨O, 0, none⟩) n n) (tabM n m X) := by
  have hl : (tabM n m X).zipIdx.length = n := by simp [tabM]
  refine ⟨fun k => k - r0, fun _ _ => trivial, (List.range n).map (fun a => .slice (some ⟨r0 + a, 0, none⟩) m m), ?_, ?_, ?_⟩
  · rw [hl]
    exact rowIs_own h.out hb hn
  · rw [hl]
    simp [Kd.tag, Kd.slice]
  · intro j p hj
    have hjn : j < n := by
      have := (List.getElem?_eq_some_iff.1 hj).1
      omega
    have hp : p = (rowM m (X j), j) := by
      have h2 : (tabM n m X)[j]? = some (rowM m (X j)) := by simp [tabM, hjn]
      rw [Kd.zip_at h2] at hj
      exact (Option.some.inj hj).symm
    subst hp
    refine ⟨.slice (some ⟨r0 + j, 0, none⟩) m m, ?_, ?_⟩
    · show ((List.drop (j * 1) _).take 1) = _
      rw [Nat.mul_one, List.drop_eq_getElem_cons (by simp; omega)]
      simp
    · have ho := rowIs_own (h.row j hjn) (base := base) (by have := h.lt; omega) hm
      have e1 : (rowM m (X j)).length = m := by simp [rowM]
      have e2 : encs Value.bool (rowM m (X j)) = (List.range m).map (fun k => Value.bool (X j k)) := by simp [encs, rowM]
      refine Kd.R_of_own (enc := Value.bool) (by rw [e1, e2]; exact ho) ?_
      intro k hk
      obtain rfl : r0 + j = k := by
        have : some (r0 + j) = some k := hk
        exact Option.some.inj this
      refine ⟨⟨trivial, fun e => ?_⟩, by show r0 + j - r0 = j; omega⟩
      have : r0 + j = O := Option.some.inj e
      have := h.lt
      omega
end
end Go.Proofs.YtgfnpdfhdgenbaaDoor.P
