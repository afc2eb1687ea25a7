/-
  slices.Clone of a row of numbers, and of a row of rows (as the rows' headers).
-/
import Derived.Test.YtlemecdddhdagaaDoorGivenV
import Derived.Lib.SliceRun
namespace Go.Proofs.YtlemecdddhdagaaDoor.P
open Go.RowKit Go.Proofs.YtlemecdddhdagaaDoorW.PrintWords Go.Proofs.YtlemecdddhdagaaDoorW.PrintLast Go.Proofs.YtlemecdddhdagaaDoorW.PrintMore
set_option linter.unusedVariables false
set_option linter.unusedSimpArgs false
attribute [local go_sem ↓] Go.wp_at_zero Go.wp_at_succ

/-- The value of a row: nothing, or somewhere. -/
def Form (v : Value) (n : Nat) : Prop := (v = .slice none 0 0 ∧ n = 0) ∨ ∃ ad c, v = .slice (some ad) n c
theorem R_Form {α : Type} {d : Kd α} {e base : Nat} {ok : Nat → Prop} {w : World} {v : Value} {xs : List α} (h : d.R e w base ok v xs) : Form v xs.length := by
  obtain ⟨inner, ho⟩ := Kd.R_own h
  rcases ho.2 with ⟨hv, h0⟩ | ⟨g, cap', cur, hv, _⟩
  · exact .inl ⟨hv, h0⟩
  · exact .inr ⟨_, _, hv⟩
theorem R_empty {α : Type} (d : Kd α) (e : Nat) (W : World) (base : Nat) (ok : Nat → Prop) (hbase : base ≤ W.heap.size) (hok : ok W.heap.size) : d.R e (W.alloc (.cells #[] e)) base ok (.slice (some ⟨W.heap.size, 0, none⟩) 0 0) [] := by
  refine ⟨fun k hk => ?_, [], ?_, ⟨by simp, fun j p h => by simp at h⟩⟩
  · have : W.heap.size = k := by simpa [Value.ownBlock] using hk
    exact this ▸ hok
  · have := World.ownsRow_lit (base := base) (e := e) (size := d.sz) W #[] 0 hbase (by decide) (by simp)
    simpa using this

set_option maxRecDepth 100000 in
set_option maxHeartbeats 3200000 in
theorem clone_int (v : Value) (xs : List Int) (hF : Form v xs.length) (w : World) (hC : ∀ A n c, v = .slice A n c → Kd.C (Kd.int .i64) w A xs.length xs) (hl : xs.length ≤ 1000000) :
    Calls Tryd.prog 39 #[v] w fun e w' => ∃ v', e = .returned v' ∧ Kd.R (Kd.int .i64) 2 w' w.heap.size (fun _ => True) v' xs ∧ Below w.heap.size w w' := by
  rcases hF with ⟨rfl, h0⟩ | ⟨ad, c, rfl⟩
  · obtain rfl : xs = [] := List.length_eq_zero_iff.1 h0
    clear hC
    have qn : ∀ (w : World) (a : Option Addr) (n c n' c' : Nat), (binOp .eql 28 (.slice a n c) (.slice none n' c')).run Tryd.prog w = .ok (.bool a.isNone) w := fun w a n c n' c' => Lib.run_eql_slice_nil w _ _ a n c n' c' Tryd.underlying28
    go_enter Tryd.func39, Tryd.ntmps39
    go_wp2
    go_ret
    exact ⟨_, rfl, Kd.R_nil _ _ _ _ _, Below.refl _ _⟩
  · have HC := Aside0.mk (Kd.C_alloc (hC _ _ _ rfl) (.cells #[] 2))
    clear hC
    have HO := Aside0.mk (R_empty (Kd.int .i64) 2 w w.heap.size (fun _ => True) (Nat.le_refl _) trivial)
    have HB := Aside0.mk ((Below.refl w.heap.size w).alloc (Nat.le_refl _) (.cells #[] 2))
    have qn : ∀ (w : World) (a : Option Addr) (n c n' c' : Nat), (binOp .eql 28 (.slice a n c) (.slice none n' c')).run Tryd.prog w = .ok (.bool a.isNone) w := fun w a n c n' c' => Lib.run_eql_slice_nil w _ _ a n c n' c' Tryd.underlying28
    go_enter Tryd.func39, Tryd.ntmps39
    go_wp2_with (first | ((with_reducible refine gate_builtin (b := .append) (xs := #[.tmp 5, .tmp 6]) rfl ?_); at_builtin; refine Kd.R_append_rows (Kd.int .i64) (w0 := w) w.heap.size rfl (.tmp 5) (.tmp 6) 28 2 (.int .i64 0) 8 rfl Tryd.underlying28 info2 rfl (by decide) (by omega) _ [] xs _ _ _ (fun _ => True) (fun _ => False) rfl rfl HO.out HC.out (fun _ _ h => h) (fun _ h => h.elim) (fun _ _ => trivial) HB.out (by simp) (by simp; omega) ?_; intro v1 w1 hR1 hB1 hg1 hat1; replace hR1 := Go.Lib.hid hR1; replace hB1 := Lib.hid hB1; clear hg1 hat1))
    go_ret
    exact ⟨_, rfl, hR1.out, hB1.out⟩

/-- A row's header. -/
abbrev Hd := Option Addr × Nat × Nat
def encH (h : Hd) : Value := .slice h.1 h.2.1 h.2.2
abbrev kH : Kd Hd := Kd.scalar encH (fun _ => rfl)
def toH : Value → Hd
  | .slice A n c => (A, n, c)
  | _ => (none, 0, 0)
theorem seg1 {inner : List Value} {j : Nat} (hj : j < inner.length) : (inner.drop (j * 1)).take 1 = [inner[j]] := by
  rw [Nat.mul_one, List.drop_eq_getElem_cons hj]
  rfl
/-- A row of rows, read as headers. -/
theorem heads_of {base : Nat} {ok : Nat → Prop} {w : World} {v : Value} {xs : List (List Int)} (h : kRow.R 28 w base ok v xs) :
    ∃ hs : List Hd, hs.length = xs.length ∧ kH.R 28 w base ok v hs ∧ ∀ j (hj : j < xs.length), ∃ h, hs[j]? = some h ∧ Form (encH h) (xs[j]).length ∧ Kd.R (Kd.int .i64) 2 w base (fun k => ok k ∧ some k ≠ v.ownBlock) (encH h) xs[j] := by
  obtain ⟨h0, inner, ho, hr⟩ := h
  have hlen : inner.length = xs.length := by have := hr.1; rw [this]; exact Nat.mul_one _
  have each : ∀ j (hj : j < xs.length), ∃ (hi : j < inner.length), Kd.R (Kd.int .i64) 2 w base (fun k => ok k ∧ some k ≠ v.ownBlock) inner[j] xs[j] := fun j hj => by
    have hi : j < inner.length := by omega
    have q := hr.2 j xs[j] (List.getElem?_eq_getElem hj)
    rw [show kRow.sz = 1 from rfl, seg1 hi] at q
    obtain ⟨u, hu, hR⟩ := q
    have : inner[j] = u := by injection hu
    exact ⟨hi, this ▸ hR⟩
  have back : ∀ j (hi : j < inner.length), encH (toH inner[j]) = inner[j] := fun j hi => by
    obtain ⟨_, hR⟩ := each j (by omega)
    obtain ⟨A, c, e⟩ := Kd.R_slice hR
    rw [e]
    rfl
  have hin : (inner.map toH).map encH = inner := by
    refine List.ext_getElem (by simp) fun j h1 h2 => ?_
    simp only [List.getElem_map]
    exact back j h2
  refine ⟨inner.map toH, by simp [hlen], ⟨h0, inner, by rw [List.length_map, hlen]; exact ho, ⟨by rw [List.length_map]; exact (Nat.mul_one _).symm, fun j p hj => ?_⟩⟩, fun j hj => ?_⟩
  · rw [List.getElem?_map] at hj
    obtain ⟨u, hu, rfl⟩ := Option.map_eq_some_iff.1 hj
    obtain ⟨hi, rfl⟩ := List.getElem?_eq_some_iff.1 hu
    show (inner.drop (j * 1)).take 1 = [encH (toH inner[j])]
    rw [seg1 hi, back j hi]
  · obtain ⟨hi, hR⟩ := each j hj
    refine ⟨toH inner[j], by rw [List.getElem?_map, List.getElem?_eq_getElem hi]; rfl, ?_, ?_⟩
    · rw [back j hi]
      exact R_Form hR
    · rw [back j hi]
      exact hR
/-- Rows of one's own, each with its blocks, under headers of one's own: no two lead to one block. -/
theorem rows_of {base : Nat} {ok : Nat → Prop} {w : World} {v : Value} {xs : List (List Int)} {hs : List Hd} (h : kH.R 28 w base ok v hs) (hl : hs.length = xs.length) (L : Nat → Nat) (hL : ∀ j, L j ≤ L (j + 1)) (hv : ∀ k, v.ownBlock = some k → k < L 0) (hok : ∀ k, L 0 ≤ k → ok k)
    (each : ∀ j (hj : j < xs.length), ∃ h, hs[j]? = some h ∧ Kd.R (Kd.int .i64) 2 w base (fun k => L j ≤ k ∧ k < L (j + 1)) (encH h) xs[j]) : Kd.S kRow 28 w base ok v xs := by
  obtain ⟨h0, inner, ho, hr⟩ := h
  have mono : ∀ i j, i ≤ j → L i ≤ L j := fun i j hij => by
    induction hij with
    | refl => exact Nat.le_refl _
    | step _ ih => exact Nat.le_trans ih (hL _)
  have hlen : inner.length = xs.length := by have := hr.1; rw [this, hl]; exact Nat.mul_one _
  obtain ⟨f, hf⟩ := Kd.reps_tag (d := kRow) (w := w) (base := base) (ok := fun k => ok k ∧ some k ≠ v.ownBlock) (xs := xs) (inner := inner) (fun j k => L j ≤ k ∧ k < L (j + 1)) (fun i j k h1 h2 => by
      rcases Nat.lt_trichotomy i j with h | h | h
      · have := mono (i + 1) j h
        omega
      · exact h
      · have := mono (j + 1) i h
        omega) (fun j k hk => ⟨hok k (Nat.le_trans (mono 0 j (Nat.zero_le _)) hk.1), fun he => by have := hv k he.symm; have := mono 0 j (Nat.zero_le _); omega⟩) (by rw [hlen]; exact (Nat.mul_one _).symm) (fun j x hx => by
      obtain ⟨hj, rfl⟩ := List.getElem?_eq_some_iff.1 hx
      obtain ⟨h, hh, hR⟩ := each j hj
      have q := hr.2 j h hh
      exact ⟨encH h, q, hR⟩)
  exact ⟨f, h0, inner, by rw [List.length_zipIdx, ← hl]; exact ho, hf⟩

theorem info28c : (Tryd.prog.info? 28).map (fun i => (i.zero, i.size, i.bytes)) = some (some (.slice none 0 0), kH.sz, 24) := by kernel_rfl
set_option maxRecDepth 100000 in
set_option maxHeartbeats 3200000 in
theorem clone_heads (v : Value) (xs : List Hd) (hF : Form v xs.length) (w : World) (hC : ∀ A n c, v = .slice A n c → Kd.C kH w A xs.length xs) (hl : xs.length ≤ 1000000) :
    Calls Tryd.prog 40 #[v] w fun e w' => ∃ v', e = .returned v' ∧ Kd.R kH 28 w' w.heap.size (fun _ => True) v' xs ∧ Below w.heap.size w w' := by
  rcases hF with ⟨rfl, h0⟩ | ⟨ad, c, rfl⟩
  · obtain rfl : xs = [] := List.length_eq_zero_iff.1 h0
    clear hC
    have qn : ∀ (w : World) (a : Option Addr) (n c n' c' : Nat), (binOp .eql 37 (.slice a n c) (.slice none n' c')).run Tryd.prog w = .ok (.bool a.isNone) w := fun w a n c n' c' => Lib.run_eql_slice_nil w _ _ a n c n' c' Tryd.underlying37
    go_enter Tryd.func40, Tryd.ntmps40
    go_wp2
    go_ret
    exact ⟨_, rfl, Kd.R_nil _ _ _ _ _, Below.refl _ _⟩
  · have HC := Aside0.mk (Kd.C_alloc (hC _ _ _ rfl) (.cells #[] 28))
    clear hC
    have HO := Aside0.mk (R_empty kH 28 w w.heap.size (fun _ => True) (Nat.le_refl _) trivial)
    have HB := Aside0.mk ((Below.refl w.heap.size w).alloc (Nat.le_refl _) (.cells #[] 28))
    have qn : ∀ (w : World) (a : Option Addr) (n c n' c' : Nat), (binOp .eql 37 (.slice a n c) (.slice none n' c')).run Tryd.prog w = .ok (.bool a.isNone) w := fun w a n c n' c' => Lib.run_eql_slice_nil w _ _ a n c n' c' Tryd.underlying37
    go_enter Tryd.func40, Tryd.ntmps40
    go_wp2_with (first | ((with_reducible refine gate_builtin (b := .append) (xs := #[.tmp 5, .tmp 6]) rfl ?_); at_builtin; refine Kd.R_append_rows kH (w0 := w) w.heap.size rfl (.tmp 5) (.tmp 6) 37 28 (.slice none 0 0) 24 rfl Tryd.underlying37 info28c rfl (by decide) (by omega) _ [] xs _ _ _ (fun _ => True) (fun _ => False) rfl rfl HO.out HC.out (fun _ _ h => h) (fun _ h => h.elim) (fun _ _ => trivial) HB.out (by simp) (by simp; omega) ?_; intro v1 w1 hR1 hB1 hg1 hat1; replace hR1 := Go.Lib.hid hR1; replace hB1 := Lib.hid hB1; clear hg1 hat1))
    go_ret
    exact ⟨_, rfl, hR1.out, hB1.out⟩
end Go.Proofs.YtlemecdddhdagaaDoor.P
