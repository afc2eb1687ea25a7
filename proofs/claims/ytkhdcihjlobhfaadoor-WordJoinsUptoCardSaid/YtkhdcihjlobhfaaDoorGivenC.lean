/-
  word.Number, GIVEN TO THE PRINT: its Lean function, its calls.
-/
import Derived.Test.YtkhdcihjlobhfaaDoorGiven
import Derived.Shelf.Strings.Prefix
import Derived.Shelf.Strconv.ErrVarParseInt
import Derived.Lib.Hide
import Derived.Deep.DrawnRows
namespace Go.Proofs
open Go.Shelf
shelf_lay Lays.n101 Nm 101 at Tryd as Tryd.lays101
shelf_lay LaysC.n174 Nm 174 at Tryd as Tryd.laysC174
end Go.Proofs
namespace Go.Proofs.YtkhdcihjlobhfaaDoor.P
open Go.RowKit Go.Sort Go.Lib Go.Proofs.YtkhdcihjlobhfaaDoorW.PrintWords Go.Proofs.YtkhdcihjlobhfaaDoorW.PrintLast Go.Proofs.YtkhdcihjlobhfaaDoorW.PrintMore
set_option linter.unusedVariables false
set_option linter.unusedSimpArgs false
attribute [local go_sem ↓] Go.wp_at_zero Go.wp_at_succ
/-- What is behind a sign. -/
def unsigned (w : List UInt8) : List UInt8 := Lib.trimPrefix w [45]
/-- May a word be a number? -/
def numOk (w : List UInt8) : Bool := !(unsigned w).isEmpty && (Lib.trimS (unsigned w) [48, 49, 50, 51, 52, 53, 54, 55, 56, 57]).isEmpty && !((unsigned w).head? == some 48 && !(w == [48]))
def numOf (w : List UInt8) : Int × Int := match Lib.parseIntB 64 w with
  | .ok v => (v, 0)
  | _ => (0, 3)
def word_Number.f (w : ByteArray) : Option (Int × Int) :=
  if w.size ≤ 281474976 then (if numOk w.data.toList then some (numOf w.data.toList) else some (0, 4)) else none

theorem trimPrefix_le (l p : List UInt8) : (Lib.trimPrefix l p).length ≤ l.length := by
  unfold Lib.trimPrefix
  split
  · rw [List.length_drop]; omega
  · exact Nat.le_refl _
/-- The calls of TrimPrefix and Trim, by what they come to. -/
theorem c_prefix (s : ByteArray) : ∀ W, Calls Tryd.prog 29 #[.string s, .string ⟨#[45]⟩] W fun e w' => e = .returned (.string ⟨(unsigned s.data.toList).toArray⟩) ∧ W = w' := fun W =>
  (Any.strings_TrimPrefix Tryd.lays101 s ⟨#[45]⟩ W).mono fun e w' ⟨he, hw⟩ => ⟨he, hw.symm⟩
theorem c_trim (s : ByteArray) (d t : List UInt8) (hs : s.size ≤ 281474976) (hd : unsigned s.data.toList = d) (ht : Lib.trimS d [48, 49, 50, 51, 52, 53, 54, 55, 56, 57] = t) :
    ∀ W, Calls Tryd.prog 30 #[.string ⟨d.toArray⟩, .string ⟨#[48, 49, 50, 51, 52, 53, 54, 55, 56, 57]⟩] W fun e w' => e = .returned (.string ⟨t.toArray⟩) ∧ Below W.heap.size W w' := fun W => by
  have h1 := trimPrefix_le s.data.toList [45]
  have h2 : (unsigned s.data.toList).length ≤ s.data.toList.length := h1
  rw [hd, ← Lib.size_eq] at h2
  refine (strings_Trim.calls _ _ ⟨(Lib.trimS d [48, 49, 50, 51, 52, 53, 54, 55, 56, 57]).toArray⟩ W ?_).mono fun e w' h => ?_
  · unfold strings_Trim.f
    rw [if_pos]
    refine ⟨?_, by decide, by decide⟩
    show d.toArray.size ≤ _
    rw [List.size_toArray]
    omega
  · rw [ht] at h
    exact h
/-- The call of ParseInt, by whether there is a number. -/
theorem c_parse (s : ByteArray) (v : Int) (hs : s.size ≤ 281474976) (hv : Lib.parseIntB 64 s.data.toList = .ok v) :
    ∀ W, Calls Tryd.prog 31 #[.string s, .int .i64 10, .int .i64 64] W fun e w' => e = .returned (.tuple #[.int .i64 v, .nilIface]) ∧ Below W.heap.size W w' := fun W => by
  refine (Any.strconv_ParseInt_10_at64_ok Tryd.laysC174 s (by omega) v hv W).mono ?_
  rintro e w' ⟨he, rfl | ⟨t, rfl⟩⟩
  · exact ⟨he, Below.refl _ _⟩
  · exact ⟨he, Lib.bytesWorld_below _ _ _⟩
/-- An error that is not nil. -/
def SomeErr (W : World) (e : Ending) (w' : World) : Prop := ∃ (n : Int) (t : TypeId) (b : Nat), e = .returned (.tuple #[.int .i64 n, .iface t (.pointer (some ⟨b, 0, none⟩))]) ∧ Below W.heap.size W w'
theorem c_fail (s : ByteArray) (hs : s.size ≤ 281474976) (hv : ∀ v, Lib.parseIntB 64 s.data.toList ≠ .ok v) (W : World) (ht : TabP W) :
    Calls Tryd.prog 31 #[.string s, .int .i64 10, .int .i64 64] W (SomeErr W) := by
  match h : Lib.parseIntB 64 s.data.toList with
  | .ok v => exact absurd h (hv v)
  | .«syntax» =>
    obtain ⟨tp, p, hp⟩ := ht.syn
    refine (Any.strconv_ParseInt_10_at64_syntax_var Tryd.laysC174 s (by omega) h tp p W hp).mono ?_
    rintro e w' ⟨b, he, _, _, hb⟩
    exact ⟨_, _, b, he, hb⟩
  | .range =>
    obtain ⟨tp, p, hp⟩ := ht.rng
    refine (Any.strconv_ParseInt_10_at64_range_var Tryd.laysC174 s (by omega) h tp p W hp).mono ?_
    rintro e w' ⟨b, he, _, _, hb⟩
    exact ⟨_, _, b, he, hb⟩

set_option maxRecDepth 100000 in
set_option maxHeartbeats 3200000 in
theorem number_none (s : ByteArray) (w : World) (h0 : unsigned s.data.toList = []) :
    Calls Tryd.prog 18 #[.string s] w fun e w' => e = .returned (.tuple #[.int .i64 0, .int .i64 4]) ∧ Below w.heap.size w w' := by
  have c29 := c_prefix s
  rw [h0] at c29
  have C29 := Lib.hid c29
  clear c29 h0
  go_enter Tryd.func18, Tryd.ntmps18
  go_wp2_with (go_at_call 29; refine (C29.out _).mono ?_; rintro e w' ⟨rfl, rfl⟩)
  go_ret2
  exact ⟨rfl, Below.refl _ _⟩
set_option maxRecDepth 100000 in
set_option maxHeartbeats 3200000 in
theorem number_form (s : ByteArray) (w : World) (hs : s.size ≤ 281474976) (c : UInt8) (d : List UInt8) (h0 : unsigned s.data.toList = c :: d) (x : UInt8) (t : List UInt8) (ht : Lib.trimS (c :: d) [48, 49, 50, 51, 52, 53, 54, 55, 56, 57] = x :: t) :
    Calls Tryd.prog 18 #[.string s] w fun e w' => e = .returned (.tuple #[.int .i64 0, .int .i64 4]) ∧ Below w.heap.size w w' := by
  have c29 := c_prefix s
  have c30 := c_trim s (c :: d) (x :: t) hs h0 ht
  rw [h0] at c29
  have C29 := Lib.hid c29
  have C30 := Lib.hid c30
  clear c29 c30 h0 ht
  go_enter Tryd.func18, Tryd.ntmps18
  go_wp2_with (first | (go_at_call 29; refine (C29.out _).mono ?_; rintro e w' ⟨rfl, rfl⟩) | (go_at_call 30; refine (C30.out _).mono ?_; rintro e w' ⟨rfl, hb⟩))
  go_ret2
  exact ⟨rfl, hb⟩
theorem bad_of {s : ByteArray} {c : UInt8} {d : List UInt8} {p : 0 < (⟨(c :: d).toArray⟩ : ByteArray).size} (h1 : (((⟨(c :: d).toArray⟩ : ByteArray)[0]'p).toNat : Int) = 48) (h2 : (!s.toList == [48]) = true) (hg : ¬ (c = 48 ∧ s.data.toList ≠ [48])) : False := by
  have h1' : ((c.toNat : Nat) : Int) = 48 := h1
  refine hg ⟨UInt8.toNat_inj.1 (by show c.toNat = 48; omega), fun e => ?_⟩
  rw [ByteArray.toList_eq, e] at h2
  exact absurd h2 (by decide)
theorem not_bad {s : ByteArray} (hn : s.data.toList ≠ [48]) : (!s.toList == [48]) = true := by
  rw [ByteArray.toList_eq]
  simpa using hn
set_option maxRecDepth 100000 in
set_option maxHeartbeats 3200000 in
theorem number_zero (s : ByteArray) (w : World) (hs : s.size ≤ 281474976) (d : List UInt8) (h0 : unsigned s.data.toList = 48 :: d) (ht : Lib.trimS (48 :: d) [48, 49, 50, 51, 52, 53, 54, 55, 56, 57] = []) (hn : s.data.toList ≠ [48]) :
    Calls Tryd.prog 18 #[.string s] w fun e w' => e = .returned (.tuple #[.int .i64 0, .int .i64 4]) ∧ Below w.heap.size w w' := by
  have c29 := c_prefix s
  have c30 := c_trim s (48 :: d) [] hs h0 ht
  rw [h0] at c29
  have C29 := Lib.hid c29
  have C30 := Lib.hid c30
  have hq := not_bad hn
  clear c29 c30 h0 ht
  go_enter Tryd.func18, Tryd.ntmps18
  go_wp2_with (first | (go_at_call 29; refine (C29.out _).mono ?_; rintro e w' ⟨rfl, rfl⟩) | (go_at_call 30; refine (C30.out _).mono ?_; rintro e w' ⟨rfl, hb⟩))
  all_goals first | (go_ret2; exact ⟨rfl, hb⟩) | (exfalso; rename_i h1 h2; first | exact absurd h1 (by decide) | exact absurd h2 (by decide) | (rw [hq] at h2; cases h2) | exact absurd rfl h2 | exact absurd rfl h1)
set_option maxRecDepth 100000 in
set_option maxHeartbeats 3200000 in
theorem number_ok (s : ByteArray) (w : World) (hs : s.size ≤ 281474976) (c : UInt8) (d : List UInt8) (h0 : unsigned s.data.toList = c :: d) (ht : Lib.trimS (c :: d) [48, 49, 50, 51, 52, 53, 54, 55, 56, 57] = []) (hg : ¬ (c = 48 ∧ s.data.toList ≠ [48])) (v : Int) (hv : Lib.parseIntB 64 s.data.toList = .ok v) :
    Calls Tryd.prog 18 #[.string s] w fun e w' => e = .returned (.tuple #[.int .i64 v, .int .i64 0]) ∧ Below w.heap.size w w' := by
  have c29 := c_prefix s
  have c30 := c_trim s (c :: d) [] hs h0 ht
  have c31 := c_parse s v hs hv
  rw [h0] at c29
  have C29 := Lib.hid c29
  have C30 := Lib.hid c30
  have C31 := Lib.hid c31
  have HG := Lib.hid hg
  clear c29 c30 c31 h0 ht hv hg
  go_enter Tryd.func18, Tryd.ntmps18
  go_wp2_with (first | (go_at_call 29; refine (C29.out _).mono ?_; rintro e w' ⟨rfl, rfl⟩) | (go_at_call 30; refine (C30.out _).mono ?_; rintro e w' ⟨rfl, hb⟩) | (go_at_call 31; refine (C31.out _).mono ?_; rintro e w' ⟨rfl, hb1⟩))
  all_goals first | (rename_i h1 h2; exact (bad_of h1 h2 HG.out).elim) | (go_ret2; exact ⟨rfl, hb.trans (hb1.mono hb.size)⟩)
set_option maxRecDepth 100000 in
set_option maxHeartbeats 3200000 in
theorem number_big (s : ByteArray) (w : World) (HT : Aside0 (TabP w)) (hs : s.size ≤ 281474976) (c : UInt8) (d : List UInt8) (h0 : unsigned s.data.toList = c :: d) (ht : Lib.trimS (c :: d) [48, 49, 50, 51, 52, 53, 54, 55, 56, 57] = []) (hg : ¬ (c = 48 ∧ s.data.toList ≠ [48])) (hv : ∀ v, Lib.parseIntB 64 s.data.toList ≠ .ok v) :
    Calls Tryd.prog 18 #[.string s] w fun e w' => e = .returned (.tuple #[.int .i64 0, .int .i64 3]) ∧ Below w.heap.size w w' := by
  have c29 := c_prefix s
  have c30 := c_trim s (c :: d) [] hs h0 ht
  have c31 := c_fail s hs hv
  rw [h0] at c29
  have C29 := Lib.hid c29
  have C30 := Lib.hid c30
  have C31 := Lib.hid c31
  have HG := Lib.hid hg
  clear c29 c30 c31 h0 ht hv hg
  go_enter Tryd.func18, Tryd.ntmps18
  go_wp2_with (first | (go_at_call 29; refine (C29.out _).mono ?_; rintro e w' ⟨rfl, rfl⟩) | (go_at_call 30; refine (C30.out _).mono ?_; rintro e w' ⟨rfl, hb⟩) | (go_at_call 31; refine (C31.out _ (TabP_below hb HT.out)).mono ?_; rintro e w' ⟨n1, t1, b1, rfl, hb1⟩))
  all_goals first | (rename_i h1 h2; exact (bad_of h1 h2 HG.out).elim) | (go_ret2; exact ⟨rfl, hb.trans (hb1.mono hb.size)⟩)

theorem word_Number.calls (a0 : ByteArray) (r1 r2 : Int) (w : World) (hrT : Kd.C tabK w tabA tabL.length tabL) (h : word_Number.f a0 = some (r1, r2)) :
    Calls Tryd.prog 18 #[.string a0] w fun e w' => e = .returned (.tuple #[.int .i64 r1, .int .i64 r2]) ∧ Below w.heap.size w w' := by
  unfold word_Number.f at h
  by_cases hs : a0.size ≤ 281474976
  · rw [if_pos hs] at h
    cases h0 : unsigned a0.data.toList with
    | nil =>
      have e : numOk a0.data.toList = false := by simp [numOk, h0]
      rw [e] at h
      injection h with h
      injection h with h1 h2
      subst h1 h2
      exact number_none a0 w h0
    | cons c d =>
      cases ht : Lib.trimS (c :: d) [48, 49, 50, 51, 52, 53, 54, 55, 56, 57] with
      | cons x t =>
        have e : numOk a0.data.toList = false := by simp [numOk, h0, ht]
        rw [e] at h
        injection h with h
        injection h with h1 h2
        subst h1 h2
        exact number_form a0 w hs c d h0 x t ht
      | nil =>
        by_cases hg : c = 48 ∧ a0.data.toList ≠ [48]
        · obtain ⟨rfl, hn⟩ := hg
          have e : numOk a0.data.toList = false := by simp [numOk, h0, hn]
          rw [e] at h
          injection h with h
          injection h with h1 h2
          subst h1 h2
          exact number_zero a0 w hs d h0 ht hn
        · have e : numOk a0.data.toList = true := by
            unfold numOk
            rw [h0, ht]
            by_cases hc : c = 48
            · have : a0.data.toList = [48] := Classical.byContradiction fun hn => hg ⟨hc, hn⟩
              simp [this]
            · simp [hc]
          rw [e] at h
          injection h with h
          unfold numOf at h
          match hv : Lib.parseIntB 64 a0.data.toList with
          | .ok v =>
            rw [hv] at h
            injection h with h1 h2
            subst h1 h2
            exact number_ok a0 w hs c d h0 ht hg v hv
          | .«syntax» =>
            rw [hv] at h
            injection h with h1 h2
            subst h1 h2
            exact number_big a0 w ⟨tab_is hrT⟩ hs c d h0 ht hg (fun v e => by rw [hv] at e; cases e)
          | .range =>
            rw [hv] at h
            injection h with h1 h2
            subst h1 h2
            exact number_big a0 w ⟨tab_is hrT⟩ hs c d h0 ht hg (fun v e => by rw [hv] at e; cases e)
  · rw [if_neg hs] at h
    cases h
end Go.Proofs.YtkhdcihjlobhfaaDoor.P
