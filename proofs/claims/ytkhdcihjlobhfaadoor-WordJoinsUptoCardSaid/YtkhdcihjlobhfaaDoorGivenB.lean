/-
  word.Join, GIVEN TO THE PRINT: its Lean function, its calls.
-/
import Derived.Test.YtkhdcihjlobhfaaDoorGiven
import Derived.Shelf.Strings.OnBuilder
import Derived.Lib.Hide
import Derived.LoopTactic
import Derived.Deep.DrawnRows
namespace Go.Proofs
open Go.Shelf
shelf_lay Lays.n156 Nm 156 at Tryd as Tryd.lays156
shelf_lay Lays.n169 Nm 169 at Tryd as Tryd.lays169
theorem Tryd.lays166 : Lays.n166 Tryd.prog Tryd.lays156_ren := { Tryd.lays156 with }
def Tryd.ren167 : Ren := { Tryd.lays156_ren with f := fun x => if x = 167 then 27 else Tryd.lays156_ren.f x }
theorem Tryd.lays167 : Lays.n167 Tryd.prog Tryd.ren167 where
  mixed := Tryd.lays156.mixed
  f167 := by kernel_rfl
  f240 := by kernel_rfl
  f276 := by kernel_rfl
  t0 := Tryd.lays156.t0
  a0 := Tryd.lays156.a0
  z0 := Tryd.lays156.z0
  v0 := Tryd.lays156.v0
  t4 := Tryd.lays156.t4
  a4 := Tryd.lays156.a4
  z4 := Tryd.lays156.z4
  v4 := Tryd.lays156.v4
  t5 := Tryd.underlying5
  a5 := Tryd.isAgg5
  z5 := Tryd.sizeOf5
  v5 := Tryd.zeroValue5
  t9 := Tryd.lays156.t9
  a9 := Tryd.lays156.a9
  z9 := Tryd.lays156.z9
  v9 := Tryd.lays156.v9
  t20 := Tryd.lays156.t20
  a20 := Tryd.lays156.a20
  z20 := Tryd.lays156.z20
  v20 := Tryd.lays156.v20
  t37 := Tryd.lays156.t37
  a37 := Tryd.lays156.a37
  z37 := Tryd.lays156.z37
  v37 := Tryd.lays156.v37
  t70 := Tryd.lays156.t70
  a70 := Tryd.lays156.a70
  z70 := Tryd.lays156.z70
  v70 := Tryd.lays156.v70
  t72 := Tryd.lays156.t72
  a72 := Tryd.lays156.a72
  z72 := Tryd.lays156.z72
  v72 := Tryd.lays156.v72
  t75 := Tryd.lays156.t75
  a75 := Tryd.lays156.a75
  z75 := Tryd.lays156.z75
  v75 := Tryd.lays156.v75
  t164 := Tryd.lays156.t164
  a164 := Tryd.lays156.a164
  z164 := Tryd.lays156.z164
  v164 := Tryd.lays156.v164
theorem Tryd.extra156 : Builder.Extra Tryd.prog Tryd.lays156_ren where
  sizeBuilder := by kernel_rfl
  liesBuilder := by kernel_rfl
  t5 := Tryd.underlying5
  a5 := Tryd.isAgg5
  z5 := Tryd.sizeOf5
  v5 := Tryd.zeroValue5
  infoByte := by kernel_rfl
  cellsByte := by kernel_rfl
  sizeByte := by kernel_rfl
  neB5 := by decide
theorem Tryd.extra167 : Builder.Extra Tryd.prog Tryd.ren167 where
  sizeBuilder := by kernel_rfl
  liesBuilder := by kernel_rfl
  t5 := Tryd.underlying5
  a5 := Tryd.isAgg5
  z5 := Tryd.sizeOf5
  v5 := Tryd.zeroValue5
  infoByte := by kernel_rfl
  cellsByte := by kernel_rfl
  sizeByte := by kernel_rfl
  neB5 := by decide
theorem Tryd.extra169 : Builder.Extra Tryd.prog Tryd.lays169_ren where
  sizeBuilder := by kernel_rfl
  liesBuilder := by kernel_rfl
  t5 := Tryd.underlying5
  a5 := Tryd.isAgg5
  z5 := Tryd.sizeOf5
  v5 := Tryd.zeroValue5
  infoByte := by kernel_rfl
  cellsByte := by kernel_rfl
  sizeByte := by kernel_rfl
  neB5 := by decide
end Go.Proofs
namespace Go.Proofs.YtkhdcihjlobhfaaDoor.P
open Go.RowKit Go.Sort Go.Lib Go.Proofs.YtkhdcihjlobhfaaDoorW.PrintWords Go.Proofs.YtkhdcihjlobhfaaDoorW.PrintLast Go.Proofs.YtkhdcihjlobhfaaDoorW.PrintMore
set_option linter.unusedVariables false
set_option linter.unusedSimpArgs false
attribute [local go_sem ↓] Go.wp_at_zero Go.wp_at_succ

/-- A line as a text. -/
def lineB (x : List ByteArray) : List UInt8 := Lib.join (x.map (·.data.toList)) [32] ++ [10]
/-- Lines as a text. -/
def joinB (l : List (List ByteArray)) : List UInt8 := (l.map lineB).flatten
theorem joinB_take (l : List (List ByteArray)) (i : Nat) (x : List ByteArray) (h : l[i]? = some x) : joinB (l.take (i + 1)) = joinB (l.take i) ++ Lib.join (x.map (·.data.toList)) [32] ++ [10] := by
  unfold joinB
  rw [List.take_add_one, h]
  simp [lineB]
theorem joinB_le (l : List (List ByteArray)) (i : Nat) : (joinB (l.take i)).length ≤ (joinB l).length := by
  conv => rhs; rw [← List.take_append_drop i l]
  unfold joinB
  rw [List.map_append, List.flatten_append, List.length_append]
  omega
def word_Join.f (l : List (List ByteArray)) : Option ByteArray :=
  if l.length ≤ 140737488355328 ∧ (∀ x ∈ l, x.length ≤ 140737488355328) ∧ (joinB l).length ≤ 140737488355328 then some ⟨(joinB l).toArray⟩ else none

theorem isB_below {T e : TypeId} {B b : Nat} {bs : List Value} {w w1 : World} (hb : Below w.heap.size w w1) (h : Lib.IsBuilder T e B b bs w) : Lib.IsBuilder T e B b bs w1 := by
  have at_ : ∀ p, Lib.BuilderAt T e B b p bs w → Lib.BuilderAt T e B b p bs w1 := by
    rintro p h
    have hlt := h.lt
    obtain ⟨hB, v, hv, hown, hne⟩ := h
    exact ⟨hB, v, (hb.block b hlt).trans hv, own_move hown (fun k hk => hb.block k (own_lt hown k hk)), hne⟩
  rcases h with h | h
  · exact Or.inl (at_ _ h)
  · exact Or.inr (at_ _ h)
theorem at_zero {w : World} {ad : Addr} {v : Value} (h : w.cell? ad = some v) : ad = ⟨ad.block, ad.off, none⟩ := by
  obtain ⟨b, o, s⟩ := ad
  cases s with
  | none => rfl
  | some s =>
    exfalso
    simp only [World.cell?, Option.isSome_some] at h
    revert h
    split <;> simp
theorem cells_of {w : World} {b o : Nat} {x : List ByteArray} (hx : Kd.C Kd.string w (some ⟨b, o, none⟩) x.length x) (j : Nat) (z : ByteArray) (hz : x[j]? = some z) : w.cell? ⟨b, o + j, none⟩ = some (.string z) := by
  have hj : j < x.length := (List.getElem?_eq_some_iff.1 hz).1
  obtain ⟨ad', e1, h1⟩ := Kd.at_string hx (j : Int) (by omega) (by omega)
  injection e1 with e1
  subst e1
  have e2 : rdOf ByteArray.empty x (j : Int) = z := by
    unfold rdOf
    rw [Int.toNat_natCast, List.getD_eq_getElem?_getD, hz]
    rfl
  rw [e2, Int.toNat_natCast] at h1
  have e3 : Addr.add ⟨b, o, none⟩ j = ⟨b, o + j, none⟩ := by
    unfold Addr.add
    split
    · rename_i h; subst h; rfl
    · rfl
  rw [← e3]
  exact h1
theorem join_calls (A : Option Addr) (c : Nat) (x : List ByteArray) (w : World) (hx : Kd.C Kd.string w A x.length x) (hc : x.length ≤ c) (hN : x.length ≤ 140737488355328) (hl : (Lib.join (x.map (·.data.toList)) [32]).length ≤ 140737488355328) :
    Calls Tryd.prog 26 #[.slice A x.length c, .string ⟨#[32]⟩] w fun e w' => e = .returned (.string ⟨(Lib.join (x.map (·.data.toList)) [32]).toArray⟩) ∧ Below w.heap.size w w' := by
  by_cases h0 : x = []
  · subst h0
    exact (Any.strings_Join_none Tryd.lays156 Tryd.extra156 A c ⟨#[32]⟩ w).mono fun e w' ⟨he, hw⟩ => ⟨he, hw ▸ Below.refl _ _⟩
  · have hp : 0 < x.length := List.length_pos_iff.2 h0
    obtain ⟨ad, e0, hy⟩ := Kd.at_string hx 0 (by omega) (by omega)
    have ha := at_zero (ad := ad) hy
    subst e0
    obtain ⟨b, o, s⟩ := ad
    simp only [Addr.mk.injEq, true_and] at ha
    subst ha
    exact Any.strings_Join Tryd.lays156 Tryd.extra156 b o c x ⟨#[32]⟩ w (cells_of hx) (World.block_lt_of_cell? w ⟨b, o, none⟩ hy) hN hc hl

theorem strCells_bytes (s : List UInt8) : Lib.strCells ⟨s.toArray⟩ = Lib.byteCells s := by
  rw [Lib.strCells_eq]
set_option maxRecDepth 100000 in
set_option maxHeartbeats 3200000 in
theorem word_Join.calls (A0 : Option Addr) (c0 : Nat) (l0 : List (List ByteArray)) (r : ByteArray) (w : World) (hr0 : Kd.C (Kd.slice 9 Kd.string) w A0 l0.length l0) (hc0 : l0.length ≤ c0) (h : word_Join.f l0 = some r) :
    Calls Tryd.prog 15 #[.slice A0 l0.length c0] w fun e w' => e = .returned (.string r) ∧ Below w.heap.size w w' := by
  unfold word_Join.f at h
  by_cases hcnd : l0.length ≤ 140737488355328 ∧ (∀ x ∈ l0, x.length ≤ 140737488355328) ∧ (joinB l0).length ≤ 140737488355328
  · rw [if_pos hcnd] at h
    obtain rfl := Option.some.inj h
    clear h
    obtain ⟨hn, hxs, hlen⟩ := hcnd
    have HXS := Aside0.mk hxs
    have HR0 := Aside0.mk hr0
    clear hxs hr0
    have h0 : Lib.IsBuilder 51 5 w.heap.size w.heap.size [] (w.alloc (.cells #[.pointer none, .slice none 0 0] 51)) := Lib.fresh_isBuilder 51 5 w
    have b0 : Below w.heap.size w (w.alloc (.cells #[.pointer none, .slice none 0 0] 51)) := (Below.refl _ w).alloc (Nat.le_refl _) _
    have H0 := Aside0.mk h0
    have B0 := Aside0.mk b0
    clear h0 b0
    have HN := Aside0.mk hlen
    clear hlen
    go_enter Tryd.func15, Tryd.ntmps15
    go_wp2
    go_loopw [8] (fun v8 w' => ∃ i : Nat, i ≤ l0.length ∧ v8 = .int .i64 i ∧ Aside0 (Lib.IsBuilder 51 5 w.heap.size w.heap.size (Lib.byteCells (joinB (l0.take i))) w') ∧ Aside0 (Below w.heap.size w w')) (fun v8 _ => l0.length - (RowKit.intOf v8).toNat)
    case atStart => exact ⟨0, Nat.zero_le _, rfl, H0, B0⟩
    case round =>
      obtain ⟨i, hi, rfl, HB, HW⟩ := hrel
      clear H0 B0
      by_cases hlt : i < l0.length
      · obtain ⟨x, hx⟩ : ∃ x, l0[i]? = some x := ⟨_, List.getElem?_eq_getElem hlt⟩
        have hxm : x ∈ l0 := List.mem_of_getElem? hx
        have HT := Aside0.mk (joinB_take l0 i x hx)
        have HX := Aside0.mk hx
        have hxl := HXS.out x hxm
        clear hxm hx
        have e1 : rd_L1 l0 (i : Int) = x := by
          unfold rd_L1
          rw [Int.toNat_natCast, List.getD_eq_getElem?_getD, HX.out]
          rfl
        obtain ⟨ad, A1, c1, e0, hc1, hl1, hi1⟩ := at_L1 (Kd.C_below HR0.out HW.out) (i : Int) (by omega) (by omega)
        subst e0
        rw [e1] at hc1 hl1 hi1
        rw [Int.toNat_natCast] at hc1
        clear e1
        have HI1 := Aside0.mk hi1
        clear hi1
        have hj : (Lib.join (x.map (·.data.toList)) [32]).length + (joinB (l0.take i)).length + 1 ≤ 140737488355328 := by
          have h1 := joinB_le l0 (i + 1)
          rw [HT.out] at h1
          have := HN.out
          simp only [List.length_append, List.length_cons, List.length_nil] at h1
          omega
        generalize hjg : Lib.join (x.map (·.data.toList)) [32] = jx at hj
        have HJ := Aside0.mk hjg
        clear hjg
        have hwz := HW.out.size
        go_wp2_with (go_at_call 26; refine (join_calls A1 c1 x _ HI1.out hl1 hxl (by rw [HJ.out]; omega)).mono ?_)
        rintro e W1 ⟨rfl, b1⟩
        rw [HJ.out]
        have HB1 := isB_below b1 HB.out
        have hz1 := b1.size
        have es : (⟨jx.toArray⟩ : ByteArray).size = jx.length := by simp [ByteArray.size]
        go_wp2_with (go_at_call 25; refine (Any.Builder_WriteString Tryd.lays166 Tryd.extra156 w.heap.size w.heap.size _ ⟨jx.toArray⟩ W1 HB1 (by rw [Lib.byteCells_length, es]; omega) (by omega)).mono ?_)
        rintro e W2 ⟨rfl, hb2, b2⟩
        have HB2 : Aside0 (Lib.IsBuilder 51 5 w.heap.size w.heap.size (Lib.byteCells (joinB (l0.take i) ++ jx)) W2) := ⟨by
          rw [strCells_bytes, ← Lib.byteCells_append] at hb2
          exact Or.inr hb2⟩
        clear hb2
        have hz2 := b2.size
        go_wp2_with (go_at_call 27; refine (Any.Builder_WriteByte Tryd.lays167 Tryd.extra167 w.heap.size w.heap.size _ 10 W2 HB2.out (by rw [Lib.byteCells_length, List.length_append]; omega) (by omega)).mono ?_)
        rintro e W3 ⟨rfl, hb3, b3⟩
        have HB3 : Aside0 (Lib.IsBuilder 51 5 w.heap.size w.heap.size (Lib.byteCells (joinB (l0.take (i + 1)))) W3) := ⟨by
          have e10 : (Lib.byteCells (joinB (l0.take i) ++ jx) ++ [Value.int .u8 10]) = Lib.byteCells (joinB (l0.take (i + 1))) := by
            rw [HT.out, HJ.out, Lib.byteCells_append _ [10]]
            rfl
          rw [← e10]
          exact Or.inr hb3⟩
        clear hb3
        have HW3 : Aside0 (Below w.heap.size w W3) := ⟨((HW.out.trans (b1.mono hwz)).trans b2).trans b3⟩
        clear b1 b2 b3 HB HB1 HB2 HW hc1
        go_wp2
        go_roundw
        case rel => exact ⟨i + 1, by omega, by go_num, HB3, HW3⟩
        case measure => simp [RowKit.intOf]; omega
      · have e : i = l0.length := by omega
        subst e
        have HB1 : Aside0 (Lib.IsBuilder 51 5 w.heap.size w.heap.size (Lib.byteCells (joinB l0)) _) := ⟨by
          have := HB.out
          rw [List.take_length] at this
          exact this⟩
        clear HB
        have hwz := HW.out.size
        go_wp2_with (go_at_call 28; refine (Any.Builder_String_any Tryd.lays169 Tryd.extra169 w.heap.size w.heap.size (joinB l0) _ HB1.out hwz).mono ?_)
        rintro e W2 ⟨rfl, b2⟩
        go_wp2
        go_ret
        exact ⟨rfl, HW.out.trans b2⟩
  · rw [if_neg hcnd] at h
    cases h
end Go.Proofs.YtkhdcihjlobhfaaDoor.P
