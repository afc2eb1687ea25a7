/-
  WHAT A ROW OF THIS SEAT HANDS: a program (struct type 25) opened as lists, and the laid table of operations.
-/
import Derived.Test.YtgfnpdfhdgenbaaDoorTie
import Derived.Test.YtgfnpdfhdgenbaaDoorGiven
import Derived.WalkKit
import Derived.ProofKit
import Derived.OpenShut
import Derived.ShutString
import Derived.ChangeOld
import Derived.Below
import Derived.SliceStrings
import Derived.Deep.DeepHandedRow
import Derived.Lib.LaidTab
import Derived.Lib.SmallJoins
namespace Go.Proofs.YtgfnpdfhdgenbaaDoor.P
open Go.ChangeShapes Go.WideShapes Go.ChangeAt Go.RowKit Go.Joins Go.Proofs.YtgfnpdfhdgenbaaDoorW.PrintWords Go.Proofs.YtgfnpdfhdgenbaaDoorW.PrintLast Go.Proofs.YtgfnpdfhdgenbaaDoorW.PrintMore
set_option linter.unusedVariables false

theorem own : ownKnob Tryd.prog.godebug = none := by kernel_rfl
theorem cells90 : Tryd.prog.cellsOf 90 = 20 := by kernel_rfl
theorem cellsU : Tryd.prog.cellsOf 80 = 1 := by kernel_rfl
theorem gTabType : (Tryd.prog.globals[0]?).map (·.type) = some 90 := by kernel_rfl
theorem cells9 : Tryd.prog.cellsOf 9 = 1 := by kernel_rfl
theorem cells5 : Tryd.prog.cellsOf 5 = 1 := by kernel_rfl
theorem cells2 : Tryd.prog.cellsOf 2 = 1 := by kernel_rfl
theorem cells22 : Tryd.prog.cellsOf 22 = 1 := by kernel_rfl
theorem cells23 : Tryd.prog.cellsOf 23 = 1 := by kernel_rfl
theorem cells25 : Tryd.prog.cellsOf 25 = 4 := by kernel_rfl
theorem cells45 : Tryd.prog.cellsOf 45 = 5 := by kernel_rfl

/-! ### The table -/
theorem pow_laid : (Rows.laid_internal_strconv_uint64pow10 : DataW Unit) = Lib.tabData .u64 Lib.pow10Tab := by kernel_rfl
theorem table {W : World} (h : laidMetH Tryd.prog [("math/bits.deBruijn32tab", Rows.laid_math_bits_deBruijn32tab), ("math/bits.deBruijn64tab", Rows.laid_math_bits_deBruijn64tab), ("internal/strconv.uint64pow10", Rows.laid_internal_strconv_uint64pow10)] W) : Kd.C tabK W tabA tabL.length tabL := by
  have h1 : laidMet Tryd.prog [("math/bits.deBruijn32tab", Rows.laid_math_bits_deBruijn32tab), ("math/bits.deBruijn64tab", Rows.laid_math_bits_deBruijn64tab), ("internal/strconv.uint64pow10", Rows.laid_internal_strconv_uint64pow10)] W := h
  obtain ⟨ps, ⟨_, _, _, _, _, _, _, _, _, _, h2, _⟩, _⟩ := h1
  obtain ⟨_, _, _, _, _, _, _, _, _, _, h3, _⟩ := h2
  obtain ⟨g', t', cs, fuel, p, q, hg', ht', hvar, hd, _, _⟩ := h3
  obtain rfl := Option.some.inj (gTab.symm.trans hg')
  obtain rfl := Option.some.inj (gTabType.symm.trans ht')
  rw [pow_laid] at hd
  refine tab_of ?_
  unfold TabP Lib.TabIs
  rw [hvar, ← Lib.cells_of_tab Tryd.underlying90 Tryd.underlying80 cellsU cells90 hd]

/-! ### A program -/
section
variable {H : Type} {enc : TypeId × Value → H} {w : World} {base : Nat} {sp : Nat → Bool} {held : Bool}
theorem open_types {fuel : Nat} {v : Value} {x : DataW H × List MemPlace} (h : DataW.trod enc Tryd.prog w base sp held fuel 22 [v] = some x) :
    ∃ (A : Option Addr) (c : Nat) (t : List ByteArray), v = .slice A t.length c ∧ t.length ≤ c ∧ Kd.C Kd.string w A t.length t ∧ ∀ i : Int, (rdOf ByteArray.empty t i).size ≤ 9223372036854775807 := by
  rcases open_strings Tryd.underlying22 Tryd.underlying9 cells9 h with ⟨hcs, _⟩ | ⟨a, len, cap, ss, hcs, _, hl, hm, hss, _, hcell, hsz⟩
  · injection hcs with hcs
    subst hcs
    exact ⟨none, 0, [], rfl, Nat.le_refl _, ⟨rfl, by decide, fun h => absurd h (Nat.lt_irrefl _)⟩, fun i => by unfold rdOf; simp⟩
  · injection hcs with hcs
    subst hcs
    have hle : len ≤ ss.length := by rw [hss]; split <;> omega
    have hlen : (ss.take len).length = len := by rw [List.length_take]; omega
    refine ⟨some a, cap, ss.take len, by rw [hlen], by rw [hlen]; exact hl, ⟨rfl, by rw [hlen]; unfold maxLen at hm; omega, fun _ => ⟨a, rfl, fun j p hj => ⟨[.string p], rfl, rfl, fun i u hu => ?_⟩⟩⟩, fun i => ?_⟩
    rotate_left
    · unfold rdOf
      rw [List.getD_eq_getElem?_getD]
      cases hx : (ss.take len)[i.toNat]? with
      | none => decide
      | some x =>
        have := hsz x (List.mem_of_mem_take (List.mem_of_getElem? hx))
        unfold maxLen at this
        exact this
    have hjl : j < len := by
      have := (List.getElem?_eq_some_iff.1 hj).1
      omega
    have hi : i = 0 := by
      have := (List.getElem?_eq_some_iff.1 hu).1
      simp at this
      exact this
    subst hi
    simp at hu
    subst hu
    show w.cell? (a.add (j * 1 + 0)) = _
    rw [show j * 1 + 0 = j from by omega, hcell j (by omega), List.getD_eq_getElem?_getD]
    rw [List.getElem?_take, if_pos hjl] at hj
    rw [hj]
    rfl

def InsAt (w : World) (a : Addr) (i : Nat) (x : S45) : Prop :=
  (∀ q u, ([.int .u8 x.f0, .int .u8 x.f1, .int .u8 x.f2, .int .u8 x.f3, .int .i64 x.f4] : List Value)[q]? = some u → w.cell? (a.add (i * 5 + q)) = some u) ∧
  (0 ≤ x.f0 ∧ x.f0 ≤ 255) ∧ (0 ≤ x.f1 ∧ x.f1 ≤ 255) ∧ (0 ≤ x.f2 ∧ x.f2 ≤ 255) ∧ (0 ≤ x.f3 ∧ x.f3 ≤ 255) ∧ (-9223372036854775808 ≤ x.f4 ∧ x.f4 ≤ 9223372036854775807)
theorem u8_wf {n : Int} (h : (Lit.int .u8 n).wf = true) : 0 ≤ n ∧ n ≤ 255 := by
  simp only [Lit.wf, Bool.and_eq_true, decide_eq_true_eq] at h
  exact h
theorem i64_wf {n : Int} (h : (Lit.int .i64 n).wf = true) : -9223372036854775808 ≤ n ∧ n ≤ 9223372036854775807 := by
  simp only [Lit.wf, Bool.and_eq_true, decide_eq_true_eq] at h
  exact h
theorem cells_get {w : World} {base : Nat} {a : Addr} {n : Nat} {cs : List Value} (h : w.cells? base a n = some cs) : cs.length = n ∧ ∀ q, q < n → w.cell? (a.add q) = cs[q]? := by
  unfold World.cells? at h
  split at h
  · exact ⟨by simpa using mapM_some_length h, fun q hq => mapM_some_get h q q (by simp [hq])⟩
  · cases h
theorem one_at {cs : List Value} {k : Nat} {v : Value} (h : (cs.drop k).take 1 = [v]) : cs[k]? = some v := by
  have := congrArg (·[0]?) h
  simpa [List.getElem?_take, List.getElem?_drop] using this
theorem open_ins {fuel : Nat} {a : Addr} {i : Nat} {y : DataW H × List MemPlace} (h : (w.cells? base (a.add (i * 5)) 5).bind (DataW.trod enc Tryd.prog w base sp held fuel 45) = some y) : ∃ x, InsAt w a i x := by
  rw [Option.bind_eq_some_iff] at h
  obtain ⟨cs, hc, h⟩ := h
  obtain ⟨hl, hcell⟩ := cells_get hc
  obtain ⟨xs, n, _, _, _, hxl, hf⟩ := DataW.trod_struct Tryd.underlying45 h
  match xs, hxl with
  | [y0, y1, y2, y3, y4], _ =>
    have f0 : DataW.trod enc Tryd.prog w base sp held n 5 ((cs.drop 0).take (Tryd.prog.cellsOf 5)) = some y0 := hf 0 _ rfl
    have f1 : DataW.trod enc Tryd.prog w base sp held n 5 ((cs.drop 1).take (Tryd.prog.cellsOf 5)) = some y1 := hf 1 _ rfl
    have f2 : DataW.trod enc Tryd.prog w base sp held n 5 ((cs.drop 2).take (Tryd.prog.cellsOf 5)) = some y2 := hf 2 _ rfl
    have f3 : DataW.trod enc Tryd.prog w base sp held n 5 ((cs.drop 3).take (Tryd.prog.cellsOf 5)) = some y3 := hf 3 _ rfl
    have f4 : DataW.trod enc Tryd.prog w base sp held n 2 ((cs.drop 4).take (Tryd.prog.cellsOf 2)) = some y4 := hf 4 _ rfl
    rw [cells5] at f0 f1 f2 f3
    rw [cells2] at f4
    obtain ⟨n0, e0, _, w0⟩ := DataW.trod_int Tryd.underlying5 f0
    obtain ⟨n1, e1, _, w1⟩ := DataW.trod_int Tryd.underlying5 f1
    obtain ⟨n2, e2, _, w2⟩ := DataW.trod_int Tryd.underlying5 f2
    obtain ⟨n3, e3, _, w3⟩ := DataW.trod_int Tryd.underlying5 f3
    obtain ⟨n4, e4, _, w4⟩ := DataW.trod_int Tryd.underlying2 f4
    refine ⟨⟨n0, n1, n2, n3, n4⟩, fun q u hu => ?_, u8_wf w0, u8_wf w1, u8_wf w2, u8_wf w3, i64_wf w4⟩
    rw [← Addr.add_add]
    match q, hu with
    | 0, hu => rw [hcell 0 (by omega), one_at e0]; exact hu
    | 1, hu => rw [hcell 1 (by omega), one_at e1]; exact hu
    | 2, hu => rw [hcell 2 (by omega), one_at e2]; exact hu
    | 3, hu => rw [hcell 3 (by omega), one_at e3]; exact hu
    | 4, hu => rw [hcell 4 (by omega), one_at e4]; exact hu
    | q + 5, hu => simp at hu
end
def WfX (x : S45) : Prop := (0 ≤ x.f0 ∧ x.f0 ≤ 255) ∧ (0 ≤ x.f1 ∧ x.f1 ≤ 255) ∧ (0 ≤ x.f2 ∧ x.f2 ≤ 255) ∧ (0 ≤ x.f3 ∧ x.f3 ≤ 255) ∧ (-9223372036854775808 ≤ x.f4 ∧ x.f4 ≤ 9223372036854775807)
def WfC (code : List S45) : Prop := ∀ i : Nat, WfX (code.getD i z45)
section
variable {H : Type} {enc : TypeId × Value → H} {w : World} {base : Nat} {sp : Nat → Bool} {held : Bool}
theorem open_code {fuel : Nat} {v : Value} {x : DataW H × List MemPlace} (h : DataW.trod enc Tryd.prog w base sp held fuel 23 [v] = some x) :
    ∃ (A : Option Addr) (c : Nat) (code : List S45), v = .slice A code.length c ∧ code.length ≤ c ∧ Kd.C k45 w A code.length code ∧ WfC code := by
  have z : WfX z45 := by unfold WfX; decide
  rcases DataW.trod_slice Tryd.underlying23 h with ⟨hcs, _⟩ | ⟨a, len, cap, elems, rest, n, _, hcs, _, _, hl, hm, hlen, hel, _⟩
  · injection hcs with hcs
    subst hcs
    exact ⟨none, 0, [], rfl, Nat.le_refl _, ⟨rfl, by decide, fun h => absurd h (Nat.lt_irrefl _)⟩, fun i => z⟩
  · injection hcs with hcs
    subst hcs
    have each : ∀ i, ∃ x : S45, i < len → InsAt w a i x := fun i => by
      by_cases hi : i < len
      · have := hel i hi
        rw [cells45, List.getElem?_eq_getElem (by omega)] at this
        obtain ⟨x, hx⟩ := open_ins this
        exact ⟨x, fun _ => hx⟩
      · exact ⟨z45, fun h => absurd h hi⟩
    let f := fun i => Classical.choose (each i)
    have hf : ∀ i, i < len → InsAt w a i (f i) := fun i => Classical.choose_spec (each i)
    have hlen : ((List.range len).map f).length = len := by simp
    have get : ∀ j p, ((List.range len).map f)[j]? = some p → j < len ∧ p = f j := fun j p hj => by
      have := (List.getElem?_eq_some_iff.1 hj).1
      rw [hlen] at this
      rw [List.getElem?_map, List.getElem?_range this] at hj
      exact ⟨this, (Option.some.inj hj).symm⟩
    refine ⟨some a, cap, (List.range len).map f, by rw [hlen], by rw [hlen]; exact hl, ⟨rfl, by rw [hlen]; unfold maxLen at hm; omega, fun _ => ⟨a, rfl, fun j p hj => ?_⟩⟩, fun i => ?_⟩
    · obtain ⟨hjl, rfl⟩ := get j p hj
      exact ⟨_, rfl, k45_mk w (f j), (hf j hjl).1⟩
    · by_cases hi : i < len
      · rw [List.getD_eq_getElem?_getD, List.getElem?_map, List.getElem?_range hi]
        exact (hf i hi).2
      · rw [List.getD_eq_getElem?_getD, List.getElem?_eq_none (by omega)]
        exact z

/-- A PROGRAM, OPENED. -/
theorem open_prog {r : Reach} {b0 : Nat} {v : Value} {d : DataW H} {p : List MemPlace} (hv : Value.okWide Tryd.prog w r b0 25 v) (h : DataW.Trod enc Tryd.prog w base sp held 25 v d p) :
    ∃ (A0 : Option Addr) (c0 : Nat) (t : List ByteArray) (lo gl : ByteArray) (A3 : Option Addr) (c3 : Nat) (code : List S45) (d0 d3 : DataW H),
      v = .agg #[.slice A0 t.length c0, .string lo, .string gl, .slice A3 code.length c3] ∧ d = .agg [d0, .lit (.string lo.data.toList), .lit (.string gl.data.toList), d3] ∧
      Kd.C Kd.string w A0 t.length t ∧ t.length ≤ c0 ∧ Kd.C k45 w A3 code.length code ∧ code.length ≤ c3 ∧ WfC code ∧ ∀ i : Int, (rdOf ByteArray.empty t i).size ≤ 9223372036854775807 := by
  obtain ⟨cs, rfl, hsz⟩ := okWide_struct Tryd.underlying25 hv
  rw [cells25] at hsz
  obtain ⟨v0, v1, v2, v3, rfl⟩ := array4 hsz
  obtain ⟨fuel, h⟩ := h
  obtain ⟨y0, y1, y2, y3, n, he, _, f0, f1, f2, f3⟩ := trod_struct4 Tryd.underlying25 h
  injection he with he _
  subst he
  dsimp only at f0 f1 f2 f3
  rw [cells22] at f0
  rw [cells9] at f1 f2
  rw [cells23] at f3
  obtain ⟨A0, c0, t, rfl, ht, hT, hts⟩ := open_types f0
  obtain ⟨lo, e1, rfl, _⟩ := DataW.trod_string Tryd.underlying9 f1
  obtain ⟨gl, e2, rfl, _⟩ := DataW.trod_string Tryd.underlying9 f2
  obtain ⟨A3, c3, code, rfl, hc, hC, hw⟩ := open_code f3
  have e1' : v1 = .string lo := by
    have : [v1] = [Value.string lo] := e1
    injection this
  have e2' : v2 = .string gl := by
    have : [v2] = [Value.string gl] := e2
    injection this
  subst e1' e2'
  exact ⟨A0, c0, t, lo, gl, A3, c3, code, _, _, rfl, rfl, hT, ht, hC, hc, hw, hts⟩
end
/-- How long its letters are. -/
theorem prog_size {H : Type} {lo gl : ByteArray} {d0 d3 : DataW H} {ts : List TypeId} {ds : List (DataW H)}
    (h : (DataW.weightsEach Tryd.prog (25 :: ts) (.agg [d0, .lit (.string lo.data.toList), .lit (.string gl.data.toList), d3] :: ds)).all (· ≤ reachBytes) = true) : lo.size ≤ reachBytes ∧ gl.size ≤ reachBytes := by
  simp only [DataW.weightsEach, DataW.weights, Tryd.underlying25, List.all_append, Bool.and_eq_true, List.map, List.all_cons, List.all_nil, decide_eq_true_eq] at h
  obtain ⟨⟨_, h1, h2, _⟩, _⟩ := h
  exact ⟨h1.1, h2.1⟩
end Go.Proofs.YtgfnpdfhdgenbaaDoor.P
