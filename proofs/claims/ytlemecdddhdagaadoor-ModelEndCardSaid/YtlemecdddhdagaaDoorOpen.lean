/-
  WHAT A ROW OF THIS SEAT HANDS: a program (struct type 25) opened as lists, and the laid table of operations.
-/
import Derived.Test.YtlemecdddhdagaaDoorTie
import Derived.Test.YtlemecdddhdagaaDoorGivenA
import Derived.WalkKit
import Derived.ProofKit
import Derived.OpenShut
import Derived.ShutString
import Derived.ChangeOld
import Derived.Below
import Derived.SliceStrings
import Derived.Deep.DeepHandedRow
import Derived.Lib.LaidTab
import Derived.Lib.SmallJoins
namespace Go.Proofs.YtlemecdddhdagaaDoor.P
open Go.ChangeShapes Go.WideShapes Go.ChangeAt Go.RowKit Go.Joins Go.Proofs.YtlemecdddhdagaaDoorW.PrintWords Go.Proofs.YtlemecdddhdagaaDoorW.PrintLast Go.Proofs.YtlemecdddhdagaaDoorW.PrintMore
set_option linter.unusedVariables false

theorem own : ownKnob Tryd.prog.godebug = none := by kernel_rfl
theorem gTab : Tryd.prog.globalNamed "lockstitch/code.ops" = some 0 := by kernel_rfl
theorem gTabType : (Tryd.prog.globals[0]?).map (·.type) = some 88 := by kernel_rfl
theorem cells88 : Tryd.prog.cellsOf 88 = 32 := by kernel_rfl
theorem cells87 : Tryd.prog.cellsOf 87 = 2 := by kernel_rfl
theorem cells9 : Tryd.prog.cellsOf 9 = 1 := by kernel_rfl
theorem cells5 : Tryd.prog.cellsOf 5 = 1 := by kernel_rfl
theorem cells2 : Tryd.prog.cellsOf 2 = 1 := by kernel_rfl
theorem cells22 : Tryd.prog.cellsOf 22 = 1 := by kernel_rfl
theorem cells23 : Tryd.prog.cellsOf 23 = 1 := by kernel_rfl
theorem cells25 : Tryd.prog.cellsOf 25 = 4 := by kernel_rfl
theorem cells55 : Tryd.prog.cellsOf 55 = 5 := by kernel_rfl

/-! ### The table -/
def pairs : List (List UInt8 × List UInt8) := [([], []), ([115, 101, 116], [97, 110]), ([97, 100, 100], [97, 98, 99]), ([106, 117, 109, 112], [110]), ([122, 101, 114, 111], [97, 110]), ([110, 101, 119], [97]), ([110, 105, 108], [97]), ([109, 111, 118, 101], [97, 98]), ([108, 111, 97, 100, 105], [97, 98, 110]), ([115, 116, 111, 114, 101, 105], [97, 110, 98]), ([108, 111, 97, 100, 112], [97, 98, 110]), ([115, 116, 111, 114, 101, 112], [97, 110, 98]), ([108, 111, 97, 100, 103], [97, 98]), ([115, 116, 111, 114, 101, 103], [97, 98]), ([112, 114, 105, 110, 116], [97]), ([115, 97, 109, 101], [97, 98, 99])]
def pairD {H : Type} (p : List UInt8 × List UInt8) : DataW H := .agg [.lit (.string p.1), .lit (.string p.2)]
def flat : List (List UInt8 × List UInt8) → List Value
  | [] => []
  | p :: r => .string ⟨p.1.toArray⟩ :: .string ⟨p.2.toArray⟩ :: flat r
theorem flat_of : ∀ (ps : List (List UInt8 × List UInt8)) (cs : List Value), cs.length = 2 * ps.length →
    (∀ i p, ps[i]? = some p → cs[2 * i]? = some (.string ⟨p.1.toArray⟩) ∧ cs[2 * i + 1]? = some (.string ⟨p.2.toArray⟩)) → cs = flat ps
  | [], cs, hl, _ => by
    simp at hl
    exact hl
  | p :: r, c0 :: c1 :: cs, hl, h => by
    obtain ⟨h0, h1⟩ := h 0 p rfl
    simp at h0 h1
    rw [flat_of r cs (by simp at hl; omega) fun i q hq => ?_, h0, h1]
    · rfl
    · have := h (i + 1) q (by simpa using hq)
      rw [show 2 * (i + 1) = 2 * i + 2 from by omega, show 2 * i + 2 + 1 = 2 * i + 1 + 2 from by omega] at this
      simpa using this
  | p :: r, [c0], hl, h => by simp at hl; omega
  | p :: r, [], hl, h => by simp at hl
theorem arr_str {s : ByteArray} {l : List UInt8} (h : s.data.toList = l) : s = ⟨l.toArray⟩ := by
  cases s
  subst h
  simp
theorem table_cells {H : Type} {enc : TypeId × Value → H} {w : World} {base : Nat} {sp : Nat → Bool} {held : Bool} {fuel : Nat} {cs : List Value} {p : List MemPlace}
    (h : DataW.trod enc Tryd.prog w base sp held fuel 88 cs = some (.agg (pairs.map pairD), p)) : cs = flat pairs := by
  cases fuel with
  | zero => simp [DataW.trod] at h
  | succ fuel =>
    simp only [DataW.trod, Tryd.underlying88, cells87, cells88] at h
    split at h
    · rename_i hl
      obtain ⟨xs, hm, hx⟩ := Option.map_eq_some_iff.1 h
      have hxs : xs.map (·.1) = pairs.map (pairD (H := H)) := by
        have := congrArg Prod.fst hx
        simpa using this
      refine flat_of pairs cs hl fun i q hq => ?_
      have hi : i < 16 := (List.getElem?_eq_some_iff.1 hq).1
      obtain ⟨b, hb, hf⟩ := Lib.mapM_at hm i i (by simp [hi])
      have hb1 : b.1 = pairD q := by
        have : (xs.map (·.1))[i]? = some b.1 := by simp [hb]
        rw [hxs] at this
        simp [hq] at this
        exact this.symm
      obtain ⟨y0, y1, n, rfl, _, t0, t1⟩ := trod_struct2 Tryd.underlying87 hf
      simp only [cells9] at t0 t1
      obtain ⟨s0, e0, rfl, _⟩ := DataW.trod_string Tryd.underlying9 t0
      obtain ⟨s1, e1, rfl, _⟩ := DataW.trod_string Tryd.underlying9 t1
      unfold pairD at hb1
      simp at hb1
      constructor
      · have := congrArg (·[0]?) e0
        simp [List.getElem?_drop] at this
        rw [Nat.mul_comm, this, arr_str hb1.1]
      · have := congrArg (·[0]?) e1
        simp [List.getElem?_drop] at this
        rw [Nat.mul_comm, this, arr_str hb1.2]
    · cases h
theorem laid_eq {H : Type} : (Rows.laid_lockstitch_code_ops : DataW H) = .agg (pairs.map pairD) := rfl
theorem flat_tab : flat pairs = tabL.map Value.string := rfl
theorem table {W : World} (h : laidMetH Tryd.prog [("lockstitch/code.ops", Rows.laid_lockstitch_code_ops)] W) : Kd.C Kd.string W tabA tabL.length tabL := by
  have h1 : laidMet Tryd.prog [("lockstitch/code.ops", Rows.laid_lockstitch_code_ops)] W := h
  obtain ⟨ps, ⟨g', t', cs, fuel, p, q, hg', ht', hvar, hd, _, _⟩, _⟩ := h1
  obtain rfl := Option.some.inj (gTab.symm.trans hg')
  obtain rfl := Option.some.inj (gTabType.symm.trans ht')
  rw [laid_eq] at hd
  have e := table_cells hd
  rw [flat_tab] at e
  refine ⟨rfl, by decide, fun _ => ⟨_, rfl, fun j p hj => ⟨[.string p], rfl, rfl, fun i u hu => ?_⟩⟩⟩
  have hi : i = 0 := by
    have := (List.getElem?_eq_some_iff.1 hu).1
    simp at this
    exact this
  subst hi
  simp at hu
  subst hu
  have := World.var?_cell gTab hvar j
  show W.cell? ((⟨0, 0, none⟩ : Addr).add (j * 1 + 0)) = _
  rw [show (⟨0, 0, none⟩ : Addr).add (j * 1 + 0) = ⟨0, j, none⟩ from (by simp [Addr.add]; omega), this, ← Array.getElem?_toList, e, List.getElem?_map, hj]
  rfl

/-! ### A program -/
section
variable {H : Type} {enc : TypeId × Value → H} {w : World} {base : Nat} {sp : Nat → Bool} {held : Bool}
theorem open_types {fuel : Nat} {v : Value} {x : DataW H × List MemPlace} (h : DataW.trod enc Tryd.prog w base sp held fuel 22 [v] = some x) :
    ∃ (A : Option Addr) (c : Nat) (t : List ByteArray), v = .slice A t.length c ∧ t.length ≤ c ∧ Kd.C Kd.string w A t.length t := by
  rcases open_strings Tryd.underlying22 Tryd.underlying9 cells9 h with ⟨hcs, _⟩ | ⟨a, len, cap, ss, hcs, _, hl, hm, hss, _, hcell, _⟩
  · injection hcs with hcs
    subst hcs
    exact ⟨none, 0, [], rfl, Nat.le_refl _, rfl, by decide, fun h => absurd h (Nat.lt_irrefl _)⟩
  · injection hcs with hcs
    subst hcs
    have hle : len ≤ ss.length := by rw [hss]; split <;> omega
    have hlen : (ss.take len).length = len := by rw [List.length_take]; omega
    refine ⟨some a, cap, ss.take len, by rw [hlen], by rw [hlen]; exact hl, rfl, by rw [hlen]; unfold maxLen at hm; omega, fun _ => ⟨a, rfl, fun j p hj => ⟨[.string p], rfl, rfl, fun i u hu => ?_⟩⟩⟩
    have hjl : j < len := by
      have := (List.getElem?_eq_some_iff.1 hj).1
      omega
    have hi : i = 0 := by
      have := (List.getElem?_eq_some_iff.1 hu).1
      simp at this
      exact this
    subst hi
    simp at hu
    subst hu
    show w.cell? (a.add (j * 1 + 0)) = _
    rw [show j * 1 + 0 = j from by omega, hcell j (by omega), List.getD_eq_getElem?_getD]
    rw [List.getElem?_take, if_pos hjl] at hj
    rw [hj]
    rfl

def InsAt (w : World) (a : Addr) (i : Nat) (x : S55) : Prop :=
  (∀ q u, ([.int .u8 x.f0, .int .u8 x.f1, .int .u8 x.f2, .int .u8 x.f3, .int .i64 x.f4] : List Value)[q]? = some u → w.cell? (a.add (i * 5 + q)) = some u) ∧
  (0 ≤ x.f1 ∧ x.f1 ≤ 255) ∧ (0 ≤ x.f2 ∧ x.f2 ≤ 255) ∧ (0 ≤ x.f3 ∧ x.f3 ≤ 255)
theorem u8_wf {n : Int} (h : (Lit.int .u8 n).wf = true) : 0 ≤ n ∧ n ≤ 255 := by
  simp only [Lit.wf, Bool.and_eq_true, decide_eq_true_eq] at h
  exact h
theorem cells_get {w : World} {base : Nat} {a : Addr} {n : Nat} {cs : List Value} (h : w.cells? base a n = some cs) : cs.length = n ∧ ∀ q, q < n → w.cell? (a.add q) = cs[q]? := by
  unfold World.cells? at h
  split at h
  · exact ⟨by simpa using mapM_some_length h, fun q hq => mapM_some_get h q q (by simp [hq])⟩
  · cases h
theorem one_at {cs : List Value} {k : Nat} {v : Value} (h : (cs.drop k).take 1 = [v]) : cs[k]? = some v := by
  have := congrArg (·[0]?) h
  simpa [List.getElem?_take, List.getElem?_drop] using this
theorem open_ins {fuel : Nat} {a : Addr} {i : Nat} {y : DataW H × List MemPlace} (h : (w.cells? base (a.add (i * 5)) 5).bind (DataW.trod enc Tryd.prog w base sp held fuel 55) = some y) : ∃ x, InsAt w a i x := by
  rw [Option.bind_eq_some_iff] at h
  obtain ⟨cs, hc, h⟩ := h
  obtain ⟨hl, hcell⟩ := cells_get hc
  obtain ⟨xs, n, _, _, _, hxl, hf⟩ := DataW.trod_struct Tryd.underlying55 h
  match xs, hxl with
  | [y0, y1, y2, y3, y4], _ =>
    have f0 : DataW.trod enc Tryd.prog w base sp held n 5 ((cs.drop 0).take (Tryd.prog.cellsOf 5)) = some y0 := hf 0 _ rfl
    have f1 : DataW.trod enc Tryd.prog w base sp held n 5 ((cs.drop 1).take (Tryd.prog.cellsOf 5)) = some y1 := hf 1 _ rfl
    have f2 : DataW.trod enc Tryd.prog w base sp held n 5 ((cs.drop 2).take (Tryd.prog.cellsOf 5)) = some y2 := hf 2 _ rfl
    have f3 : DataW.trod enc Tryd.prog w base sp held n 5 ((cs.drop 3).take (Tryd.prog.cellsOf 5)) = some y3 := hf 3 _ rfl
    have f4 : DataW.trod enc Tryd.prog w base sp held n 2 ((cs.drop 4).take (Tryd.prog.cellsOf 2)) = some y4 := hf 4 _ rfl
    rw [cells5] at f0 f1 f2 f3
    rw [cells2] at f4
    obtain ⟨n0, e0, _, w0⟩ := DataW.trod_int Tryd.underlying5 f0
    obtain ⟨n1, e1, _, w1⟩ := DataW.trod_int Tryd.underlying5 f1
    obtain ⟨n2, e2, _, w2⟩ := DataW.trod_int Tryd.underlying5 f2
    obtain ⟨n3, e3, _, w3⟩ := DataW.trod_int Tryd.underlying5 f3
    obtain ⟨n4, e4, _, w4⟩ := DataW.trod_int Tryd.underlying2 f4
    refine ⟨⟨n0, n1, n2, n3, n4⟩, fun q u hu => ?_, u8_wf w1, u8_wf w2, u8_wf w3⟩
    rw [← Addr.add_add]
    match q, hu with
    | 0, hu => rw [hcell 0 (by omega), one_at e0]; exact hu
    | 1, hu => rw [hcell 1 (by omega), one_at e1]; exact hu
    | 2, hu => rw [hcell 2 (by omega), one_at e2]; exact hu
    | 3, hu => rw [hcell 3 (by omega), one_at e3]; exact hu
    | 4, hu => rw [hcell 4 (by omega), one_at e4]; exact hu
    | q + 5, hu => simp at hu
end
def WfC (code : List S55) : Prop := ∀ i : Nat, (0 ≤ (code.getD i z55).f1 ∧ (code.getD i z55).f1 ≤ 255) ∧ (0 ≤ (code.getD i z55).f2 ∧ (code.getD i z55).f2 ≤ 255) ∧ (0 ≤ (code.getD i z55).f3 ∧ (code.getD i z55).f3 ≤ 255)
section
variable {H : Type} {enc : TypeId × Value → H} {w : World} {base : Nat} {sp : Nat → Bool} {held : Bool}
theorem open_code {fuel : Nat} {v : Value} {x : DataW H × List MemPlace} (h : DataW.trod enc Tryd.prog w base sp held fuel 23 [v] = some x) :
    ∃ (A : Option Addr) (c : Nat) (code : List S55), v = .slice A code.length c ∧ code.length ≤ c ∧ Kd.C k55 w A code.length code ∧ WfC code := by
  have z : (0 ≤ z55.f1 ∧ z55.f1 ≤ 255) ∧ (0 ≤ z55.f2 ∧ z55.f2 ≤ 255) ∧ (0 ≤ z55.f3 ∧ z55.f3 ≤ 255) := by decide
  rcases DataW.trod_slice Tryd.underlying23 h with ⟨hcs, _⟩ | ⟨a, len, cap, elems, rest, n, _, hcs, _, _, hl, hm, hlen, hel, _⟩
  · injection hcs with hcs
    subst hcs
    exact ⟨none, 0, [], rfl, Nat.le_refl _, ⟨rfl, by decide, fun h => absurd h (Nat.lt_irrefl _)⟩, fun i => z⟩
  · injection hcs with hcs
    subst hcs
    have each : ∀ i, ∃ x : S55, i < len → InsAt w a i x := fun i => by
      by_cases hi : i < len
      · have := hel i hi
        rw [cells55, List.getElem?_eq_getElem (by omega)] at this
        obtain ⟨x, hx⟩ := open_ins this
        exact ⟨x, fun _ => hx⟩
      · exact ⟨z55, fun h => absurd h hi⟩
    let f := fun i => Classical.choose (each i)
    have hf : ∀ i, i < len → InsAt w a i (f i) := fun i => Classical.choose_spec (each i)
    have hlen : ((List.range len).map f).length = len := by simp
    have get : ∀ j p, ((List.range len).map f)[j]? = some p → j < len ∧ p = f j := fun j p hj => by
      have := (List.getElem?_eq_some_iff.1 hj).1
      rw [hlen] at this
      rw [List.getElem?_map, List.getElem?_range this] at hj
      exact ⟨this, (Option.some.inj hj).symm⟩
    refine ⟨some a, cap, (List.range len).map f, by rw [hlen], by rw [hlen]; exact hl, ⟨rfl, by rw [hlen]; unfold maxLen at hm; omega, fun _ => ⟨a, rfl, fun j p hj => ?_⟩⟩, fun i => ?_⟩
    · obtain ⟨hjl, rfl⟩ := get j p hj
      exact ⟨_, rfl, k55_mk w (f j), (hf j hjl).1⟩
    · by_cases hi : i < len
      · rw [List.getD_eq_getElem?_getD, List.getElem?_map, List.getElem?_range hi]
        exact (hf i hi).2
      · rw [List.getD_eq_getElem?_getD, List.getElem?_eq_none (by omega)]
        exact z

set_option maxRecDepth 20000 in
theorem open_prog {r : Reach} {b0 : Nat} {v : Value} {d : DataW H} {p : List MemPlace} (hv : Value.okWide Tryd.prog w r b0 25 v) (h : DataW.Trod enc Tryd.prog w base sp held 25 v d p) :
    ∃ (A0 : Option Addr) (c0 : Nat) (t : List ByteArray) (lo gl : ByteArray) (A3 : Option Addr) (c3 : Nat) (code : List S55) (d0 d3 : DataW H),
      v = .agg #[.slice A0 t.length c0, .string lo, .string gl, .slice A3 code.length c3] ∧ d = .agg [d0, .lit (.string lo.data.toList), .lit (.string gl.data.toList), d3] ∧
      Kd.C Kd.string w A0 t.length t ∧ t.length ≤ c0 ∧ Kd.C k55 w A3 code.length code ∧ code.length ≤ c3 ∧ WfC code := by
  obtain ⟨cs, rfl, hsz⟩ := okWide_struct Tryd.underlying25 hv
  rw [cells25] at hsz
  obtain ⟨v0, v1, v2, v3, rfl⟩ := array4 hsz
  obtain ⟨fuel, h⟩ := h
  obtain ⟨y0, y1, y2, y3, n, he, _, f0, f1, f2, f3⟩ := trod_struct4 Tryd.underlying25 h
  injection he with he _
  subst he
  dsimp only at f0 f1 f2 f3
  rw [cells22] at f0
  rw [cells9] at f1 f2
  rw [cells23] at f3
  obtain ⟨A0, c0, t, rfl, ht, hT⟩ := open_types f0
  obtain ⟨lo, e1, rfl, _⟩ := DataW.trod_string Tryd.underlying9 f1
  obtain ⟨gl, e2, rfl, _⟩ := DataW.trod_string Tryd.underlying9 f2
  obtain ⟨A3, c3, code, rfl, hc, hC, hw⟩ := open_code f3
  have e1' : v1 = .string lo := by
    have : [v1] = [Value.string lo] := e1
    injection this
  have e2' : v2 = .string gl := by
    have : [v2] = [Value.string gl] := e2
    injection this
  subst e1' e2'
  exact ⟨A0, c0, t, lo, gl, A3, c3, code, _, _, rfl, rfl, hT, ht, hC, hc, hw⟩
end
/-- How long its letters are. -/
theorem prog_size {H : Type} {lo gl : ByteArray} {d0 d3 : DataW H} {ts : List TypeId} {ds : List (DataW H)}
    (h : (DataW.weightsEach Tryd.prog (25 :: ts) (.agg [d0, .lit (.string lo.data.toList), .lit (.string gl.data.toList), d3] :: ds)).all (· ≤ reachBytes) = true) : lo.size ≤ reachBytes ∧ gl.size ≤ reachBytes := by
  simp only [DataW.weightsEach, DataW.weights, Tryd.underlying25, List.all_append, Bool.and_eq_true, List.map, List.all_cons, List.all_nil, decide_eq_true_eq] at h
  obtain ⟨⟨_, h1, h2, _⟩, _⟩ := h
  exact ⟨h1.1, h2.1⟩
end Go.Proofs.YtlemecdddhdagaaDoor.P
