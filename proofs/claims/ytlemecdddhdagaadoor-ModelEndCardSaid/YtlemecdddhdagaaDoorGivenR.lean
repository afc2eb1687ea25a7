/-
  model.Step.
-/
import Derived.Test.YtlemecdddhdagaaDoorGivenQ
namespace Go.Proofs.YtlemecdddhdagaaDoor.P
open Go.RowKit Go.Proofs.YtlemecdddhdagaaDoorW.PrintWords Go.Proofs.YtlemecdddhdagaaDoorW.PrintLast Go.Proofs.YtlemecdddhdagaaDoorW.PrintMore
set_option linter.unusedVariables false
set_option linter.unusedSimpArgs false
attribute [local go_sem ↓] Go.wp_at_zero Go.wp_at_succ

def stepX (sz : Int → Option Int) (code : List S55) (chk : Int) (s : St) : Option (St × Bool × Int) :=
  if chk = 0 then
    if s.pc < 0 then some (s, false, 2)
    else if (code.length : Int) < s.pc then some (s, false, 2)
    else if s.pc = code.length then some (s, true, 0)
    else (doF sz s (rd_T55 code s.pc)).bind fun t => if t.2 = 0 then some (t.1, false, 0) else some (s, false, t.2)
  else some (s, false, 2)
def model_Step.f (k : Nat) (l0 : List ByteArray) (a1 a2 : ByteArray) (l3 : List S55) (s : St) : Option (St × Bool × Int) :=
  (check_Check.f k l0 a1 a2 l3).bind fun c => stepX (szF k l0 a1 a2 l3) l3 c.2 s

theorem results_cell_tmp2 {P : Program} {fn : Func} {p u v : Tmp} {ty : TypeId} (h : fn.results = #[.cell p ty, .tmp u, .tmp v]) (tmps : Array Value) (w : World) (g : Nat) (t : TypeId) (cs : Array Value) (fr : Nat × Nat) (d : TypeDesc)
    (hp : tmps.getD p undef = .pointer (some ⟨g, 0, none⟩)) (hg : w.heap[g]? = some (.cells cs t fr))
    (hu : P.underlying ty = some d) (hd : (match d with | .struct _ | .array _ _ => true | _ => false) = true) (hi : (P.info? ty).map (·.size) = some cs.size) :
    (results fn tmps).run P w = .ok (.tuple #[.agg cs, tmps.getD u undef, tmps.getD v undef]) w := by
  have hp' : tmps[p]?.getD undef = .pointer (some ⟨g, 0, none⟩) := by simpa using hp
  simp [results, h, hp', asAddr, run_loadVar_row w g t ty cs fr d hg hu hd hi]
theorem RowsV.lower {base base' : Nat} {s : St} {vO vU : Value} {w : World} (h : RowsV base s vO vU w) (hb : base' ≤ base) : RowsV base' s vO vU w := ⟨Kd.S_lower h.objs hb, Kd.R_lower h.out hb⟩
theorem RowsV.rows {base b : Nat} {s : St} {vO vU : Value} {w : World} {old : Array Value} (h : RowsV base s vO vU w) (hg : w.heap[b]? = some (.cells old 39 (0, 0))) : Rows base b s vO vU w :=
  ⟨Kd.S_mono (Kd.S_types h.objs hg (by intro q hq; simp [Kd.slice, Kd.int, Kd.scalar] at hq; omega)) (fun k hk => ⟨hk.2, hk.1⟩), Kd.R_mono (Kd.R_types h.out hg (by intro q hq; simp [Kd.int, Kd.scalar] at hq; omega)) (fun k hk => hk.2)⟩
theorem Rows.v {base b : Nat} {s : St} {vO vU : Value} {w : World} (h : Rows base b s vO vU w) : RowsV base s vO vU w :=
  ⟨Kd.S_mono h.objs (fun _ hk => hk.2), Kd.R_mono h.out (fun _ _ => trivial)⟩
theorem cells_one {s : St} {base : Nat} {vO vU : Value} {w : World} (h : RowsV base s vO vU w) : (cellsS s vO vU).all (·.oneCell') = true := by
  obtain ⟨A, c, rfl⟩ := Kd.S_slice h.objs
  obtain ⟨B, d, rfl⟩ := Kd.R_slice h.out
  simp [cellsS, Value.oneCell']

set_option maxRecDepth 100000 in
set_option maxHeartbeats 3200000 in
theorem model_Step.calls (k : Nat) (A0 : Option Addr) (c0 : Nat) (l0 : List ByteArray) (a1 a2 : ByteArray) (A3 : Option Addr) (c3 : Nat) (l3 : List S55) (s s' : St) (d : Bool) (r2 : Int) (vO vU : Value) (bO bU : Nat) (okO okU : Nat → Prop) (w : World) (hr0 : Kd.C Kd.string w A0 l0.length l0) (hc0 : l0.length ≤ c0) (hr3 : Kd.C k55 w A3 l3.length l3) (hc3 : l3.length ≤ c3) (hrT : Kd.C Kd.string w tabA tabL.length tabL)
    (hS : Kd.S kRow 28 w bO okO vO s.objs) (hU : Kd.R (Kd.int .i64) 2 w bU okU vU s.out) (hsm : Small s) (h : model_Step.f k l0 a1 a2 l3 s = some (s', d, r2)) :
    Calls Tryd.prog 14 #[.agg #[.slice A0 l0.length c0, .string a1, .string a2, .slice A3 l3.length c3], .agg (cellsS s vO vU)] w fun e w' => ∃ vO' vU', e = .returned (.tuple #[.agg (cellsS s' vO' vU'), .bool d, .int .i64 r2]) ∧ RowsV w.heap.size s' vO' vU' w' ∧ Below w.heap.size w w' := by
  obtain ⟨⟨e1, e2⟩, hchk, h1⟩ := Option.bind_eq_some_iff.1 h
  obtain ⟨G, hG⟩ : ∃ G, w.heap.size = G := ⟨_, rfl⟩
  obtain ⟨wb, hwb⟩ : ∃ wb, ((w.alloc (.cells #[.slice A0 l0.length c0, .string a1, .string a2, .slice A3 l3.length c3] 25)).alloc (.cells (cellsS s vO vU) 39)).alloc (.cells #[.int .i64 0, .int .i64 0, .int .i64 0, .int .i64 0, .int .i64 0, .int .i64 0, .int .i64 0, .int .i64 0, .int .i64 0, .int .i64 0, .int .i64 0, .int .i64 0, .int .i64 0, .int .i64 0, .int .i64 0, .int .i64 0, .int .i64 0, .int .i64 0, .int .i64 0, .int .i64 0, .slice none 0 0, .slice none 0 0, .int .i64 0, .int .i64 0] 39) = wb := ⟨_, rfl⟩
  have hB1 : Below w.heap.size w wb := by rw [← hwb]; exact (((Below.refl _ w).alloc (Nat.le_refl _) _).alloc (by simp) _).alloc (by simp; omega) _
  have hs1 : wb.heap.size = G + 3 := by rw [← hwb, ← hG]; simp
  have hb0 : wb.heap[G]? = some (.cells #[.slice A0 l0.length c0, .string a1, .string a2, .slice A3 l3.length c3] 25 (0, 0)) := by
    rw [← hwb, ← hG, Below.heap_alloc _ _ _ (by simp; omega), Below.heap_alloc _ _ _ (by simp)]
    exact heap_alloc_new w _
  have hb1 : wb.heap[G + 1]? = some (.cells (cellsS s vO vU) 39 (0, 0)) := by
    have := heap_alloc_new (w.alloc (.cells #[.slice A0 l0.length c0, .string a1, .string a2, .slice A3 l3.length c3] 25)) (.cells (cellsS s vO vU) 39)
    rw [← hwb, Below.heap_alloc _ _ _ (by simp; omega), ← hG]
    simpa using this
  have hb2 : wb.heap[G + 2]? = some (.cells #[.int .i64 0, .int .i64 0, .int .i64 0, .int .i64 0, .int .i64 0, .int .i64 0, .int .i64 0, .int .i64 0, .int .i64 0, .int .i64 0, .int .i64 0, .int .i64 0, .int .i64 0, .int .i64 0, .int .i64 0, .int .i64 0, .int .i64 0, .int .i64 0, .int .i64 0, .int .i64 0, .slice none 0 0, .slice none 0 0, .int .i64 0, .int .i64 0] 39 (0, 0)) := by
    have := heap_alloc_new ((w.alloc (.cells #[.slice A0 l0.length c0, .string a1, .string a2, .slice A3 l3.length c3] 25)).alloc (.cells (cellsS s vO vU) 39)) (.cells #[.int .i64 0, .int .i64 0, .int .i64 0, .int .i64 0, .int .i64 0, .int .i64 0, .int .i64 0, .int .i64 0, .int .i64 0, .int .i64 0, .int .i64 0, .int .i64 0, .int .i64 0, .int .i64 0, .int .i64 0, .int .i64 0, .int .i64 0, .int .i64 0, .int .i64 0, .int .i64 0, .slice none 0 0, .slice none 0 0, .int .i64 0, .int .i64 0] 39)
    rw [hwb] at this
    rw [← hG]
    simpa using this
  have p0 : wb.cell? ⟨G, 0, none⟩ = some (.slice A0 l0.length c0) := by simp [World.cell?, hb0]
  have p1 : wb.cell? ⟨G, 1, none⟩ = some (.string a1) := by simp [World.cell?, hb0]
  have p2 : wb.cell? ⟨G, 2, none⟩ = some (.string a2) := by simp [World.cell?, hb0]
  have p3 : wb.cell? ⟨G, 3, none⟩ = some (.slice A3 l3.length c3) := by simp [World.cell?, hb0]
  have HH := Aside0.mk h1
  have HR0 := Aside0.mk (Kd.C_below hr0 hB1)
  have HR3 := Aside0.mk (Kd.C_below hr3 hB1)
  have HRT := Aside0.mk (Kd.C_below hrT hB1)
  have HS := Aside0.mk (Kd.S_below hS hB1)
  have HU := Aside0.mk (Kd.R_below hU hB1)
  have HCK := Aside0.mk hchk
  have HB1 := Aside0.mk hB1
  have K0 := Aside0.mk hb0
  have K1 := Aside0.mk hb1
  have K2 := Aside0.mk hb2
  clear h1 h hr0 hr3 hrT hchk hB1 hS hU hb0 hb1 hb2
  go_enter Tryd.func14, Tryd.ntmps14
  go_upto_region 999 with (fail)
  refine (check_Check.calls k A0 c0 l0 a1 a2 A3 c3 l3 e1 e2 wb HR0.out hc0 HR3.out hc3 HRT.out HCK.out).mono ?_
  rintro e W1 ⟨rfl, hbb⟩
  replace HR0 := Aside0.mk (Kd.C_below HR0.out hbb)
  replace HR3 := Aside0.mk (Kd.C_below HR3.out hbb)
  replace HS := Aside0.mk (Kd.S_below HS.out hbb)
  replace HU := Aside0.mk (Kd.R_below HU.out hbb)
  have k0 := (hbb.block G (by omega)).trans K0.out
  have k1 := (hbb.block (G + 1) (by omega)).trans K1.out
  replace K2 := Aside0.mk ((hbb.block (G + 2) (by omega)).trans K2.out)
  have hs2 : G + 3 ≤ W1.heap.size := by have := hbb.size; omega
  replace HB1 := Aside0.mk (show Below w.heap.size w W1 from HB1.out.trans (hbb.mono (by omega)))
  have q0 : W1.cell? ⟨G, 0, none⟩ = some (.slice A0 l0.length c0) := by simp [World.cell?, k0]
  have q1 : W1.cell? ⟨G, 1, none⟩ = some (.string a1) := by simp [World.cell?, k0]
  have q2 : W1.cell? ⟨G, 2, none⟩ = some (.string a2) := by simp [World.cell?, k0]
  have q3 : W1.cell? ⟨G, 3, none⟩ = some (.slice A3 l3.length c3) := by simp [World.cell?, k0]
  have qc : W1.cell? ⟨G + 1, 22, none⟩ = some (.int .i64 s.pc) := by simp [World.cell?, k1, cellsS]
  have K1' := Aside0.mk k1
  clear hbb HRT HCK p0 p1 p2 p3 hwb k0 k1 K0 K1
  by_cases he2 : e2 = 0
  case neg =>
    have hb2 : (e2 == 0) = false := beq_eq_false_iff_ne.2 he2
    have hb3 : (e2 != 0) = true := by simp [he2]
    have HH2 : Aside0 (some (s, false, (2 : Int)) = some (s', d, r2)) := ⟨by have q := HH.out; unfold stepX at q; rwa [if_neg he2] at q⟩
    obtain ⟨rfl, q⟩ := Prod.mk.inj (Option.some.inj HH2.out)
    obtain ⟨rfl, rfl⟩ := Prod.mk.inj q
    clear HH HH2 q
    have kk := K1'.out
    go_upto_region 999 with ((with_reducible refine gate_dst (N := 31) rfl ?_); refine wpList_load_row rfl 39 (.tmp 3) rfl (G + 1) rfl 39 (cellsS s vO vU) (0, 0) _ kk Tryd.underlying39 rfl (by kernel_rfl) ?_)
    refine (own_calls s vO vU bO bU okO okU W1 HS.out HU.out hsm).mono ?_
    rintro e wq ⟨vO', vU', rfl, hV, hBo⟩
    have kz := (hBo.block (G + 1 + 1) (by omega)).trans K2.out
    have hone := cells_one hV
    have hdone := Lib.hid ((hV.setRow kz (cellsS s vO' vU')).lower (show w.heap.size ≤ W1.heap.size by omega))
    have hbel := Lib.hid (setRow_below (HB1.out.trans (hBo.mono (show w.heap.size ≤ W1.heap.size by omega))) (show w.heap.size ≤ G + 1 + 1 by omega) (cellsS s vO' vU'))
    have hnew := setRow_at kz (cellsS s vO' vU')
    clear hV hBo kk
    go_wp2_with (skip; refine wpList_store_row rfl 39 (.tmp 4) (.tmp 32) rfl (G + 1 + 1) (cellsS s vO' vU') rfl rfl 39 _ kz (by kernel_rfl) rfl hone ?_)
    (try simp only [Exit.inBlock, Exit.then])
    refine bodyPost_ret (results_cell_tmp2 rfl _ _ (G + 1 + 1) 39 _ (0, 0) _ rfl hnew Tryd.underlying39 rfl (by kernel_rfl)) rfl ?_
    exact ⟨_, _, rfl, hdone.out, hbel.out⟩
  subst he2
  have HH2 : Aside0 ((if s.pc < 0 then some (s, false, (2 : Int)) else if (l3.length : Int) < s.pc then some (s, false, (2 : Int)) else if s.pc = l3.length then some (s, true, (0 : Int)) else (doF (szF k l0 a1 a2 l3) s (rd_T55 l3 s.pc)).bind fun t => if t.2 = 0 then some (t.1, false, (0 : Int)) else some (s, false, t.2)) = some (s', d, r2)) := ⟨by have q := HH.out; unfold stepX at q; rwa [if_pos rfl] at q⟩
  clear HH
  by_cases hp0 : s.pc < 0
  case pos =>
    have hd0 : decide (s.pc < 0) = true := decide_eq_true hp0
    replace HH2 := Aside0.mk ((if_pos hp0).symm.trans HH2.out)
    obtain ⟨rfl, q⟩ := Prod.mk.inj (Option.some.inj HH2.out)
    obtain ⟨rfl, rfl⟩ := Prod.mk.inj q
    clear HH2 q hp0
    have kk := K1'.out
    go_upto_region 999 with ((with_reducible refine gate_dst (N := 31) rfl ?_); refine wpList_load_row rfl 39 (.tmp 3) rfl (G + 1) rfl 39 (cellsS s vO vU) (0, 0) _ kk Tryd.underlying39 rfl (by kernel_rfl) ?_)
    refine (own_calls s vO vU bO bU okO okU W1 HS.out HU.out hsm).mono ?_
    rintro e wq ⟨vO', vU', rfl, hV, hBo⟩
    have kz := (hBo.block (G + 1 + 1) (by omega)).trans K2.out
    have hone := cells_one hV
    have hdone := Lib.hid ((hV.setRow kz (cellsS s vO' vU')).lower (show w.heap.size ≤ W1.heap.size by omega))
    have hbel := Lib.hid (setRow_below (HB1.out.trans (hBo.mono (show w.heap.size ≤ W1.heap.size by omega))) (show w.heap.size ≤ G + 1 + 1 by omega) (cellsS s vO' vU'))
    have hnew := setRow_at kz (cellsS s vO' vU')
    clear hV hBo kk
    go_wp2_with (skip; refine wpList_store_row rfl 39 (.tmp 4) (.tmp 32) rfl (G + 1 + 1) (cellsS s vO' vU') rfl rfl 39 _ kz (by kernel_rfl) rfl hone ?_)
    (try simp only [Exit.inBlock, Exit.then])
    refine bodyPost_ret (results_cell_tmp2 rfl _ _ (G + 1 + 1) 39 _ (0, 0) _ rfl hnew Tryd.underlying39 rfl (by kernel_rfl)) rfl ?_
    exact ⟨_, _, rfl, hdone.out, hbel.out⟩
  case neg =>
  have hd0 : decide (s.pc < 0) = false := decide_eq_false hp0
  replace HH2 := Aside0.mk ((if_neg hp0).symm.trans HH2.out)
  by_cases hp1 : (l3.length : Int) < s.pc
  case pos =>
    have hd1 : decide ((l3.length : Int) < s.pc) = true := decide_eq_true hp1
    have hd1' : decide (s.pc > (l3.length : Int)) = true := decide_eq_true hp1
    replace HH2 := Aside0.mk ((if_pos hp1).symm.trans HH2.out)
    obtain ⟨rfl, q⟩ := Prod.mk.inj (Option.some.inj HH2.out)
    obtain ⟨rfl, rfl⟩ := Prod.mk.inj q
    clear HH2 q hp1 hp0
    have kk := K1'.out
    go_upto_region 999 with ((with_reducible refine gate_dst (N := 31) rfl ?_); refine wpList_load_row rfl 39 (.tmp 3) rfl (G + 1) rfl 39 (cellsS s vO vU) (0, 0) _ kk Tryd.underlying39 rfl (by kernel_rfl) ?_)
    refine (own_calls s vO vU bO bU okO okU W1 HS.out HU.out hsm).mono ?_
    rintro e wq ⟨vO', vU', rfl, hV, hBo⟩
    have kz := (hBo.block (G + 1 + 1) (by omega)).trans K2.out
    have hone := cells_one hV
    have hdone := Lib.hid ((hV.setRow kz (cellsS s vO' vU')).lower (show w.heap.size ≤ W1.heap.size by omega))
    have hbel := Lib.hid (setRow_below (HB1.out.trans (hBo.mono (show w.heap.size ≤ W1.heap.size by omega))) (show w.heap.size ≤ G + 1 + 1 by omega) (cellsS s vO' vU'))
    have hnew := setRow_at kz (cellsS s vO' vU')
    clear hV hBo kk
    go_wp2_with (skip; refine wpList_store_row rfl 39 (.tmp 4) (.tmp 32) rfl (G + 1 + 1) (cellsS s vO' vU') rfl rfl 39 _ kz (by kernel_rfl) rfl hone ?_)
    (try simp only [Exit.inBlock, Exit.then])
    refine bodyPost_ret (results_cell_tmp2 rfl _ _ (G + 1 + 1) 39 _ (0, 0) _ rfl hnew Tryd.underlying39 rfl (by kernel_rfl)) rfl ?_
    exact ⟨_, _, rfl, hdone.out, hbel.out⟩
  case neg =>
  have hd1 : decide ((l3.length : Int) < s.pc) = false := decide_eq_false hp1
  have hd1' : decide (s.pc > (l3.length : Int)) = false := decide_eq_false hp1
  replace HH2 := Aside0.mk ((if_neg hp1).symm.trans HH2.out)
  by_cases hp2 : s.pc = (l3.length : Int)
  case pos =>
    have hd2 : (s.pc == (l3.length : Int)) = true := beq_iff_eq.2 hp2
    have hd3 : decide (s.pc = (l3.length : Int)) = true := decide_eq_true hp2
    replace HH2 := Aside0.mk ((if_pos hp2).symm.trans HH2.out)
    obtain ⟨rfl, q⟩ := Prod.mk.inj (Option.some.inj HH2.out)
    obtain ⟨rfl, rfl⟩ := Prod.mk.inj q
    clear HH2 q hp1 hp0 hp2 hd3
    have kk := K1'.out
    go_upto_region 999 with ((with_reducible refine gate_dst (N := 39) rfl ?_); refine wpList_load_row rfl 39 (.tmp 3) rfl (G + 1) rfl 39 (cellsS s vO vU) (0, 0) _ kk Tryd.underlying39 rfl (by kernel_rfl) ?_)
    refine (own_calls s vO vU bO bU okO okU W1 HS.out HU.out hsm).mono ?_
    rintro e wq ⟨vO', vU', rfl, hV, hBo⟩
    have kz := (hBo.block (G + 1 + 1) (by omega)).trans K2.out
    have hone := cells_one hV
    have hdone := Lib.hid ((hV.setRow kz (cellsS s vO' vU')).lower (show w.heap.size ≤ W1.heap.size by omega))
    have hbel := Lib.hid (setRow_below (HB1.out.trans (hBo.mono (show w.heap.size ≤ W1.heap.size by omega))) (show w.heap.size ≤ G + 1 + 1 by omega) (cellsS s vO' vU'))
    have hnew := setRow_at kz (cellsS s vO' vU')
    clear hV hBo kk
    go_wp2_with (skip; refine wpList_store_row rfl 39 (.tmp 4) (.tmp 40) rfl (G + 1 + 1) (cellsS s vO' vU') rfl rfl 39 _ kz (by kernel_rfl) rfl hone ?_)
    (try simp only [Exit.inBlock, Exit.then])
    refine bodyPost_ret (results_cell_tmp2 rfl _ _ (G + 1 + 1) 39 _ (0, 0) _ rfl hnew Tryd.underlying39 rfl (by kernel_rfl)) rfl ?_
    exact ⟨_, _, rfl, hdone.out, hbel.out⟩
  case neg =>
  have hd2 : (s.pc == (l3.length : Int)) = false := beq_eq_false_iff_ne.2 hp2
  replace HH2 := Aside0.mk ((if_neg hp2).symm.trans HH2.out)
  obtain ⟨⟨s5, e5⟩, hD, hfin⟩ := Option.bind_eq_some_iff.1 HH2.out
  simp only at hfin
  have HD := Aside0.mk hD
  have HFIN := Aside0.mk hfin
  have hpos : 0 ≤ s.pc := by omega
  have hlt : s.pc < l3.length := by omega
  clear hD hfin HH2 hp0 hp1 hp2
  have kk := K1'.out
  go_upto_region 999 with ((with_reducible refine gate_dst (N := 41) rfl ?_); refine wpList_load_row rfl 39 (.tmp 3) rfl (G + 1) rfl 39 (cellsS s vO vU) (0, 0) _ kk Tryd.underlying39 rfl (by kernel_rfl) ?_)
  refine (own_calls s vO vU bO bU okO okU W1 HS.out HU.out hsm).mono ?_
  rintro e wq ⟨vO', vU', rfl, hV, hBo⟩
  have hcell : cellsS s vO' vU' = cellsS s vO' vU' := rfl
  obtain ⟨b, hb⟩ : ∃ b, wq.heap.size = b := ⟨_, rfl⟩
  obtain ⟨wz, hwz⟩ : ∃ wz, wq.alloc (.cells #[.int .i64 0, .int .i64 0, .int .i64 0, .int .i64 0, .int .i64 0, .int .i64 0, .int .i64 0, .int .i64 0, .int .i64 0, .int .i64 0, .int .i64 0, .int .i64 0, .int .i64 0, .int .i64 0, .int .i64 0, .int .i64 0, .int .i64 0, .int .i64 0, .int .i64 0, .int .i64 0, .slice none 0 0, .slice none 0 0, .int .i64 0, .int .i64 0] 39) = wz := ⟨_, rfl⟩
  have hzb : wz.heap[b]? = some (.cells #[.int .i64 0, .int .i64 0, .int .i64 0, .int .i64 0, .int .i64 0, .int .i64 0, .int .i64 0, .int .i64 0, .int .i64 0, .int .i64 0, .int .i64 0, .int .i64 0, .int .i64 0, .int .i64 0, .int .i64 0, .int .i64 0, .int .i64 0, .int .i64 0, .int .i64 0, .int .i64 0, .slice none 0 0, .slice none 0 0, .int .i64 0, .int .i64 0] 39 (0, 0)) := by rw [← hwz, ← hb]; exact heap_alloc_new wq _
  have hBz : Below W1.heap.size W1 wz := by rw [← hwz]; exact hBo.alloc hBo.size _
  have hVz : RowsV W1.heap.size s vO' vU' wz := by rw [← hwz]; exact ⟨Kd.S_alloc hV.objs _, Kd.R_step hV.out (fun k _ hk => Below.heap_alloc wq _ k hk)⟩
  have hlowb : W1.heap.size ≤ b := by rw [← hb]; exact hBo.size
  have hone := cells_one hV
  have HV := Aside0.mk ((hVz.setRow hzb (cellsS s vO' vU')).rows (setRow_at hzb (cellsS s vO' vU')))
  have HST := Aside0.mk (show StR b s vO' vU' (wz.setRow b (cellsS s vO' vU')) from ⟨setRow_at hzb _⟩)
  have HB := Aside0.mk (setRow_below hBz hlowb (cellsS s vO' vU'))
  clear hV hBo hVz hBz kk hcell
  obtain ⟨ad, hA, d0, d1, d2, d3, d4⟩ := at_T55 (Kd.C_below HR3.out HB.out) s.pc hpos hlt
  subst hA
  have j0 : (0 ≤ s.pc) = True := eq_true hpos
  have j1 : (s.pc < (l3.length : Int)) = True := eq_true hlt
  have Q0 := Lib.hid q0
  have Q1 := Lib.hid q1
  have Q2 := Lib.hid q2
  have Q3 := Lib.hid q3
  have QC := Lib.hid qc
  have HLT := Lib.hid hlt
  clear q0 q1 q2 q3 qc hpos hlt
  go_wp2_with (skip; refine wpList_store_row rfl 39 (.tmp 9) (.tmp 42) rfl b (cellsS s vO' vU') rfl rfl 39 _ hzb (by kernel_rfl) rfl hone ?_)
  clear hzb hone hwz
  generalize wz.setRow b (cellsS s vO' vU') = wr at HV HST HB d0 d1 d2 d3 d4 ⊢
  have p0 : wr.cell? ⟨G, 0, none⟩ = some (.slice A0 l0.length c0) := (HB.out.cell (p := ⟨G, 0, none⟩) (by show G < _; omega)).trans Q0.out
  have p1 : wr.cell? ⟨G, 1, none⟩ = some (.string a1) := (HB.out.cell (p := ⟨G, 1, none⟩) (by show G < _; omega)).trans Q1.out
  have p2 : wr.cell? ⟨G, 2, none⟩ = some (.string a2) := (HB.out.cell (p := ⟨G, 2, none⟩) (by show G < _; omega)).trans Q2.out
  have p3 : wr.cell? ⟨G, 3, none⟩ = some (.slice (some ad) l3.length c3) := (HB.out.cell (p := ⟨G, 3, none⟩) (by show G < _; omega)).trans Q3.out
  have cpc : wr.cell? ⟨G + 1, 22, none⟩ = some (.int .i64 s.pc) := (HB.out.cell (p := ⟨G + 1, 22, none⟩) (by show G + 1 < _; omega)).trans QC.out
  have HM := Aside0.mk (show OwnM W1.heap.size b s wr from ⟨hlowb, _, _, HST.out, HV.out⟩)
  clear HV HST
  refine wp_region_noPanic ?_
  refine start_ (n := 9) (S := fun w' => w'.cell? ⟨G, 0, none⟩ = some (.slice A0 l0.length c0) ∧ w'.cell? ⟨G, 1, none⟩ = some (.string a1) ∧ w'.cell? ⟨G, 2, none⟩ = some (.string a2) ∧ w'.cell? ⟨G, 3, none⟩ = some (.slice (some ad) l3.length c3) ∧ w'.cell? ⟨G + 1, 22, none⟩ = some (.int .i64 s.pc) ∧ w'.cell? (ad.add (s.pc.toNat * 5)) = some (.int .u8 (rd_T55 l3 s.pc).f0) ∧ w'.cell? ⟨(ad.add (s.pc.toNat * 5)).block, (ad.add (s.pc.toNat * 5)).off + 1, none⟩ = some (.int .u8 (rd_T55 l3 s.pc).f1) ∧ w'.cell? ⟨(ad.add (s.pc.toNat * 5)).block, (ad.add (s.pc.toNat * 5)).off + 2, none⟩ = some (.int .u8 (rd_T55 l3 s.pc).f2) ∧ w'.cell? ⟨(ad.add (s.pc.toNat * 5)).block, (ad.add (s.pc.toNat * 5)).off + 3, none⟩ = some (.int .u8 (rd_T55 l3 s.pc).f3) ∧ w'.cell? ⟨(ad.add (s.pc.toNat * 5)).block, (ad.add (s.pc.toNat * 5)).off + 4, none⟩ = some (.int .i64 (rd_T55 l3 s.pc).f4)) (ds := [7, 8]) #[false, false, false, false, false, false, false, false, false] (by kernel_rfl) rfl rfl ⟨p0, p1, p2, p3, cpc, d0, d1, d2, d3, d4⟩ (fun hHeld => ?_)
  clear p0 p1 p2 p3 cpc d0 d1 d2 d3 d4
  have HM2 := Aside0.mk (HM.out.drew)
  have HB2 := Aside0.mk (show Below W1.heap.size W1 wr.drew from HB.out.drew)
  clear HM HB
  generalize wr.drew = wy at HM2 HB2 hHeld ⊢
  refine take_ (i := 0) (N := some 43) (v := ?_) (a' := ?_) #[true, false, false, false, false, false, false, false, false] rfl rfl (by kernel_rfl) (fun _ _ _ h => h) (Or.inl ⟨by rfl, ?_⟩) hHeld ?_ ?_
  rotate_left
  · rintro w' ⟨p0_, p1_, p2_, p3_, cpc_, d0_, d1_, d2_, d3_, d4_⟩
    go_simp
    with_reducible rfl
  rotate_left
  · simp only [Act.put, List.setIfInBounds_toArray, List.set_cons_zero, List.set_cons_succ, i64_w, i32_w]
    rfl
  refine pure_ (i := 1) (N := some 44) (v := ?_) (a' := ?_) #[true, true, false, false, false, false, false, false, false] rfl rfl (by kernel_rfl) (fun _ _ _ h => h) (Or.inl ⟨by rfl, ?_⟩) ?_ ?_
  rotate_left
  · intro w'
    go_simp
    with_reducible rfl
  rotate_left
  · simp only [Act.put, List.setIfInBounds_toArray, List.set_cons_zero, List.set_cons_succ, i64_w, i32_w]
    rfl
  refine take_ (i := 2) (N := some 45) (v := ?_) (a' := ?_) #[true, true, true, false, false, false, false, false, false] rfl rfl (by kernel_rfl) (fun _ _ _ h => h) (Or.inl ⟨by rfl, ?_⟩) hHeld ?_ ?_
  rotate_left
  · rintro w' ⟨p0_, p1_, p2_, p3_, cpc_, d0_, d1_, d2_, d3_, d4_⟩
    go_simp
    with_reducible rfl
  rotate_left
  · simp only [Act.put, List.setIfInBounds_toArray, List.set_cons_zero, List.set_cons_succ, i64_w, i32_w]
    rfl
  refine pure_ (i := 3) (N := some 46) (v := ?_) (a' := ?_) #[true, true, true, true, false, false, false, false, false] rfl rfl (by kernel_rfl) (fun _ _ _ h => h) (Or.inl ⟨by rfl, ?_⟩) ?_ ?_
  rotate_left
  · intro w'
    go_simp
    with_reducible rfl
  rotate_left
  · simp only [Act.put, List.setIfInBounds_toArray, List.set_cons_zero, List.set_cons_succ, i64_w, i32_w]
    rfl
  refine take_ (i := 4) (N := some 47) (v := ?_) (a' := ?_) #[true, true, true, true, true, false, false, false, false] rfl rfl (by kernel_rfl) (fun _ _ _ h => h) (Or.inl ⟨by rfl, ?_⟩) hHeld ?_ ?_
  rotate_left
  · rintro w' ⟨p0_, p1_, p2_, p3_, cpc_, d0_, d1_, d2_, d3_, d4_⟩
    go_simp
    with_reducible rfl
  rotate_left
  · simp only [Act.put, List.setIfInBounds_toArray, List.set_cons_zero, List.set_cons_succ, i64_w, i32_w]
    rfl
  refine pure_ (i := 5) (N := some 48) (v := ?_) (a' := ?_) #[true, true, true, true, true, true, false, false, false] rfl rfl (by kernel_rfl) (fun _ _ _ h => h) (Or.inl ⟨by rfl, ?_⟩) ?_ ?_
  rotate_left
  · intro w'
    go_simp
    with_reducible rfl
  rotate_left
  · simp only [Act.put, List.setIfInBounds_toArray, List.set_cons_zero, List.set_cons_succ, i64_w, i32_w]
    rfl
  refine take_ (i := 6) (N := some 49) (v := ?_) (a' := ?_) #[true, true, true, true, true, true, true, false, false] rfl rfl (by kernel_rfl) (fun _ _ _ h => h) (Or.inl ⟨by rfl, ?_⟩) hHeld ?_ ?_
  rotate_left
  · rintro w' ⟨p0_, p1_, p2_, p3_, cpc_, d0_, d1_, d2_, d3_, d4_⟩
    go_simp
    with_reducible rfl
  rotate_left
  · simp only [Act.put, List.setIfInBounds_toArray, List.set_cons_zero, List.set_cons_succ, i64_w, i32_w]
    rfl
  refine last_ (i := 7) (N := some 50) #[true, true, true, true, true, true, true, true, false] rfl rfl (by kernel_rfl) (by decide) (fun K hK => ?_)
  refine goes_ Tryd.func22 (by kernel_rfl) rfl #[.pointer (some ⟨b, 0, none⟩), .agg #[.slice A0 l0.length c0, .string a1, .string a2, .slice (some ad) l3.length c3], .agg #[.int .u8 (rd_T55 l3 s.pc).f0, .int .u8 (rd_T55 l3 s.pc).f1, .int .u8 (rd_T55 l3 s.pc).f2, .int .u8 (rd_T55 l3 s.pc).f3, .int .i64 (rd_T55 l3 s.pc).f4]] (by rfl) rfl rfl (by (try simp only [List.map_toArray, List.map_cons, List.map_nil]); rfl) ?_
  refine (do_all HB2.out HR0.out hc0 HR3.out hc3 HM2.out (rd_T55 l3 s.pc) HD.out).mono ?_
  rintro e w5 ⟨rfl, hm5, hb5⟩
  have HM5 := Aside0.mk hm5
  have HB5 := Aside0.mk (HB2.out.trans hb5)
  clear HM2 HB2 hm5 hb5 hHeld
  refine ⟨_, rfl, ?_⟩
  refine hK.out _ _ ?_
  clear hK K
  refine norm_ (a' := ?_) ?_ ?_
  rotate_left
  · show Act.put _ (some 50) _ = _
    simp only [Act.put, List.setIfInBounds_toArray, List.set_cons_zero, List.set_cons_succ, i64_w, i32_w]
    rfl
  refine last_ (i := 8) (N := some 10) #[true, true, true, true, true, true, true, true, true] rfl rfl (by kernel_rfl) (by decide) (fun K hK => ?_)
  refine value_ (w1 := w5) (v := .int .i64 e5) (by rfl) rfl (by go_simp) ?_
  refine hK.out _ _ ?_
  clear hK K
  refine norm_ (a' := ?_) ?_ ?_
  rotate_left
  · show Act.put _ (some 10) _ = _
    simp only [Act.put, List.setIfInBounds_toArray, List.set_cons_zero, List.set_cons_succ, i64_w, i32_w]
    rfl
  refine done_ (by kernel_rfl) ?_
  refine NoPanic.normal ?_
  obtain ⟨hlow5, vO5, vU5, hst5, hRows5⟩ := HM5.out
  have HFI := HFIN.out
  by_cases he5 : e5 = 0
  case pos =>
    replace HFI := (if_pos he5).symm.trans HFI
    subst he5
    obtain ⟨rfl, q⟩ := Prod.mk.inj (Option.some.inj HFI)
    obtain ⟨rfl, rfl⟩ := Prod.mk.inj q
    have kk := hst5.blk
    have kz := (HB5.out.block (G + 1 + 1) (by omega)).trans K2.out
    have hV := hRows5.v
    have hone := cells_one hV
    have hdone := Lib.hid ((hV.setRow kz (cellsS s5 vO5 vU5)).lower (show w.heap.size ≤ W1.heap.size by omega))
    have hbel := Lib.hid (setRow_below (HB1.out.trans (HB5.out.mono (show w.heap.size ≤ W1.heap.size by omega))) (show w.heap.size ≤ G + 1 + 1 by omega) (cellsS s5 vO5 vU5))
    have hnew := setRow_at kz (cellsS s5 vO5 vU5)
    clear hV hst5 hRows5 HFI q
    go_wp2_with (first | ((with_reducible refine gate_dst (N := 56) rfl ?_); refine wpList_load_row rfl 39 (.tmp 9) rfl b rfl 39 (cellsS s5 vO5 vU5) (0, 0) _ kk Tryd.underlying39 rfl (by kernel_rfl) ?_) | (skip; refine wpList_store_row rfl 39 (.tmp 4) (.tmp 56) rfl (G + 1 + 1) (cellsS s5 vO5 vU5) rfl rfl 39 _ kz (by kernel_rfl) rfl hone ?_))
    (try simp only [Exit.inBlock, Exit.then])
    refine bodyPost_ret (results_cell_tmp2 rfl _ _ (G + 1 + 1) 39 _ (0, 0) _ rfl hnew Tryd.underlying39 rfl (by kernel_rfl)) rfl ?_
    have q1 := hdone.out
    have q2 := hbel.out
    rw [hG] at q1 q2
    exact ⟨_, _, rfl, q1, q2⟩
  case neg =>
    have hb2 : (e5 == 0) = false := beq_eq_false_iff_ne.2 he5
    have hb3 : (e5 != 0) = true := by simp [he5]
    replace HFI := (if_neg he5).symm.trans HFI
    obtain ⟨rfl, q⟩ := Prod.mk.inj (Option.some.inj HFI)
    obtain ⟨rfl, rfl⟩ := Prod.mk.inj q
    clear HFI q hst5 hRows5
    replace HS := Aside0.mk (Kd.S_below HS.out HB5.out)
    replace HU := Aside0.mk (Kd.R_below HU.out HB5.out)
    replace K1' := Aside0.mk ((HB5.out.block (G + 1) (by omega)).trans K1'.out)
    replace K2 := Aside0.mk ((HB5.out.block (G + 2) (by omega)).trans K2.out)
    replace HB1 := Aside0.mk (HB1.out.trans (HB5.out.mono (show w.heap.size ≤ W1.heap.size by omega)))
    have hs5 : G + 3 ≤ w5.heap.size := by have := HB5.out.size; omega
    have kk := K1'.out
    go_upto_region 999 with ((with_reducible refine gate_dst (N := 53) rfl ?_); refine wpList_load_row rfl 39 (.tmp 3) rfl (G + 1) rfl 39 (cellsS s vO vU) (0, 0) _ kk Tryd.underlying39 rfl (by kernel_rfl) ?_)
    refine (own_calls s vO vU bO bU okO okU w5 HS.out HU.out hsm).mono ?_
    rintro e wq ⟨vO', vU', rfl, hV, hBo⟩
    have kz := (hBo.block (G + 1 + 1) (by omega)).trans K2.out
    have hone := cells_one hV
    have hdone := Lib.hid ((hV.setRow kz (cellsS s vO' vU')).lower (show w.heap.size ≤ w5.heap.size by omega))
    have hbel := Lib.hid (setRow_below (HB1.out.trans (hBo.mono (show w.heap.size ≤ w5.heap.size by omega))) (show w.heap.size ≤ G + 1 + 1 by omega) (cellsS s vO' vU'))
    have hnew := setRow_at kz (cellsS s vO' vU')
    clear hV hBo kk
    go_wp2_with (skip; refine wpList_store_row rfl 39 (.tmp 4) (.tmp 54) rfl (G + 1 + 1) (cellsS s vO' vU') rfl rfl 39 _ kz (by kernel_rfl) rfl hone ?_)
    (try simp only [Exit.inBlock, Exit.then])
    refine bodyPost_ret (results_cell_tmp2 rfl _ _ (G + 1 + 1) 39 _ (0, 0) _ rfl hnew Tryd.underlying39 rfl (by kernel_rfl)) rfl ?_
    exact ⟨_, _, rfl, hdone.out, hbel.out⟩
end Go.Proofs.YtlemecdddhdagaaDoor.P
