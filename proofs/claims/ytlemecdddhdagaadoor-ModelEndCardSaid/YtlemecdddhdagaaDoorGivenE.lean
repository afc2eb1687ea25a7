/-
  Equality of rows of numbers in a state; the document's Same, of one state in two places.
-/
import Derived.Test.YtlemecdddhdagaaDoorGivenQ
import Derived.Test.YtlemecdddhdagaaDoorPx5
import Derived.ChangeKeysEq
namespace Go.Proofs.YtlemecdddhdagaaDoor.P
open Go.RowKit Go.Proofs.YtlemecdddhdagaaDoorW.PrintWords Go.Proofs.YtlemecdddhdagaaDoorW.PrintLast Go.Proofs.YtlemecdddhdagaaDoorW.PrintMore
set_option linter.unusedVariables false
set_option linter.unusedSimpArgs false
attribute [local go_sem ↓] Go.wp_at_zero Go.wp_at_succ

theorem items_same (w : World) (d : Nat) (e : TypeId) (xs : Array Value) (he : Tryd.prog.underlying e = some (.int .i64)) (hsz : Tryd.prog.cellsOf e = 1) (hp : Tryd.prog.plainKey e = true) : ∀ is : List Nat, (∀ j ∈ is, ∃ n, xs[j]? = some (.int .i64 n)) → (Op.eqItems (d + 1) e (Tryd.prog.cellsOf e) xs xs is).run Tryd.prog w = .ok true w := by
  intro is
  induction is with
  | nil => intro _; simp [Op.eqItems]
  | cons j is ih =>
    intro h
    obtain ⟨n, hn⟩ := h j (by simp)
    have hq : (part e xs (j * Tryd.prog.cellsOf e)).run Tryd.prog w = .ok (.int .i64 n) w := run_part_plain w hp (by rw [hsz, Nat.mul_one]; exact hn)
    have he1 : (Op.equalIn (d + 1) e (.int .i64 n) (.int .i64 n)).run Tryd.prog w = .ok true w := by
      simp [Op.equalIn, run_underlying he]
    simp only [Op.eqItems, Sem.run_bind, hq, he1, Result.andThen_ok]
    simpa using ih (fun j hj => h j (by simp [hj]))
theorem row_same (t : TypeId) (n : Nat) (e : TypeId) (i : TypeInfo) (hu : Tryd.prog.underlying t = some (.array n e)) (hi : Tryd.prog.info? e = some i) (he : Tryd.prog.underlying e = some (.int .i64)) (hsz : Tryd.prog.cellsOf e = 1) (hp : Tryd.prog.plainKey e = true) (xs : Array Value) (h : ∀ j, j < n → ∃ m, xs[j]? = some (.int .i64 m)) (w : World) :
    (binOp .neq t (.agg xs) (.agg xs)).run Tryd.prog w = .ok (.bool false) w := by
  rw [run_neq_struct, run_equalIn_array w 9999 xs xs hu hi, items_same w 9998 e xs he hsz hp _ (fun j hj => h j (List.mem_range.1 hj))]
  rfl
theorem nums_ev (l : List Int) (hl : l.length ≤ 1000000) : ∃ k, lockstitchref06_Nums.f k l l = some true := by
  have loop : ∀ d i : Nat, i + d = l.length → lockstitchref06_Nums.l0 (d + 1) l l i = some true := fun d => by
    induction d with
    | zero =>
      intro i hi
      simp only [lockstitchref06_Nums.l0]
      rw [if_neg (by omega)]
    | succ d ih =>
      intro i hi
      rw [lockstitchref06_Nums.l0, if_pos (by omega), if_pos (by omega), if_pos (by omega), if_pos rfl, show wrap64 ((i : Int) + 1) = ((i + 1 : Nat) : Int) by unfold wrap64; omega]
      exact ih (i + 1) (by omega)
  exact ⟨l.length + 1, by unfold lockstitchref06_Nums.f; rw [if_pos rfl]; exact loop l.length 0 (by omega)⟩
set_option maxRecDepth 100000 in
set_option maxHeartbeats 6400000 in
theorem same_calls (s : St) (AO AU AP AV : Option Addr) (cO cU cP cV : Nat) (w : World) (hO : Kd.C kRow w AO s.objs.length s.objs) (hU : Kd.C (Kd.int .i64) w AU s.out.length s.out) (hcU : s.out.length ≤ cU) (hP : Kd.C kRow w AP s.objs.length s.objs) (hV : Kd.C (Kd.int .i64) w AV s.out.length s.out) (hcV : s.out.length ≤ cV) (hsm : Small s) :
    Calls Tryd.prog 15 #[.agg (cellsS s (.slice AO s.objs.length cO) (.slice AU s.out.length cU)), .agg (cellsS s (.slice AP s.objs.length cP) (.slice AV s.out.length cV))] w fun e w' => e = .returned (.bool true) ∧ Below w.heap.size w w' := by
  obtain ⟨kn, hkn⟩ := nums_ev s.out hsm.out
  obtain ⟨G, hG⟩ : ∃ G, w.heap.size = G := ⟨_, rfl⟩
  obtain ⟨wb, hwb⟩ : ∃ wb, (w.alloc (.cells (cellsS s (.slice AO s.objs.length cO) (.slice AU s.out.length cU)) 44)).alloc (.cells (cellsS s (.slice AP s.objs.length cP) (.slice AV s.out.length cV)) 44) = wb := ⟨_, rfl⟩
  have hB : Below w.heap.size w wb := by rw [← hwb]; exact ((Below.refl _ w).alloc (Nat.le_refl _) _).alloc (by simp) _
  have hb0 : wb.heap[G]? = some (.cells (cellsS s (.slice AO s.objs.length cO) (.slice AU s.out.length cU)) 44 (0, 0)) := by
    rw [← hwb, ← hG, Below.heap_alloc _ _ _ (by simp)]
    exact heap_alloc_new w _
  have hb1 : wb.heap[G + 1]? = some (.cells (cellsS s (.slice AP s.objs.length cP) (.slice AV s.out.length cV)) 44 (0, 0)) := by
    have := heap_alloc_new (w.alloc (.cells (cellsS s (.slice AO s.objs.length cO) (.slice AU s.out.length cU)) 44)) (.cells (cellsS s (.slice AP s.objs.length cP) (.slice AV s.out.length cV)) 44)
    rw [← hwb, ← hG]
    simpa using this
  have a0 : wb.cell? ⟨G, 0, none⟩ = some (.int .i64 (s.x 0)) := by simp [World.cell?, hb0, cellsS]
  have a1 : wb.cell? ⟨G, 1, none⟩ = some (.int .i64 (s.x 1)) := by simp [World.cell?, hb0, cellsS]
  have a2 : wb.cell? ⟨G, 2, none⟩ = some (.int .i64 (s.x 2)) := by simp [World.cell?, hb0, cellsS]
  have a3 : wb.cell? ⟨G, 3, none⟩ = some (.int .i64 (s.x 3)) := by simp [World.cell?, hb0, cellsS]
  have a4 : wb.cell? ⟨G, 4, none⟩ = some (.int .i64 (s.x 4)) := by simp [World.cell?, hb0, cellsS]
  have a5 : wb.cell? ⟨G, 5, none⟩ = some (.int .i64 (s.x 5)) := by simp [World.cell?, hb0, cellsS]
  have a6 : wb.cell? ⟨G, 6, none⟩ = some (.int .i64 (s.x 6)) := by simp [World.cell?, hb0, cellsS]
  have a7 : wb.cell? ⟨G, 7, none⟩ = some (.int .i64 (s.x 7)) := by simp [World.cell?, hb0, cellsS]
  have a8 : wb.cell? ⟨G, 8, none⟩ = some (.int .i64 (s.p 0)) := by simp [World.cell?, hb0, cellsS]
  have a9 : wb.cell? ⟨G, 9, none⟩ = some (.int .i64 (s.p 1)) := by simp [World.cell?, hb0, cellsS]
  have a10 : wb.cell? ⟨G, 10, none⟩ = some (.int .i64 (s.p 2)) := by simp [World.cell?, hb0, cellsS]
  have a11 : wb.cell? ⟨G, 11, none⟩ = some (.int .i64 (s.p 3)) := by simp [World.cell?, hb0, cellsS]
  have a12 : wb.cell? ⟨G, 12, none⟩ = some (.int .i64 (s.p 4)) := by simp [World.cell?, hb0, cellsS]
  have a13 : wb.cell? ⟨G, 13, none⟩ = some (.int .i64 (s.p 5)) := by simp [World.cell?, hb0, cellsS]
  have a14 : wb.cell? ⟨G, 14, none⟩ = some (.int .i64 (s.p 6)) := by simp [World.cell?, hb0, cellsS]
  have a15 : wb.cell? ⟨G, 15, none⟩ = some (.int .i64 (s.p 7)) := by simp [World.cell?, hb0, cellsS]
  have a16 : wb.cell? ⟨G, 16, none⟩ = some (.int .i64 (s.g 0)) := by simp [World.cell?, hb0, cellsS]
  have a17 : wb.cell? ⟨G, 17, none⟩ = some (.int .i64 (s.g 1)) := by simp [World.cell?, hb0, cellsS]
  have a18 : wb.cell? ⟨G, 18, none⟩ = some (.int .i64 (s.g 2)) := by simp [World.cell?, hb0, cellsS]
  have a19 : wb.cell? ⟨G, 19, none⟩ = some (.int .i64 (s.g 3)) := by simp [World.cell?, hb0, cellsS]
  have a20 : wb.cell? ⟨G, 20, none⟩ = some (.slice AO s.objs.length cO) := by simp [World.cell?, hb0, cellsS]
  have a21 : wb.cell? ⟨G, 21, none⟩ = some (.slice AU s.out.length cU) := by simp [World.cell?, hb0, cellsS]
  have a22 : wb.cell? ⟨G, 22, none⟩ = some (.int .i64 s.pc) := by simp [World.cell?, hb0, cellsS]
  have a23 : wb.cell? ⟨G, 23, none⟩ = some (.int .i64 s.steps) := by simp [World.cell?, hb0, cellsS]
  have b0 : wb.cell? ⟨G + 1, 0, none⟩ = some (.int .i64 (s.x 0)) := by simp [World.cell?, hb1, cellsS]
  have b1 : wb.cell? ⟨G + 1, 1, none⟩ = some (.int .i64 (s.x 1)) := by simp [World.cell?, hb1, cellsS]
  have b2 : wb.cell? ⟨G + 1, 2, none⟩ = some (.int .i64 (s.x 2)) := by simp [World.cell?, hb1, cellsS]
  have b3 : wb.cell? ⟨G + 1, 3, none⟩ = some (.int .i64 (s.x 3)) := by simp [World.cell?, hb1, cellsS]
  have b4 : wb.cell? ⟨G + 1, 4, none⟩ = some (.int .i64 (s.x 4)) := by simp [World.cell?, hb1, cellsS]
  have b5 : wb.cell? ⟨G + 1, 5, none⟩ = some (.int .i64 (s.x 5)) := by simp [World.cell?, hb1, cellsS]
  have b6 : wb.cell? ⟨G + 1, 6, none⟩ = some (.int .i64 (s.x 6)) := by simp [World.cell?, hb1, cellsS]
  have b7 : wb.cell? ⟨G + 1, 7, none⟩ = some (.int .i64 (s.x 7)) := by simp [World.cell?, hb1, cellsS]
  have b8 : wb.cell? ⟨G + 1, 8, none⟩ = some (.int .i64 (s.p 0)) := by simp [World.cell?, hb1, cellsS]
  have b9 : wb.cell? ⟨G + 1, 9, none⟩ = some (.int .i64 (s.p 1)) := by simp [World.cell?, hb1, cellsS]
  have b10 : wb.cell? ⟨G + 1, 10, none⟩ = some (.int .i64 (s.p 2)) := by simp [World.cell?, hb1, cellsS]
  have b11 : wb.cell? ⟨G + 1, 11, none⟩ = some (.int .i64 (s.p 3)) := by simp [World.cell?, hb1, cellsS]
  have b12 : wb.cell? ⟨G + 1, 12, none⟩ = some (.int .i64 (s.p 4)) := by simp [World.cell?, hb1, cellsS]
  have b13 : wb.cell? ⟨G + 1, 13, none⟩ = some (.int .i64 (s.p 5)) := by simp [World.cell?, hb1, cellsS]
  have b14 : wb.cell? ⟨G + 1, 14, none⟩ = some (.int .i64 (s.p 6)) := by simp [World.cell?, hb1, cellsS]
  have b15 : wb.cell? ⟨G + 1, 15, none⟩ = some (.int .i64 (s.p 7)) := by simp [World.cell?, hb1, cellsS]
  have b16 : wb.cell? ⟨G + 1, 16, none⟩ = some (.int .i64 (s.g 0)) := by simp [World.cell?, hb1, cellsS]
  have b17 : wb.cell? ⟨G + 1, 17, none⟩ = some (.int .i64 (s.g 1)) := by simp [World.cell?, hb1, cellsS]
  have b18 : wb.cell? ⟨G + 1, 18, none⟩ = some (.int .i64 (s.g 2)) := by simp [World.cell?, hb1, cellsS]
  have b19 : wb.cell? ⟨G + 1, 19, none⟩ = some (.int .i64 (s.g 3)) := by simp [World.cell?, hb1, cellsS]
  have b20 : wb.cell? ⟨G + 1, 20, none⟩ = some (.slice AP s.objs.length cP) := by simp [World.cell?, hb1, cellsS]
  have b21 : wb.cell? ⟨G + 1, 21, none⟩ = some (.slice AV s.out.length cV) := by simp [World.cell?, hb1, cellsS]
  have b22 : wb.cell? ⟨G + 1, 22, none⟩ = some (.int .i64 s.pc) := by simp [World.cell?, hb1, cellsS]
  have b23 : wb.cell? ⟨G + 1, 23, none⟩ = some (.int .i64 s.steps) := by simp [World.cell?, hb1, cellsS]
  have HO := Aside0.mk (Kd.C_below hO hB)
  have HU := Aside0.mk (Kd.C_below hU hB)
  have HP := Aside0.mk (Kd.C_below hP hB)
  have HV := Aside0.mk (Kd.C_below hV hB)
  have HB := Aside0.mk hB
  have HKN := Aside0.mk hkn
  clear hO hU hP hV hB hb0 hb1 hkn
  have q34 := row_same 34 8 2 _ Tryd.underlying34 rfl Tryd.underlying2 (by kernel_rfl) (by kernel_rfl) #[.int .i64 (s.x 0), .int .i64 (s.x 1), .int .i64 (s.x 2), .int .i64 (s.x 3), .int .i64 (s.x 4), .int .i64 (s.x 5), .int .i64 (s.x 6), .int .i64 (s.x 7)] (fun j hj => by match j, hj with | 0, _ | 1, _ | 2, _ | 3, _ | 4, _ | 5, _ | 6, _ | 7, _ => exact ⟨_, rfl⟩)
  have q35 := row_same 35 8 3 _ Tryd.underlying35 rfl Tryd.underlying3 (by kernel_rfl) (by kernel_rfl) #[.int .i64 (s.p 0), .int .i64 (s.p 1), .int .i64 (s.p 2), .int .i64 (s.p 3), .int .i64 (s.p 4), .int .i64 (s.p 5), .int .i64 (s.p 6), .int .i64 (s.p 7)] (fun j hj => by match j, hj with | 0, _ | 1, _ | 2, _ | 3, _ | 4, _ | 5, _ | 6, _ | 7, _ => exact ⟨_, rfl⟩)
  have q36 := row_same 36 4 3 _ Tryd.underlying36 rfl Tryd.underlying3 (by kernel_rfl) (by kernel_rfl) #[.int .i64 (s.g 0), .int .i64 (s.g 1), .int .i64 (s.g 2), .int .i64 (s.g 3)] (fun j hj => by match j, hj with | 0, _ | 1, _ | 2, _ | 3, _ => exact ⟨_, rfl⟩)
  have g34 : Tryd.prog.eqGuardType Tryd.prog.depth 34 = false := by kernel_rfl
  have g35 : Tryd.prog.eqGuardType Tryd.prog.depth 35 = false := by kernel_rfl
  have g36 : Tryd.prog.eqGuardType Tryd.prog.depth 36 = false := by kernel_rfl
  go_enter Tryd.func15, Tryd.ntmps15
  go_upto_region 999 with (fail)
  refine (lockstitchref06_Nums.calls kn AU cU s.out AV cV s.out true wb HU.out hcU HV.out hcV HKN.out).mono ?_
  rintro e w1 ⟨rfl, hd⟩
  obtain ⟨nw, rfl⟩ := hd.out
  clear hd HU HV HKN hwb q34 q35 q36 g34 g35 g36 a0 a1 a2 a3 a4 a5 a6 a7 a8 a9 a10 a11 a12 a13 a14 a15 a16 a17 a18 a19 a21 a22 a23 b0 b1 b2 b3 b4 b5 b6 b7 b8 b9 b10 b11 b12 b13 b14 b15 b16 b17 b18 b19 b21 b22 b23
  go_upto_region 4 with (fail)
  go_loopg [5] s.objs.length (fun kq iv wr => ∃ (i nq : Nat), kq + i = s.objs.length ∧ iv = .int .i64 i ∧ wr = wb.drewN nq)
  case atStart => exact ⟨0, nw, Nat.add_zero _, rfl, rfl⟩
  case round =>
  obtain ⟨i, n0, hki, rfl, rfl⟩ := hrel
  cases gk with
  | zero =>
    obtain rfl : i = s.objs.length := by omega
    have hlt : decide ((s.objs.length : Int) < (s.objs.length : Int)) = false := decide_eq_false (by omega)
    go_wp2
    go_ret
    exact ⟨rfl, by have q := HB.out.trans ((show Drawn0 wb (wb.drewN n0) from ⟨⟨n0, rfl⟩⟩).below.mono HB.out.size); first | exact q | (rw [hG] at q; exact q)⟩
  | succ gk =>
    have hi : i < s.objs.length := by omega
    have hlt : decide ((i : Int) < (s.objs.length : Int)) = true := decide_eq_true (by omega)
    obtain ⟨ad, A1, c1, e0, hx, hl1, hi1⟩ := at_L8 HO.out (i : Int) (by omega) (by omega)
    obtain ⟨ad', A2, c2, e0', hx', hl2, hi2⟩ := at_L8 HP.out (i : Int) (by omega) (by omega)
    subst e0
    subst e0'
    obtain ⟨row, hrow⟩ : ∃ row, rd_L8 s.objs (i : Int) = row := ⟨_, rfl⟩
    rw [hrow] at hx hl1 hi1 hx' hl2 hi2
    rw [Int.toNat_natCast] at hx hx'
    obtain ⟨kr, hkr⟩ := nums_ev row (by
      rw [← hrow]
      show (s.objs.getD (i : Int).toNat []).length ≤ _
      rw [Int.toNat_natCast, List.getD_eq_getElem?_getD, List.getElem?_eq_getElem hi]
      exact hsm.each i hi)
    have HI1 := Aside0.mk (Kd.C_drewN hi1 n0)
    have HI2 := Aside0.mk (Kd.C_drewN hi2 n0)
    have HKR := Aside0.mk hkr
    have HL1 := Lib.hid hl1
    have HL2 := Lib.hid hl2
    have j0 : (0 ≤ (i : Int)) = True := eq_true (by omega)
    have j1 : ((i : Int) < (s.objs.length : Int)) = True := eq_true (by omega)
    have e2 := Lib.hid (show wrap64 ((i : Int) + 1) = ((i + 1 : Nat) : Int) from wrap_up (by have := hsm.objs; omega))
    obtain ⟨wr, hwr⟩ : ∃ wr, wb.drewN n0 = wr := ⟨_, rfl⟩
    replace a20 : wr.cell? ⟨G, 20, none⟩ = some (.slice (some ad) s.objs.length cO) := by rw [← hwr]; exact a20
    replace b20 : wr.cell? ⟨G + 1, 20, none⟩ = some (.slice (some ad') s.objs.length cP) := by rw [← hwr]; exact b20
    replace hx : wr.cell? (ad.add i) = some (.slice A1 row.length c1) := by rw [← hwr]; exact hx
    replace hx' : wr.cell? (ad'.add i) = some (.slice A2 row.length c2) := by rw [← hwr]; exact hx'
    rw [hwr] at HI1 HI2 ⊢
    have HWR := Lib.hid hwr
    clear hi1 hi2 hkr hrow hl1 hl2 hwr
    go_wp2
    go_quiet ((go_at_call 13; exact Calls.quiet_of ((lockstitchref06_Nums.calls kr A1 c1 row A2 c2 row true _ (Kd.C_drewN HI1.out _) HL1.out (Kd.C_drewN HI2.out _) HL2.out HKR.out).mono fun _ _ h => ⟨h.1, h.2.out⟩)))

    clear hx hx'
    go_wp2
    go_roundg gk
    case measure => omega
    case rel => exact ⟨i + 1, n0 + nq, by omega, by first | rfl | rw [e2.out] | (simp; omega), by rw [← HWR.out, World.drewN_drewN]⟩
end Go.Proofs.YtlemecdddhdagaaDoor.P
