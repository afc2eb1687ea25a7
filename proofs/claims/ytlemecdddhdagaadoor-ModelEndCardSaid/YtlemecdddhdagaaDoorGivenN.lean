/-
  The law ModelEnd: its walk.
-/
import Derived.Test.YtlemecdddhdagaaDoorGivenE
import Derived.Test.YtlemecdddhdagaaDoorGivenP
namespace Go.Proofs.YtlemecdddhdagaaDoor.P
open Go.RowKit Go.Proofs.YtlemecdddhdagaaDoorW.PrintWords Go.Proofs.YtlemecdddhdagaaDoorW.PrintLast Go.Proofs.YtlemecdddhdagaaDoorW.PrintMore
set_option linter.unusedVariables false
set_option linter.unusedSimpArgs false
attribute [local go_sem ↓] Go.wp_at_zero Go.wp_at_succ

/-- Steps one by one, to the end: there a step stays. -/
def EndL (step : St → Option (St × Bool × Int)) (len : Nat) : Nat → St → Prop
  | 0, _ => True
  | n + 1, s => ∃ t d e, step s = some (t, d, e) ∧ ((d = false ∧ e = 0 ∧ EndL step len n t) ∨ (t = s ∧ ((d = true ∧ e = 0 ∧ s.pc = len) ∨ (d = false ∧ e ≠ 0))))
def modelEnd.ok (k : Nat) (l0 : List ByteArray) (a1 a2 : ByteArray) (l3 : List S55) (fuel : Nat) : Prop :=
  lockstitchlaw06_alive.f k = some true ∧ ∃ fw, lockstitchlaw04_Few.f k l0 a1 a2 l3 = some fw ∧ (fw = true → EndL (stepS k l0 a1 a2 l3) l3.length fuel St0)

set_option maxRecDepth 100000 in
set_option maxHeartbeats 6400000 in
theorem modelEnd.calls (k : Nat) (A0 : Option Addr) (c0 : Nat) (l0 : List ByteArray) (a1 a2 : ByteArray) (A3 : Option Addr) (c3 : Nat) (l3 : List S55) (fuel : Nat) (w : World) (hr0 : Kd.C Kd.string w A0 l0.length l0) (hc0 : l0.length ≤ c0) (hr3 : Kd.C k55 w A3 l3.length l3) (hc3 : l3.length ≤ c3) (hrT : Kd.C Kd.string w tabA tabL.length tabL)
    (hf : fuel ≤ 255) (h : modelEnd.ok k l0 a1 a2 l3 fuel) :
    Calls Tryd.prog 5 #[.agg #[.slice A0 l0.length c0, .string a1, .string a2, .slice A3 l3.length c3], .int .u8 fuel] w fun e w' => e = .returned (.bool true) ∧ Below w.heap.size w w' := by
  obtain ⟨hal, fw, hfw, h1⟩ := h
  obtain ⟨G, hG⟩ : ∃ G, w.heap.size = G := ⟨_, rfl⟩
  obtain ⟨wb, hwb⟩ : ∃ wb, w.alloc (.cells #[.slice A0 l0.length c0, .string a1, .string a2, .slice A3 l3.length c3] 25) = wb := ⟨_, rfl⟩
  have hB1 : Below w.heap.size w wb := by rw [← hwb]; exact (Below.refl _ w).alloc (Nat.le_refl _) _
  have hb0 : wb.heap[G]? = some (.cells #[.slice A0 l0.length c0, .string a1, .string a2, .slice A3 l3.length c3] 25 (0, 0)) := by rw [← hwb, ← hG]; exact heap_alloc_new w _
  have hs1 : wb.heap.size = G + 1 := by rw [← hwb, ← hG]; simp
  have HH := Aside0.mk h1
  have HR0 := Aside0.mk (Kd.C_below hr0 hB1)
  have HR3 := Aside0.mk (Kd.C_below hr3 hB1)
  have HRT := Aside0.mk (Kd.C_below hrT hB1)
  have HAL := Aside0.mk hal
  have HFW := Aside0.mk hfw
  have HB1 := Aside0.mk hB1
  have K0 := Aside0.mk hb0
  have e1 : IntKind.i64.wrap (fuel : Int) = fuel := IntWalk.i64_in _ (by omega)
  have q0 : wb.cell? ⟨G, 0, none⟩ = some (.slice A0 l0.length c0) := by simp [World.cell?, K0.out]
  have q1 : wb.cell? ⟨G, 1, none⟩ = some (.string a1) := by simp [World.cell?, K0.out]
  have q2 : wb.cell? ⟨G, 2, none⟩ = some (.string a2) := by simp [World.cell?, K0.out]
  have q3 : wb.cell? ⟨G, 3, none⟩ = some (.slice A3 l3.length c3) := by simp [World.cell?, K0.out]
  clear h1 hr0 hr3 hrT hal hB1 hb0 hfw
  go_enter Tryd.func5, Tryd.ntmps5
  go_upto_region 999 with (fail)
  refine (lockstitchlaw04_Few.calls k A0 c0 l0 a1 a2 A3 c3 l3 fw wb HR0.out hc0 HR3.out hc3 HFW.out).mono ?_
  rintro e w1 ⟨rfl, hbb⟩
  replace hbb : Below wb.heap.size wb w1 := by first | exact hbb | exact hbb.below
  replace HR0 := Aside0.mk (Kd.C_below HR0.out hbb)
  replace HR3 := Aside0.mk (Kd.C_below HR3.out hbb)
  replace HRT := Aside0.mk (Kd.C_below HRT.out hbb)
  replace K0 := Aside0.mk ((hbb.block G (by omega)).trans K0.out)
  have hs2 : G + 1 ≤ w1.heap.size := by have := hbb.size; omega
  replace HB1 := Aside0.mk (show Below w.heap.size w w1 from HB1.out.trans (hbb.mono (by omega)))
  clear hbb HFW q0 q1 q2 q3 hwb hs1
  cases fw with
  | false =>
    go_upto_region 999 with (fail)
    refine (lockstitchlaw06_alive.calls k true w1 HRT.out HAL.out).mono ?_
    rintro e w2 ⟨rfl, hbb⟩
    have HBB := Lib.hid (HB1.out.trans (hbb.mono (by omega)))
    clear hbb
    go_wp2
    go_ret
    exact ⟨rfl, HBB.out⟩
  | true =>
  replace HH := Aside0.mk (HH.out rfl)
  go_upto_region 999 with (fail)
  refine (lockstitchlaw06_alive.calls k true w1 HRT.out HAL.out).mono ?_
  rintro e W1 ⟨rfl, hbb⟩
  replace HR0 := Aside0.mk (Kd.C_below HR0.out hbb)
  replace HR3 := Aside0.mk (Kd.C_below HR3.out hbb)
  replace HRT := Aside0.mk (Kd.C_below HRT.out hbb)
  replace K0 := Aside0.mk ((hbb.block G (by omega)).trans K0.out)
  replace HB1 := Aside0.mk (show Below w.heap.size w W1 from HB1.out.trans (hbb.mono (by omega)))
  replace hs2 : G + 1 ≤ W1.heap.size := by have := hbb.size; omega
  clear hbb HAL
  obtain ⟨b, hb⟩ : ∃ b, W1.heap.size = b := ⟨_, rfl⟩
  obtain ⟨Wz, hWz⟩ : ∃ Wz, W1.alloc (.cells #[.int .i64 0, .int .i64 0, .int .i64 0, .int .i64 0, .int .i64 0, .int .i64 0, .int .i64 0, .int .i64 0, .int .i64 0, .int .i64 0, .int .i64 0, .int .i64 0, .int .i64 0, .int .i64 0, .int .i64 0, .int .i64 0, .int .i64 0, .int .i64 0, .int .i64 0, .int .i64 0, .slice none 0 0, .slice none 0 0, .int .i64 0, .int .i64 0] 39) = Wz := ⟨_, rfl⟩
  have hzb : Wz.heap[b]? = some (.cells #[.int .i64 0, .int .i64 0, .int .i64 0, .int .i64 0, .int .i64 0, .int .i64 0, .int .i64 0, .int .i64 0, .int .i64 0, .int .i64 0, .int .i64 0, .int .i64 0, .int .i64 0, .int .i64 0, .int .i64 0, .int .i64 0, .int .i64 0, .int .i64 0, .int .i64 0, .int .i64 0, .slice none 0 0, .slice none 0 0, .int .i64 0, .int .i64 0] 39 (0, 0)) := by rw [← hWz, ← hb]; exact heap_alloc_new W1 _
  have HS0 : Aside0 (StR b St0 (.slice none 0 0) (.slice none 0 0) Wz) := ⟨⟨hzb⟩⟩
  have HV0 : Aside0 (RowsV W1.heap.size St0 (.slice none 0 0) (.slice none 0 0) Wz) := ⟨⟨Kd.S_nil _ _ _ _ _, Kd.R_nil _ _ _ _ _⟩⟩
  have HBz : Aside0 (Below W1.heap.size W1 Wz) := ⟨by rw [← hWz]; exact (Below.refl _ W1).alloc (Nat.le_refl _) _⟩
  clear hzb
  go_wp2
  have hG2 := hs2
  have hlowb : W1.heap.size ≤ b := Nat.le_of_eq hb
  clear hWz
  go_loopg [22] fuel (fun kq iv wr => ∃ (s : St) (vO vU : Value) (i : Nat), kq + i = fuel ∧ iv = .int .i64 i ∧ Aside0 (EndL (stepS k l0 a1 a2 l3) l3.length kq s) ∧ Aside0 (StR b s vO vU wr) ∧ Aside0 (RowsV W1.heap.size s vO vU wr) ∧ Aside0 (Below W1.heap.size W1 wr))
  case atStart => exact ⟨_, _, _, 0, Nat.add_zero _, rfl, HH, HS0, HV0, HBz⟩
  case round =>
  clear HH HS0 HV0 HBz Wz
  obtain ⟨s, vO, vU, i, hki, rfl, HPC, HS, HV, HB⟩ := hrel
  cases gk with
  | zero =>
    obtain rfl : i = fuel := by omega
    have hd0 : decide ((i : Int) < (i : Int)) = false := decide_eq_false (by omega)
    clear HPC
    go_wp2
    go_ret
    exact ⟨rfl, by have q := HB1.out.trans (HB.out.mono (show w.heap.size ≤ W1.heap.size by have := HB1.out.size; omega)); first | exact q | (rw [hG] at q; exact q)⟩
  | succ gk =>
  have hd0 : decide ((i : Int) < (fuel : Int)) = true := decide_eq_true (by omega)
  obtain ⟨s1, dn, e1', hst, hP⟩ := HPC.out
  have HP := Aside0.mk hP
  have HST := Aside0.mk hst
  clear hP hst HPC
  have p0 : wr.cell? ⟨G, 0, none⟩ = some (.slice A0 l0.length c0) := (HB.out.cell (p := ⟨G, 0, none⟩) hG2).trans (by simp [World.cell?, K0.out])
  have p1 : wr.cell? ⟨G, 1, none⟩ = some (.string a1) := (HB.out.cell (p := ⟨G, 1, none⟩) hG2).trans (by simp [World.cell?, K0.out])
  have p2 : wr.cell? ⟨G, 2, none⟩ = some (.string a2) := (HB.out.cell (p := ⟨G, 2, none⟩) hG2).trans (by simp [World.cell?, K0.out])
  have p3 : wr.cell? ⟨G, 3, none⟩ = some (.slice A3 l3.length c3) := (HB.out.cell (p := ⟨G, 3, none⟩) hG2).trans (by simp [World.cell?, K0.out])
  have kk := HS.out.blk
  have HSM := Lib.hid (stepS_of HST.out)
  go_upto_region 999 with (((with_reducible refine gate_dst (N := 26) rfl ?_); refine wpList_load_row rfl 39 (.tmp 5) rfl b rfl 39 (cellsS s vO vU) (0, 0) _ kk Tryd.underlying39 rfl (by kernel_rfl) ?_))
  refine (model_Step.calls k A0 c0 l0 a1 a2 A3 c3 l3 s s1 dn e1' vO vU _ _ _ _ wr (Kd.C_below HR0.out HB.out) hc0 (Kd.C_below HR3.out HB.out) hc3 (Kd.C_below HRT.out HB.out) HV.out.objs HV.out.out HSM.out.1 HSM.out.2).mono ?_
  rintro e wq ⟨vO1, vU1, rfl, hV1, hB1⟩
  obtain ⟨c, hc⟩ : ∃ c, wq.heap.size = c := ⟨_, rfl⟩
  obtain ⟨wz, hwz⟩ : ∃ wz, wq.alloc (.cells #[.int .i64 0, .int .i64 0, .int .i64 0, .int .i64 0, .int .i64 0, .int .i64 0, .int .i64 0, .int .i64 0, .int .i64 0, .int .i64 0, .int .i64 0, .int .i64 0, .int .i64 0, .int .i64 0, .int .i64 0, .int .i64 0, .int .i64 0, .int .i64 0, .int .i64 0, .int .i64 0, .slice none 0 0, .slice none 0 0, .int .i64 0, .int .i64 0] 39) = wz := ⟨_, rfl⟩
  have hzb : wz.heap[c]? = some (.cells #[.int .i64 0, .int .i64 0, .int .i64 0, .int .i64 0, .int .i64 0, .int .i64 0, .int .i64 0, .int .i64 0, .int .i64 0, .int .i64 0, .int .i64 0, .int .i64 0, .int .i64 0, .int .i64 0, .int .i64 0, .int .i64 0, .int .i64 0, .int .i64 0, .int .i64 0, .int .i64 0, .slice none 0 0, .slice none 0 0, .int .i64 0, .int .i64 0] 39 (0, 0)) := by rw [← hwz, ← hc]; exact heap_alloc_new wq _
  have hbc : b < c := by have h1 := HS.out.lt; have h2 := hB1.size; omega
  have hone := cells_one hV1
  have hBq : Below wr.heap.size wr (wz.setRow c (cellsS s1 vO1 vU1)) := setRow_below (by rw [← hwz]; exact hB1.alloc hB1.size _) (by rw [← hc]; exact hB1.size) _
  have HS1 := Aside0.mk (show StR c s1 vO1 vU1 (wz.setRow c (cellsS s1 vO1 vU1)) from ⟨setRow_at hzb _⟩)
  have hVz : RowsV wr.heap.size s1 vO1 vU1 wz := by rw [← hwz]; exact ⟨Kd.S_alloc hV1.objs _, Kd.R_step hV1.out (fun k _ hk => Below.heap_alloc wq _ k hk)⟩
  have HV1 := Aside0.mk ((hVz.setRow hzb (cellsS s1 vO1 vU1)).lower HB.out.size)
  replace HS := Aside0.mk (HS.out.of_block (hBq.block b HS.out.lt))
  replace HV := Aside0.mk (show RowsV W1.heap.size s vO vU (wz.setRow c (cellsS s1 vO1 vU1)) from ⟨Kd.S_below HV.out.objs hBq, Kd.R_below HV.out.out hBq⟩)
  replace HB := Aside0.mk (HB.out.trans (hBq.mono HB.out.size))
  clear hV1 hB1 hBq hVz kk p0 p1 p2 p3
  have hP := HP.out
  rcases hP with ⟨rfl, rfl, hnx⟩ | ⟨hts, hE⟩
  · have HNX := Aside0.mk hnx
    have e2 := Lib.hid (show wrap64 ((i : Int) + 1) = ((i + 1 : Nat) : Int) by unfold wrap64; omega)
    have kb := HS.out.blk
    have kc := HS1.out.blk
    have HSn := Aside0.mk (show StR b s1 vO1 vU1 ((wz.setRow c (cellsS s1 vO1 vU1)).setRow b (cellsS s1 vO1 vU1)) from ⟨setRow_at kb _⟩)
    have HVn := Aside0.mk (HV1.out.setRow kb (cellsS s1 vO1 vU1))
    have HBn := Aside0.mk (setRow_below HB.out hlowb (cellsS s1 vO1 vU1))
    clear HP hnx HS HV HB HS1 HV1 HST HSM
    go_wp2_with (first | ((with_reducible refine gate_dst (N := 37) rfl ?_); refine wpList_load_row rfl 39 (.tmp 6) rfl c rfl 39 (cellsS s1 vO1 vU1) (0, 0) _ kc Tryd.underlying39 rfl (by kernel_rfl) ?_) | (skip; refine wpList_store_row rfl 39 (.tmp 6) (.tmp 28) rfl c (cellsS s1 vO1 vU1) rfl rfl 39 _ hzb (by kernel_rfl) rfl hone ?_) | (skip; refine wpList_store_row rfl 39 (.tmp 5) (.tmp 37) rfl b (cellsS s1 vO1 vU1) rfl rfl 39 _ kb (by kernel_rfl) rfl hone ?_))
    go_roundg gk
    case measure => omega
    case rel => exact ⟨s1, _, _, i + 1, by omega, by first | rfl | rw [e2.out] | (simp; omega), HNX, HSn, HVn, HBn⟩
  · clear HP
    subst hts
    have y0 : (wz.setRow c (cellsS s1 vO1 vU1)).cell? ⟨G, 0, none⟩ = some (.slice A0 l0.length c0) := (HB.out.cell (p := ⟨G, 0, none⟩) hG2).trans (by simp [World.cell?, K0.out])
    have y1 : (wz.setRow c (cellsS s1 vO1 vU1)).cell? ⟨G, 1, none⟩ = some (.string a1) := (HB.out.cell (p := ⟨G, 1, none⟩) hG2).trans (by simp [World.cell?, K0.out])
    have y2 : (wz.setRow c (cellsS s1 vO1 vU1)).cell? ⟨G, 2, none⟩ = some (.string a2) := (HB.out.cell (p := ⟨G, 2, none⟩) hG2).trans (by simp [World.cell?, K0.out])
    have y3 : (wz.setRow c (cellsS s1 vO1 vU1)).cell? ⟨G, 3, none⟩ = some (.slice A3 l3.length c3) := (HB.out.cell (p := ⟨G, 3, none⟩) hG2).trans (by simp [World.cell?, K0.out])
    have kc := HS1.out.blk
    have HE := Aside0.mk hE
    have hb2 : dn = false → (e1' == 0) = false := by
      intro hd
      rcases hE with ⟨q, _⟩ | ⟨_, q⟩
      · rw [hd] at q
        cases q
      · exact beq_eq_false_iff_ne.2 q
    clear hE
    cases dn
    case' true =>
      obtain ⟨_, he0, hpc⟩ := HE.out.resolve_right (fun q => by cases q.1)
      subst he0
      have HPCL := Lib.hid hpc
      clear hpc
    case' false =>
      have hb3 := hb2 rfl
    all_goals
      clear hb2 HE
      go_upto_region 999 with (first | ((with_reducible refine gate_dst (N := 40) rfl ?_); refine wpList_load_row rfl 39 (.tmp 6) rfl c rfl 39 (cellsS s1 vO1 vU1) (0, 0) _ kc Tryd.underlying39 rfl (by kernel_rfl) ?_) | (skip; refine wpList_store_row rfl 39 (.tmp 6) (.tmp 28) rfl c (cellsS s1 vO1 vU1) rfl rfl 39 _ hzb (by kernel_rfl) rfl hone ?_))
      refine (model_Step.calls k A0 c0 l0 a1 a2 A3 c3 l3 s1 s1 _ _ vO1 vU1 _ _ _ _ (wz.setRow c (cellsS s1 vO1 vU1)) (Kd.C_below HR0.out HB.out) hc0 (Kd.C_below HR3.out HB.out) hc3 (Kd.C_below HRT.out HB.out) HV1.out.objs HV1.out.out HSM.out.1 HSM.out.2).mono ?_
      rintro e wp ⟨vO2, vU2, rfl, hV2, hB2⟩
      obtain ⟨c', hc'⟩ : ∃ c', wp.heap.size = c' := ⟨_, rfl⟩
      obtain ⟨wv, hwv⟩ : ∃ wv, wp.alloc (.cells #[.int .i64 0, .int .i64 0, .int .i64 0, .int .i64 0, .int .i64 0, .int .i64 0, .int .i64 0, .int .i64 0, .int .i64 0, .int .i64 0, .int .i64 0, .int .i64 0, .int .i64 0, .int .i64 0, .int .i64 0, .int .i64 0, .int .i64 0, .int .i64 0, .int .i64 0, .int .i64 0, .slice none 0 0, .slice none 0 0, .int .i64 0, .int .i64 0] 39) = wv := ⟨_, rfl⟩
      have hzv : wv.heap[c']? = some (.cells #[.int .i64 0, .int .i64 0, .int .i64 0, .int .i64 0, .int .i64 0, .int .i64 0, .int .i64 0, .int .i64 0, .int .i64 0, .int .i64 0, .int .i64 0, .int .i64 0, .int .i64 0, .int .i64 0, .int .i64 0, .int .i64 0, .int .i64 0, .int .i64 0, .int .i64 0, .int .i64 0, .slice none 0 0, .slice none 0 0, .int .i64 0, .int .i64 0] 39 (0, 0)) := by rw [← hwv, ← hc']; exact heap_alloc_new wp _
      have hcc : c < c' := by have h1 := HS1.out.lt; have h2 := hB2.size; omega
      have hone2 := cells_one hV2
      have hBq : Below (wz.setRow c (cellsS s1 vO1 vU1)).heap.size (wz.setRow c (cellsS s1 vO1 vU1)) (wv.setRow c' (cellsS s1 vO2 vU2)) := setRow_below (by rw [← hwv]; exact hB2.alloc hB2.size _) (by rw [← hc']; exact hB2.size) _
      have HS2 := Aside0.mk (show StR c' s1 vO2 vU2 (wv.setRow c' (cellsS s1 vO2 vU2)) from ⟨setRow_at hzv _⟩)
      have hVz : RowsV (wz.setRow c (cellsS s1 vO1 vU1)).heap.size s1 vO2 vU2 wv := by rw [← hwv]; exact ⟨Kd.S_alloc hV2.objs _, Kd.R_step hV2.out (fun k _ hk => Below.heap_alloc wp _ k hk)⟩
      have HV2 := Aside0.mk ((hVz.setRow hzv (cellsS s1 vO2 vU2)).lower HB.out.size)
      replace HS := Aside0.mk (HS.out.of_block (hBq.block b HS.out.lt))
      replace HS1 := Aside0.mk (HS1.out.of_block (hBq.block c HS1.out.lt))
      replace HV := Aside0.mk (show RowsV W1.heap.size s1 vO vU (wv.setRow c' (cellsS s1 vO2 vU2)) from ⟨Kd.S_below HV.out.objs hBq, Kd.R_below HV.out.out hBq⟩)
      replace HV1 := Aside0.mk (show RowsV W1.heap.size s1 vO1 vU1 (wv.setRow c' (cellsS s1 vO2 vU2)) from ⟨Kd.S_below HV1.out.objs hBq, Kd.R_below HV1.out.out hBq⟩)
      replace HB := Aside0.mk (HB.out.trans (hBq.mono HB.out.size))
      clear hV2 hB2 hBq hVz kc y0 y1 y2 y3
      obtain ⟨AO0, cO0, rfl⟩ := Kd.S_slice HV.out.objs
      obtain ⟨AU0, cU0, rfl⟩ := Kd.R_slice HV.out.out
      obtain ⟨AO1, cO1, rfl⟩ := Kd.S_slice HV1.out.objs
      obtain ⟨AU1, cU1, rfl⟩ := Kd.R_slice HV1.out.out
      obtain ⟨AO2, cO2, rfl⟩ := Kd.S_slice HV2.out.objs
      obtain ⟨AU2, cU2, rfl⟩ := Kd.R_slice HV2.out.out
      have kb := HS.out.blk
      have kc := HS1.out.blk
      go_upto_region 999 with (first | ((with_reducible refine gate_dst (N := 54) rfl ?_); (refine gate_guard (by rfl) ?_; dsimp only); refine wpList_load_row rfl 39 (.tmp 6) rfl c rfl 39 (cellsS s1 (.slice AO1 s1.objs.length cO1) (.slice AU1 s1.out.length cU1)) (0, 0) _ kc Tryd.underlying39 rfl (by kernel_rfl) ?_) | ((with_reducible refine gate_dst (N := 55) rfl ?_); (refine gate_guard (by rfl) ?_; dsimp only); refine wpList_load_row rfl 39 (.tmp 5) rfl b rfl 39 (cellsS s1 (.slice AO0 s1.objs.length cO0) (.slice AU0 s1.out.length cU0)) (0, 0) _ kb Tryd.underlying39 rfl (by kernel_rfl) ?_) | (skip; refine wpList_store_row rfl 39 (.tmp 9) (.tmp 42) rfl c' (cellsS s1 (.slice AO2 s1.objs.length cO2) (.slice AU2 s1.out.length cU2)) rfl rfl 39 _ hzv (by kernel_rfl) rfl hone2 ?_))
      refine (same_calls s1 AO1 AU1 AO0 AU0 cO1 cU1 cO0 cU0 _ (Kd.S_reads' HV1.out.objs).2.2 (Kd.R_reads' HV1.out.out).2.2 (Kd.R_reads' HV1.out.out).2.1 (Kd.S_reads' HV.out.objs).2.2 (Kd.R_reads' HV.out.out).2.2 (Kd.R_reads' HV.out.out).2.1 HSM.out.1).mono ?_
      rintro e wf ⟨rfl, hBf⟩
      replace HS := Aside0.mk (HS.out.of_block (hBf.block b HS.out.lt))
      replace HS2 := Aside0.mk (HS2.out.of_block (hBf.block c' HS2.out.lt))
      replace HV := Aside0.mk (show RowsV W1.heap.size s1 _ _ wf from ⟨Kd.S_below HV.out.objs hBf, Kd.R_below HV.out.out hBf⟩)
      replace HV2 := Aside0.mk (show RowsV W1.heap.size s1 _ _ wf from ⟨Kd.S_below HV2.out.objs hBf, Kd.R_below HV2.out.out hBf⟩)
      replace HB := Aside0.mk (HB.out.trans (hBf.mono HB.out.size))
      clear hBf kb kc HS1 HV1 hzv hone2 hwv
      have kb := HS.out.blk
      have kc := HS2.out.blk
      go_upto_region 999 with (first | ((with_reducible refine gate_dst (N := 59) rfl ?_); (refine gate_guard (by rfl) ?_; dsimp only); refine wpList_load_row rfl 39 (.tmp 9) rfl c' rfl 39 (cellsS s1 (.slice AO2 s1.objs.length cO2) (.slice AU2 s1.out.length cU2)) (0, 0) _ kc Tryd.underlying39 rfl (by kernel_rfl) ?_) | ((with_reducible refine gate_dst (N := 60) rfl ?_); (refine gate_guard (by rfl) ?_; dsimp only); refine wpList_load_row rfl 39 (.tmp 5) rfl b rfl 39 (cellsS s1 (.slice AO0 s1.objs.length cO0) (.slice AU0 s1.out.length cU0)) (0, 0) _ kb Tryd.underlying39 rfl (by kernel_rfl) ?_))
      refine (same_calls s1 AO2 AU2 AO0 AU0 cO2 cU2 cO0 cU0 _ (Kd.S_reads' HV2.out.objs).2.2 (Kd.R_reads' HV2.out.out).2.2 (Kd.R_reads' HV2.out.out).2.1 (Kd.S_reads' HV.out.objs).2.2 (Kd.R_reads' HV.out.out).2.2 (Kd.R_reads' HV.out.out).2.1 HSM.out.1).mono ?_
      rintro e wg ⟨rfl, hBg⟩
      replace HS := Aside0.mk (HS.out.of_block (hBg.block b HS.out.lt))
      replace HB := Aside0.mk (HB.out.trans (hBg.mono HB.out.size))
      clear hBg kb kc
      have y3 : wg.cell? ⟨G, 3, none⟩ = some (.slice A3 l3.length c3) := (HB.out.cell (p := ⟨G, 3, none⟩) hG2).trans (by simp [World.cell?, K0.out])
      have kpc : wg.cell? ⟨b, 22, none⟩ = some (.int .i64 s1.pc) := HS.out.cell 22
      first | (have hpcb : (s1.pc == (l3.length : Int)) = true := beq_iff_eq.2 HPCL.out) | skip
      go_wp2
      go_ret
      exact ⟨rfl, by have q := HB1.out.trans (HB.out.mono (show w.heap.size ≤ W1.heap.size by have := HB1.out.size; omega)); first | exact q | (rw [hG] at q; exact q)⟩
end Go.Proofs.YtlemecdddhdagaaDoor.P
