/-
  The law ModelPieces: its walk.
-/
import Derived.Test.YtlemecdddhdagaaDoorGivenR
import Derived.Test.YtlemecdddhdagaaDoorPx5
namespace Go.Proofs.YtlemecdddhdagaaDoor.P
open Go.RowKit Go.Proofs.YtlemecdddhdagaaDoorW.PrintWords Go.Proofs.YtlemecdddhdagaaDoorW.PrintLast Go.Proofs.YtlemecdddhdagaaDoorW.PrintMore
set_option linter.unusedVariables false
set_option linter.unusedSimpArgs false
attribute [local go_sem ↓] Go.wp_at_zero Go.wp_at_succ

/-- Steps one by one; none where a state is too great to be thought of. -/
def piecesL (step : St → Option (St × Bool × Int)) (fuel : Int) : Nat → St → Int → Option (St × Int)
  | 0, _, _ => none
  | n + 1, s, i =>
    if i ≤ fuel then (step s).bind fun t =>
      if t.2.1 = true then some (s, t.2.2) else if t.2.2 = 0 then (if i < fuel then piecesL step fuel n t.1 (wrap64 (i + 1)) else piecesL step fuel n s (wrap64 (i + 1))) else some (s, t.2.2)
    else some (s, 10)
open Classical in
noncomputable def stepS (k : Nat) (l0 : List ByteArray) (a1 a2 : ByteArray) (l3 : List S55) (s : St) : Option (St × Bool × Int) := if Small s then model_Step.f k l0 a1 a2 l3 s else none
noncomputable def modelPieces.f (k : Nat) (l0 : List ByteArray) (a1 a2 : ByteArray) (l3 : List S55) (fuel : Int) : Option Bool :=
  (lockstitchlaw06_alive.f k).bind fun al => if al = true then (lockstitchlaw04_Few.f k l0 a1 a2 l3).bind fun fw => if fw = true then
    (model_Run.f k l0 a1 a2 l3 fuel).bind fun r => (piecesL (stepS k l0 a1 a2 l3) fuel k St0 0).bind fun p =>
      if r.2 = p.2 then (lockstitchref06_Nums.f k r.1 p.1.out).bind fun q => if q = true then some (decide (p.1.steps ≤ fuel)) else some false else some false
    else some true else some false

set_option maxRecDepth 100000 in
set_option maxHeartbeats 3200000 in
theorem modelPieces.calls (k : Nat) (A0 : Option Addr) (c0 : Nat) (l0 : List ByteArray) (a1 a2 : ByteArray) (A3 : Option Addr) (c3 : Nat) (l3 : List S55) (fuel : Int) (r : Bool) (w : World) (hr0 : Kd.C Kd.string w A0 l0.length l0) (hc0 : l0.length ≤ c0) (hr3 : Kd.C k55 w A3 l3.length l3) (hc3 : l3.length ≤ c3) (hrT : Kd.C Kd.string w tabA tabL.length tabL)
    (hf : 0 ≤ fuel ∧ fuel ≤ 255) (h : modelPieces.f k l0 a1 a2 l3 fuel = some r) :
    Calls Tryd.prog 4 #[.agg #[.slice A0 l0.length c0, .string a1, .string a2, .slice A3 l3.length c3], .int .u8 fuel] w fun e w' => e = .returned (.bool r) ∧ Below w.heap.size w w' := by
  obtain ⟨al, hal, h1⟩ := Option.bind_eq_some_iff.1 h
  obtain ⟨G, hG⟩ : ∃ G, w.heap.size = G := ⟨_, rfl⟩
  obtain ⟨wb, hwb⟩ : ∃ wb, w.alloc (.cells #[.slice A0 l0.length c0, .string a1, .string a2, .slice A3 l3.length c3] 25) = wb := ⟨_, rfl⟩
  have hB1 : Below w.heap.size w wb := by rw [← hwb]; exact (Below.refl _ w).alloc (Nat.le_refl _) _
  have hb0 : wb.heap[G]? = some (.cells #[.slice A0 l0.length c0, .string a1, .string a2, .slice A3 l3.length c3] 25 (0, 0)) := by rw [← hwb, ← hG]; exact heap_alloc_new w _
  have hs1 : wb.heap.size = G + 1 := by rw [← hwb, ← hG]; simp
  have HH := Aside0.mk h1
  have HR0 := Aside0.mk (Kd.C_below hr0 hB1)
  have HR3 := Aside0.mk (Kd.C_below hr3 hB1)
  have HRT := Aside0.mk (Kd.C_below hrT hB1)
  have HAL := Aside0.mk hal
  have HB1 := Aside0.mk hB1
  have K0 := Aside0.mk hb0
  have e1 : IntKind.i64.wrap fuel = fuel := IntWalk.i64_in _ (by omega)
  clear h1 h hr0 hr3 hrT hal hB1 hb0
  go_enter Tryd.func4, Tryd.ntmps4
  go_upto_region 999 with (fail)
  refine (lockstitchlaw06_alive.calls k al wb HRT.out HAL.out).mono ?_
  rintro e w1 ⟨rfl, hbb⟩
  replace HR0 := Aside0.mk (Kd.C_below HR0.out hbb)
  replace HR3 := Aside0.mk (Kd.C_below HR3.out hbb)
  replace HRT := Aside0.mk (Kd.C_below HRT.out hbb)
  replace K0 := Aside0.mk ((hbb.block G (by omega)).trans K0.out)
  have hs2 : G + 1 ≤ w1.heap.size := by have := hbb.size; omega
  replace HB1 := Aside0.mk (show Below w.heap.size w w1 from HB1.out.trans (hbb.mono (by omega)))
  clear hbb HAL hwb hs1
  cases al with
  | false =>
    have HH2 : Aside0 (some false = some r) := ⟨HH.out⟩
    obtain rfl := Option.some.inj HH2.out
    clear HH HH2
    go_wp2
    go_ret
    exact ⟨rfl, HB1.out⟩
  | true =>
  obtain ⟨fw, hfw, h2⟩ := Option.bind_eq_some_iff.1 HH.out
  have HFW := Aside0.mk hfw
  replace HH := Aside0.mk h2
  have q0 : w1.cell? ⟨G, 0, none⟩ = some (.slice A0 l0.length c0) := by simp [World.cell?, K0.out]
  have q1 : w1.cell? ⟨G, 1, none⟩ = some (.string a1) := by simp [World.cell?, K0.out]
  have q2 : w1.cell? ⟨G, 2, none⟩ = some (.string a2) := by simp [World.cell?, K0.out]
  have q3 : w1.cell? ⟨G, 3, none⟩ = some (.slice A3 l3.length c3) := by simp [World.cell?, K0.out]
  clear hfw h2
  go_upto_region 999 with (fail)
  refine (lockstitchlaw04_Few.calls k A0 c0 l0 a1 a2 A3 c3 l3 fw w1 HR0.out hc0 HR3.out hc3 HFW.out).mono ?_
  rintro e w2 ⟨rfl, hbb⟩
  replace hbb : Below w1.heap.size w1 w2 := by first | exact hbb | exact hbb.below
  replace HR0 := Aside0.mk (Kd.C_below HR0.out hbb)
  replace HR3 := Aside0.mk (Kd.C_below HR3.out hbb)
  replace HRT := Aside0.mk (Kd.C_below HRT.out hbb)
  replace K0 := Aside0.mk ((hbb.block G (by omega)).trans K0.out)
  replace HB1 := Aside0.mk (show Below w.heap.size w w2 from HB1.out.trans (hbb.mono (by omega)))
  replace hs2 : G + 1 ≤ w2.heap.size := by have := hbb.size; omega
  clear hbb HFW q0 q1 q2 q3
  cases fw with
  | false =>
    have HH2 : Aside0 (some true = some r) := ⟨HH.out⟩
    obtain rfl := Option.some.inj HH2.out
    clear HH HH2
    go_wp2
    go_ret
    exact ⟨rfl, HB1.out⟩
  | true =>
  obtain ⟨⟨rl, re⟩, hrun, h3⟩ := Option.bind_eq_some_iff.1 HH.out
  have HRUN := Aside0.mk hrun
  replace HH := Aside0.mk h3
  have q0 : w2.cell? ⟨G, 0, none⟩ = some (.slice A0 l0.length c0) := by simp [World.cell?, K0.out]
  have q1 : w2.cell? ⟨G, 1, none⟩ = some (.string a1) := by simp [World.cell?, K0.out]
  have q2 : w2.cell? ⟨G, 2, none⟩ = some (.string a2) := by simp [World.cell?, K0.out]
  have q3 : w2.cell? ⟨G, 3, none⟩ = some (.slice A3 l3.length c3) := by simp [World.cell?, K0.out]
  clear hrun h3
  go_upto_region 999 with (fail)
  refine (model_Run.calls k A0 c0 l0 a1 a2 A3 c3 l3 fuel rl re w2 HR0.out hc0 HR3.out hc3 HRT.out HRUN.out).mono ?_
  rintro e W1 ⟨vL, rfl, hL, hbb⟩
  replace HR0 := Aside0.mk (Kd.C_below HR0.out hbb)
  replace HR3 := Aside0.mk (Kd.C_below HR3.out hbb)
  replace HRT := Aside0.mk (Kd.C_below HRT.out hbb)
  replace K0 := Aside0.mk ((hbb.block G (by omega)).trans K0.out)
  replace HB1 := Aside0.mk (show Below w.heap.size w W1 from HB1.out.trans (hbb.mono (by omega)))
  replace hs2 : G + 1 ≤ W1.heap.size := by have := hbb.size; omega
  clear hbb HRUN q0 q1 q2 q3
  obtain ⟨⟨sE, eE⟩, hpc, h4⟩ := Option.bind_eq_some_iff.1 HH.out
  have HPC := Aside0.mk hpc
  replace HH := Aside0.mk h4
  have HL := Aside0.mk hL
  clear hpc h4 hL
  obtain ⟨b, hb⟩ : ∃ b, W1.heap.size = b := ⟨_, rfl⟩
  obtain ⟨Wz, hWz⟩ : ∃ Wz, W1.alloc (.cells #[.int .i64 0, .int .i64 0, .int .i64 0, .int .i64 0, .int .i64 0, .int .i64 0, .int .i64 0, .int .i64 0, .int .i64 0, .int .i64 0, .int .i64 0, .int .i64 0, .int .i64 0, .int .i64 0, .int .i64 0, .int .i64 0, .int .i64 0, .int .i64 0, .int .i64 0, .int .i64 0, .slice none 0 0, .slice none 0 0, .int .i64 0, .int .i64 0] 39) = Wz := ⟨_, rfl⟩
  have hzb : Wz.heap[b]? = some (.cells #[.int .i64 0, .int .i64 0, .int .i64 0, .int .i64 0, .int .i64 0, .int .i64 0, .int .i64 0, .int .i64 0, .int .i64 0, .int .i64 0, .int .i64 0, .int .i64 0, .int .i64 0, .int .i64 0, .int .i64 0, .int .i64 0, .int .i64 0, .int .i64 0, .int .i64 0, .int .i64 0, .slice none 0 0, .slice none 0 0, .int .i64 0, .int .i64 0] 39 (0, 0)) := by rw [← hWz, ← hb]; exact heap_alloc_new W1 _
  have HS0 : Aside0 (StR b St0 (.slice none 0 0) (.slice none 0 0) Wz) := ⟨⟨hzb⟩⟩
  have HV0 : Aside0 (RowsV W1.heap.size St0 (.slice none 0 0) (.slice none 0 0) Wz) := ⟨⟨Kd.S_nil _ _ _ _ _, Kd.R_nil _ _ _ _ _⟩⟩
  have HBz : Aside0 (Below W1.heap.size W1 Wz) := ⟨by rw [← hWz]; exact (Below.refl _ W1).alloc (Nat.le_refl _) _⟩
  clear hzb
  go_wp2
  have hG2 := hs2
  have hlowb : W1.heap.size ≤ b := Nat.le_of_eq hb
  clear hWz
  go_loopg [8, 9] k (fun kq v8 iv wr => ∃ (s : St) (vO vU : Value) (i : Int), v8 = .int .i64 10 ∧ iv = .int .i64 i ∧ Aside0 (piecesL (stepS k l0 a1 a2 l3) fuel kq s i = some (sE, eE)) ∧ Aside0 (0 ≤ i ∧ i ≤ fuel + 1) ∧ Aside0 (StR b s vO vU wr) ∧ Aside0 (RowsV W1.heap.size s vO vU wr) ∧ Aside0 (Below W1.heap.size W1 wr))
  case atStart => exact ⟨_, _, _, 0, rfl, rfl, HPC, ⟨by omega⟩, HS0, HV0, HBz⟩
  case round =>
  clear HPC HS0 HV0 HBz Wz
  obtain ⟨s, vO, vU, i, rfl, rfl, HPC, HI, HS, HV, HB⟩ := hrel
  cases gk with
  | zero => exact absurd HPC.out (by simp [piecesL])
  | succ gk =>
  have hP := HPC.out
  rw [piecesL] at hP
  clear HPC
  by_cases hle : i ≤ fuel
  case neg =>
    rw [if_neg hle] at hP
    obtain ⟨rfl, rfl⟩ := Prod.mk.inj (Option.some.inj hP)
    have hd0 : decide (i ≤ fuel) = false := decide_eq_false hle
    clear hP hle
    have k21 : wr.cell? ⟨b, 21, none⟩ = some vU := HS.out.cell 21
    have k23 : wr.cell? ⟨b, 23, none⟩ = some (.int .i64 s.steps) := HS.out.cell 23
    obtain ⟨AL, cL, rfl⟩ := Kd.R_slice HL.out
    obtain ⟨AU, cU, rfl⟩ := Kd.R_slice HV.out.out
    have hHH := HH.out
    try simp only at hHH
    by_cases hre : re = 10
    case neg =>
      rw [if_neg hre] at hHH
      obtain rfl := Option.some.inj hHH
      have hd1 : (re == 10) = false := beq_eq_false_iff_ne.2 hre
      have hd2 : decide (re = 10) = false := decide_eq_false hre
      clear hHH
      go_wp2
      go_ret
      exact ⟨rfl, by have q := HB1.out.trans (HB.out.mono (show w.heap.size ≤ W1.heap.size by have := HB1.out.size; omega)); first | exact q | (rw [hG] at q; exact q)⟩
    case pos =>
      rw [if_pos hre] at hHH
      subst hre
      obtain ⟨nq, hnq, hHH⟩ := Option.bind_eq_some_iff.1 hHH
      have HNQ := Aside0.mk hnq
      have HFI := Aside0.mk hHH
      clear hnq hHH
      go_upto_region 999 with (fail)
      refine (lockstitchref06_Nums.calls k AL cL rl AU cU s.out nq wr (Kd.C_below (Kd.R_reads' HL.out).2.2 HB.out) (Kd.R_reads' HL.out).2.1 (Kd.R_reads' HV.out.out).2.2 (Kd.R_reads' HV.out.out).2.1 HNQ.out).mono ?_
      rintro e wn ⟨rfl, hbn⟩
      replace hbn : Below wr.heap.size wr wn := by first | exact hbn | exact hbn.below
      have m23 : wn.cell? ⟨b, 23, none⟩ = some (.int .i64 s.steps) := (World.cell?_of_block (a := ⟨b, 23, none⟩) (hbn.block b HS.out.lt)).trans k23
      have HBN := Aside0.mk (HB1.out.trans ((HB.out.trans (hbn.mono HB.out.size)).mono (show w.heap.size ≤ W1.heap.size by have := HB1.out.size; omega)))
      clear hbn k21 k23
      cases nq with
      | false =>
        obtain rfl := Option.some.inj HFI.out
        go_wp2
        go_ret
        exact ⟨rfl, by have q := HBN.out; first | exact q | (rw [hG] at q; exact q)⟩
      | true =>
        obtain rfl := Option.some.inj HFI.out
        go_wp2
        go_ret
        exact ⟨rfl, by have q := HBN.out; first | exact q | (rw [hG] at q; exact q)⟩
  case pos =>
  rw [if_pos hle] at hP
  obtain ⟨⟨s1, dn, e1'⟩, hst, hP⟩ := Option.bind_eq_some_iff.1 hP
  simp only at hP
  have HP := Aside0.mk hP
  have HST := Aside0.mk hst
  have hd0 : decide (i ≤ fuel) = true := decide_eq_true hle
  have HLE := Lib.hid hle
  clear hP hst hle
  have p0 : wr.cell? ⟨G, 0, none⟩ = some (.slice A0 l0.length c0) := (HB.out.cell (p := ⟨G, 0, none⟩) hG2).trans (by simp [World.cell?, K0.out])
  have p1 : wr.cell? ⟨G, 1, none⟩ = some (.string a1) := (HB.out.cell (p := ⟨G, 1, none⟩) hG2).trans (by simp [World.cell?, K0.out])
  have p2 : wr.cell? ⟨G, 2, none⟩ = some (.string a2) := (HB.out.cell (p := ⟨G, 2, none⟩) hG2).trans (by simp [World.cell?, K0.out])
  have p3 : wr.cell? ⟨G, 3, none⟩ = some (.slice A3 l3.length c3) := (HB.out.cell (p := ⟨G, 3, none⟩) hG2).trans (by simp [World.cell?, K0.out])
  have kk := HS.out.blk
  have hsm : Small s ∧ model_Step.f k l0 a1 a2 l3 s = some (s1, dn, e1') := by
    have q := HST.out
    unfold stepS at q
    split at q
    · exact ⟨‹_›, q⟩
    · cases q
  have HSM := Lib.hid hsm
  clear hsm HST
  go_upto_region 999 with ((with_reducible refine gate_dst (N := 33) rfl ?_); refine wpList_load_row rfl 39 (.tmp 7) rfl b rfl 39 (cellsS s vO vU) (0, 0) _ kk Tryd.underlying39 rfl (by kernel_rfl) ?_)
  refine (model_Step.calls k A0 c0 l0 a1 a2 A3 c3 l3 s s1 dn e1' vO vU _ _ _ _ wr (Kd.C_below HR0.out HB.out) hc0 (Kd.C_below HR3.out HB.out) hc3 (Kd.C_below HRT.out HB.out) HV.out.objs HV.out.out HSM.out.1 HSM.out.2).mono ?_
  rintro e wq ⟨vO1, vU1, rfl, hV1, hB1⟩
  obtain ⟨c, hc⟩ : ∃ c, wq.heap.size = c := ⟨_, rfl⟩
  obtain ⟨wz, hwz⟩ : ∃ wz, wq.alloc (.cells #[.int .i64 0, .int .i64 0, .int .i64 0, .int .i64 0, .int .i64 0, .int .i64 0, .int .i64 0, .int .i64 0, .int .i64 0, .int .i64 0, .int .i64 0, .int .i64 0, .int .i64 0, .int .i64 0, .int .i64 0, .int .i64 0, .int .i64 0, .int .i64 0, .int .i64 0, .int .i64 0, .slice none 0 0, .slice none 0 0, .int .i64 0, .int .i64 0] 39) = wz := ⟨_, rfl⟩
  have hzb : wz.heap[c]? = some (.cells #[.int .i64 0, .int .i64 0, .int .i64 0, .int .i64 0, .int .i64 0, .int .i64 0, .int .i64 0, .int .i64 0, .int .i64 0, .int .i64 0, .int .i64 0, .int .i64 0, .int .i64 0, .int .i64 0, .int .i64 0, .int .i64 0, .int .i64 0, .int .i64 0, .int .i64 0, .int .i64 0, .slice none 0 0, .slice none 0 0, .int .i64 0, .int .i64 0] 39 (0, 0)) := by rw [← hwz, ← hc]; exact heap_alloc_new wq _
  have hbc : b < c := by have h1 := HS.out.lt; have h2 := hB1.size; omega
  have hone := cells_one hV1
  have hBq : Below wr.heap.size wr (wz.setRow c (cellsS s1 vO1 vU1)) := setRow_below (by rw [← hwz]; exact hB1.alloc hB1.size _) (by rw [← hc]; exact hB1.size) _
  have HS1 := Aside0.mk (show StR c s1 vO1 vU1 (wz.setRow c (cellsS s1 vO1 vU1)) from ⟨setRow_at hzb _⟩)
  have hVz : RowsV wr.heap.size s1 vO1 vU1 wz := by rw [← hwz]; exact ⟨Kd.S_alloc hV1.objs _, Kd.R_step hV1.out (fun k _ hk => Below.heap_alloc wq _ k hk)⟩
  have HV1 := Aside0.mk ((hVz.setRow hzb (cellsS s1 vO1 vU1)).lower HB.out.size)
  replace HS := Aside0.mk (HS.out.of_block (hBq.block b HS.out.lt))
  replace HV := Aside0.mk (show RowsV W1.heap.size s vO vU (wz.setRow c (cellsS s1 vO1 vU1)) from ⟨Kd.S_below HV.out.objs hBq, Kd.R_below HV.out.out hBq⟩)
  replace HB := Aside0.mk (HB.out.trans (hBq.mono HB.out.size))
  clear hV1 hB1 hBq hVz kk p0 p1 p2 p3
  have HPP := HP.out
  have hle' := HLE.out
  cases dn with
  | true =>
    rw [if_pos rfl] at HPP
    obtain ⟨rfl, rfl⟩ := Prod.mk.inj (Option.some.inj HPP)
    clear HPP HP hle'
    have k21 : (wz.setRow c (cellsS s1 vO1 vU1)).cell? ⟨b, 21, none⟩ = some vU := HS.out.cell 21
    have k23 : (wz.setRow c (cellsS s1 vO1 vU1)).cell? ⟨b, 23, none⟩ = some (.int .i64 s.steps) := HS.out.cell 23
    obtain ⟨AL, cL, rfl⟩ := Kd.R_slice HL.out
    obtain ⟨AU, cU, rfl⟩ := Kd.R_slice HV.out.out
    have hHH := HH.out
    try simp only at hHH
    by_cases hre : re = e1'
    case neg =>
      rw [if_neg hre] at hHH
      obtain rfl := Option.some.inj hHH
      have hd1 : (re == e1') = false := beq_eq_false_iff_ne.2 hre
      have hd2 : decide (re = e1') = false := decide_eq_false hre
      clear hHH
      go_wp2_with (skip; refine wpList_store_row rfl 39 (.tmp 10) (.tmp 35) rfl c (cellsS s1 vO1 vU1) rfl rfl 39 _ hzb (by kernel_rfl) rfl hone ?_)
      go_ret
      exact ⟨rfl, by have q := HB1.out.trans (HB.out.mono (show w.heap.size ≤ W1.heap.size by have := HB1.out.size; omega)); first | exact q | (rw [hG] at q; exact q)⟩
    case pos =>
      rw [if_pos hre] at hHH
      subst hre
      obtain ⟨nq, hnq, hHH⟩ := Option.bind_eq_some_iff.1 hHH
      have HNQ := Aside0.mk hnq
      have HFI := Aside0.mk hHH
      clear hnq hHH
      go_upto_region 999 with (skip; refine wpList_store_row rfl 39 (.tmp 10) (.tmp 35) rfl c (cellsS s1 vO1 vU1) rfl rfl 39 _ hzb (by kernel_rfl) rfl hone ?_)
      refine (lockstitchref06_Nums.calls k AL cL rl AU cU s.out nq (wz.setRow c (cellsS s1 vO1 vU1)) (Kd.C_below (Kd.R_reads' HL.out).2.2 HB.out) (Kd.R_reads' HL.out).2.1 (Kd.R_reads' HV.out.out).2.2 (Kd.R_reads' HV.out.out).2.1 HNQ.out).mono ?_
      rintro e wn ⟨rfl, hbn⟩
      replace hbn : Below (wz.setRow c (cellsS s1 vO1 vU1)).heap.size (wz.setRow c (cellsS s1 vO1 vU1)) wn := by first | exact hbn | exact hbn.below
      have m23 : wn.cell? ⟨b, 23, none⟩ = some (.int .i64 s.steps) := (World.cell?_of_block (a := ⟨b, 23, none⟩) (hbn.block b HS.out.lt)).trans k23
      have HBN := Aside0.mk (HB1.out.trans ((HB.out.trans (hbn.mono HB.out.size)).mono (show w.heap.size ≤ W1.heap.size by have := HB1.out.size; omega)))
      clear hbn k21 k23
      cases nq with
      | false =>
        obtain rfl := Option.some.inj HFI.out
        go_wp2
        go_ret
        exact ⟨rfl, by have q := HBN.out; first | exact q | (rw [hG] at q; exact q)⟩
      | true =>
        obtain rfl := Option.some.inj HFI.out
        go_wp2
        go_ret
        exact ⟨rfl, by have q := HBN.out; first | exact q | (rw [hG] at q; exact q)⟩
  | false =>
    rw [if_neg (by decide)] at HPP
    by_cases he1 : e1' = 0
    case neg =>
      have hb2 : (e1' == 0) = false := beq_eq_false_iff_ne.2 he1
      have hb3 : (e1' != 0) = true := by simp [he1]
      rw [if_neg he1] at HPP
      obtain ⟨rfl, rfl⟩ := Prod.mk.inj (Option.some.inj HPP)
      clear HPP HP hle'
      have k21 : (wz.setRow c (cellsS s1 vO1 vU1)).cell? ⟨b, 21, none⟩ = some vU := HS.out.cell 21
      have k23 : (wz.setRow c (cellsS s1 vO1 vU1)).cell? ⟨b, 23, none⟩ = some (.int .i64 s.steps) := HS.out.cell 23
      obtain ⟨AL, cL, rfl⟩ := Kd.R_slice HL.out
      obtain ⟨AU, cU, rfl⟩ := Kd.R_slice HV.out.out
      have hHH := HH.out
      try simp only at hHH
      by_cases hre : re = e1'
      case neg =>
        rw [if_neg hre] at hHH
        obtain rfl := Option.some.inj hHH
        have hd1 : (re == e1') = false := beq_eq_false_iff_ne.2 hre
        have hd2 : decide (re = e1') = false := decide_eq_false hre
        clear hHH
        go_wp2_with (skip; refine wpList_store_row rfl 39 (.tmp 10) (.tmp 35) rfl c (cellsS s1 vO1 vU1) rfl rfl 39 _ hzb (by kernel_rfl) rfl hone ?_)
        go_ret
        exact ⟨rfl, by have q := HB1.out.trans (HB.out.mono (show w.heap.size ≤ W1.heap.size by have := HB1.out.size; omega)); first | exact q | (rw [hG] at q; exact q)⟩
      case pos =>
        rw [if_pos hre] at hHH
        subst hre
        obtain ⟨nq, hnq, hHH⟩ := Option.bind_eq_some_iff.1 hHH
        have HNQ := Aside0.mk hnq
        have HFI := Aside0.mk hHH
        clear hnq hHH
        go_upto_region 999 with (skip; refine wpList_store_row rfl 39 (.tmp 10) (.tmp 35) rfl c (cellsS s1 vO1 vU1) rfl rfl 39 _ hzb (by kernel_rfl) rfl hone ?_)
        refine (lockstitchref06_Nums.calls k AL cL rl AU cU s.out nq (wz.setRow c (cellsS s1 vO1 vU1)) (Kd.C_below (Kd.R_reads' HL.out).2.2 HB.out) (Kd.R_reads' HL.out).2.1 (Kd.R_reads' HV.out.out).2.2 (Kd.R_reads' HV.out.out).2.1 HNQ.out).mono ?_
        rintro e wn ⟨rfl, hbn⟩
        replace hbn : Below (wz.setRow c (cellsS s1 vO1 vU1)).heap.size (wz.setRow c (cellsS s1 vO1 vU1)) wn := by first | exact hbn | exact hbn.below
        have m23 : wn.cell? ⟨b, 23, none⟩ = some (.int .i64 s.steps) := (World.cell?_of_block (a := ⟨b, 23, none⟩) (hbn.block b HS.out.lt)).trans k23
        have HBN := Aside0.mk (HB1.out.trans ((HB.out.trans (hbn.mono HB.out.size)).mono (show w.heap.size ≤ W1.heap.size by have := HB1.out.size; omega)))
        clear hbn k21 k23
        cases nq with
        | false =>
          obtain rfl := Option.some.inj HFI.out
          go_wp2
          go_ret
          exact ⟨rfl, by have q := HBN.out; first | exact q | (rw [hG] at q; exact q)⟩
        | true =>
          obtain rfl := Option.some.inj HFI.out
          go_wp2
          go_ret
          exact ⟨rfl, by have q := HBN.out; first | exact q | (rw [hG] at q; exact q)⟩
    case pos =>
    subst he1
    rw [if_pos rfl] at HPP
    have hi' : wrap64 (i + 1) = i + 1 := by have := HI.out; unfold wrap64; omega
    have HI2 := Lib.hid hi'
    by_cases hlt : i < fuel
    case pos =>
      have hdl : decide (i < fuel) = true := decide_eq_true hlt
      rw [if_pos hlt] at HPP
      have HNEXT := Aside0.mk HPP
      have HII := Aside0.mk (show 0 ≤ wrap64 (i + 1) ∧ wrap64 (i + 1) ≤ fuel + 1 by rw [hi']; have := HI.out; omega)
      have kb := HS.out.blk
      have kc := HS1.out.blk
      have HSn := Aside0.mk (show StR b s1 vO1 vU1 ((wz.setRow c (cellsS s1 vO1 vU1)).setRow b (cellsS s1 vO1 vU1)) from ⟨setRow_at kb _⟩)
      have HVn := Aside0.mk (HV1.out.setRow kb (cellsS s1 vO1 vU1))
      have HBn := Aside0.mk (setRow_below HB.out hlowb (cellsS s1 vO1 vU1))
      clear HPP HP hle' hlt hi' HS HV HB HS1 HV1 HI
      go_wp2_with (first | ((with_reducible refine gate_dst (N := 48) rfl ?_); refine wpList_load_row rfl 39 (.tmp 10) rfl c rfl 39 (cellsS s1 vO1 vU1) (0, 0) _ kc Tryd.underlying39 rfl (by kernel_rfl) ?_) | (skip; refine wpList_store_row rfl 39 (.tmp 10) (.tmp 35) rfl c (cellsS s1 vO1 vU1) rfl rfl 39 _ hzb (by kernel_rfl) rfl hone ?_) | (skip; refine wpList_store_row rfl 39 (.tmp 7) (.tmp 48) rfl b (cellsS s1 vO1 vU1) rfl rfl 39 _ kb (by kernel_rfl) rfl hone ?_))
      go_roundg gk
      case measure => omega
      case rel => exact ⟨s1, _, _, _, rfl, rfl, HNEXT, HII, HSn, HVn, HBn⟩
    case neg =>
      have hdl : decide (i < fuel) = false := decide_eq_false hlt
      rw [if_neg hlt] at HPP
      have HNEXT := Aside0.mk HPP
      have HII := Aside0.mk (show 0 ≤ wrap64 (i + 1) ∧ wrap64 (i + 1) ≤ fuel + 1 by rw [hi']; have := HI.out; omega)
      clear HPP HP hle' hlt hi' HS1 HV1 HI
      go_wp2_with (skip; refine wpList_store_row rfl 39 (.tmp 10) (.tmp 35) rfl c (cellsS s1 vO1 vU1) rfl rfl 39 _ hzb (by kernel_rfl) rfl hone ?_)
      go_roundg gk
      case measure => omega
      case rel => exact ⟨s, _, _, _, rfl, rfl, HNEXT, HII, HS, HV, HB⟩
end Go.Proofs.YtlemecdddhdagaaDoor.P
