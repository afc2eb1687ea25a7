/-
  model.Run.
-/
import Derived.Test.YtlemecdddhdagaaDoorGivenY
import Derived.Test.YtlemecdddhdagaaDoorPx4
import Derived.Deep.LoopGhost
namespace Go.Proofs.YtlemecdddhdagaaDoor.P
open Go.RowKit Go.Proofs.YtlemecdddhdagaaDoorW.PrintWords Go.Proofs.YtlemecdddhdagaaDoorW.PrintLast Go.Proofs.YtlemecdddhdagaaDoorW.PrintMore
set_option linter.unusedVariables false
set_option linter.unusedSimpArgs false
attribute [local go_sem ↓] Go.wp_at_zero Go.wp_at_succ

def St0 : St := ⟨fun _ => 0, fun _ => 0, fun _ => 0, [], [], 0, 0⟩
def runL (sz : Int → Option Int) (code : List S55) : Nat → St → Int → Option (List Int × Int)
  | 0, _, _ => none
  | k + 1, s, fuel =>
    if s.pc < code.length then
      if 0 ≤ s.pc then (doF sz s (rd_T55 code s.pc)).bind fun t =>
        if s.out.length ≤ t.1.out.length then
          if t.2 = 0 then if fuel = 0 then some (t.1.out.take s.out.length, 10) else runL sz code k t.1 (wrap64 (fuel - 1))
          else some (t.1.out.take s.out.length, t.2)
        else none
      else none
    else some (s.out, 0)
def model_Run.f (k : Nat) (l0 : List ByteArray) (a1 a2 : ByteArray) (l3 : List S55) (fuel : Int) : Option (List Int × Int) :=
  (check_Check.f k l0 a1 a2 l3).bind fun c => if c.2 = 0 then if fuel < 0 then some ([], 2) else runL (szF k l0 a1 a2 l3) l3 k St0 fuel else some ([], 2)

theorem OwnM.drew {base b : Nat} {s : St} {w : World} (h : OwnM base b s w) : OwnM base b s w.drew := by
  obtain ⟨hb, vO, vU, h1, h2⟩ := h
  exact ⟨hb, vO, vU, h1.of_block rfl, h2.move (fun _ _ _ => rfl) rfl rfl⟩
theorem doF_mono {sz sz' : Int → Option Int} (h : ∀ a, LeO (sz a) (sz' a)) (s : St) (i : S55) : LeO (doF sz s i) (doF sz' s i) := by
  unfold doF doX
  repeat' first
      | (with_reducible exact LeO.refl _)
      | (with_reducible refine LeO.ite ?_ ?_)
      | (with_reducible refine LeO.bind (h _) (fun _ => ?_))
theorem runL_mono {sz sz' : Int → Option Int} (h : ∀ a, LeO (sz a) (sz' a)) (code : List S55) : ∀ (k : Nat) (s : St) (fuel : Int), LeO (runL sz code k s fuel) (runL sz' code (k + 1) s fuel)
  | 0, _, _ => LeO.none _
  | k + 1, s, fuel => by
    rw [runL, runL]
    repeat' first
      | (with_reducible exact runL_mono h code k _ _)
      | (with_reducible exact LeO.refl _)
      | (with_reducible refine LeO.ite ?_ ?_)
      | (with_reducible refine LeO.bind (doF_mono h _ _) (fun _ => ?_))
theorem model_Run.mono (l0 : List ByteArray) (a1 a2 : ByteArray) (l3 : List S55) (fuel : Int) (k : Nat) : LeO (model_Run.f k l0 a1 a2 l3 fuel) (model_Run.f (k + 1) l0 a1 a2 l3 fuel) := by
  unfold model_Run.f
  refine LeO.bind (check_Check.mono _ _ _ _ _) fun c => LeO.ite (LeO.ite (LeO.refl _) (runL_mono (fun a => ?_) _ _ _ _)) (LeO.refl _)
  exact LeO.bind (check_Local.mono _ _ _ _ _ _) fun t => kind_Size.mono _ _ _

set_option maxRecDepth 100000 in
set_option maxHeartbeats 3200000 in
theorem model_Run.calls (k : Nat) (A0 : Option Addr) (c0 : Nat) (l0 : List ByteArray) (a1 a2 : ByteArray) (A3 : Option Addr) (c3 : Nat) (l3 : List S55) (fuel : Int) (r1 : List Int) (r2 : Int) (w : World) (hr0 : Kd.C Kd.string w A0 l0.length l0) (hc0 : l0.length ≤ c0) (hr3 : Kd.C k55 w A3 l3.length l3) (hc3 : l3.length ≤ c3) (hrT : Kd.C Kd.string w tabA tabL.length tabL) (h : model_Run.f k l0 a1 a2 l3 fuel = some (r1, r2)) :
    Calls Tryd.prog 12 #[.agg #[.slice A0 l0.length c0, .string a1, .string a2, .slice A3 l3.length c3], .int .i64 fuel] w fun e w' => ∃ v0_, e = .returned (.tuple #[v0_, .int .i64 r2]) ∧ Kd.R (Kd.int .i64) 2 w' w.heap.size (fun _ => True) v0_ r1 ∧ Below w.heap.size w w' := by
  obtain ⟨⟨e1, e2⟩, hchk, h1⟩ := Option.bind_eq_some_iff.1 h
  obtain ⟨wb, hwb⟩ : ∃ wb, w.alloc (.cells #[.slice A0 l0.length c0, .string a1, .string a2, .slice A3 l3.length c3] 25) = wb := ⟨_, rfl⟩
  have hB1 : Below w.heap.size w wb := by rw [← hwb]; exact (Below.refl _ w).alloc (Nat.le_refl _) _
  obtain ⟨G, hG⟩ : ∃ G, w.heap.size = G := ⟨_, rfl⟩
  have hP1 : ∀ (j : Nat) (v : Value), (#[.slice A0 l0.length c0, .string a1, .string a2, .slice A3 l3.length c3] : Array Value)[j]? = some v → wb.cell? ⟨G, j, none⟩ = some v := by
    intro j v hv
    have e : wb.heap[G]? = some (.cells #[.slice A0 l0.length c0, .string a1, .string a2, .slice A3 l3.length c3] 25 (0, 0)) := by rw [← hwb, ← hG]; exact heap_alloc_new w _
    simp only [World.cell?, e]
    exact hv
  have hs1 : G < wb.heap.size := by rw [← hwb, ← hG]; simp
  have HH := Aside0.mk h1
  have HR0 := Aside0.mk (Kd.C_below hr0 hB1)
  have HR3 := Aside0.mk (Kd.C_below hr3 hB1)
  have HRT := Aside0.mk (Kd.C_below hrT hB1)
  have HCK := Aside0.mk hchk
  have HB1 := Aside0.mk hB1
  have p0 : wb.cell? ⟨G, 0, none⟩ = some (.slice A0 l0.length c0) := hP1 0 _ rfl
  have p1 : wb.cell? ⟨G, 1, none⟩ = some (.string a1) := hP1 1 _ rfl
  have p2 : wb.cell? ⟨G, 2, none⟩ = some (.string a2) := hP1 2 _ rfl
  have p3 : wb.cell? ⟨G, 3, none⟩ = some (.slice A3 l3.length c3) := hP1 3 _ rfl
  clear h1 h hr0 hr3 hrT hchk hB1 hP1
  go_enter Tryd.func12, Tryd.ntmps12
  go_upto_region 999 with (fail)
  refine (check_Check.calls k A0 c0 l0 a1 a2 A3 c3 l3 e1 e2 wb HR0.out hc0 HR3.out hc3 HRT.out HCK.out).mono ?_
  rintro e W1 ⟨rfl, hb1⟩
  have q0 : W1.cell? ⟨G, 0, none⟩ = some (.slice A0 l0.length c0) := (World.cell?_of_block (a := ⟨G, 0, none⟩) (hb1.block G hs1)).trans p0
  have q1 : W1.cell? ⟨G, 1, none⟩ = some (.string a1) := (World.cell?_of_block (a := ⟨G, 1, none⟩) (hb1.block G hs1)).trans p1
  have q2 : W1.cell? ⟨G, 2, none⟩ = some (.string a2) := (World.cell?_of_block (a := ⟨G, 2, none⟩) (hb1.block G hs1)).trans p2
  have q3 : W1.cell? ⟨G, 3, none⟩ = some (.slice A3 l3.length c3) := (World.cell?_of_block (a := ⟨G, 3, none⟩) (hb1.block G hs1)).trans p3
  replace HR0 := Aside0.mk (Kd.C_below HR0.out hb1)
  replace HR3 := Aside0.mk (Kd.C_below HR3.out hb1)
  have hs2 : G < W1.heap.size := Nat.lt_of_lt_of_le hs1 hb1.size
  replace HB1 := Aside0.mk (show Below w.heap.size w W1 from HB1.out.trans (hb1.mono (by omega)))
  clear hb1 HRT HCK p0 p1 p2 p3 hwb hs1
  by_cases he2 : e2 = 0
  case neg =>
    have hb2 : (e2 == 0) = false := beq_eq_false_iff_ne.2 he2
    have hb3 : (e2 != 0) = true := by simp [he2]
    have hb4 : decide (e2 = 0) = false := decide_eq_false he2
    have HH2 : Aside0 (some (([] : List Int), (2 : Int)) = some (r1, r2)) := ⟨(if_neg he2).symm.trans HH.out⟩
    obtain ⟨rfl, rfl⟩ := Prod.mk.inj (Option.some.inj HH2.out)
    clear HH HH2
    go_wp2
    go_ret2
    exact ⟨_, rfl, Kd.R_nil _ _ _ _ _, HB1.out⟩
  case pos =>
  replace HH := Aside0.mk ((if_pos he2).symm.trans HH.out)
  subst he2
  by_cases hf : fuel < 0
  · have HH2 : Aside0 (some (([] : List Int), (2 : Int)) = some (r1, r2)) := ⟨(if_pos hf).symm.trans HH.out⟩
    obtain ⟨rfl, rfl⟩ := Prod.mk.inj (Option.some.inj HH2.out)
    clear HH HH2
    go_wp2
    go_ret2
    exact ⟨_, rfl, Kd.R_nil _ _ _ _ _, HB1.out⟩
  have hf' : decide (fuel < 0) = false := decide_eq_false hf
  have HH2 : Aside0 (runL (szF k l0 a1 a2 l3) l3 k St0 fuel = some (r1, r2)) := ⟨(if_neg hf).symm.trans HH.out⟩
  clear HH hf
  obtain ⟨b, hb⟩ : ∃ b, W1.heap.size = b := ⟨_, rfl⟩
  obtain ⟨Wz, hWz⟩ : ∃ Wz, W1.alloc (.cells (cellsS St0 (.slice none 0 0) (.slice none 0 0)) 39) = Wz := ⟨_, rfl⟩
  have hM0 : OwnM W1.heap.size b St0 Wz := by
    refine ⟨Nat.le_of_eq hb, .slice none 0 0, .slice none 0 0, ⟨?_⟩, ⟨Kd.S_nil _ _ _ _ _, Kd.R_nil _ _ _ _ _⟩⟩
    rw [← hWz, ← hb]
    exact heap_alloc_new W1 _
  have hBz : Below W1.heap.size W1 Wz := by rw [← hWz]; exact (Below.refl _ W1).alloc (Nat.le_refl _) _
  have HMz := Aside0.mk hM0
  have HBz := Aside0.mk hBz
  clear hM0 hBz
  unfold cellsS St0 at hWz
  go_wp2
  have Q0 := Lib.hid q0
  have Q1 := Lib.hid q1
  have Q2 := Lib.hid q2
  have Q3 := Lib.hid q3
  clear q0 q1 q2 q3 hf' hWz
  have hG2 := hs2
  go_loopg [1] k (fun kq fv wr => ∃ (s : St) (fu : Int), fv = .int .i64 fu ∧ Aside0 (runL (szF k l0 a1 a2 l3) l3 kq s fu = some (r1, r2)) ∧ Aside0 (OwnM W1.heap.size b s wr) ∧ Aside0 (Below W1.heap.size W1 wr))
  case atStart => exact ⟨_, _, rfl, HH2, HMz, HBz⟩
  case round =>
  clear HH2 HMz HBz Wz
  obtain ⟨s, fu, rfl, HH, HM, HB⟩ := hrel
  cases gk with
  | zero => exact absurd HH.out (by simp [runL])
  | succ gk =>
  have p0 : wr.cell? ⟨G, 0, none⟩ = some (.slice A0 l0.length c0) := (HB.out.cell (p := ⟨G, 0, none⟩) hG2).trans Q0.out
  have p1 : wr.cell? ⟨G, 1, none⟩ = some (.string a1) := (HB.out.cell (p := ⟨G, 1, none⟩) hG2).trans Q1.out
  have p2 : wr.cell? ⟨G, 2, none⟩ = some (.string a2) := (HB.out.cell (p := ⟨G, 2, none⟩) hG2).trans Q2.out
  have p3 : wr.cell? ⟨G, 3, none⟩ = some (.slice A3 l3.length c3) := (HB.out.cell (p := ⟨G, 3, none⟩) hG2).trans Q3.out
  have hG3 := Lib.hid hG2
  clear hG2 hs2
  obtain ⟨hlow, vO, vU, hst, hRows⟩ := HM.out
  obtain ⟨AU, cU, rfl⟩ := Kd.R_slice hRows.out
  have cpc : wr.cell? ⟨b, 22, none⟩ = some (.int .i64 s.pc) := hst.cell 22
  have c21 : wr.cell? ⟨b, 21, none⟩ = some (.slice AU s.out.length cU) := hst.cell 21
  have HRW := Lib.hid hRows
  have hH := HH.out
  rw [runL] at hH
  clear hst hRows HH
  by_cases hlt : s.pc < l3.length
  case neg =>
    rw [if_neg hlt] at hH
    obtain ⟨rfl, rfl⟩ := Prod.mk.inj (Option.some.inj hH)
    have hlt' : decide (s.pc < (l3.length : Int)) = false := decide_eq_false hlt
    clear hH hlt
    go_wp2
    go_ret2
    refine ⟨_, rfl, ?_, HB1.out.trans (HB.out.mono (by have := hG3.out; omega))⟩
    exact Kd.R_lower (Kd.R_mono HRW.out.out (fun _ _ => trivial)) (by have := hG3.out; omega)
  rw [if_pos hlt] at hH
  by_cases hp0 : 0 ≤ s.pc
  case neg =>
    rw [if_neg hp0] at hH
    cases hH
  rw [if_pos hp0] at hH
  obtain ⟨⟨s5, e5⟩, hD, hH⟩ := Option.bind_eq_some_iff.1 hH
  simp only at hH
  have HD := Aside0.mk hD
  clear hD
  split at hH
  case isFalse => cases hH
  rename_i hlen
  have HH := Aside0.mk hH
  have hlen := Lib.hid hlen
  clear hH
  have hlt' : decide (s.pc < (l3.length : Int)) = true := decide_eq_true hlt
  obtain ⟨ad, hA, d0, d1, d2, d3, d4⟩ := at_T55 (Kd.C_below HR3.out HB.out) s.pc hp0 hlt
  subst hA
  have j0 : (0 ≤ s.pc) = True := eq_true hp0
  have j1 : (s.pc < (l3.length : Int)) = True := eq_true hlt
  clear hlt hp0
  go_wp2
  refine wp_region_noPanic ?_
  refine start_ (n := 9) (S := fun w' => w'.cell? ⟨G, 0, none⟩ = some (.slice A0 l0.length c0) ∧ w'.cell? ⟨G, 1, none⟩ = some (.string a1) ∧ w'.cell? ⟨G, 2, none⟩ = some (.string a2) ∧ w'.cell? ⟨G, 3, none⟩ = some (.slice (some ad) l3.length c3) ∧ w'.cell? ⟨b, 22, none⟩ = some (.int .i64 s.pc) ∧ w'.cell? (ad.add (s.pc.toNat * 5)) = some (.int .u8 (rd_T55 l3 s.pc).f0) ∧ w'.cell? ⟨(ad.add (s.pc.toNat * 5)).block, (ad.add (s.pc.toNat * 5)).off + 1, none⟩ = some (.int .u8 (rd_T55 l3 s.pc).f1) ∧ w'.cell? ⟨(ad.add (s.pc.toNat * 5)).block, (ad.add (s.pc.toNat * 5)).off + 2, none⟩ = some (.int .u8 (rd_T55 l3 s.pc).f2) ∧ w'.cell? ⟨(ad.add (s.pc.toNat * 5)).block, (ad.add (s.pc.toNat * 5)).off + 3, none⟩ = some (.int .u8 (rd_T55 l3 s.pc).f3) ∧ w'.cell? ⟨(ad.add (s.pc.toNat * 5)).block, (ad.add (s.pc.toNat * 5)).off + 4, none⟩ = some (.int .i64 (rd_T55 l3 s.pc).f4)) (ds := [7, 8]) #[false, false, false, false, false, false, false, false, false] (by kernel_rfl) rfl rfl ⟨p0, p1, p2, p3, cpc, d0, d1, d2, d3, d4⟩ (fun hHeld => ?_)
  clear p0 p1 p2 p3 cpc d0 d1 d2 d3 d4 c21
  have HM2 := Aside0.mk (HM.out.drew)
  have HB2 := Aside0.mk (show Below W1.heap.size W1 wr.drew from HB.out.drew)
  clear HM HB
  generalize wr.drew = wy at HM2 HB2 hHeld ⊢
  refine take_ (i := 0) (N := some 33) (v := ?_) (a' := ?_) #[true, false, false, false, false, false, false, false, false] rfl rfl (by kernel_rfl) (fun _ _ _ h => h) (Or.inl ⟨by rfl, ?_⟩) hHeld ?_ ?_
  rotate_left
  · rintro w' ⟨p0_, p1_, p2_, p3_, cpc_, d0_, d1_, d2_, d3_, d4_⟩
    go_simp
    with_reducible rfl
  rotate_left
  · simp only [Act.put, List.setIfInBounds_toArray, List.set_cons_zero, List.set_cons_succ, i64_w, i32_w]
    rfl
  refine pure_ (i := 1) (N := some 34) (v := ?_) (a' := ?_) #[true, true, false, false, false, false, false, false, false] rfl rfl (by kernel_rfl) (fun _ _ _ h => h) (Or.inl ⟨by rfl, ?_⟩) ?_ ?_
  rotate_left
  · intro w'
    go_simp
    with_reducible rfl
  rotate_left
  · simp only [Act.put, List.setIfInBounds_toArray, List.set_cons_zero, List.set_cons_succ, i64_w, i32_w]
    rfl
  refine take_ (i := 2) (N := some 35) (v := ?_) (a' := ?_) #[true, true, true, false, false, false, false, false, false] rfl rfl (by kernel_rfl) (fun _ _ _ h => h) (Or.inl ⟨by rfl, ?_⟩) hHeld ?_ ?_
  rotate_left
  · rintro w' ⟨p0_, p1_, p2_, p3_, cpc_, d0_, d1_, d2_, d3_, d4_⟩
    go_simp
    with_reducible rfl
  rotate_left
  · simp only [Act.put, List.setIfInBounds_toArray, List.set_cons_zero, List.set_cons_succ, i64_w, i32_w]
    rfl
  refine pure_ (i := 3) (N := some 36) (v := ?_) (a' := ?_) #[true, true, true, true, false, false, false, false, false] rfl rfl (by kernel_rfl) (fun _ _ _ h => h) (Or.inl ⟨by rfl, ?_⟩) ?_ ?_
  rotate_left
  · intro w'
    go_simp
    with_reducible rfl
  rotate_left
  · simp only [Act.put, List.setIfInBounds_toArray, List.set_cons_zero, List.set_cons_succ, i64_w, i32_w]
    rfl
  refine take_ (i := 4) (N := some 37) (v := ?_) (a' := ?_) #[true, true, true, true, true, false, false, false, false] rfl rfl (by kernel_rfl) (fun _ _ _ h => h) (Or.inl ⟨by rfl, ?_⟩) hHeld ?_ ?_
  rotate_left
  · rintro w' ⟨p0_, p1_, p2_, p3_, cpc_, d0_, d1_, d2_, d3_, d4_⟩
    go_simp
    with_reducible rfl
  rotate_left
  · simp only [Act.put, List.setIfInBounds_toArray, List.set_cons_zero, List.set_cons_succ, i64_w, i32_w]
    rfl
  refine pure_ (i := 5) (N := some 38) (v := ?_) (a' := ?_) #[true, true, true, true, true, true, false, false, false] rfl rfl (by kernel_rfl) (fun _ _ _ h => h) (Or.inl ⟨by rfl, ?_⟩) ?_ ?_
  rotate_left
  · intro w'
    go_simp
    with_reducible rfl
  rotate_left
  · simp only [Act.put, List.setIfInBounds_toArray, List.set_cons_zero, List.set_cons_succ, i64_w, i32_w]
    rfl
  refine take_ (i := 6) (N := some 39) (v := ?_) (a' := ?_) #[true, true, true, true, true, true, true, false, false] rfl rfl (by kernel_rfl) (fun _ _ _ h => h) (Or.inl ⟨by rfl, ?_⟩) hHeld ?_ ?_
  rotate_left
  · rintro w' ⟨p0_, p1_, p2_, p3_, cpc_, d0_, d1_, d2_, d3_, d4_⟩
    go_simp
    with_reducible rfl
  rotate_left
  · simp only [Act.put, List.setIfInBounds_toArray, List.set_cons_zero, List.set_cons_succ, i64_w, i32_w]
    rfl
  refine last_ (i := 7) (N := some 40) #[true, true, true, true, true, true, true, true, false] rfl rfl (by kernel_rfl) (by decide) (fun K hK => ?_)
  refine goes_ Tryd.func22 (by kernel_rfl) rfl #[.pointer (some ⟨b, 0, none⟩), .agg #[.slice A0 l0.length c0, .string a1, .string a2, .slice (some ad) l3.length c3], .agg #[.int .u8 (rd_T55 l3 s.pc).f0, .int .u8 (rd_T55 l3 s.pc).f1, .int .u8 (rd_T55 l3 s.pc).f2, .int .u8 (rd_T55 l3 s.pc).f3, .int .i64 (rd_T55 l3 s.pc).f4]] (by rfl) rfl rfl (by (try simp only [List.map_toArray, List.map_cons, List.map_nil]); rfl) ?_
  refine (do_all HB2.out HR0.out hc0 HR3.out hc3 HM2.out (rd_T55 l3 s.pc) HD.out).mono ?_
  rintro e w5 ⟨rfl, hm5, hb5⟩
  have HM5 := Aside0.mk hm5
  have HB5 := Aside0.mk (HB2.out.trans hb5)
  clear HM2 HB2 hm5 hb5 hHeld
  refine ⟨_, rfl, ?_⟩
  refine hK.out _ _ ?_
  clear hK K
  refine norm_ (a' := ?_) ?_ ?_
  rotate_left
  · show Act.put _ (some 40) _ = _
    simp only [Act.put, List.setIfInBounds_toArray, List.set_cons_zero, List.set_cons_succ, i64_w, i32_w]
    rfl
  refine last_ (i := 8) (N := some 10) #[true, true, true, true, true, true, true, true, true] rfl rfl (by kernel_rfl) (by decide) (fun K hK => ?_)
  refine value_ (w1 := w5) (v := .int .i64 e5) (by rfl) rfl (by go_simp) ?_
  refine hK.out _ _ ?_
  clear hK K
  refine norm_ (a' := ?_) ?_ ?_
  rotate_left
  · show Act.put _ (some 10) _ = _
    simp only [Act.put, List.setIfInBounds_toArray, List.set_cons_zero, List.set_cons_succ, i64_w, i32_w]
    rfl
  refine done_ (by kernel_rfl) ?_
  refine NoPanic.normal ?_
  obtain ⟨hlow5, vO5, vU5, hst5, hRows5⟩ := HM5.out
  obtain ⟨AU5, cU5, rfl⟩ := Kd.R_slice hRows5.out
  have k21 : w5.cell? ⟨b, 21, none⟩ = some (.slice AU5 s5.out.length cU5) := hst5.cell 21
  have HU5 := Lib.hid hRows5.out
  have hcap : s5.out.length ≤ cU5 := (Kd.R_reads' hRows5.out).2.1
  have hcut : ((s.out.length : Int) ≤ (cU5 : Int)) = True := eq_true (by have := hlen.out; omega)
  have hcut0 : (0 ≤ (s.out.length : Int)) = True := eq_true (by omega)
  clear hst5 hRows5 hcap
  by_cases he5 : e5 = 0
  case neg =>
    have hb2 : (e5 == 0) = false := beq_eq_false_iff_ne.2 he5
    have hb3 : (e5 != 0) = true := by simp [he5]
    have hb4 : decide (e5 = 0) = false := decide_eq_false he5
    have HH2 : Aside0 (some (s5.out.take s.out.length, e5) = some (r1, r2)) := ⟨(if_neg he5).symm.trans HH.out⟩
    obtain ⟨rfl, rfl⟩ := Prod.mk.inj (Option.some.inj HH2.out)
    clear HH HH2
    go_wp2
    go_ret2
    refine ⟨_, rfl, ?_, by have q := HB1.out.trans (HB5.out.mono (show w.heap.size ≤ W1.heap.size by have := hG3.out; omega)); first | exact q | (rw [hG] at q; exact q)⟩
    exact Kd.R_lower (Kd.R_mono (Kd.R_take HU5.out hlen.out) (fun _ _ => trivial)) (by have := hG3.out; omega)
  case pos =>
  subst he5
  have HH2 : Aside0 ((if fu = 0 then some (s5.out.take s.out.length, (10 : Int)) else runL (szF k l0 a1 a2 l3) l3 gk s5 (wrap64 (fu - 1))) = some (r1, r2)) := ⟨(if_pos rfl).symm.trans HH.out⟩
  clear HH
  by_cases hfu : fu = 0
  case pos =>
    replace HH2 := Aside0.mk ((if_pos hfu).symm.trans HH2.out)
    subst hfu
    obtain ⟨rfl, rfl⟩ := Prod.mk.inj (Option.some.inj HH2.out)
    clear HH2
    go_wp2
    go_ret2
    refine ⟨_, rfl, ?_, by have q := HB1.out.trans (HB5.out.mono (show w.heap.size ≤ W1.heap.size by have := hG3.out; omega)); first | exact q | (rw [hG] at q; exact q)⟩
    exact Kd.R_lower (Kd.R_mono (Kd.R_take HU5.out hlen.out) (fun _ _ => trivial)) (by have := hG3.out; omega)
  case neg =>
    replace HH2 := Aside0.mk ((if_neg hfu).symm.trans HH2.out)
    have hb2 : (fu == 0) = false := beq_eq_false_iff_ne.2 hfu
    go_wp2
    go_roundg gk
    case measure => omega
    case rel => exact ⟨s5, _, rfl, HH2, HM5, HB5⟩
end Go.Proofs.YtlemecdddhdagaaDoor.P
