/-
  (State).own.
-/
import Derived.Test.YtlemecdddhdagaaDoorGivenO
import Derived.Test.YtlemecdddhdagaaDoorGivenZ
namespace Go.Proofs.YtlemecdddhdagaaDoor.P
open Go.RowKit Go.Proofs.YtlemecdddhdagaaDoorW.PrintWords Go.Proofs.YtlemecdddhdagaaDoorW.PrintLast Go.Proofs.YtlemecdddhdagaaDoorW.PrintMore
set_option linter.unusedVariables false
set_option linter.unusedSimpArgs false
attribute [local go_sem ↓] Go.wp_at_zero Go.wp_at_succ

/-- Not too much of anything. -/
structure Small (s : St) : Prop where
  objs : s.objs.length ≤ 1000000
  out : s.out.length ≤ 1000000
  each : ∀ j (hj : j < s.objs.length), (s.objs[j]).length ≤ 1000000

theorem wrap_up {i : Nat} (h : i ≤ 1000000) : wrap64 ((i : Int) + 1) = ((i + 1 : Nat) : Int) := by
  unfold wrap64
  omega
theorem setRow_at {w : World} {g t : Nat} {old : Array Value} (hg : w.heap[g]? = some (.cells old t (0, 0))) (cs : Array Value) : (w.setRow g cs).heap[g]? = some (.cells cs t (0, 0)) := by
  simp [World.setRow, Array.getElem?_modify, hg]
theorem setRow_far {w : World} {g : Nat} (cs : Array Value) (k : Nat) (hk : k ≠ g) : (w.setRow g cs).heap[k]? = w.heap[k]? := by
  simp only [World.setRow, Array.getElem?_modify]
  rw [if_neg (by omega)]
theorem setRow_below {B g : Nat} {w0 w : World} (hb : Below B w0 w) (hBg : B ≤ g) (cs : Array Value) : Below B w0 (w.setRow g cs) :=
  hb.trans ⟨rfl, rfl, rfl, by simp [World.setRow], fun k hk => setRow_far cs k (by omega)⟩
theorem RowsV.setRow {base g : Nat} {s : St} {vO vU : Value} {w : World} {old : Array Value} (h : RowsV base s vO vU w) (hg : w.heap[g]? = some (.cells old 39 (0, 0))) (cs : Array Value) : RowsV base s vO vU (w.setRow g cs) := by
  refine ⟨Kd.S_mono (Kd.S_step (Kd.S_types h.objs hg (by intro q hq; simp [Kd.slice, Kd.int, Kd.scalar] at hq; omega)) (fun k hk _ => setRow_far cs k hk.2)) (fun k hk => hk.1), Kd.R_mono (Kd.R_step (Kd.R_types h.out hg (by intro q hq; simp [Kd.int, Kd.scalar] at hq; omega)) (fun k hk _ => setRow_far cs k hk.2)) (fun k hk => trivial)⟩

set_option maxRecDepth 100000 in
set_option maxHeartbeats 3200000 in
theorem own_calls (s : St) (vO vU : Value) (bO bU : Nat) (okO okU : Nat → Prop) (w : World) (hS : Kd.S kRow 28 w bO okO vO s.objs) (hU : Kd.R (Kd.int .i64) 2 w bU okU vU s.out) (hsm : Small s) :
    Calls Tryd.prog 23 #[.agg (cellsS s vO vU)] w fun e w' => ∃ vO' vU', e = .returned (.agg (cellsS s vO' vU')) ∧ RowsV w.heap.size s vO' vU' w' ∧ Below w.heap.size w w' := by
  obtain ⟨hs0, hl0, hH0, hE0⟩ := heads_of (Kd.S_R hS)
  obtain ⟨G, hG⟩ : ∃ G, w.heap.size = G := ⟨_, rfl⟩
  obtain ⟨wa, hwa⟩ : ∃ wa, (w.alloc (.cells (cellsS s vO vU) 39)).alloc (.cells #[.int .i64 0, .int .i64 0, .int .i64 0, .int .i64 0, .int .i64 0, .int .i64 0, .int .i64 0, .int .i64 0, .int .i64 0, .int .i64 0, .int .i64 0, .int .i64 0, .int .i64 0, .int .i64 0, .int .i64 0, .int .i64 0, .int .i64 0, .int .i64 0, .int .i64 0, .int .i64 0, .slice none 0 0, .slice none 0 0, .int .i64 0, .int .i64 0] 39) = wa := ⟨_, rfl⟩
  have hBa : Below w.heap.size w wa := by rw [← hwa]; exact ((Below.refl _ w).alloc (Nat.le_refl _) _).alloc (by simp) _
  have hsa : wa.heap.size = G + 2 := by rw [← hwa, ← hG]; simp
  have hst : StR G s vO vU wa := ⟨by
    rw [← hwa, ← hG]
    rw [Below.heap_alloc _ _ _ (by simp)]
    exact heap_alloc_new w _⟩
  have hret : wa.heap[G + 1]? = some (.cells #[.int .i64 0, .int .i64 0, .int .i64 0, .int .i64 0, .int .i64 0, .int .i64 0, .int .i64 0, .int .i64 0, .int .i64 0, .int .i64 0, .int .i64 0, .int .i64 0, .int .i64 0, .int .i64 0, .int .i64 0, .int .i64 0, .int .i64 0, .int .i64 0, .int .i64 0, .int .i64 0, .slice none 0 0, .slice none 0 0, .int .i64 0, .int .i64 0] 39 (0, 0)) := by
    have := heap_alloc_new (w.alloc (.cells (cellsS s vO vU) 39)) (.cells #[.int .i64 0, .int .i64 0, .int .i64 0, .int .i64 0, .int .i64 0, .int .i64 0, .int .i64 0, .int .i64 0, .int .i64 0, .int .i64 0, .int .i64 0, .int .i64 0, .int .i64 0, .int .i64 0, .int .i64 0, .int .i64 0, .int .i64 0, .int .i64 0, .int .i64 0, .int .i64 0, .slice none 0 0, .slice none 0 0, .int .i64 0, .int .i64 0] 39)
    rw [hwa] at this
    rw [← hG]
    simpa using this
  have HS := Aside0.mk hst
  have HR := Aside0.mk hret
  have HB := Aside0.mk hBa
  have c21 : wa.cell? ⟨G, 21, none⟩ = some vU := hst.cell 21
  have f21 : wa.frozen? ⟨G, 21, none⟩ = false := hst.fr 21
  have HU := Aside0.mk (Kd.R_below hU hBa)
  have HH := Aside0.mk hH0
  have HE := Aside0.mk hE0
  have hFU := R_Form hU
  have hFO := R_Form hH0
  rw [hl0] at hFO
  clear hst hret hBa hU hS hH0 hE0
  go_enter Tryd.func23, Tryd.ntmps23
  go_upto_region 999 with (fail)
  refine (clone_int vU s.out hFU wa (fun A n c e => by subst e; exact (Kd.R_reads' HU.out).2.2) hsm.out).mono ?_
  rintro e w1 ⟨vU1, rfl, hU1, hB1⟩
  have HU1 := Lib.hid hU1
  have HB1 := Lib.hid hB1
  have g21 : w1.frozen? ⟨G, 21, none⟩ = false := (hB1.frozen (p := ⟨G, 21, none⟩) (by show G < _; omega)).trans f21
  have g21c : w1.cell? ⟨G, 21, none⟩ = some vU := (hB1.cell (p := ⟨G, 21, none⟩) (by show G < _; omega)).trans c21
  obtain ⟨AU, cU, rfl⟩ := Kd.R_slice hU1
  have HS1 := Aside0.mk ((HS.out.of_block (hB1.block G (by omega))).out_set (.slice AU s.out.length cU) s.out)
  obtain ⟨w2, hw2⟩ : ∃ w2, w1.setCell ⟨G, 21, none⟩ (.slice AU s.out.length cU) = w2 := ⟨_, rfl⟩
  have c20 : w2.cell? ⟨G, 20, none⟩ = some vO := by rw [← hw2]; exact HS1.out.cell 20
  have f20 : w2.frozen? ⟨G, 20, none⟩ = false := by rw [← hw2]; exact HS1.out.fr 20
  clear hU1 hB1 HU f21 c21
  have hs2' : wa.heap.size ≤ w2.heap.size := by have := HB1.out.size; rw [← hw2]; simpa [World.setCell] using this
  go_upto_region 999 with (fail)
  have hB02 : Below G w w2 := by
    rw [← hw2]
    have q := HB.out.trans (HB1.out.mono (show w.heap.size ≤ wa.heap.size by omega))
    rw [hG] at q
    exact q.setCell (p := ⟨G, 21, none⟩) (Nat.le_refl _) _
  have hs2 : wa.heap.size ≤ w2.heap.size := by
    have := HB1.out.size
    rw [← hw2]
    simpa [World.setCell] using this
  have HU2 := Aside0.mk (show Kd.R (Kd.int .i64) 2 w2 G (fun k => G < k ∧ k < w2.heap.size) (.slice AU s.out.length cU) s.out from by
    rw [← hw2]
    refine Kd.R_lower (Kd.R_mono (Kd.R_step (Kd.R_bound HU1.out) (fun k hk _ => Below.heap_setCell w1 ⟨G, 21, none⟩ _ k (by have := hk.2.1; intro he; simp only at he; omega))) (fun k hk => ⟨by have := hk.2.1; omega, by have := hk.2.2.1; simpa [World.setCell] using this⟩)) (by omega))
  have HS2 := Aside0.mk (show StR G s vO (.slice AU s.out.length cU) w2 from by rw [← hw2]; exact HS1.out)
  have HR2 := Aside0.mk (show w2.heap[G + 1]? = wa.heap[G + 1]? from by rw [← hw2]; exact (Below.heap_setCell w1 ⟨G, 21, none⟩ _ (G + 1) (by show G + 1 ≠ G; omega)).trans (HB1.out.block (G + 1) (by omega)))
  have HHw := Lib.hid hB02
  have HCO := Lib.hid (show ∀ A n c, vO = .slice A n c → Kd.C kH w A hs0.length hs0 from fun A n c e => by subst e; exact (Kd.R_reads' HH.out).2.2)
  rw [← hl0] at hFO
  refine (clone_heads vO hs0 hFO w2 (fun A n c e => Kd.C_below (HCO.out A n c e) (by rw [hG]; exact HHw.out)) (by have := hsm.objs; omega)).mono ?_
  rintro e w3 ⟨vO1, rfl, hO3, hB3⟩
  obtain ⟨AO, cO, e3⟩ := Kd.R_slice hO3
  rw [hl0] at e3
  subst e3
  have g20 : w3.frozen? ⟨G, 20, none⟩ = false := (hB3.frozen (p := ⟨G, 20, none⟩) (by show G < _; omega)).trans f20
  have g20c : w3.cell? ⟨G, 20, none⟩ = some vO := (hB3.cell (p := ⟨G, 20, none⟩) (by show G < _; omega)).trans c20
  have hs3 := hB3.size
  obtain ⟨w4, hw4⟩ : ∃ w4, w3.setCell ⟨G, 20, none⟩ (.slice AO s.objs.length cO) = w4 := ⟨_, rfl⟩
  have hs4 : w4.heap.size = w3.heap.size := by rw [← hw4]; simp [World.setCell]
  have far4 : ∀ k, k ≠ G → w4.heap[k]? = w3.heap[k]? := fun k hk => by rw [← hw4]; exact Below.heap_setCell w3 ⟨G, 20, none⟩ _ k hk
  have HL0 : Aside0 (OL G w2.heap.size w4.heap.size s (.slice AO s.objs.length cO) (.slice AU s.out.length cU) hs0 0 hs0 (fun _ => w4.heap.size) w w4) := by
    refine ⟨⟨?_, ?_, hl0, ?_, ⟨by omega, by omega⟩, rfl, fun _ => Nat.le_refl _, Nat.le_refl _, fun j _ hj => absurd hj (Nat.not_lt_zero j), fun _ _ => rfl, ?_⟩⟩
    · rw [← hw4]
      exact (HS2.out.of_block (hB3.block G (by omega))).objs_set _ s.objs
    · refine Kd.R_mono (Kd.R_step (Kd.R_bound hO3) (fun k hk _ => far4 k (by have := hk.2.1; omega))) (fun k hk => by have := hk.2.2.1; omega)
    · exact Kd.R_step (Kd.R_step HU2.out (fun k _ hk => hB3.block k hk)) (fun k hk _ => far4 k (by have := hk.1; omega))
    · rw [← hw4]
      exact (HHw.out.trans (hB3.mono (by omega))).setCell (p := ⟨G, 20, none⟩) (Nat.le_refl _) _
  have HR4 := Aside0.mk ((far4 (G + 1) (by omega)).trans ((hB3.block (G + 1) (by omega)).trans (HR2.out.trans HR.out)))
  have k20 : w4.cell? ⟨G, 20, none⟩ = some (.slice AO s.objs.length cO) := HL0.out.st.cell 20
  clear hO3 hB3 f20 c20 HS2 HU2 HR2 HS1 HU1 HB1 HS HR HB hFU hFO far4 hs3 hs2
  go_wp2
  have HF := Lib.hid (show ∀ (i : Nat) (hi : i < s.objs.length), ∃ hd, hs0[i]? = some hd ∧ Form (encH hd) (s.objs[i]).length ∧ ∀ (wy : World), Below G w wy → ∀ A n c, encH hd = .slice A n c → Kd.C (Kd.int .i64) wy A (s.objs[i]).length s.objs[i] from fun i hi => by
    obtain ⟨hd, q1, q2, q3⟩ := HE.out i hi
    exact ⟨hd, q1, q2, fun wy hb A n c e => Kd.C_below (by rw [e] at q3; exact (Kd.R_reads' q3).2.2) (by rw [hG]; exact hb)⟩)
  have hsw2 : G + 2 ≤ w2.heap.size := by have := hs2'; omega
  clear HE HH HCO HHw hwa hw2 hw4 hl0
  go_loopg [16] s.objs.length (fun kq iv wr => ∃ (i : Nat) (hs : List Hd) (L : Nat → Nat), kq + i = s.objs.length ∧ iv = .int .i64 i ∧ Aside0 (OL G w2.heap.size w4.heap.size s (.slice AO s.objs.length cO) (.slice AU s.out.length cU) hs0 i hs L w wr) ∧ Aside0 (wr.heap[G + 1]? = w4.heap[G + 1]?))
  case atStart => exact ⟨0, _, _, Nat.add_zero _, rfl, HL0, ⟨rfl⟩⟩
  case round =>
  clear HL0 k20 g20 g20c
  obtain ⟨i, hs, L, hki, rfl, HL, HK⟩ := hrel
  have k20 : wr.cell? ⟨G, 20, none⟩ = some (.slice AO s.objs.length cO) := HL.out.st.cell 20
  cases gk with
  | zero =>
    obtain rfl : i = s.objs.length := by omega
    have hlt : decide ((s.objs.length : Int) < (s.objs.length : Int)) = false := decide_eq_false (by omega)
    have hblk := HL.out.st.blk
    have hrt := HK.out.trans HR4.out
    have hone : (cellsS s (.slice AO s.objs.length cO) (.slice AU s.out.length cU)).all (·.oneCell') = true := by simp [cellsS, Value.oneCell']
    clear k20
    go_wp2_with (first | ((with_reducible refine gate_dst (N := 28) rfl ?_); refine wpList_load_row rfl 39 (.tmp 1) rfl G rfl 39 (cellsS s (.slice AO s.objs.length cO) (.slice AU s.out.length cU)) (0, 0) _ hblk Tryd.underlying39 rfl (by kernel_rfl) ?_) | (skip; refine wpList_store_row rfl 39 (.tmp 2) (.tmp 28) rfl (G + 1) (cellsS s (.slice AO s.objs.length cO) (.slice AU s.out.length cU)) rfl rfl 39 _ hrt (by kernel_rfl) rfl hone ?_))
    have hdone := Lib.hid (HL.out.done.setRow hrt (cellsS s (.slice AO s.objs.length cO) (.slice AU s.out.length cU)))
    have hbel := Lib.hid (setRow_below HL.out.below (show G ≤ G + 1 by omega) (cellsS s (.slice AO s.objs.length cO) (.slice AU s.out.length cU)))
    have hnew := setRow_at hrt (cellsS s (.slice AO s.objs.length cO) (.slice AU s.out.length cU))
    (try simp only [Exit.inBlock, Exit.then])
    refine bodyPost_ret (results_cell_row rfl _ _ (G + 1) 39 _ (0, 0) _ rfl hnew Tryd.underlying39 rfl (by kernel_rfl)) rfl ?_
    rw [hG]
    exact ⟨_, _, rfl, hdone.out, hbel.out⟩
  | succ gk =>
    have hi : i < s.objs.length := by omega
    have hlt : decide ((i : Int) < (s.objs.length : Int)) = true := decide_eq_true (by omega)
    obtain ⟨g, cO', e3, hg1, hg2, _⟩ := Kd.R_form HL.out.row (by rw [HL.out.len]; omega)
    rw [HL.out.len] at e3
    obtain ⟨rfl, rfl⟩ : AO = some ⟨g, 0, none⟩ ∧ cO = cO' := by injection e3 with e4 e5 e6; exact ⟨e4, e6⟩
    clear e3
    have hlen := HL.out.len
    have kel := (Kd.R_celln (h1 := fun _ => rfl) ((none, 0, 0) : Hd) HL.out.row (i : Int) (by omega) (by omega)).1
    obtain ⟨hd, hd1, hd2⟩ := HF.out i hi
    have e0 : rdOf ((none, 0, 0) : Hd) hs (i : Int) = hd := by
      have q := HL.out.todo i (Nat.le_refl _)
      rw [hd1] at q
      show hs.getD (i : Int).toNat _ = _
      rw [Int.toNat_natCast, List.getD_eq_getElem?_getD, q]
      rfl
    rw [e0, Int.toNat_natCast] at kel
    have HF2 := Lib.hid hd2
    have hG3 : G + 2 ≤ w2.heap.size := hsw2
    have j0 : (0 ≤ (i : Int)) = True := eq_true (by omega)
    have j1 : ((i : Int) < (s.objs.length : Int)) = True := eq_true (by omega)
    have e2 := Lib.hid (show wrap64 ((i : Int) + 1) = ((i + 1 : Nat) : Int) from wrap_up (by have := hsm.objs; omega))
    obtain ⟨hdv, hhd⟩ : ∃ v, encH hd = v := ⟨_, rfl⟩
    rw [hhd] at kel
    clear hd1 hd2 e0 hlen HF
    have HHD := Lib.hid hhd
    clear hhd
    go_wp2
    have hhd := HHD.out
    subst hhd
    refine wp_region_noPanic ?_
    refine start_ (n := 7) (S := fun w' => w'.cell? ⟨G, 20, none⟩ = some (.slice (some ⟨g, 0, none⟩) s.objs.length cO)) (ds := [6]) #[false, false, false, false, false, false, false] (by kernel_rfl) rfl rfl k20 (fun hHeld => ?_)
    clear k20 kel
    have HL2 := Aside0.mk (HL.out.move (below_drew (Below.refl _ wr)))
    have HK2 := Aside0.mk (show wr.drew.heap[G + 1]? = w4.heap[G + 1]? from HK.out)
    clear HL HK
    generalize wr.drew = wy at HL2 HK2 hHeld ⊢
    refine pure_ (i := 0) (N := some 21) (v := ?_) (a' := ?_) #[true, false, false, false, false, false, false] rfl rfl (by kernel_rfl) (fun _ _ _ h => h) (Or.inl ⟨by rfl, ?_⟩) ?_ ?_
    rotate_left
    · intro w'
      go_simp
      with_reducible rfl
    rotate_left
    · simp only [Act.put, List.setIfInBounds_toArray, List.set_cons_zero, List.set_cons_succ, i64_w, i32_w]
      rfl
    refine take_ (i := 1) (N := some 22) (v := ?_) (a' := ?_) #[true, true, false, false, false, false, false] rfl rfl (by kernel_rfl) (fun _ _ _ h => h) (Or.inl ⟨by rfl, ?_⟩) hHeld ?_ ?_
    rotate_left
    · rintro w' h20_
      go_simp
      with_reducible rfl
    rotate_left
    · simp only [Act.put, List.setIfInBounds_toArray, List.set_cons_zero, List.set_cons_succ, i64_w, i32_w]
      rfl
    refine pure_ (i := 2) (N := some 23) (v := ?_) (a' := ?_) #[true, true, true, false, false, false, false] rfl rfl (by kernel_rfl) (fun _ _ _ h => h) (Or.inl ⟨by rfl, ?_⟩) ?_ ?_
    rotate_left
    · intro w'
      go_simp
      with_reducible rfl
    rotate_left
    · simp only [Act.put, List.setIfInBounds_toArray, List.set_cons_zero, List.set_cons_succ, i64_w, i32_w]
      rfl
    refine pure_ (i := 3) (N := some 24) (v := ?_) (a' := ?_) #[true, true, true, true, false, false, false] rfl rfl (by kernel_rfl) (fun _ _ _ h => h) (Or.inl ⟨by rfl, ?_⟩) ?_ ?_
    rotate_left
    · intro w'
      go_simp
      with_reducible rfl
    rotate_left
    · simp only [Act.put, List.setIfInBounds_toArray, List.set_cons_zero, List.set_cons_succ, i64_w, i32_w]
      rfl
    refine one_ (i := 4) (N := some 25) #[true, true, true, true, true, false, false] rfl rfl (by kernel_rfl) (by decide) (fun K hK => ?_)
    refine goes_ Tryd.func39 (by kernel_rfl) rfl #[encH hd] (by rfl) rfl rfl (by (try simp only [List.map_toArray, List.map_cons, List.map_nil]); rfl) ?_
    refine (clone_int (encH hd) s.objs[i] HF2.out.1 wy (HF2.out.2 wy HL2.out.below) (hsm.each i hi)).mono ?_
    rintro e w3 ⟨v3, rfl, hR3, hB3⟩
    obtain ⟨A3, c3, e3⟩ := Kd.R_slice hR3
    obtain ⟨h3, hh3⟩ : ∃ h3 : Hd, v3 = encH h3 := ⟨(A3, s.objs[i].length, c3), e3⟩
    subst hh3
    have HN := Aside0.mk (HL2.out.next hi hB3 h3 hR3)
    have H3 := Aside0.mk (HL2.out.move hB3)
    have hG5 : G + 1 < wy.heap.size := by have h1 := mono_le HL2.out.up 0 i (Nat.zero_le _); have h2 := HL2.out.L0; have h3 := HL2.out.top; have h4 := HL2.out.ord; omega
    have HK3 := Aside0.mk (show (w3.setCell ⟨g, i, none⟩ (encH h3)).heap[G + 1]? = w4.heap[G + 1]? from (Below.heap_setCell w3 ⟨g, i, none⟩ _ (G + 1) (by show G + 1 ≠ g; omega)).trans ((hB3.block (G + 1) hG5).trans HK2.out))
    have k20 : w3.cell? ⟨G, 20, none⟩ = some (.slice (some ⟨g, 0, none⟩) s.objs.length cO) := H3.out.st.cell 20
    have kel := Kd.R_celln (h1 := fun _ => rfl) ((none, 0, 0) : Hd) H3.out.row (i : Int) (by omega) (by omega)
    have kel1 := kel.1
    have kel2 := kel.2
    rw [Int.toNat_natCast] at kel1 kel2
    clear kel HL2 HK2 hB3 hR3 hHeld e3
    refine ⟨_, rfl, ?_⟩
    refine hK.out _ _ k20 (fun hHeld => ?_)
    clear hK K
    refine norm_ (a' := ?_) ?_ ?_
    rotate_left
    · show Act.put _ (some 25) _ = _
      simp only [Act.put, List.setIfInBounds_toArray, List.set_cons_zero, List.set_cons_succ, i64_w, i32_w]
      rfl
    refine pure_ (i := 5) (N := some 26) (v := ?_) (a' := ?_) #[true, true, true, true, true, true, false] rfl rfl (by kernel_rfl) (fun _ _ _ h => h) (Or.inl ⟨by rfl, ?_⟩) ?_ ?_
    rotate_left
    · intro w'
      go_simp
      with_reducible rfl
    rotate_left
    · simp only [Act.put, List.setIfInBounds_toArray, List.set_cons_zero, List.set_cons_succ, i64_w, i32_w]
      rfl
    refine last_ (i := 6) (N := none) #[true, true, true, true, true, true, true] rfl rfl (by kernel_rfl) (by decide) (fun K hK => ?_)
    refine skip_ (w1 := w3.setCell ⟨g, i, none⟩ (encH h3)) (by rfl) rfl ?_ ?_
    · unfold encH at kel1 ⊢
      go_simp
    refine hK.out _ _ ?_
    clear hK K kel1 kel2 hHeld k20
    refine done_ (by kernel_rfl) ?_
    refine NoPanic.normal ?_
    have e2' := e2.out
    clear e2
    go_wp2
    go_roundg gk
    case measure => omega
    case rel => exact ⟨i + 1, _, _, by omega, by first | rw [e2'] | rfl, HN, HK3⟩
end Go.Proofs.YtlemecdddhdagaaDoor.P
