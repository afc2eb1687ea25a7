/- FUNCTIONS OF THE PROGRAM AS LEAN FUNCTIONS, AND THAT THE PROGRAM's CALLS ANSWER AS THEY DO: written by a program of this session. -/
import Derived.Test.YtlemecdddhdagaaDoorPx0
import Derived.Test.YtlemecdddhdagaaDoorPx1
import Derived.Test.YtlemecdddhdagaaDoorPx3
import Derived.Test.YtlemecdddhdagaaDoorGiven
namespace Go.Proofs.YtlemecdddhdagaaDoor.P
open Go.RowKit Go.Proofs.YtlemecdddhdagaaDoorW.PrintWords Go.Proofs.YtlemecdddhdagaaDoorW.PrintLast Go.Proofs.YtlemecdddhdagaaDoorW.PrintMore
attribute [local go_sem] max2_int min2_int max_two min_two max_three min_three max_four min_four   -- for this text's walks alone
set_option linter.unusedVariables false
set_option linter.unusedSimpArgs false

/-! ### check_Check: function 21 -/
mutual
def check_Check.j0 : Nat → Int → Bool → List ByteArray → ByteArray → ByteArray → List (S55) → Option (Int × Int)
 | 0, _, _, _, _, _, _ => none
 | k + 1, x4, x10, x162000, x162001, x162002, x162003 => if x10 = true then (some ((-1), 5)) else (if x4 < 1 then (some ((-1), 3)) else (if x4 > 200 then (some ((-1), 3)) else (check_Check.l0 k x162003 (x162003.length : Int) 0 x162000 x162001 x162002 x162003)))
def check_Check.l0 : Nat → List (S55) → Int → Int → List ByteArray → ByteArray → ByteArray → List (S55) → Option (Int × Int)
 | 0, _, _, _, _, _, _, _ => none
 | k + 1, x40, x41, x42, x162000, x162001, x162002, x162003 => if x42 < x41 then (if 0 ≤ x42 then (if x42 < (x40.length : Int) then ((code_Right.f ((rd_T55 x40 x42).f0) ((rd_T55 x40 x42).f1) ((rd_T55 x40 x42).f2) ((rd_T55 x40 x42).f3) ((rd_T55 x40 x42).f4)).bind fun t165 => (if t165 = true then (if ((rd_T55 x40 x42).f0) = 3 then (if ((rd_T55 x40 x42).f4) < 0 then (check_Check.j2 k x42 x40 x41 x42 true x162000 x162001 x162002 x162003 ((rd_T55 x40 x42).f0) ((rd_T55 x40 x42).f1) ((rd_T55 x40 x42).f2) ((rd_T55 x40 x42).f3) ((rd_T55 x40 x42).f4)) else (check_Check.j2 k x42 x40 x41 x42 (decide (((rd_T55 x40 x42).f4) > (x162003.length : Int))) x162000 x162001 x162002 x162003 ((rd_T55 x40 x42).f0) ((rd_T55 x40 x42).f1) ((rd_T55 x40 x42).f2) ((rd_T55 x40 x42).f3) ((rd_T55 x40 x42).f4))) else (if ((rd_T55 x40 x42).f0) = 4 then (if ((rd_T55 x40 x42).f4) < 0 then (check_Check.j2 k x42 x40 x41 x42 true x162000 x162001 x162002 x162003 ((rd_T55 x40 x42).f0) ((rd_T55 x40 x42).f1) ((rd_T55 x40 x42).f2) ((rd_T55 x40 x42).f3) ((rd_T55 x40 x42).f4)) else (check_Check.j2 k x42 x40 x41 x42 (decide (((rd_T55 x40 x42).f4) > (x162003.length : Int))) x162000 x162001 x162002 x162003 ((rd_T55 x40 x42).f0) ((rd_T55 x40 x42).f1) ((rd_T55 x40 x42).f2) ((rd_T55 x40 x42).f3) ((rd_T55 x40 x42).f4))) else (check_Check.j2 k x42 x40 x41 x42 false x162000 x162001 x162002 x162003 ((rd_T55 x40 x42).f0) ((rd_T55 x40 x42).f1) ((rd_T55 x40 x42).f2) ((rd_T55 x40 x42).f3) ((rd_T55 x40 x42).f4)))) else (some (x42, 4)))) else (none)) else (none)) else (some ((-1), 0))
def check_Check.j2 : Nat → Int → List (S55) → Int → Int → Bool → List ByteArray → ByteArray → ByteArray → List (S55) → Int → Int → Int → Int → Int → Option (Int × Int)
 | 0, _, _, _, _, _, _, _, _, _, _, _, _, _, _ => none
 | k + 1, x5, x40, x41, x42, x52, x162000, x162001, x162002, x162003, x165000, x165001, x165002, x165003, x165004 => if x52 = true then (some (x5, 12)) else ((check_kinds.f k x162000 x162001 x162002 x162003 x165000 x165001 x165002 x165003 x165004).bind fun t166 => (if t166 = true then (check_Check.l0 k x40 x41 (wrap64 (x42 + 1)) x162000 x162001 x162002 x162003) else (some (x5, 5))))
end
def check_Check.f (k : Nat) (l0_0 : List ByteArray) (a0_1 : ByteArray) (a0_2 : ByteArray) (l0_3 : List (S55)) : Option (Int × Int) := if a0_1.size + a0_2.size ≤ 9223372036854775807 then ((kind_Refs.f k l0_0 (a0_1 ++ a0_2)).bind fun t162 => (if t162 = true then (if (a0_1.size : Int) > 8 then (check_Check.j0 k (l0_3.length : Int) true l0_0 a0_1 a0_2 l0_3) else (check_Check.j0 k (l0_3.length : Int) (decide ((a0_2.size : Int) > 4)) l0_0 a0_1 a0_2 l0_3)) else (check_Check.j0 k (l0_3.length : Int) true l0_0 a0_1 a0_2 l0_3))) else (none)
theorem check_Check.mono_l : ∀ k, (∀ y0 y1 y2 y3 y4 y5, LeO (check_Check.j0 k y0 y1 y2 y3 y4 y5) (check_Check.j0 (k + 1) y0 y1 y2 y3 y4 y5)) ∧ (∀ y0 y1 y2 y3 y4 y5 y6, LeO (check_Check.l0 k y0 y1 y2 y3 y4 y5 y6) (check_Check.l0 (k + 1) y0 y1 y2 y3 y4 y5 y6)) ∧ (∀ y0 y1 y2 y3 y4 y5 y6 y7 y8 y9 y10 y11 y12 y13, LeO (check_Check.j2 k y0 y1 y2 y3 y4 y5 y6 y7 y8 y9 y10 y11 y12 y13) (check_Check.j2 (k + 1) y0 y1 y2 y3 y4 y5 y6 y7 y8 y9 y10 y11 y12 y13))
 | 0 => ⟨fun _ _ _ _ _ _ r h => by simp [check_Check.j0] at h, fun _ _ _ _ _ _ _ r h => by simp [check_Check.l0] at h, fun _ _ _ _ _ _ _ _ _ _ _ _ _ _ r h => by simp [check_Check.j2] at h⟩
 | k + 1 => by
  obtain ⟨ih0, ih1, ih2⟩ := check_Check.mono_l k
  refine ⟨?_, ?_, ?_⟩
  ·
   intro y0 y1 y2 y3 y4 y5
   unfold check_Check.j0
   repeat' with_reducible first | apply ih0 | apply ih1 | apply ih2 | apply check_kinds.mono | apply kind_Refs.mono | exact LeO.refl _ | exact LeO.none _ | refine LeO.ite ?_ ?_ | refine LeO.bind ?_ (fun _ => ?_)
  ·
   intro y0 y1 y2 y3 y4 y5 y6
   unfold check_Check.l0
   repeat' with_reducible first | apply ih0 | apply ih1 | apply ih2 | apply check_kinds.mono | apply kind_Refs.mono | exact LeO.refl _ | exact LeO.none _ | refine LeO.ite ?_ ?_ | refine LeO.bind ?_ (fun _ => ?_)
  ·
   intro y0 y1 y2 y3 y4 y5 y6 y7 y8 y9 y10 y11 y12 y13
   unfold check_Check.j2
   repeat' with_reducible first | apply ih0 | apply ih1 | apply ih2 | apply check_kinds.mono | apply kind_Refs.mono | exact LeO.refl _ | exact LeO.none _ | refine LeO.ite ?_ ?_ | refine LeO.bind ?_ (fun _ => ?_)
theorem check_Check.mono : ∀ a0 a1 a2 a3 k, LeO (check_Check.f k a0 a1 a2 a3) (check_Check.f (k + 1) a0 a1 a2 a3) := by
 intro a0 a1 a2 a3 k
 obtain ⟨ih0, ih1, ih2⟩ := check_Check.mono_l k
 unfold check_Check.f
 repeat' with_reducible first | apply ih0 | apply ih1 | apply ih2 | apply check_kinds.mono | apply kind_Refs.mono | exact LeO.refl _ | exact LeO.none _ | refine LeO.ite ?_ ?_ | refine LeO.bind ?_ (fun _ => ?_)
set_option maxHeartbeats 8000000 in
set_option maxRecDepth 100000 in
theorem check_Check.calls (k : Nat) (A0_0 : Option Addr) (c0_0 : Nat) (l0_0 : List ByteArray) (a0_1 : ByteArray) (a0_2 : ByteArray) (A0_3 : Option Addr) (c0_3 : Nat) (l0_3 : List (S55)) (r1 : Int) (r2 : Int) (w : World) (hr0_0 : Kd.C Kd.string w A0_0 l0_0.length l0_0) (hc0_0 : l0_0.length ≤ c0_0) (hr0_3 : Kd.C k55 w A0_3 l0_3.length l0_3) (hc0_3 : l0_3.length ≤ c0_3) (hrT : Kd.C Kd.string w tabA tabL.length tabL) (h : check_Check.f k l0_0 a0_1 a0_2 l0_3 = some (r1, r2)) :
  Calls Tryd.prog 21 #[.agg #[.slice A0_0 l0_0.length c0_0, .string a0_1, .string a0_2, .slice A0_3 l0_3.length c0_3]] w fun e w' => e = .returned (.tuple #[.int .i64 r1, .int .i64 r2]) ∧ Below w.heap.size w w' := by
 have hu25 := Tryd.underlying25
 have hu55 := Tryd.underlying55
 have HR0_0 := Aside0.mk hr0_0
 have HC0_0 := Aside0.mk hc0_0
 clear hr0_0 hc0_0
 have HR0_3 := Aside0.mk hr0_3
 have HC0_3 := Aside0.mk hc0_3
 clear hr0_3 hc0_3
 have HRT := Aside0.mk hrT
 clear hrT
 have HB := Aside0.mk (Below.refl w.heap.size w)
 have H : (if a0_1.size + a0_2.size ≤ 9223372036854775807 then ((kind_Refs.f k l0_0 (a0_1 ++ a0_2)).bind fun t162 => (if t162 = true then (if (a0_1.size : Int) > 8 then (check_Check.j0 k (l0_3.length : Int) true l0_0 a0_1 a0_2 l0_3) else (check_Check.j0 k (l0_3.length : Int) (decide ((a0_2.size : Int) > 4)) l0_0 a0_1 a0_2 l0_3)) else (check_Check.j0 k (l0_3.length : Int) true l0_0 a0_1 a0_2 l0_3))) else (none)) = some (r1, r2) := h
 clear h
 have HC2 := Aside0.mk H
 clear H
 go_enter Tryd.func21, Tryd.ntmps21
 go_upto_region 2 with (first | ((with_reducible refine gate_dst (N := 1) rfl ?_); (try (refine gate_guard (by rfl) ?_; dsimp only)); refine box_event ?hg (N := 1) ?hd (cs := #[.slice A0_0 l0_0.length c0_0, .string a0_1, .string a0_2, .slice A0_3 l0_3.length c0_3]) (t := 25) ?hr ?_; (case hd => rfl); (case hg => rfl); (case hr => first | (go_simp; done) | (go_simp; rfl)); intro gb161 hg w3 hbox hb; have n0_ := Aside0.mk (below_step (by repeat (first | (with_reducible first | exact HB.out | apply below_alloc | apply pw_below_drewN | apply below_drew1) | exact HB.out)) hb); have n1_ := Aside0.mk (hbox); have n2_ := Aside0.mk ((by rw [hg]; exact (below_size (by repeat (first | (with_reducible first | exact HB.out | apply below_alloc | apply pw_below_drewN | apply below_drew1) | exact HB.out))) : w.heap.size ≤ gb161)); have n3_ := n2_; clear HB; have HB := n0_; have BK161 := n1_; have GW161 := n2_; have GE161 := n3_; clear n0_ n1_ n2_ n3_; clear hb hbox hg; have hcz4_0 : w3.cell? ⟨gb161, 0, none⟩ = some (.slice A0_0 l0_0.length c0_0) := (blk_cell BK161.out 0).trans rfl; have hcz4_1 : w3.cell? ⟨gb161, 1, none⟩ = some (.string a0_1) := (blk_cell BK161.out 1).trans rfl; have hcz4_2 : w3.cell? ⟨gb161, 2, none⟩ = some (.string a0_2) := (blk_cell BK161.out 2).trans rfl; have hcz4_3 : w3.cell? ⟨gb161, 3, none⟩ = some (.slice A0_3 l0_3.length c0_3) := (blk_cell BK161.out 3).trans rfl; have hfz4_0 := blk_frozen BK161.out 0; have hfz4_1 := blk_frozen BK161.out 1; have hfz4_2 := blk_frozen BK161.out 2; have hfz4_3 := blk_frozen BK161.out 3))
 (try simp only [Act.put, List.setIfInBounds_toArray, List.set_cons_zero, List.set_cons_succ])
 go_cut [10] (fun v10 wc => ∃ (kq : Nat) (x10_1 : Bool), v10 = .bool x10_1 ∧ Aside0 (check_Check.j0 kq (l0_3.length : Int) x10_1 l0_0 a0_1 a0_2 l0_3 = some (r1, r2)) ∧ Aside0 (kq ≤ k) ∧ Aside0 (wc.heap[gb161]? = some (.cells #[(.slice A0_0 l0_0.length c0_0), .string a0_1, .string a0_2, (.slice A0_3 l0_3.length c0_3)] 25 (0, 0))) ∧ Aside0 (Below w.heap.size w wc))
 case first =>
  have H := HC2.out
  clear HC2
  by_cases c5 : a0_1.size + a0_2.size ≤ 9223372036854775807
  ·
   rw [if_pos c5] at H
   have c5b0 := eq_true c5
   have c5b1 : decide (a0_1.size + a0_2.size ≤ 9223372036854775807) = true := decide_eq_true c5
   try have c5b2 : (9223372036854775807 < a0_1.size + a0_2.size) = False := eq_false (Nat.not_lt.2 c5)
   replace H := Option.bind_eq_some_iff.mp H
   obtain ⟨t162, A60, H⟩ := H
   replace H : (if t162 = true then (if (a0_1.size : Int) > 8 then (check_Check.j0 k (l0_3.length : Int) true l0_0 a0_1 a0_2 l0_3) else (check_Check.j0 k (l0_3.length : Int) (decide ((a0_2.size : Int) > 4)) l0_0 a0_1 a0_2 l0_3)) else (check_Check.j0 k (l0_3.length : Int) true l0_0 a0_1 a0_2 l0_3)) = some (r1, r2) := H
   have A6 := Aside0.mk A60
   clear A60
   by_cases c7 : t162 = true
   ·
    subst c7
    have H1 : (if (a0_1.size : Int) > 8 then (check_Check.j0 k (l0_3.length : Int) true l0_0 a0_1 a0_2 l0_3) else (check_Check.j0 k (l0_3.length : Int) (decide ((a0_2.size : Int) > 4)) l0_0 a0_1 a0_2 l0_3)) = some (r1, r2) := by rw [if_pos rfl] at H; exact H
    clear H
    have H := H1
    clear H1
    by_cases c8 : (a0_1.size : Int) > 8
    ·
     rw [if_pos c8] at H
     have c8b0 : decide (8 < (a0_1.size : Int)) = true := decide_eq_true c8
     have c8b1 : decide (8 < a0_1.size) = true := decide_eq_true (by omega)
     clear c8
     (first | rw [c8b0] | (simp only [i64_w, i32_w]; rw [c8b0]) | skip)
     have H' := Aside0.mk H
     clear H
     have hcz9_0 : w3.cell? ⟨gb161, 0, none⟩ = some (.slice A0_0 l0_0.length c0_0) := (blk_cell BK161.out 0).trans rfl
     have hcz9_1 : w3.cell? ⟨gb161, 1, none⟩ = some (.string a0_1) := (blk_cell BK161.out 1).trans rfl
     have hcz9_2 : w3.cell? ⟨gb161, 2, none⟩ = some (.string a0_2) := (blk_cell BK161.out 2).trans rfl
     have hcz9_3 : w3.cell? ⟨gb161, 3, none⟩ = some (.slice A0_3 l0_3.length c0_3) := (blk_cell BK161.out 3).trans rfl
     have hfz9_0 := blk_frozen BK161.out 0
     have hfz9_1 := blk_frozen BK161.out 1
     have hfz9_2 := blk_frozen BK161.out 2
     have hfz9_3 := blk_frozen BK161.out 3
     go_wp2_with (first | ((with_reducible refine gate_callee (f := 32) rfl ?_); refine goesL_ (some 18) rfl rfl Tryd.func32 (by kernel_rfl) rfl #[.slice A0_0 l0_0.length c0_0, .string (a0_1 ++ a0_2)] rfl (by (try simp only [List.map_toArray, List.map_cons, List.map_nil]); first | done | rfl | (simp only [List.length_drop, List.length_take]; rfl)) ?_; (with_reducible refine (kind_Refs.calls k _ _ l0_0 (a0_1 ++ a0_2) true _ ?side1 ?side2 A6.out).mono ?_); (case side1 => repeat (first | exact (Kd.C_below HR0_0.out HB.out) | (with_reducible refine Kd.C_alloc ?_ _) | (with_reducible refine Kd.C_drewN ?_ _) | (with_reducible refine Kd.C_drew ?_))); (case side2 => exact HC0_0.out); rintro e w' ⟨rfl, ⟨nd, rfl⟩⟩; refine ⟨_, rfl, ?_⟩))
     go_meet
     case rel => exact ⟨_, (true), (by first | rfl | (simp; done) | (simp [*]; done)), H', ⟨by first | omega | exact Nat.le_refl _⟩, ⟨by (with_reducible repeat (first | refine blk_drewN ?_ _ | refine blk_drew ?_ | refine blk_alloc ?_ _)); exact BK161.out⟩, ⟨by repeat (first | (with_reducible first | exact HB.out | apply below_alloc | apply pw_below_drewN | apply below_drew1 | refine below_set ?_ GE161.out) | exact HB.out)⟩⟩
    ·
     rw [if_neg c8] at H
     have c8b0 : decide (8 < (a0_1.size : Int)) = false := decide_eq_false c8
     have c8b1 : decide (8 < a0_1.size) = false := decide_eq_false (by omega)
     clear c8
     (first | rw [c8b0] | (simp only [i64_w, i32_w]; rw [c8b0]) | skip)
     have H' := Aside0.mk H
     clear H
     have hcz10_0 : w3.cell? ⟨gb161, 0, none⟩ = some (.slice A0_0 l0_0.length c0_0) := (blk_cell BK161.out 0).trans rfl
     have hcz10_1 : w3.cell? ⟨gb161, 1, none⟩ = some (.string a0_1) := (blk_cell BK161.out 1).trans rfl
     have hcz10_2 : w3.cell? ⟨gb161, 2, none⟩ = some (.string a0_2) := (blk_cell BK161.out 2).trans rfl
     have hcz10_3 : w3.cell? ⟨gb161, 3, none⟩ = some (.slice A0_3 l0_3.length c0_3) := (blk_cell BK161.out 3).trans rfl
     have hfz10_0 := blk_frozen BK161.out 0
     have hfz10_1 := blk_frozen BK161.out 1
     have hfz10_2 := blk_frozen BK161.out 2
     have hfz10_3 := blk_frozen BK161.out 3
     go_wp2_with (first | ((with_reducible refine gate_callee (f := 32) rfl ?_); refine goesL_ (some 18) rfl rfl Tryd.func32 (by kernel_rfl) rfl #[.slice A0_0 l0_0.length c0_0, .string (a0_1 ++ a0_2)] rfl (by (try simp only [List.map_toArray, List.map_cons, List.map_nil]); first | done | rfl | (simp only [List.length_drop, List.length_take]; rfl)) ?_; (with_reducible refine (kind_Refs.calls k _ _ l0_0 (a0_1 ++ a0_2) true _ ?side1 ?side2 A6.out).mono ?_); (case side1 => repeat (first | exact (Kd.C_below HR0_0.out HB.out) | (with_reducible refine Kd.C_alloc ?_ _) | (with_reducible refine Kd.C_drewN ?_ _) | (with_reducible refine Kd.C_drew ?_))); (case side2 => exact HC0_0.out); rintro e w' ⟨rfl, ⟨nd, rfl⟩⟩; refine ⟨_, rfl, ?_⟩))
     go_meet
     case rel => exact ⟨_, (decide ((a0_2.size : Int) > 4)), (by first | rfl | (simp; done) | (simp [*]; done)), H', ⟨by first | omega | exact Nat.le_refl _⟩, ⟨by (with_reducible repeat (first | refine blk_drewN ?_ _ | refine blk_drew ?_ | refine blk_alloc ?_ _)); exact BK161.out⟩, ⟨by repeat (first | (with_reducible first | exact HB.out | apply below_alloc | apply pw_below_drewN | apply below_drew1 | refine below_set ?_ GE161.out) | exact HB.out)⟩⟩
   ·
    replace c7 := Bool.eq_false_iff.mpr c7
    subst c7
    have H1 : (check_Check.j0 k (l0_3.length : Int) true l0_0 a0_1 a0_2 l0_3) = some (r1, r2) := by rw [if_neg (show ¬ (false = true) by decide)] at H; exact H
    clear H
    have H := H1
    clear H1
    have H' := Aside0.mk H
    clear H
    have hcz11_0 : w3.cell? ⟨gb161, 0, none⟩ = some (.slice A0_0 l0_0.length c0_0) := (blk_cell BK161.out 0).trans rfl
    have hcz11_1 : w3.cell? ⟨gb161, 1, none⟩ = some (.string a0_1) := (blk_cell BK161.out 1).trans rfl
    have hcz11_2 : w3.cell? ⟨gb161, 2, none⟩ = some (.string a0_2) := (blk_cell BK161.out 2).trans rfl
    have hcz11_3 : w3.cell? ⟨gb161, 3, none⟩ = some (.slice A0_3 l0_3.length c0_3) := (blk_cell BK161.out 3).trans rfl
    have hfz11_0 := blk_frozen BK161.out 0
    have hfz11_1 := blk_frozen BK161.out 1
    have hfz11_2 := blk_frozen BK161.out 2
    have hfz11_3 := blk_frozen BK161.out 3
    go_wp2_with (first | ((with_reducible refine gate_callee (f := 32) rfl ?_); refine goesL_ (some 18) rfl rfl Tryd.func32 (by kernel_rfl) rfl #[.slice A0_0 l0_0.length c0_0, .string (a0_1 ++ a0_2)] rfl (by (try simp only [List.map_toArray, List.map_cons, List.map_nil]); first | done | rfl | (simp only [List.length_drop, List.length_take]; rfl)) ?_; (with_reducible refine (kind_Refs.calls k _ _ l0_0 (a0_1 ++ a0_2) false _ ?side1 ?side2 A6.out).mono ?_); (case side1 => repeat (first | exact (Kd.C_below HR0_0.out HB.out) | (with_reducible refine Kd.C_alloc ?_ _) | (with_reducible refine Kd.C_drewN ?_ _) | (with_reducible refine Kd.C_drew ?_))); (case side2 => exact HC0_0.out); rintro e w' ⟨rfl, ⟨nd, rfl⟩⟩; refine ⟨_, rfl, ?_⟩))
    go_meet
    case rel => exact ⟨_, (true), (by first | rfl | (simp; done) | (simp [*]; done)), H', ⟨by first | omega | exact Nat.le_refl _⟩, ⟨by (with_reducible repeat (first | refine blk_drewN ?_ _ | refine blk_drew ?_ | refine blk_alloc ?_ _)); exact BK161.out⟩, ⟨by repeat (first | (with_reducible first | exact HB.out | apply below_alloc | apply pw_below_drewN | apply below_drew1 | refine below_set ?_ GE161.out) | exact HB.out)⟩⟩
  ·
   rw [if_neg c5] at H
   exact absurd H (by simp)
 case rest =>
  clear HC2
  obtain ⟨kq, x10_1, rfl, HA, HJ1, BK161, HB⟩ := hcut
  cases kq with
  | zero => exact absurd HA.out (by simp [check_Check.j0])
  | succ kj1 =>
   have H := HA.out
   clear HA
   simp only [check_Check.j0] at H
   by_cases c12 : x10_1 = true
   ·
    subst c12
    have H1 : (some ((-1), 5)) = some (r1, r2) := by rw [if_pos rfl] at H; exact H
    clear H
    have H := H1
    clear H1
    simp only [Option.some.injEq, Prod.mk.injEq] at H
    obtain ⟨rfl, rfl⟩ := H
    go_wp2
    go_ret2
    exact ⟨by first | rfl | (simp [errW_none, errW_some] <;> rfl) | (simp [*, errW_none, errW_some] <;> rfl), by repeat (first | (with_reducible first | exact HB.out | apply below_alloc | apply pw_below_drewN | apply below_drew1 | refine below_set ?_ GE161.out) | exact HB.out)⟩
   ·
    replace c12 := Bool.eq_false_iff.mpr c12
    subst c12
    have H1 : (if (l0_3.length : Int) < 1 then (some ((-1), 3)) else (if (l0_3.length : Int) > 200 then (some ((-1), 3)) else (check_Check.l0 kj1 l0_3 (l0_3.length : Int) 0 l0_0 a0_1 a0_2 l0_3))) = some (r1, r2) := by rw [if_neg (show ¬ (false = true) by decide)] at H; exact H
    clear H
    have H := H1
    clear H1
    by_cases c13 : (l0_3.length : Int) < 1
    ·
     rw [if_pos c13] at H
     have c13b0 : decide ((l0_3.length : Int) < 1) = true := decide_eq_true c13
     have c13b1 : decide (l0_3.length < 1) = true := decide_eq_true (by omega)
     clear c13
     simp only [Option.some.injEq, Prod.mk.injEq] at H
     obtain ⟨rfl, rfl⟩ := H
     go_wp2
     go_ret2
     exact ⟨by first | rfl | (simp [errW_none, errW_some] <;> rfl) | (simp [*, errW_none, errW_some] <;> rfl), by repeat (first | (with_reducible first | exact HB.out | apply below_alloc | apply pw_below_drewN | apply below_drew1 | refine below_set ?_ GE161.out) | exact HB.out)⟩
    ·
     rw [if_neg c13] at H
     have c13b0 : decide ((l0_3.length : Int) < 1) = false := decide_eq_false c13
     have c13b1 : decide (l0_3.length < 1) = false := decide_eq_false (by omega)
     clear c13
     by_cases c14 : (l0_3.length : Int) > 200
     ·
      rw [if_pos c14] at H
      have c14b0 : decide (200 < (l0_3.length : Int)) = true := decide_eq_true c14
      have c14b1 : decide (200 < l0_3.length) = true := decide_eq_true (by omega)
      clear c14
      simp only [Option.some.injEq, Prod.mk.injEq] at H
      obtain ⟨rfl, rfl⟩ := H
      go_wp2
      go_ret2
      exact ⟨by first | rfl | (simp [errW_none, errW_some] <;> rfl) | (simp [*, errW_none, errW_some] <;> rfl), by repeat (first | (with_reducible first | exact HB.out | apply below_alloc | apply pw_below_drewN | apply below_drew1 | refine below_set ?_ GE161.out) | exact HB.out)⟩
     ·
      rw [if_neg c14] at H
      have c14b0 : decide (200 < (l0_3.length : Int)) = false := decide_eq_false c14
      have c14b1 : decide (200 < l0_3.length) = false := decide_eq_false (by omega)
      clear c14
      have H' := Aside0.mk H
      clear H
      have hcz15_0 : wc.cell? ⟨gb161, 0, none⟩ = some (.slice A0_0 l0_0.length c0_0) := (blk_cell BK161.out 0).trans rfl
      have hcz15_1 : wc.cell? ⟨gb161, 1, none⟩ = some (.string a0_1) := (blk_cell BK161.out 1).trans rfl
      have hcz15_2 : wc.cell? ⟨gb161, 2, none⟩ = some (.string a0_2) := (blk_cell BK161.out 2).trans rfl
      have hcz15_3 : wc.cell? ⟨gb161, 3, none⟩ = some (.slice A0_3 l0_3.length c0_3) := (blk_cell BK161.out 3).trans rfl
      have hfz15_0 := blk_frozen BK161.out 0
      have hfz15_1 := blk_frozen BK161.out 1
      have hfz15_2 := blk_frozen BK161.out 2
      have hfz15_3 := blk_frozen BK161.out 3
      go_wp2
      go_loopg [42] kj1 (fun kq v42 w' => ∃ (x42_2 : Int), v42 = .int .i64 x42_2 ∧ Aside0 (check_Check.l0 kq l0_3 (l0_3.length : Int) x42_2 l0_0 a0_1 a0_2 l0_3 = some (r1, r2)) ∧ Aside0 (kq ≤ kj1) ∧ Aside0 (w'.heap[gb161]? = some (.cells #[(.slice A0_0 l0_0.length c0_0), .string a0_1, .string a0_2, (.slice A0_3 l0_3.length c0_3)] 25 (0, 0))) ∧ Aside0 (Below w.heap.size w w'))
      case atStart => exact ⟨(0), (by first | rfl | (simp; done) | (simp [*]; done)), H', ⟨Nat.le_refl _⟩, ⟨by (with_reducible repeat (first | refine blk_drewN ?_ _ | refine blk_drew ?_ | refine blk_alloc ?_ _)); exact BK161.out⟩, ⟨by repeat (first | (with_reducible first | exact HB.out | apply below_alloc | apply pw_below_drewN | apply below_drew1 | refine below_set ?_ GE161.out) | exact HB.out)⟩⟩
      case round =>
       clear H'
       obtain ⟨x42_2, rfl, HA, HK2, BK161, HB⟩ := hrel
       cases gk with
       | zero => exact absurd HA.out (by simp [check_Check.l0])
       | succ k2 =>
        have H := HA.out
        clear HA
        simp only [check_Check.l0] at H
        by_cases c16 : x42_2 < (l0_3.length : Int)
        ·
         rw [if_pos c16] at H
         have c16b0 : decide (x42_2 < (l0_3.length : Int)) = true := decide_eq_true c16
         clear c16
         by_cases c17 : 0 ≤ x42_2
         ·
          rw [if_pos c17] at H
          have c17b0 : decide (0 ≤ x42_2) = true := decide_eq_true c17
          clear c17
          by_cases c18 : x42_2 < (l0_3.length : Int)
          ·
           rw [if_pos c18] at H
           have c18b0 : decide (x42_2 < (l0_3.length : Int)) = true := decide_eq_true c18
           clear c18
           replace H := Option.bind_eq_some_iff.mp H
           obtain ⟨t165, A190, H⟩ := H
           replace H : (if t165 = true then (if ((rd_T55 l0_3 x42_2).f0) = 3 then (if ((rd_T55 l0_3 x42_2).f4) < 0 then (check_Check.j2 k2 x42_2 l0_3 (l0_3.length : Int) x42_2 true l0_0 a0_1 a0_2 l0_3 ((rd_T55 l0_3 x42_2).f0) ((rd_T55 l0_3 x42_2).f1) ((rd_T55 l0_3 x42_2).f2) ((rd_T55 l0_3 x42_2).f3) ((rd_T55 l0_3 x42_2).f4)) else (check_Check.j2 k2 x42_2 l0_3 (l0_3.length : Int) x42_2 (decide (((rd_T55 l0_3 x42_2).f4) > (l0_3.length : Int))) l0_0 a0_1 a0_2 l0_3 ((rd_T55 l0_3 x42_2).f0) ((rd_T55 l0_3 x42_2).f1) ((rd_T55 l0_3 x42_2).f2) ((rd_T55 l0_3 x42_2).f3) ((rd_T55 l0_3 x42_2).f4))) else (if ((rd_T55 l0_3 x42_2).f0) = 4 then (if ((rd_T55 l0_3 x42_2).f4) < 0 then (check_Check.j2 k2 x42_2 l0_3 (l0_3.length : Int) x42_2 true l0_0 a0_1 a0_2 l0_3 ((rd_T55 l0_3 x42_2).f0) ((rd_T55 l0_3 x42_2).f1) ((rd_T55 l0_3 x42_2).f2) ((rd_T55 l0_3 x42_2).f3) ((rd_T55 l0_3 x42_2).f4)) else (check_Check.j2 k2 x42_2 l0_3 (l0_3.length : Int) x42_2 (decide (((rd_T55 l0_3 x42_2).f4) > (l0_3.length : Int))) l0_0 a0_1 a0_2 l0_3 ((rd_T55 l0_3 x42_2).f0) ((rd_T55 l0_3 x42_2).f1) ((rd_T55 l0_3 x42_2).f2) ((rd_T55 l0_3 x42_2).f3) ((rd_T55 l0_3 x42_2).f4))) else (check_Check.j2 k2 x42_2 l0_3 (l0_3.length : Int) x42_2 false l0_0 a0_1 a0_2 l0_3 ((rd_T55 l0_3 x42_2).f0) ((rd_T55 l0_3 x42_2).f1) ((rd_T55 l0_3 x42_2).f2) ((rd_T55 l0_3 x42_2).f3) ((rd_T55 l0_3 x42_2).f4)))) else (some (x42_2, 4))) = some (r1, r2) := H
           have A19 := Aside0.mk A190
           clear A190
           by_cases c20 : t165 = true
           ·
            subst c20
            have H1 : (if ((rd_T55 l0_3 x42_2).f0) = 3 then (if ((rd_T55 l0_3 x42_2).f4) < 0 then (check_Check.j2 k2 x42_2 l0_3 (l0_3.length : Int) x42_2 true l0_0 a0_1 a0_2 l0_3 ((rd_T55 l0_3 x42_2).f0) ((rd_T55 l0_3 x42_2).f1) ((rd_T55 l0_3 x42_2).f2) ((rd_T55 l0_3 x42_2).f3) ((rd_T55 l0_3 x42_2).f4)) else (check_Check.j2 k2 x42_2 l0_3 (l0_3.length : Int) x42_2 (decide (((rd_T55 l0_3 x42_2).f4) > (l0_3.length : Int))) l0_0 a0_1 a0_2 l0_3 ((rd_T55 l0_3 x42_2).f0) ((rd_T55 l0_3 x42_2).f1) ((rd_T55 l0_3 x42_2).f2) ((rd_T55 l0_3 x42_2).f3) ((rd_T55 l0_3 x42_2).f4))) else (if ((rd_T55 l0_3 x42_2).f0) = 4 then (if ((rd_T55 l0_3 x42_2).f4) < 0 then (check_Check.j2 k2 x42_2 l0_3 (l0_3.length : Int) x42_2 true l0_0 a0_1 a0_2 l0_3 ((rd_T55 l0_3 x42_2).f0) ((rd_T55 l0_3 x42_2).f1) ((rd_T55 l0_3 x42_2).f2) ((rd_T55 l0_3 x42_2).f3) ((rd_T55 l0_3 x42_2).f4)) else (check_Check.j2 k2 x42_2 l0_3 (l0_3.length : Int) x42_2 (decide (((rd_T55 l0_3 x42_2).f4) > (l0_3.length : Int))) l0_0 a0_1 a0_2 l0_3 ((rd_T55 l0_3 x42_2).f0) ((rd_T55 l0_3 x42_2).f1) ((rd_T55 l0_3 x42_2).f2) ((rd_T55 l0_3 x42_2).f3) ((rd_T55 l0_3 x42_2).f4))) else (check_Check.j2 k2 x42_2 l0_3 (l0_3.length : Int) x42_2 false l0_0 a0_1 a0_2 l0_3 ((rd_T55 l0_3 x42_2).f0) ((rd_T55 l0_3 x42_2).f1) ((rd_T55 l0_3 x42_2).f2) ((rd_T55 l0_3 x42_2).f3) ((rd_T55 l0_3 x42_2).f4)))) = some (r1, r2) := by rw [if_pos rfl] at H; exact H
            clear H
            have H := H1
            clear H1
            have HC21 := Aside0.mk H
            clear H
            have p163 : 0 ≤ (x42_2 : Int) := of_decide_eq_true (by first | (with_reducible assumption) | assumption)
            have q163 : x42_2 < (l0_3.length : Int) := of_decide_eq_true (by first | (with_reducible assumption) | assumption)
            obtain ⟨ad163, e163, hx163_0, hx163_1, hx163_2, hx163_3, hx163_4⟩ := at_T55 HR0_3.out x42_2 p163 q163
            cases e163
            replace hx163_0 := (HB.out.cell (World.block_lt_of_cell? w _ hx163_0)).trans hx163_0
            replace hx163_1 := (HB.out.cell (World.block_lt_of_cell? w _ hx163_1)).trans hx163_1
            replace hx163_2 := (HB.out.cell (World.block_lt_of_cell? w _ hx163_2)).trans hx163_2
            replace hx163_3 := (HB.out.cell (World.block_lt_of_cell? w _ hx163_3)).trans hx163_3
            replace hx163_4 := (HB.out.cell (World.block_lt_of_cell? w _ hx163_4)).trans hx163_4
            replace p163 := eq_true p163
            replace q163 := eq_true q163
            go_upto_region 11 with (first | ((with_reducible refine gate_dst (N := 6) rfl ?_); (try (refine gate_guard (by rfl) ?_; dsimp only)); refine box_event ?hg (N := 6) ?hd (cs := #[.int .u8 0, .int .u8 0, .int .u8 0, .int .u8 0, .int .i64 0]) (t := 55) ?hr ?_; (case hd => rfl); (case hg => rfl); (case hr => first | (go_simp; done) | (go_simp; rfl)); intro gb164 hg w22 hbox hb; have n0_ := Aside0.mk (blk_below (g := gb161) (o := .cells #[.slice A0_0 l0_0.length c0_0, .string a0_1, .string a0_2, .slice (some ad163) l0_3.length c0_3] 25 (0, 0)) (by (with_reducible repeat (first | refine blk_drewN ?_ _ | refine blk_drew ?_ | refine blk_alloc ?_ _)); exact BK161.out) hb); have n1_ := Aside0.mk (below_step (by repeat (first | (with_reducible first | exact HB.out | apply below_alloc | apply pw_below_drewN | apply below_drew1 | refine below_set ?_ GE161.out) | exact HB.out)) hb); have n2_ := Aside0.mk (hbox); have n3_ := Aside0.mk ((by rw [hg]; exact (below_size (by repeat (first | (with_reducible first | exact HB.out | apply below_alloc | apply pw_below_drewN | apply below_drew1 | refine below_set ?_ GE161.out) | exact HB.out))) : w.heap.size ≤ gb164)); have n4_ := n3_; have n5_ := Aside0.mk ((by rw [hg]; exact Nat.ne_of_lt (blk_lt (g := gb161) (o := .cells #[.slice A0_0 l0_0.length c0_0, .string a0_1, .string a0_2, .slice (some ad163) l0_3.length c0_3] 25 (0, 0)) (by (with_reducible repeat (first | refine blk_drewN ?_ _ | refine blk_drew ?_ | refine blk_alloc ?_ _)); exact BK161.out)) : gb161 ≠ gb164)); have n6_ := Aside0.mk n5_.out.symm; clear BK161; clear HB; have BK161 := n0_; have HB := n1_; have BK164 := n2_; have GW164 := n3_; have GE164 := n4_; have NB161_164 := n5_; have NB164_161 := n6_; clear n0_ n1_ n2_ n3_ n4_ n5_ n6_; clear hb hbox hg; have hnb23 := NB164_161.out; have hnc23 := NB161_164.out; have hcz24_0 : w22.cell? ⟨gb164, 0, none⟩ = some (.int .u8 0) := (blk_cell BK164.out 0).trans rfl; have hcz24_1 : w22.cell? ⟨gb164, 1, none⟩ = some (.int .u8 0) := (blk_cell BK164.out 1).trans rfl; have hcz24_2 : w22.cell? ⟨gb164, 2, none⟩ = some (.int .u8 0) := (blk_cell BK164.out 2).trans rfl; have hcz24_3 : w22.cell? ⟨gb164, 3, none⟩ = some (.int .u8 0) := (blk_cell BK164.out 3).trans rfl; have hcz24_4 : w22.cell? ⟨gb164, 4, none⟩ = some (.int .i64 0) := (blk_cell BK164.out 4).trans rfl; have hfz24_0 := blk_frozen BK164.out 0; have hfz24_1 := blk_frozen BK164.out 1; have hfz24_2 := blk_frozen BK164.out 2; have hfz24_3 := blk_frozen BK164.out 3; have hfz24_4 := blk_frozen BK164.out 4) | ((with_reducible refine gate_callee (f := 33) rfl ?_); refine goesL_ (some 49) rfl rfl Tryd.func33 (by kernel_rfl) rfl #[.agg #[.int .u8 ((rd_T55 l0_3 x42_2).f0), .int .u8 ((rd_T55 l0_3 x42_2).f1), .int .u8 ((rd_T55 l0_3 x42_2).f2), .int .u8 ((rd_T55 l0_3 x42_2).f3), .int .i64 ((rd_T55 l0_3 x42_2).f4)]] rfl (by (try simp only [List.map_toArray, List.map_cons, List.map_nil]); first | done | rfl | (simp only [List.length_drop, List.length_take]; rfl)) ?_; (with_reducible refine (code_Right.calls ((rd_T55 l0_3 x42_2).f0) ((rd_T55 l0_3 x42_2).f1) ((rd_T55 l0_3 x42_2).f2) ((rd_T55 l0_3 x42_2).f3) ((rd_T55 l0_3 x42_2).f4) true _ ?side1 A19.out).mono ?_); (case side1 => exact Kd.C_below HRT.out (by repeat (first | (with_reducible first | exact HB.out | apply below_alloc | apply pw_below_drewN | apply below_drew1 | refine below_set ?_ GE161.out | refine below_set ?_ GE164.out) | exact HB.out))); rintro e w25 ⟨rfl, hb⟩; refine ⟨_, rfl, ?_⟩; have n0_ := Aside0.mk (blk_below (g := gb161) (o := .cells #[.slice A0_0 l0_0.length c0_0, .string a0_1, .string a0_2, .slice (some ad163) l0_3.length c0_3] 25 (0, 0)) (by (with_reducible repeat (first | refine blk_drewN ?_ _ | refine blk_drew ?_ | refine blk_alloc ?_ _)); refine blk_far ?_ NB161_164.out _; (with_reducible repeat (first | refine blk_drewN ?_ _ | refine blk_drew ?_ | refine blk_alloc ?_ _)); refine blk_far ?_ NB161_164.out _; (with_reducible repeat (first | refine blk_drewN ?_ _ | refine blk_drew ?_ | refine blk_alloc ?_ _)); refine blk_far ?_ NB161_164.out _; (with_reducible repeat (first | refine blk_drewN ?_ _ | refine blk_drew ?_ | refine blk_alloc ?_ _)); refine blk_far ?_ NB161_164.out _; (with_reducible repeat (first | refine blk_drewN ?_ _ | refine blk_drew ?_ | refine blk_alloc ?_ _)); refine blk_far ?_ NB161_164.out _; (with_reducible repeat (first | refine blk_drewN ?_ _ | refine blk_drew ?_ | refine blk_alloc ?_ _)); exact BK161.out) hb); have n1_ := Aside0.mk (blk_below (g := gb164) (o := .cells #[.int .u8 ((rd_T55 l0_3 x42_2).f0), .int .u8 ((rd_T55 l0_3 x42_2).f1), .int .u8 ((rd_T55 l0_3 x42_2).f2), .int .u8 ((rd_T55 l0_3 x42_2).f3), .int .i64 ((rd_T55 l0_3 x42_2).f4)] 55 (0, 0)) (by (with_reducible repeat (first | refine blk_drewN ?_ _ | refine blk_drew ?_ | refine blk_alloc ?_ _)); refine blk_put (cs := #[.int .u8 ((rd_T55 l0_3 x42_2).f0), .int .u8 ((rd_T55 l0_3 x42_2).f1), .int .u8 ((rd_T55 l0_3 x42_2).f2), .int .u8 ((rd_T55 l0_3 x42_2).f3), .int .i64 0]) ?_ 4 _ rfl; (with_reducible repeat (first | refine blk_drewN ?_ _ | refine blk_drew ?_ | refine blk_alloc ?_ _)); refine blk_put (cs := #[.int .u8 ((rd_T55 l0_3 x42_2).f0), .int .u8 ((rd_T55 l0_3 x42_2).f1), .int .u8 ((rd_T55 l0_3 x42_2).f2), .int .u8 0, .int .i64 0]) ?_ 3 _ rfl; (with_reducible repeat (first | refine blk_drewN ?_ _ | refine blk_drew ?_ | refine blk_alloc ?_ _)); refine blk_put (cs := #[.int .u8 ((rd_T55 l0_3 x42_2).f0), .int .u8 ((rd_T55 l0_3 x42_2).f1), .int .u8 0, .int .u8 0, .int .i64 0]) ?_ 2 _ rfl; (with_reducible repeat (first | refine blk_drewN ?_ _ | refine blk_drew ?_ | refine blk_alloc ?_ _)); refine blk_put (cs := #[.int .u8 ((rd_T55 l0_3 x42_2).f0), .int .u8 0, .int .u8 0, .int .u8 0, .int .i64 0]) ?_ 1 _ rfl; (with_reducible repeat (first | refine blk_drewN ?_ _ | refine blk_drew ?_ | refine blk_alloc ?_ _)); refine blk_put (cs := #[.int .u8 0, .int .u8 0, .int .u8 0, .int .u8 0, .int .i64 0]) ?_ 0 _ rfl; (with_reducible repeat (first | refine blk_drewN ?_ _ | refine blk_drew ?_ | refine blk_alloc ?_ _)); exact BK164.out) hb); have n2_ := Aside0.mk (below_step (by repeat (first | (with_reducible first | exact HB.out | apply below_alloc | apply pw_below_drewN | apply below_drew1 | refine below_set ?_ GE161.out | refine below_set ?_ GE164.out) | exact HB.out)) hb); clear BK161; clear BK164; clear HB; have BK161 := n0_; have BK164 := n1_; have HB := n2_; clear n0_ n1_ n2_; (try clear hb); (try clear hb2); (try clear hk); (try clear hi)))
            (try simp only [Act.put, List.setIfInBounds_toArray, List.set_cons_zero, List.set_cons_succ])
            go_cut [52] (fun v52 wc => ∃ (kq : Nat) (x52_20 : Bool), v52 = .bool x52_20 ∧ Aside0 (check_Check.j2 kq x42_2 l0_3 (l0_3.length : Int) x42_2 x52_20 l0_0 a0_1 a0_2 l0_3 ((rd_T55 l0_3 x42_2).f0) ((rd_T55 l0_3 x42_2).f1) ((rd_T55 l0_3 x42_2).f2) ((rd_T55 l0_3 x42_2).f3) ((rd_T55 l0_3 x42_2).f4) = some (r1, r2)) ∧ Aside0 (kq ≤ k2) ∧ Aside0 (wc.heap[gb161]? = some (.cells #[(.slice A0_0 l0_0.length c0_0), .string a0_1, .string a0_2, (.slice (some ad163) l0_3.length c0_3)] 25 (0, 0))) ∧ Aside0 (wc.heap[gb164]? = some (.cells #[.int .u8 ((rd_T55 l0_3 x42_2).f0), .int .u8 ((rd_T55 l0_3 x42_2).f1), .int .u8 ((rd_T55 l0_3 x42_2).f2), .int .u8 ((rd_T55 l0_3 x42_2).f3), .int .i64 ((rd_T55 l0_3 x42_2).f4)] 55 (0, 0))) ∧ Aside0 (Below w.heap.size w wc))
            case first =>
             have H := HC21.out
             clear HC21
             by_cases c26 : ((rd_T55 l0_3 x42_2).f0) = 3
             ·
              rw [if_pos c26] at H
              have c26b0 : (((rd_T55 l0_3 x42_2).f0) == 3) = true := beq_iff_eq.mpr c26
              have c26b1 : (((rd_T55 l0_3 x42_2).f0) != 3) = false := bne_eq_false_iff_eq.mpr c26
              clear c26
              (first | rw [c26b0] | (simp only [i64_w, i32_w]; rw [c26b0]) | skip)
              by_cases c27 : ((rd_T55 l0_3 x42_2).f4) < 0
              ·
               rw [if_pos c27] at H
               have c27b0 : decide (((rd_T55 l0_3 x42_2).f4) < 0) = true := decide_eq_true c27
               clear c27
               have H' := Aside0.mk H
               clear H
               have hnb28 := NB164_161.out
               have hnc28 := NB161_164.out
               have hcz29_0 : w25.cell? ⟨gb164, 0, none⟩ = some (.int .u8 ((rd_T55 l0_3 x42_2).f0)) := (blk_cell BK164.out 0).trans rfl
               have hcz29_1 : w25.cell? ⟨gb164, 1, none⟩ = some (.int .u8 ((rd_T55 l0_3 x42_2).f1)) := (blk_cell BK164.out 1).trans rfl
               have hcz29_2 : w25.cell? ⟨gb164, 2, none⟩ = some (.int .u8 ((rd_T55 l0_3 x42_2).f2)) := (blk_cell BK164.out 2).trans rfl
               have hcz29_3 : w25.cell? ⟨gb164, 3, none⟩ = some (.int .u8 ((rd_T55 l0_3 x42_2).f3)) := (blk_cell BK164.out 3).trans rfl
               have hcz29_4 : w25.cell? ⟨gb164, 4, none⟩ = some (.int .i64 ((rd_T55 l0_3 x42_2).f4)) := (blk_cell BK164.out 4).trans rfl
               have hfz29_0 := blk_frozen BK164.out 0
               have hfz29_1 := blk_frozen BK164.out 1
               have hfz29_2 := blk_frozen BK164.out 2
               have hfz29_3 := blk_frozen BK164.out 3
               have hfz29_4 := blk_frozen BK164.out 4
               go_wp2
               go_meet
               case rel => exact ⟨_, (true), (by first | rfl | (simp; done) | (simp [*]; done)), H', ⟨by have := HJ1.out; have := HK2.out; first | omega | exact Nat.le_refl _⟩, ⟨by (with_reducible repeat (first | refine blk_drewN ?_ _ | refine blk_drew ?_ | refine blk_alloc ?_ _)); exact BK161.out⟩, ⟨by (with_reducible repeat (first | refine blk_drewN ?_ _ | refine blk_drew ?_ | refine blk_alloc ?_ _)); exact BK164.out⟩, ⟨by repeat (first | (with_reducible first | exact HB.out | apply below_alloc | apply pw_below_drewN | apply below_drew1 | refine below_set ?_ GE161.out | refine below_set ?_ GE164.out) | exact HB.out)⟩⟩
              ·
               rw [if_neg c27] at H
               have c27b0 : decide (((rd_T55 l0_3 x42_2).f4) < 0) = false := decide_eq_false c27
               clear c27
               have H' := Aside0.mk H
               clear H
               have hnb30 := NB164_161.out
               have hnc30 := NB161_164.out
               have hcz31_0 : w25.cell? ⟨gb164, 0, none⟩ = some (.int .u8 ((rd_T55 l0_3 x42_2).f0)) := (blk_cell BK164.out 0).trans rfl
               have hcz31_1 : w25.cell? ⟨gb164, 1, none⟩ = some (.int .u8 ((rd_T55 l0_3 x42_2).f1)) := (blk_cell BK164.out 1).trans rfl
               have hcz31_2 : w25.cell? ⟨gb164, 2, none⟩ = some (.int .u8 ((rd_T55 l0_3 x42_2).f2)) := (blk_cell BK164.out 2).trans rfl
               have hcz31_3 : w25.cell? ⟨gb164, 3, none⟩ = some (.int .u8 ((rd_T55 l0_3 x42_2).f3)) := (blk_cell BK164.out 3).trans rfl
               have hcz31_4 : w25.cell? ⟨gb164, 4, none⟩ = some (.int .i64 ((rd_T55 l0_3 x42_2).f4)) := (blk_cell BK164.out 4).trans rfl
               have hfz31_0 := blk_frozen BK164.out 0
               have hfz31_1 := blk_frozen BK164.out 1
               have hfz31_2 := blk_frozen BK164.out 2
               have hfz31_3 := blk_frozen BK164.out 3
               have hfz31_4 := blk_frozen BK164.out 4
               have hcz32_0 : w25.cell? ⟨gb161, 0, none⟩ = some (.slice A0_0 l0_0.length c0_0) := (blk_cell BK161.out 0).trans rfl
               have hcz32_1 : w25.cell? ⟨gb161, 1, none⟩ = some (.string a0_1) := (blk_cell BK161.out 1).trans rfl
               have hcz32_2 : w25.cell? ⟨gb161, 2, none⟩ = some (.string a0_2) := (blk_cell BK161.out 2).trans rfl
               have hcz32_3 : w25.cell? ⟨gb161, 3, none⟩ = some (.slice (some ad163) l0_3.length c0_3) := (blk_cell BK161.out 3).trans rfl
               have hfz32_0 := blk_frozen BK161.out 0
               have hfz32_1 := blk_frozen BK161.out 1
               have hfz32_2 := blk_frozen BK161.out 2
               have hfz32_3 := blk_frozen BK161.out 3
               go_wp2
               go_meet
               case rel => exact ⟨_, (decide (((rd_T55 l0_3 x42_2).f4) > (l0_3.length : Int))), (by first | rfl | (simp; done) | (simp [*]; done)), H', ⟨by have := HJ1.out; have := HK2.out; first | omega | exact Nat.le_refl _⟩, ⟨by (with_reducible repeat (first | refine blk_drewN ?_ _ | refine blk_drew ?_ | refine blk_alloc ?_ _)); exact BK161.out⟩, ⟨by (with_reducible repeat (first | refine blk_drewN ?_ _ | refine blk_drew ?_ | refine blk_alloc ?_ _)); exact BK164.out⟩, ⟨by repeat (first | (with_reducible first | exact HB.out | apply below_alloc | apply pw_below_drewN | apply below_drew1 | refine below_set ?_ GE161.out | refine below_set ?_ GE164.out) | exact HB.out)⟩⟩
             ·
              rw [if_neg c26] at H
              have c26b0 : (((rd_T55 l0_3 x42_2).f0) == 3) = false := beq_eq_false_iff_ne.mpr c26
              have c26b1 : (((rd_T55 l0_3 x42_2).f0) != 3) = true := bne_iff_ne.mpr c26
              (first | rw [c26b0] | (simp only [i64_w, i32_w]; rw [c26b0]) | skip)
              by_cases c33 : ((rd_T55 l0_3 x42_2).f0) = 4
              ·
               rw [if_pos c33] at H
               have c33b0 : (((rd_T55 l0_3 x42_2).f0) == 4) = true := beq_iff_eq.mpr c33
               have c33b1 : (((rd_T55 l0_3 x42_2).f0) != 4) = false := bne_eq_false_iff_eq.mpr c33
               clear c33
               by_cases c34 : ((rd_T55 l0_3 x42_2).f4) < 0
               ·
                rw [if_pos c34] at H
                have c34b0 : decide (((rd_T55 l0_3 x42_2).f4) < 0) = true := decide_eq_true c34
                clear c34
                have H' := Aside0.mk H
                clear H
                have hnb35 := NB164_161.out
                have hnc35 := NB161_164.out
                have hcz36_0 : w25.cell? ⟨gb164, 0, none⟩ = some (.int .u8 ((rd_T55 l0_3 x42_2).f0)) := (blk_cell BK164.out 0).trans rfl
                have hcz36_1 : w25.cell? ⟨gb164, 1, none⟩ = some (.int .u8 ((rd_T55 l0_3 x42_2).f1)) := (blk_cell BK164.out 1).trans rfl
                have hcz36_2 : w25.cell? ⟨gb164, 2, none⟩ = some (.int .u8 ((rd_T55 l0_3 x42_2).f2)) := (blk_cell BK164.out 2).trans rfl
                have hcz36_3 : w25.cell? ⟨gb164, 3, none⟩ = some (.int .u8 ((rd_T55 l0_3 x42_2).f3)) := (blk_cell BK164.out 3).trans rfl
                have hcz36_4 : w25.cell? ⟨gb164, 4, none⟩ = some (.int .i64 ((rd_T55 l0_3 x42_2).f4)) := (blk_cell BK164.out 4).trans rfl
                have hfz36_0 := blk_frozen BK164.out 0
                have hfz36_1 := blk_frozen BK164.out 1
                have hfz36_2 := blk_frozen BK164.out 2
                have hfz36_3 := blk_frozen BK164.out 3
                have hfz36_4 := blk_frozen BK164.out 4
                go_wp2
                go_meet
                case rel => exact ⟨_, (true), (by first | rfl | (simp; done) | (simp [*]; done)), H', ⟨by have := HJ1.out; have := HK2.out; first | omega | exact Nat.le_refl _⟩, ⟨by (with_reducible repeat (first | refine blk_drewN ?_ _ | refine blk_drew ?_ | refine blk_alloc ?_ _)); exact BK161.out⟩, ⟨by (with_reducible repeat (first | refine blk_drewN ?_ _ | refine blk_drew ?_ | refine blk_alloc ?_ _)); exact BK164.out⟩, ⟨by repeat (first | (with_reducible first | exact HB.out | apply below_alloc | apply pw_below_drewN | apply below_drew1 | refine below_set ?_ GE161.out | refine below_set ?_ GE164.out) | exact HB.out)⟩⟩
               ·
                rw [if_neg c34] at H
                have c34b0 : decide (((rd_T55 l0_3 x42_2).f4) < 0) = false := decide_eq_false c34
                clear c34
                have H' := Aside0.mk H
                clear H
                have hnb37 := NB164_161.out
                have hnc37 := NB161_164.out
                have hcz38_0 : w25.cell? ⟨gb164, 0, none⟩ = some (.int .u8 ((rd_T55 l0_3 x42_2).f0)) := (blk_cell BK164.out 0).trans rfl
                have hcz38_1 : w25.cell? ⟨gb164, 1, none⟩ = some (.int .u8 ((rd_T55 l0_3 x42_2).f1)) := (blk_cell BK164.out 1).trans rfl
                have hcz38_2 : w25.cell? ⟨gb164, 2, none⟩ = some (.int .u8 ((rd_T55 l0_3 x42_2).f2)) := (blk_cell BK164.out 2).trans rfl
                have hcz38_3 : w25.cell? ⟨gb164, 3, none⟩ = some (.int .u8 ((rd_T55 l0_3 x42_2).f3)) := (blk_cell BK164.out 3).trans rfl
                have hcz38_4 : w25.cell? ⟨gb164, 4, none⟩ = some (.int .i64 ((rd_T55 l0_3 x42_2).f4)) := (blk_cell BK164.out 4).trans rfl
                have hfz38_0 := blk_frozen BK164.out 0
                have hfz38_1 := blk_frozen BK164.out 1
                have hfz38_2 := blk_frozen BK164.out 2
                have hfz38_3 := blk_frozen BK164.out 3
                have hfz38_4 := blk_frozen BK164.out 4
                have hcz39_0 : w25.cell? ⟨gb161, 0, none⟩ = some (.slice A0_0 l0_0.length c0_0) := (blk_cell BK161.out 0).trans rfl
                have hcz39_1 : w25.cell? ⟨gb161, 1, none⟩ = some (.string a0_1) := (blk_cell BK161.out 1).trans rfl
                have hcz39_2 : w25.cell? ⟨gb161, 2, none⟩ = some (.string a0_2) := (blk_cell BK161.out 2).trans rfl
                have hcz39_3 : w25.cell? ⟨gb161, 3, none⟩ = some (.slice (some ad163) l0_3.length c0_3) := (blk_cell BK161.out 3).trans rfl
                have hfz39_0 := blk_frozen BK161.out 0
                have hfz39_1 := blk_frozen BK161.out 1
                have hfz39_2 := blk_frozen BK161.out 2
                have hfz39_3 := blk_frozen BK161.out 3
                go_wp2
                go_meet
                case rel => exact ⟨_, (decide (((rd_T55 l0_3 x42_2).f4) > (l0_3.length : Int))), (by first | rfl | (simp; done) | (simp [*]; done)), H', ⟨by have := HJ1.out; have := HK2.out; first | omega | exact Nat.le_refl _⟩, ⟨by (with_reducible repeat (first | refine blk_drewN ?_ _ | refine blk_drew ?_ | refine blk_alloc ?_ _)); exact BK161.out⟩, ⟨by (with_reducible repeat (first | refine blk_drewN ?_ _ | refine blk_drew ?_ | refine blk_alloc ?_ _)); exact BK164.out⟩, ⟨by repeat (first | (with_reducible first | exact HB.out | apply below_alloc | apply pw_below_drewN | apply below_drew1 | refine below_set ?_ GE161.out | refine below_set ?_ GE164.out) | exact HB.out)⟩⟩
              ·
               rw [if_neg c33] at H
               have c33b0 : (((rd_T55 l0_3 x42_2).f0) == 4) = false := beq_eq_false_iff_ne.mpr c33
               have c33b1 : (((rd_T55 l0_3 x42_2).f0) != 4) = true := bne_iff_ne.mpr c33
               have H' := Aside0.mk H
               clear H
               have hnb40 := NB164_161.out
               have hnc40 := NB161_164.out
               have hcz41_0 : w25.cell? ⟨gb164, 0, none⟩ = some (.int .u8 ((rd_T55 l0_3 x42_2).f0)) := (blk_cell BK164.out 0).trans rfl
               have hcz41_1 : w25.cell? ⟨gb164, 1, none⟩ = some (.int .u8 ((rd_T55 l0_3 x42_2).f1)) := (blk_cell BK164.out 1).trans rfl
               have hcz41_2 : w25.cell? ⟨gb164, 2, none⟩ = some (.int .u8 ((rd_T55 l0_3 x42_2).f2)) := (blk_cell BK164.out 2).trans rfl
               have hcz41_3 : w25.cell? ⟨gb164, 3, none⟩ = some (.int .u8 ((rd_T55 l0_3 x42_2).f3)) := (blk_cell BK164.out 3).trans rfl
               have hcz41_4 : w25.cell? ⟨gb164, 4, none⟩ = some (.int .i64 ((rd_T55 l0_3 x42_2).f4)) := (blk_cell BK164.out 4).trans rfl
               have hfz41_0 := blk_frozen BK164.out 0
               have hfz41_1 := blk_frozen BK164.out 1
               have hfz41_2 := blk_frozen BK164.out 2
               have hfz41_3 := blk_frozen BK164.out 3
               have hfz41_4 := blk_frozen BK164.out 4
               go_wp2
               go_meet
               case rel => exact ⟨_, (false), (by first | rfl | (simp; done) | (simp [*]; done)), H', ⟨by have := HJ1.out; have := HK2.out; first | omega | exact Nat.le_refl _⟩, ⟨by (with_reducible repeat (first | refine blk_drewN ?_ _ | refine blk_drew ?_ | refine blk_alloc ?_ _)); exact BK161.out⟩, ⟨by (with_reducible repeat (first | refine blk_drewN ?_ _ | refine blk_drew ?_ | refine blk_alloc ?_ _)); exact BK164.out⟩, ⟨by repeat (first | (with_reducible first | exact HB.out | apply below_alloc | apply pw_below_drewN | apply below_drew1 | refine below_set ?_ GE161.out | refine below_set ?_ GE164.out) | exact HB.out)⟩⟩
            case rest =>
             clear HC21
             obtain ⟨kq, x52_20, rfl, HA, HJ20, BK161, BK164, HB⟩ := hcut
             cases kq with
             | zero => exact absurd HA.out (by simp [check_Check.j2])
             | succ kj20 =>
              have H := HA.out
              clear HA
              simp only [check_Check.j2] at H
              by_cases c42 : x52_20 = true
              ·
               subst c42
               have H1 : (some (x42_2, 12)) = some (r1, r2) := by rw [if_pos rfl] at H; exact H
               clear H
               have H := H1
               clear H1
               simp only [Option.some.injEq, Prod.mk.injEq] at H
               obtain ⟨rfl, rfl⟩ := H
               go_wp2
               go_ret2
               exact ⟨by first | rfl | (simp [errW_none, errW_some] <;> rfl) | (simp [*, errW_none, errW_some] <;> rfl), by repeat (first | (with_reducible first | exact HB.out | apply below_alloc | apply pw_below_drewN | apply below_drew1 | refine below_set ?_ GE161.out | refine below_set ?_ GE164.out) | exact HB.out)⟩
              ·
               replace c42 := Bool.eq_false_iff.mpr c42
               subst c42
               have H1 : ((check_kinds.f kj20 l0_0 a0_1 a0_2 l0_3 ((rd_T55 l0_3 x42_2).f0) ((rd_T55 l0_3 x42_2).f1) ((rd_T55 l0_3 x42_2).f2) ((rd_T55 l0_3 x42_2).f3) ((rd_T55 l0_3 x42_2).f4)).bind fun t166 => (if t166 = true then (check_Check.l0 kj20 l0_3 (l0_3.length : Int) (wrap64 (x42_2 + 1)) l0_0 a0_1 a0_2 l0_3) else (some (x42_2, 5)))) = some (r1, r2) := by rw [if_neg (show ¬ (false = true) by decide)] at H; exact H
               clear H
               have H := H1
               clear H1
               replace H := Option.bind_eq_some_iff.mp H
               obtain ⟨t166, A430, H⟩ := H
               replace H : (if t166 = true then (check_Check.l0 kj20 l0_3 (l0_3.length : Int) (wrap64 (x42_2 + 1)) l0_0 a0_1 a0_2 l0_3) else (some (x42_2, 5))) = some (r1, r2) := H
               have A43 := Aside0.mk A430
               clear A430
               by_cases c44 : t166 = true
               ·
                subst c44
                have H1 : (check_Check.l0 kj20 l0_3 (l0_3.length : Int) (wrap64 (x42_2 + 1)) l0_0 a0_1 a0_2 l0_3) = some (r1, r2) := by rw [if_pos rfl] at H; exact H
                clear H
                have H := H1
                clear H1
                have H' := Aside0.mk H
                clear H
                have hnb45 := NB161_164.out
                have hnc45 := NB164_161.out
                have hcz46_0 : wc.cell? ⟨gb161, 0, none⟩ = some (.slice A0_0 l0_0.length c0_0) := (blk_cell BK161.out 0).trans rfl
                have hcz46_1 : wc.cell? ⟨gb161, 1, none⟩ = some (.string a0_1) := (blk_cell BK161.out 1).trans rfl
                have hcz46_2 : wc.cell? ⟨gb161, 2, none⟩ = some (.string a0_2) := (blk_cell BK161.out 2).trans rfl
                have hcz46_3 : wc.cell? ⟨gb161, 3, none⟩ = some (.slice (some ad163) l0_3.length c0_3) := (blk_cell BK161.out 3).trans rfl
                have hfz46_0 := blk_frozen BK161.out 0
                have hfz46_1 := blk_frozen BK161.out 1
                have hfz46_2 := blk_frozen BK161.out 2
                have hfz46_3 := blk_frozen BK161.out 3
                have hcz47_0 : wc.cell? ⟨gb164, 0, none⟩ = some (.int .u8 ((rd_T55 l0_3 x42_2).f0)) := (blk_cell BK164.out 0).trans rfl
                have hcz47_1 : wc.cell? ⟨gb164, 1, none⟩ = some (.int .u8 ((rd_T55 l0_3 x42_2).f1)) := (blk_cell BK164.out 1).trans rfl
                have hcz47_2 : wc.cell? ⟨gb164, 2, none⟩ = some (.int .u8 ((rd_T55 l0_3 x42_2).f2)) := (blk_cell BK164.out 2).trans rfl
                have hcz47_3 : wc.cell? ⟨gb164, 3, none⟩ = some (.int .u8 ((rd_T55 l0_3 x42_2).f3)) := (blk_cell BK164.out 3).trans rfl
                have hcz47_4 : wc.cell? ⟨gb164, 4, none⟩ = some (.int .i64 ((rd_T55 l0_3 x42_2).f4)) := (blk_cell BK164.out 4).trans rfl
                have hfz47_0 := blk_frozen BK164.out 0
                have hfz47_1 := blk_frozen BK164.out 1
                have hfz47_2 := blk_frozen BK164.out 2
                have hfz47_3 := blk_frozen BK164.out 3
                have hfz47_4 := blk_frozen BK164.out 4
                go_wp2_with (first | ((with_reducible refine gate_callee (f := 34) rfl ?_); refine goesL_ (some 78) rfl rfl Tryd.func34 (by kernel_rfl) rfl #[.agg #[.slice A0_0 l0_0.length c0_0, .string a0_1, .string a0_2, .slice (some ad163) l0_3.length c0_3], .agg #[.int .u8 ((rd_T55 l0_3 x42_2).f0), .int .u8 ((rd_T55 l0_3 x42_2).f1), .int .u8 ((rd_T55 l0_3 x42_2).f2), .int .u8 ((rd_T55 l0_3 x42_2).f3), .int .i64 ((rd_T55 l0_3 x42_2).f4)]] rfl (by (try simp only [List.map_toArray, List.map_cons, List.map_nil]); first | done | rfl | (simp only [List.length_drop, List.length_take]; rfl)) ?_; (with_reducible refine (check_kinds.calls kj20 _ _ l0_0 a0_1 a0_2 _ _ l0_3 ((rd_T55 l0_3 x42_2).f0) ((rd_T55 l0_3 x42_2).f1) ((rd_T55 l0_3 x42_2).f2) ((rd_T55 l0_3 x42_2).f3) ((rd_T55 l0_3 x42_2).f4) true _ ?side1 ?side2 ?side3 ?side4 A43.out).mono ?_); (case side1 => repeat (first | exact (Kd.C_below HR0_0.out HB.out) | (with_reducible refine Kd.C_alloc ?_ _) | (with_reducible refine Kd.C_drewN ?_ _) | (with_reducible refine Kd.C_drew ?_))); (case side2 => exact HC0_0.out); (case side3 => repeat (first | exact (Kd.C_below HR0_3.out HB.out) | (with_reducible refine Kd.C_alloc ?_ _) | (with_reducible refine Kd.C_drewN ?_ _) | (with_reducible refine Kd.C_drew ?_))); (case side4 => exact HC0_3.out); rintro e w48 ⟨rfl, hb⟩; refine ⟨_, rfl, ?_⟩; have n0_ := Aside0.mk (blk_below (g := gb161) (o := .cells #[.slice A0_0 l0_0.length c0_0, .string a0_1, .string a0_2, .slice (some ad163) l0_3.length c0_3] 25 (0, 0)) (by (with_reducible repeat (first | refine blk_drewN ?_ _ | refine blk_drew ?_ | refine blk_alloc ?_ _)); exact BK161.out) hb); have n1_ := Aside0.mk (blk_below (g := gb164) (o := .cells #[.int .u8 ((rd_T55 l0_3 x42_2).f0), .int .u8 ((rd_T55 l0_3 x42_2).f1), .int .u8 ((rd_T55 l0_3 x42_2).f2), .int .u8 ((rd_T55 l0_3 x42_2).f3), .int .i64 ((rd_T55 l0_3 x42_2).f4)] 55 (0, 0)) (by (with_reducible repeat (first | refine blk_drewN ?_ _ | refine blk_drew ?_ | refine blk_alloc ?_ _)); exact BK164.out) hb); have n2_ := Aside0.mk (below_step (by repeat (first | (with_reducible first | exact HB.out | apply below_alloc | apply pw_below_drewN | apply below_drew1 | refine below_set ?_ GE161.out | refine below_set ?_ GE164.out) | exact HB.out)) hb); clear BK161; clear BK164; clear HB; have BK161 := n0_; have BK164 := n1_; have HB := n2_; clear n0_ n1_ n2_; (try clear hb); (try clear hb2); (try clear hk); (try clear hi)))
                go_roundg kj20
                case measure => have := HJ1.out; have := HK2.out; have := HJ20.out; omega
                case rel => exact ⟨(wrap64 (x42_2 + 1)), (by first | rfl | (simp; done) | (simp [*]; done)), H', ⟨by have := HJ1.out; have := HK2.out; have := HJ20.out; omega⟩, ⟨by (with_reducible repeat (first | refine blk_drewN ?_ _ | refine blk_drew ?_ | refine blk_alloc ?_ _)); exact BK161.out⟩, ⟨by repeat (first | (with_reducible first | exact HB.out | apply below_alloc | apply pw_below_drewN | apply below_drew1 | refine below_set ?_ GE161.out | refine below_set ?_ GE164.out) | exact HB.out)⟩⟩
               ·
                replace c44 := Bool.eq_false_iff.mpr c44
                subst c44
                have H1 : (some (x42_2, 5)) = some (r1, r2) := by rw [if_neg (show ¬ (false = true) by decide)] at H; exact H
                clear H
                have H := H1
                clear H1
                simp only [Option.some.injEq, Prod.mk.injEq] at H
                obtain ⟨rfl, rfl⟩ := H
                have hnb49 := NB161_164.out
                have hnc49 := NB164_161.out
                have hcz50_0 : wc.cell? ⟨gb161, 0, none⟩ = some (.slice A0_0 l0_0.length c0_0) := (blk_cell BK161.out 0).trans rfl
                have hcz50_1 : wc.cell? ⟨gb161, 1, none⟩ = some (.string a0_1) := (blk_cell BK161.out 1).trans rfl
                have hcz50_2 : wc.cell? ⟨gb161, 2, none⟩ = some (.string a0_2) := (blk_cell BK161.out 2).trans rfl
                have hcz50_3 : wc.cell? ⟨gb161, 3, none⟩ = some (.slice (some ad163) l0_3.length c0_3) := (blk_cell BK161.out 3).trans rfl
                have hfz50_0 := blk_frozen BK161.out 0
                have hfz50_1 := blk_frozen BK161.out 1
                have hfz50_2 := blk_frozen BK161.out 2
                have hfz50_3 := blk_frozen BK161.out 3
                have hcz51_0 : wc.cell? ⟨gb164, 0, none⟩ = some (.int .u8 ((rd_T55 l0_3 x42_2).f0)) := (blk_cell BK164.out 0).trans rfl
                have hcz51_1 : wc.cell? ⟨gb164, 1, none⟩ = some (.int .u8 ((rd_T55 l0_3 x42_2).f1)) := (blk_cell BK164.out 1).trans rfl
                have hcz51_2 : wc.cell? ⟨gb164, 2, none⟩ = some (.int .u8 ((rd_T55 l0_3 x42_2).f2)) := (blk_cell BK164.out 2).trans rfl
                have hcz51_3 : wc.cell? ⟨gb164, 3, none⟩ = some (.int .u8 ((rd_T55 l0_3 x42_2).f3)) := (blk_cell BK164.out 3).trans rfl
                have hcz51_4 : wc.cell? ⟨gb164, 4, none⟩ = some (.int .i64 ((rd_T55 l0_3 x42_2).f4)) := (blk_cell BK164.out 4).trans rfl
                have hfz51_0 := blk_frozen BK164.out 0
                have hfz51_1 := blk_frozen BK164.out 1
                have hfz51_2 := blk_frozen BK164.out 2
                have hfz51_3 := blk_frozen BK164.out 3
                have hfz51_4 := blk_frozen BK164.out 4
                go_wp2_with (first | ((with_reducible refine gate_callee (f := 34) rfl ?_); refine goesL_ (some 78) rfl rfl Tryd.func34 (by kernel_rfl) rfl #[.agg #[.slice A0_0 l0_0.length c0_0, .string a0_1, .string a0_2, .slice (some ad163) l0_3.length c0_3], .agg #[.int .u8 ((rd_T55 l0_3 x42_2).f0), .int .u8 ((rd_T55 l0_3 x42_2).f1), .int .u8 ((rd_T55 l0_3 x42_2).f2), .int .u8 ((rd_T55 l0_3 x42_2).f3), .int .i64 ((rd_T55 l0_3 x42_2).f4)]] rfl (by (try simp only [List.map_toArray, List.map_cons, List.map_nil]); first | done | rfl | (simp only [List.length_drop, List.length_take]; rfl)) ?_; (with_reducible refine (check_kinds.calls kj20 _ _ l0_0 a0_1 a0_2 _ _ l0_3 ((rd_T55 l0_3 x42_2).f0) ((rd_T55 l0_3 x42_2).f1) ((rd_T55 l0_3 x42_2).f2) ((rd_T55 l0_3 x42_2).f3) ((rd_T55 l0_3 x42_2).f4) false _ ?side1 ?side2 ?side3 ?side4 A43.out).mono ?_); (case side1 => repeat (first | exact (Kd.C_below HR0_0.out HB.out) | (with_reducible refine Kd.C_alloc ?_ _) | (with_reducible refine Kd.C_drewN ?_ _) | (with_reducible refine Kd.C_drew ?_))); (case side2 => exact HC0_0.out); (case side3 => repeat (first | exact (Kd.C_below HR0_3.out HB.out) | (with_reducible refine Kd.C_alloc ?_ _) | (with_reducible refine Kd.C_drewN ?_ _) | (with_reducible refine Kd.C_drew ?_))); (case side4 => exact HC0_3.out); rintro e w52 ⟨rfl, hb⟩; refine ⟨_, rfl, ?_⟩; have n0_ := Aside0.mk (blk_below (g := gb161) (o := .cells #[.slice A0_0 l0_0.length c0_0, .string a0_1, .string a0_2, .slice (some ad163) l0_3.length c0_3] 25 (0, 0)) (by (with_reducible repeat (first | refine blk_drewN ?_ _ | refine blk_drew ?_ | refine blk_alloc ?_ _)); exact BK161.out) hb); have n1_ := Aside0.mk (blk_below (g := gb164) (o := .cells #[.int .u8 ((rd_T55 l0_3 x42_2).f0), .int .u8 ((rd_T55 l0_3 x42_2).f1), .int .u8 ((rd_T55 l0_3 x42_2).f2), .int .u8 ((rd_T55 l0_3 x42_2).f3), .int .i64 ((rd_T55 l0_3 x42_2).f4)] 55 (0, 0)) (by (with_reducible repeat (first | refine blk_drewN ?_ _ | refine blk_drew ?_ | refine blk_alloc ?_ _)); exact BK164.out) hb); have n2_ := Aside0.mk (below_step (by repeat (first | (with_reducible first | exact HB.out | apply below_alloc | apply pw_below_drewN | apply below_drew1 | refine below_set ?_ GE161.out | refine below_set ?_ GE164.out) | exact HB.out)) hb); clear BK161; clear BK164; clear HB; have BK161 := n0_; have BK164 := n1_; have HB := n2_; clear n0_ n1_ n2_; (try clear hb); (try clear hb2); (try clear hk); (try clear hi)))
                go_ret2
                exact ⟨by first | rfl | (simp [errW_none, errW_some] <;> rfl) | (simp [*, errW_none, errW_some] <;> rfl), by repeat (first | (with_reducible first | exact HB.out | apply below_alloc | apply pw_below_drewN | apply below_drew1 | refine below_set ?_ GE161.out | refine below_set ?_ GE164.out) | exact HB.out)⟩
           ·
            replace c20 := Bool.eq_false_iff.mpr c20
            subst c20
            have H1 : (some (x42_2, 4)) = some (r1, r2) := by rw [if_neg (show ¬ (false = true) by decide)] at H; exact H
            clear H
            have H := H1
            clear H1
            simp only [Option.some.injEq, Prod.mk.injEq] at H
            obtain ⟨rfl, rfl⟩ := H
            have p163 : 0 ≤ (x42_2 : Int) := of_decide_eq_true (by first | (with_reducible assumption) | assumption)
            have q163 : x42_2 < (l0_3.length : Int) := of_decide_eq_true (by first | (with_reducible assumption) | assumption)
            obtain ⟨ad163, e163, hx163_0, hx163_1, hx163_2, hx163_3, hx163_4⟩ := at_T55 HR0_3.out x42_2 p163 q163
            cases e163
            replace hx163_0 := (HB.out.cell (World.block_lt_of_cell? w _ hx163_0)).trans hx163_0
            replace hx163_1 := (HB.out.cell (World.block_lt_of_cell? w _ hx163_1)).trans hx163_1
            replace hx163_2 := (HB.out.cell (World.block_lt_of_cell? w _ hx163_2)).trans hx163_2
            replace hx163_3 := (HB.out.cell (World.block_lt_of_cell? w _ hx163_3)).trans hx163_3
            replace hx163_4 := (HB.out.cell (World.block_lt_of_cell? w _ hx163_4)).trans hx163_4
            replace p163 := eq_true p163
            replace q163 := eq_true q163
            go_wp2_with (first | ((with_reducible refine gate_dst (N := 6) rfl ?_); (try (refine gate_guard (by rfl) ?_; dsimp only)); refine box_event ?hg (N := 6) ?hd (cs := #[.int .u8 0, .int .u8 0, .int .u8 0, .int .u8 0, .int .i64 0]) (t := 55) ?hr ?_; (case hd => rfl); (case hg => rfl); (case hr => first | (go_simp; done) | (go_simp; rfl)); intro gb164 hg w53 hbox hb; have n0_ := Aside0.mk (blk_below (g := gb161) (o := .cells #[.slice A0_0 l0_0.length c0_0, .string a0_1, .string a0_2, .slice (some ad163) l0_3.length c0_3] 25 (0, 0)) (by (with_reducible repeat (first | refine blk_drewN ?_ _ | refine blk_drew ?_ | refine blk_alloc ?_ _)); exact BK161.out) hb); have n1_ := Aside0.mk (below_step (by repeat (first | (with_reducible first | exact HB.out | apply below_alloc | apply pw_below_drewN | apply below_drew1 | refine below_set ?_ GE161.out) | exact HB.out)) hb); have n2_ := Aside0.mk (hbox); have n3_ := Aside0.mk ((by rw [hg]; exact (below_size (by repeat (first | (with_reducible first | exact HB.out | apply below_alloc | apply pw_below_drewN | apply below_drew1 | refine below_set ?_ GE161.out) | exact HB.out))) : w.heap.size ≤ gb164)); have n4_ := n3_; have n5_ := Aside0.mk ((by rw [hg]; exact Nat.ne_of_lt (blk_lt (g := gb161) (o := .cells #[.slice A0_0 l0_0.length c0_0, .string a0_1, .string a0_2, .slice (some ad163) l0_3.length c0_3] 25 (0, 0)) (by (with_reducible repeat (first | refine blk_drewN ?_ _ | refine blk_drew ?_ | refine blk_alloc ?_ _)); exact BK161.out)) : gb161 ≠ gb164)); have n6_ := Aside0.mk n5_.out.symm; clear BK161; clear HB; have BK161 := n0_; have HB := n1_; have BK164 := n2_; have GW164 := n3_; have GE164 := n4_; have NB161_164 := n5_; have NB164_161 := n6_; clear n0_ n1_ n2_ n3_ n4_ n5_ n6_; clear hb hbox hg; have hnb54 := NB164_161.out; have hnc54 := NB161_164.out; have hcz55_0 : w53.cell? ⟨gb164, 0, none⟩ = some (.int .u8 0) := (blk_cell BK164.out 0).trans rfl; have hcz55_1 : w53.cell? ⟨gb164, 1, none⟩ = some (.int .u8 0) := (blk_cell BK164.out 1).trans rfl; have hcz55_2 : w53.cell? ⟨gb164, 2, none⟩ = some (.int .u8 0) := (blk_cell BK164.out 2).trans rfl; have hcz55_3 : w53.cell? ⟨gb164, 3, none⟩ = some (.int .u8 0) := (blk_cell BK164.out 3).trans rfl; have hcz55_4 : w53.cell? ⟨gb164, 4, none⟩ = some (.int .i64 0) := (blk_cell BK164.out 4).trans rfl; have hfz55_0 := blk_frozen BK164.out 0; have hfz55_1 := blk_frozen BK164.out 1; have hfz55_2 := blk_frozen BK164.out 2; have hfz55_3 := blk_frozen BK164.out 3; have hfz55_4 := blk_frozen BK164.out 4) | ((with_reducible refine gate_callee (f := 33) rfl ?_); refine goesL_ (some 49) rfl rfl Tryd.func33 (by kernel_rfl) rfl #[.agg #[.int .u8 ((rd_T55 l0_3 x42_2).f0), .int .u8 ((rd_T55 l0_3 x42_2).f1), .int .u8 ((rd_T55 l0_3 x42_2).f2), .int .u8 ((rd_T55 l0_3 x42_2).f3), .int .i64 ((rd_T55 l0_3 x42_2).f4)]] rfl (by (try simp only [List.map_toArray, List.map_cons, List.map_nil]); first | done | rfl | (simp only [List.length_drop, List.length_take]; rfl)) ?_; (with_reducible refine (code_Right.calls ((rd_T55 l0_3 x42_2).f0) ((rd_T55 l0_3 x42_2).f1) ((rd_T55 l0_3 x42_2).f2) ((rd_T55 l0_3 x42_2).f3) ((rd_T55 l0_3 x42_2).f4) false _ ?side1 A19.out).mono ?_); (case side1 => exact Kd.C_below HRT.out (by repeat (first | (with_reducible first | exact HB.out | apply below_alloc | apply pw_below_drewN | apply below_drew1 | refine below_set ?_ GE161.out | refine below_set ?_ GE164.out) | exact HB.out))); rintro e w56 ⟨rfl, hb⟩; refine ⟨_, rfl, ?_⟩; have n0_ := Aside0.mk (blk_below (g := gb161) (o := .cells #[.slice A0_0 l0_0.length c0_0, .string a0_1, .string a0_2, .slice (some ad163) l0_3.length c0_3] 25 (0, 0)) (by (with_reducible repeat (first | refine blk_drewN ?_ _ | refine blk_drew ?_ | refine blk_alloc ?_ _)); refine blk_far ?_ NB161_164.out _; (with_reducible repeat (first | refine blk_drewN ?_ _ | refine blk_drew ?_ | refine blk_alloc ?_ _)); refine blk_far ?_ NB161_164.out _; (with_reducible repeat (first | refine blk_drewN ?_ _ | refine blk_drew ?_ | refine blk_alloc ?_ _)); refine blk_far ?_ NB161_164.out _; (with_reducible repeat (first | refine blk_drewN ?_ _ | refine blk_drew ?_ | refine blk_alloc ?_ _)); refine blk_far ?_ NB161_164.out _; (with_reducible repeat (first | refine blk_drewN ?_ _ | refine blk_drew ?_ | refine blk_alloc ?_ _)); refine blk_far ?_ NB161_164.out _; (with_reducible repeat (first | refine blk_drewN ?_ _ | refine blk_drew ?_ | refine blk_alloc ?_ _)); exact BK161.out) hb); have n1_ := Aside0.mk (blk_below (g := gb164) (o := .cells #[.int .u8 ((rd_T55 l0_3 x42_2).f0), .int .u8 ((rd_T55 l0_3 x42_2).f1), .int .u8 ((rd_T55 l0_3 x42_2).f2), .int .u8 ((rd_T55 l0_3 x42_2).f3), .int .i64 ((rd_T55 l0_3 x42_2).f4)] 55 (0, 0)) (by (with_reducible repeat (first | refine blk_drewN ?_ _ | refine blk_drew ?_ | refine blk_alloc ?_ _)); refine blk_put (cs := #[.int .u8 ((rd_T55 l0_3 x42_2).f0), .int .u8 ((rd_T55 l0_3 x42_2).f1), .int .u8 ((rd_T55 l0_3 x42_2).f2), .int .u8 ((rd_T55 l0_3 x42_2).f3), .int .i64 0]) ?_ 4 _ rfl; (with_reducible repeat (first | refine blk_drewN ?_ _ | refine blk_drew ?_ | refine blk_alloc ?_ _)); refine blk_put (cs := #[.int .u8 ((rd_T55 l0_3 x42_2).f0), .int .u8 ((rd_T55 l0_3 x42_2).f1), .int .u8 ((rd_T55 l0_3 x42_2).f2), .int .u8 0, .int .i64 0]) ?_ 3 _ rfl; (with_reducible repeat (first | refine blk_drewN ?_ _ | refine blk_drew ?_ | refine blk_alloc ?_ _)); refine blk_put (cs := #[.int .u8 ((rd_T55 l0_3 x42_2).f0), .int .u8 ((rd_T55 l0_3 x42_2).f1), .int .u8 0, .int .u8 0, .int .i64 0]) ?_ 2 _ rfl; (with_reducible repeat (first | refine blk_drewN ?_ _ | refine blk_drew ?_ | refine blk_alloc ?_ _)); refine blk_put (cs := #[.int .u8 ((rd_T55 l0_3 x42_2).f0), .int .u8 0, .int .u8 0, .int .u8 0, .int .i64 0]) ?_ 1 _ rfl; (with_reducible repeat (first | refine blk_drewN ?_ _ | refine blk_drew ?_ | refine blk_alloc ?_ _)); refine blk_put (cs := #[.int .u8 0, .int .u8 0, .int .u8 0, .int .u8 0, .int .i64 0]) ?_ 0 _ rfl; (with_reducible repeat (first | refine blk_drewN ?_ _ | refine blk_drew ?_ | refine blk_alloc ?_ _)); exact BK164.out) hb); have n2_ := Aside0.mk (below_step (by repeat (first | (with_reducible first | exact HB.out | apply below_alloc | apply pw_below_drewN | apply below_drew1 | refine below_set ?_ GE161.out | refine below_set ?_ GE164.out) | exact HB.out)) hb); clear BK161; clear BK164; clear HB; have BK161 := n0_; have BK164 := n1_; have HB := n2_; clear n0_ n1_ n2_; (try clear hb); (try clear hb2); (try clear hk); (try clear hi)))
            go_ret2
            exact ⟨by first | rfl | (simp [errW_none, errW_some] <;> rfl) | (simp [*, errW_none, errW_some] <;> rfl), by repeat (first | (with_reducible first | exact HB.out | apply below_alloc | apply pw_below_drewN | apply below_drew1 | refine below_set ?_ GE161.out | refine below_set ?_ GE164.out) | exact HB.out)⟩
          ·
           rw [if_neg c18] at H
           exact absurd H (by simp)
         ·
          rw [if_neg c17] at H
          exact absurd H (by simp)
        ·
         rw [if_neg c16] at H
         have c16b0 : decide (x42_2 < (l0_3.length : Int)) = false := decide_eq_false c16
         clear c16
         simp only [Option.some.injEq, Prod.mk.injEq] at H
         obtain ⟨rfl, rfl⟩ := H
         go_wp2
         go_ret2
         exact ⟨by first | rfl | (simp [errW_none, errW_some] <;> rfl) | (simp [*, errW_none, errW_some] <;> rfl), by repeat (first | (with_reducible first | exact HB.out | apply below_alloc | apply pw_below_drewN | apply below_drew1 | refine below_set ?_ GE161.out) | exact HB.out)⟩

-- GIVEN: function 12 (model_Run)

end Go.Proofs.YtlemecdddhdagaaDoor.P
