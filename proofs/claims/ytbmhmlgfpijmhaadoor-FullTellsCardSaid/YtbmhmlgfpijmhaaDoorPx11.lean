/- FUNCTIONS OF THE PROGRAM AS LEAN FUNCTIONS, AND THAT THE PROGRAM's CALLS ANSWER AS THEY DO: written by a program of this session. -/
import Derived.Test.YtbmhmlgfpijmhaaDoorPx0
import Derived.Test.YtbmhmlgfpijmhaaDoorPx4
import Derived.Test.YtbmhmlgfpijmhaaDoorPx8
import Derived.Test.YtbmhmlgfpijmhaaDoorPx10
import Derived.Test.YtbmhmlgfpijmhaaDoorGiven
namespace Go.Proofs.YtbmhmlgfpijmhaaDoor.P
open Go.RowKit Go.Proofs.YtbmhmlgfpijmhaaDoorW.PrintWords Go.Proofs.YtbmhmlgfpijmhaaDoorW.PrintLast Go.Proofs.YtbmhmlgfpijmhaaDoorW.PrintMore
attribute [local go_sem] max2_int min2_int max_two min_two max_three min_three max_four min_four   -- for this text's walks alone
set_option linter.unusedVariables false
set_option linter.unusedSimpArgs false

/-! ### lockstitchref05_Check: function 18 -/
mutual
def lockstitchref05_Check.j0 : Nat → Bool → List ByteArray → ByteArray → ByteArray → List (S39) → Option (Int × Int)
 | 0, _, _, _, _, _ => none
 | k + 1, x32, x223000, x223001, x223002, x223003 => if x32 = true then (some ((-1), 5)) else (if (x223003.length : Int) < 1 then (lockstitchref05_Check.j1 k true x223000 x223001 x223002 x223003) else (lockstitchref05_Check.j1 k (decide ((x223003.length : Int) > 200)) x223000 x223001 x223002 x223003))
def lockstitchref05_Check.j1 : Nat → Bool → List ByteArray → ByteArray → ByteArray → List (S39) → Option (Int × Int)
 | 0, _, _, _, _, _ => none
 | k + 1, x42, x223000, x223001, x223002, x223003 => if x42 = true then (some ((-1), 3)) else (lockstitchref05_Check.l0 k 0 x223000 x223001 x223002 x223003)
def lockstitchref05_Check.l0 : Nat → Int → List ByteArray → ByteArray → ByteArray → List (S39) → Option (Int × Int)
 | 0, _, _, _, _, _ => none
 | k + 1, x4, x223000, x223001, x223002, x223003 => if x4 < (x223003.length : Int) then (if 0 ≤ x4 then (if ((rd_T39 x223003 x4).f0) = 3 then (lockstitchref05_Check.j3 k x4 true x223000 x223001 x223002 x223003 ((rd_T39 x223003 x4).f0) ((rd_T39 x223003 x4).f1) ((rd_T39 x223003 x4).f2) ((rd_T39 x223003 x4).f3) ((rd_T39 x223003 x4).f4)) else (lockstitchref05_Check.j3 k x4 (((rd_T39 x223003 x4).f0) == 4) x223000 x223001 x223002 x223003 ((rd_T39 x223003 x4).f0) ((rd_T39 x223003 x4).f1) ((rd_T39 x223003 x4).f2) ((rd_T39 x223003 x4).f3) ((rd_T39 x223003 x4).f4))) else (none)) else (some ((-1), 0))
def lockstitchref05_Check.j3 : Nat → Int → Bool → List ByteArray → ByteArray → ByteArray → List (S39) → Int → Int → Int → Int → Int → Option (Int × Int)
 | 0, _, _, _, _, _, _, _, _, _, _, _ => none
 | k + 1, x4, x6, x223000, x223001, x223002, x223003, x227000, x227001, x227002, x227003, x227004 => (lockstitchref04_Right.f k x227000 x227001 x227002 x227003 x227004).bind fun t227 => (if t227 = true then (if x6 = true then (if x227004 < 0 then (lockstitchref05_Check.j4 k x4 true x223000 x223001 x223002 x223003 x227000 x227001 x227002 x227003 x227004) else (lockstitchref05_Check.j4 k x4 (decide (x227004 > (x223003.length : Int))) x223000 x223001 x223002 x223003 x227000 x227001 x227002 x227003 x227004)) else (lockstitchref05_Check.j4 k x4 false x223000 x223001 x223002 x223003 x227000 x227001 x227002 x227003 x227004)) else (some (x4, 4)))
def lockstitchref05_Check.j4 : Nat → Int → Bool → List ByteArray → ByteArray → ByteArray → List (S39) → Int → Int → Int → Int → Int → Option (Int × Int)
 | 0, _, _, _, _, _, _, _, _, _, _, _ => none
 | k + 1, x4, x68, x223000, x223001, x223002, x223003, x227000, x227001, x227002, x227003, x227004 => if x68 = true then (some (x4, 12)) else ((lockstitchref05_ints.f k x227000 x227001 x227002 x227003 x227004).bind fun t228 => (if t228 = true then ((lockstitchref05_kinds.f k x223000 x223001 x223002 x223003 x227000 x227001 x227002 x227003 x227004).bind fun t229 => (if t229 = true then (lockstitchref05_Check.l0 k (wrap64 (x4 + 1)) x223000 x223001 x223002 x223003) else (some (x4, 5)))) else (some (x4, 5))))
end
def lockstitchref05_Check.f (k : Nat) (l0_0 : List ByteArray) (a0_1 : ByteArray) (a0_2 : ByteArray) (l0_3 : List (S39)) : Option (Int × Int) := (lockstitchref03_Refs.f k l0_0 a0_1).bind fun t223 => (if t223 = true then ((lockstitchref03_Refs.f k l0_0 a0_2).bind fun t224 => (if t224 = true then (if (a0_1.size : Int) > 8 then (lockstitchref05_Check.j0 k true l0_0 a0_1 a0_2 l0_3) else (lockstitchref05_Check.j0 k (decide ((a0_2.size : Int) > 4)) l0_0 a0_1 a0_2 l0_3)) else (lockstitchref05_Check.j0 k true l0_0 a0_1 a0_2 l0_3))) else (lockstitchref05_Check.j0 k true l0_0 a0_1 a0_2 l0_3))
theorem lockstitchref05_Check.mono_l : ∀ k, (∀ y0 y1 y2 y3 y4, LeO (lockstitchref05_Check.j0 k y0 y1 y2 y3 y4) (lockstitchref05_Check.j0 (k + 1) y0 y1 y2 y3 y4)) ∧ (∀ y0 y1 y2 y3 y4, LeO (lockstitchref05_Check.j1 k y0 y1 y2 y3 y4) (lockstitchref05_Check.j1 (k + 1) y0 y1 y2 y3 y4)) ∧ (∀ y0 y1 y2 y3 y4, LeO (lockstitchref05_Check.l0 k y0 y1 y2 y3 y4) (lockstitchref05_Check.l0 (k + 1) y0 y1 y2 y3 y4)) ∧ (∀ y0 y1 y2 y3 y4 y5 y6 y7 y8 y9 y10, LeO (lockstitchref05_Check.j3 k y0 y1 y2 y3 y4 y5 y6 y7 y8 y9 y10) (lockstitchref05_Check.j3 (k + 1) y0 y1 y2 y3 y4 y5 y6 y7 y8 y9 y10)) ∧ (∀ y0 y1 y2 y3 y4 y5 y6 y7 y8 y9 y10, LeO (lockstitchref05_Check.j4 k y0 y1 y2 y3 y4 y5 y6 y7 y8 y9 y10) (lockstitchref05_Check.j4 (k + 1) y0 y1 y2 y3 y4 y5 y6 y7 y8 y9 y10))
 | 0 => ⟨fun _ _ _ _ _ r h => by simp [lockstitchref05_Check.j0] at h, fun _ _ _ _ _ r h => by simp [lockstitchref05_Check.j1] at h, fun _ _ _ _ _ r h => by simp [lockstitchref05_Check.l0] at h, fun _ _ _ _ _ _ _ _ _ _ _ r h => by simp [lockstitchref05_Check.j3] at h, fun _ _ _ _ _ _ _ _ _ _ _ r h => by simp [lockstitchref05_Check.j4] at h⟩
 | k + 1 => by
  obtain ⟨ih0, ih1, ih2, ih3, ih4⟩ := lockstitchref05_Check.mono_l k
  refine ⟨?_, ?_, ?_, ?_, ?_⟩
  ·
   intro y0 y1 y2 y3 y4
   unfold lockstitchref05_Check.j0
   repeat' with_reducible first | apply ih0 | apply ih1 | apply ih2 | apply ih3 | apply ih4 | apply lockstitchref03_Refs.mono | apply lockstitchref04_Right.mono | apply lockstitchref05_ints.mono | apply lockstitchref05_kinds.mono | exact LeO.refl _ | exact LeO.none _ | refine LeO.ite ?_ ?_ | refine LeO.bind ?_ (fun _ => ?_)
  ·
   intro y0 y1 y2 y3 y4
   unfold lockstitchref05_Check.j1
   repeat' with_reducible first | apply ih0 | apply ih1 | apply ih2 | apply ih3 | apply ih4 | apply lockstitchref03_Refs.mono | apply lockstitchref04_Right.mono | apply lockstitchref05_ints.mono | apply lockstitchref05_kinds.mono | exact LeO.refl _ | exact LeO.none _ | refine LeO.ite ?_ ?_ | refine LeO.bind ?_ (fun _ => ?_)
  ·
   intro y0 y1 y2 y3 y4
   unfold lockstitchref05_Check.l0
   repeat' with_reducible first | apply ih0 | apply ih1 | apply ih2 | apply ih3 | apply ih4 | apply lockstitchref03_Refs.mono | apply lockstitchref04_Right.mono | apply lockstitchref05_ints.mono | apply lockstitchref05_kinds.mono | exact LeO.refl _ | exact LeO.none _ | refine LeO.ite ?_ ?_ | refine LeO.bind ?_ (fun _ => ?_)
  ·
   intro y0 y1 y2 y3 y4 y5 y6 y7 y8 y9 y10
   unfold lockstitchref05_Check.j3
   repeat' with_reducible first | apply ih0 | apply ih1 | apply ih2 | apply ih3 | apply ih4 | apply lockstitchref03_Refs.mono | apply lockstitchref04_Right.mono | apply lockstitchref05_ints.mono | apply lockstitchref05_kinds.mono | exact LeO.refl _ | exact LeO.none _ | refine LeO.ite ?_ ?_ | refine LeO.bind ?_ (fun _ => ?_)
  ·
   intro y0 y1 y2 y3 y4 y5 y6 y7 y8 y9 y10
   unfold lockstitchref05_Check.j4
   repeat' with_reducible first | apply ih0 | apply ih1 | apply ih2 | apply ih3 | apply ih4 | apply lockstitchref03_Refs.mono | apply lockstitchref04_Right.mono | apply lockstitchref05_ints.mono | apply lockstitchref05_kinds.mono | exact LeO.refl _ | exact LeO.none _ | refine LeO.ite ?_ ?_ | refine LeO.bind ?_ (fun _ => ?_)
theorem lockstitchref05_Check.mono : ∀ a0 a1 a2 a3 k, LeO (lockstitchref05_Check.f k a0 a1 a2 a3) (lockstitchref05_Check.f (k + 1) a0 a1 a2 a3) := by
 intro a0 a1 a2 a3 k
 obtain ⟨ih0, ih1, ih2, ih3, ih4⟩ := lockstitchref05_Check.mono_l k
 unfold lockstitchref05_Check.f
 repeat' with_reducible first | apply ih0 | apply ih1 | apply ih2 | apply ih3 | apply ih4 | apply lockstitchref03_Refs.mono | apply lockstitchref04_Right.mono | apply lockstitchref05_ints.mono | apply lockstitchref05_kinds.mono | exact LeO.refl _ | exact LeO.none _ | refine LeO.ite ?_ ?_ | refine LeO.bind ?_ (fun _ => ?_)
set_option maxHeartbeats 8000000 in
set_option maxRecDepth 100000 in
theorem lockstitchref05_Check.calls (k : Nat) (A0_0 : Option Addr) (c0_0 : Nat) (l0_0 : List ByteArray) (a0_1 : ByteArray) (a0_2 : ByteArray) (A0_3 : Option Addr) (c0_3 : Nat) (l0_3 : List (S39)) (r1 : Int) (r2 : Int) (w : World) (hr0_0 : Kd.C Kd.string w A0_0 l0_0.length l0_0) (hc0_0 : l0_0.length ≤ c0_0) (hr0_3 : Kd.C k39 w A0_3 l0_3.length l0_3) (hc0_3 : l0_3.length ≤ c0_3) (hrT : Kd.C tabK w tabA tabL.length tabL) (h : lockstitchref05_Check.f k l0_0 a0_1 a0_2 l0_3 = some (r1, r2)) :
  Calls Tryd.prog 18 #[.agg #[.slice A0_0 l0_0.length c0_0, .string a0_1, .string a0_2, .slice A0_3 l0_3.length c0_3]] w fun e w' => e = .returned (.tuple #[.int .i64 r1, .int .i64 r2]) ∧ Below w.heap.size w w' := by
 have hu25 := Tryd.underlying25
 have hu39 := Tryd.underlying39
 have HR0_0 := Aside0.mk hr0_0
 have HC0_0 := Aside0.mk hc0_0
 clear hr0_0 hc0_0
 have HR0_3 := Aside0.mk hr0_3
 have HC0_3 := Aside0.mk hc0_3
 clear hr0_3 hc0_3
 have HRT := Aside0.mk hrT
 clear hrT
 have HB := Aside0.mk (Below.refl w.heap.size w)
 have H : ((lockstitchref03_Refs.f k l0_0 a0_1).bind fun t223 => (if t223 = true then ((lockstitchref03_Refs.f k l0_0 a0_2).bind fun t224 => (if t224 = true then (if (a0_1.size : Int) > 8 then (lockstitchref05_Check.j0 k true l0_0 a0_1 a0_2 l0_3) else (lockstitchref05_Check.j0 k (decide ((a0_2.size : Int) > 4)) l0_0 a0_1 a0_2 l0_3)) else (lockstitchref05_Check.j0 k true l0_0 a0_1 a0_2 l0_3))) else (lockstitchref05_Check.j0 k true l0_0 a0_1 a0_2 l0_3))) = some (r1, r2) := h
 clear h
 have HC2 := Aside0.mk H
 clear H
 go_enter Tryd.func18, Tryd.ntmps18
 go_upto_region 1 with (first | ((with_reducible refine gate_dst (N := 1) rfl ?_); (try (refine gate_guard (by rfl) ?_; dsimp only)); refine box_event ?hg (N := 1) ?hd (cs := #[.slice A0_0 l0_0.length c0_0, .string a0_1, .string a0_2, .slice A0_3 l0_3.length c0_3]) (t := 25) ?hr ?_; (case hd => rfl); (case hg => rfl); (case hr => first | (go_simp; done) | (go_simp; rfl)); intro gb222 hg w3 hbox hb; have n0_ := Aside0.mk (below_step (by repeat (first | (with_reducible first | exact HB.out | apply below_alloc | apply pw_below_drewN | apply below_drew1) | exact HB.out)) hb); have n1_ := Aside0.mk (hbox); have n2_ := Aside0.mk ((by rw [hg]; exact (below_size (by repeat (first | (with_reducible first | exact HB.out | apply below_alloc | apply pw_below_drewN | apply below_drew1) | exact HB.out))) : w.heap.size ≤ gb222)); have n3_ := n2_; clear HB; have HB := n0_; have BK222 := n1_; have GW222 := n2_; have GE222 := n3_; clear n0_ n1_ n2_ n3_; clear hb hbox hg))
 (try simp only [Act.put, List.setIfInBounds_toArray, List.set_cons_zero, List.set_cons_succ])
 go_cut [32] (fun v32 wc => ∃ (kq : Nat) (x32_1 : Bool), v32 = .bool x32_1 ∧ Aside0 (lockstitchref05_Check.j0 kq x32_1 l0_0 a0_1 a0_2 l0_3 = some (r1, r2)) ∧ Aside0 (kq ≤ k) ∧ Aside0 (wc.heap[gb222]? = some (.cells #[(.slice A0_0 l0_0.length c0_0), .string a0_1, .string a0_2, (.slice A0_3 l0_3.length c0_3)] 25 (0, 0))) ∧ Aside0 (Below w.heap.size w wc))
 case first =>
  have H := HC2.out
  clear HC2
  replace H := Option.bind_eq_some_iff.mp H
  obtain ⟨t223, A40, H⟩ := H
  replace H : (if t223 = true then ((lockstitchref03_Refs.f k l0_0 a0_2).bind fun t224 => (if t224 = true then (if (a0_1.size : Int) > 8 then (lockstitchref05_Check.j0 k true l0_0 a0_1 a0_2 l0_3) else (lockstitchref05_Check.j0 k (decide ((a0_2.size : Int) > 4)) l0_0 a0_1 a0_2 l0_3)) else (lockstitchref05_Check.j0 k true l0_0 a0_1 a0_2 l0_3))) else (lockstitchref05_Check.j0 k true l0_0 a0_1 a0_2 l0_3)) = some (r1, r2) := H
  have A4 := Aside0.mk A40
  clear A40
  by_cases c5 : t223 = true
  ·
   subst c5
   have H1 : ((lockstitchref03_Refs.f k l0_0 a0_2).bind fun t224 => (if t224 = true then (if (a0_1.size : Int) > 8 then (lockstitchref05_Check.j0 k true l0_0 a0_1 a0_2 l0_3) else (lockstitchref05_Check.j0 k (decide ((a0_2.size : Int) > 4)) l0_0 a0_1 a0_2 l0_3)) else (lockstitchref05_Check.j0 k true l0_0 a0_1 a0_2 l0_3))) = some (r1, r2) := by rw [if_pos rfl] at H; exact H
   clear H
   have H := H1
   clear H1
   replace H := Option.bind_eq_some_iff.mp H
   obtain ⟨t224, A60, H⟩ := H
   replace H : (if t224 = true then (if (a0_1.size : Int) > 8 then (lockstitchref05_Check.j0 k true l0_0 a0_1 a0_2 l0_3) else (lockstitchref05_Check.j0 k (decide ((a0_2.size : Int) > 4)) l0_0 a0_1 a0_2 l0_3)) else (lockstitchref05_Check.j0 k true l0_0 a0_1 a0_2 l0_3)) = some (r1, r2) := H
   have A6 := Aside0.mk A60
   clear A60
   by_cases c7 : t224 = true
   ·
    subst c7
    have H1 : (if (a0_1.size : Int) > 8 then (lockstitchref05_Check.j0 k true l0_0 a0_1 a0_2 l0_3) else (lockstitchref05_Check.j0 k (decide ((a0_2.size : Int) > 4)) l0_0 a0_1 a0_2 l0_3)) = some (r1, r2) := by rw [if_pos rfl] at H; exact H
    clear H
    have H := H1
    clear H1
    by_cases c8 : (a0_1.size : Int) > 8
    ·
     rw [if_pos c8] at H
     have c8b0 : decide (8 < (a0_1.size : Int)) = true := decide_eq_true c8
     have c8b1 : decide (8 < a0_1.size) = true := decide_eq_true (by omega)
     clear c8
     (first | rw [c8b0] | (simp only [i64_w, i32_w]; rw [c8b0]) | skip)
     have H' := Aside0.mk H
     clear H
     have hcz9_0 : w3.cell? ⟨gb222, 0, none⟩ = some (.slice A0_0 l0_0.length c0_0) := (blk_cell BK222.out 0).trans rfl
     have hcz9_1 : w3.cell? ⟨gb222, 1, none⟩ = some (.string a0_1) := (blk_cell BK222.out 1).trans rfl
     have hcz9_2 : w3.cell? ⟨gb222, 2, none⟩ = some (.string a0_2) := (blk_cell BK222.out 2).trans rfl
     have hcz9_3 : w3.cell? ⟨gb222, 3, none⟩ = some (.slice A0_3 l0_3.length c0_3) := (blk_cell BK222.out 3).trans rfl
     have hfz9_0 := blk_frozen BK222.out 0
     have hfz9_1 := blk_frozen BK222.out 1
     have hfz9_2 := blk_frozen BK222.out 2
     have hfz9_3 := blk_frozen BK222.out 3
     go_wp2_with (first | ((with_reducible refine gate_callee (f := 27) rfl ?_); refine goesL_ (some 11) rfl rfl Tryd.func27 (by kernel_rfl) rfl #[.slice A0_0 l0_0.length c0_0, .string a0_1] rfl (by (try simp only [List.map_toArray, List.map_cons, List.map_nil]); first | done | rfl | (simp only [List.length_drop, List.length_take]; rfl)) ?_; (with_reducible refine (lockstitchref03_Refs.calls k _ _ l0_0 a0_1 true _ ?side1 ?side2 A4.out).mono ?_); (case side1 => repeat (first | exact (Kd.C_below HR0_0.out HB.out) | (with_reducible refine Kd.C_alloc ?_ _) | (with_reducible refine Kd.C_drewN ?_ _) | (with_reducible refine Kd.C_drew ?_))); (case side2 => exact HC0_0.out); rintro e w' ⟨rfl, ⟨nd, rfl⟩⟩; refine ⟨_, rfl, ?_⟩) | (go_at_call 27; (with_reducible refine (lockstitchref03_Refs.calls k _ _ l0_0 a0_2 true _ ?side1 ?side2 A6.out).mono ?_); (case side1 => repeat (first | exact (Kd.C_below HR0_0.out (by repeat (first | (with_reducible first | exact HB.out | apply below_alloc | apply pw_below_drewN | apply below_drew1 | refine below_set ?_ GE222.out) | exact HB.out))) | (with_reducible refine Kd.C_alloc ?_ _) | (with_reducible refine Kd.C_drewN ?_ _) | (with_reducible refine Kd.C_drew ?_))); (case side2 => exact HC0_0.out); rintro e w' ⟨rfl, ⟨nd, rfl⟩⟩))
     go_meet
     case rel => exact ⟨_, (true), (by first | rfl | (simp; done) | (simp [*]; done)), H', ⟨by first | omega | exact Nat.le_refl _⟩, ⟨by (with_reducible repeat (first | refine blk_drewN ?_ _ | refine blk_drew ?_ | refine blk_alloc ?_ _)); exact BK222.out⟩, ⟨by repeat (first | (with_reducible first | exact HB.out | apply below_alloc | apply pw_below_drewN | apply below_drew1 | refine below_set ?_ GE222.out) | exact HB.out)⟩⟩
    ·
     rw [if_neg c8] at H
     have c8b0 : decide (8 < (a0_1.size : Int)) = false := decide_eq_false c8
     have c8b1 : decide (8 < a0_1.size) = false := decide_eq_false (by omega)
     clear c8
     (first | rw [c8b0] | (simp only [i64_w, i32_w]; rw [c8b0]) | skip)
     have H' := Aside0.mk H
     clear H
     have hcz10_0 : w3.cell? ⟨gb222, 0, none⟩ = some (.slice A0_0 l0_0.length c0_0) := (blk_cell BK222.out 0).trans rfl
     have hcz10_1 : w3.cell? ⟨gb222, 1, none⟩ = some (.string a0_1) := (blk_cell BK222.out 1).trans rfl
     have hcz10_2 : w3.cell? ⟨gb222, 2, none⟩ = some (.string a0_2) := (blk_cell BK222.out 2).trans rfl
     have hcz10_3 : w3.cell? ⟨gb222, 3, none⟩ = some (.slice A0_3 l0_3.length c0_3) := (blk_cell BK222.out 3).trans rfl
     have hfz10_0 := blk_frozen BK222.out 0
     have hfz10_1 := blk_frozen BK222.out 1
     have hfz10_2 := blk_frozen BK222.out 2
     have hfz10_3 := blk_frozen BK222.out 3
     go_wp2_with (first | ((with_reducible refine gate_callee (f := 27) rfl ?_); refine goesL_ (some 11) rfl rfl Tryd.func27 (by kernel_rfl) rfl #[.slice A0_0 l0_0.length c0_0, .string a0_1] rfl (by (try simp only [List.map_toArray, List.map_cons, List.map_nil]); first | done | rfl | (simp only [List.length_drop, List.length_take]; rfl)) ?_; (with_reducible refine (lockstitchref03_Refs.calls k _ _ l0_0 a0_1 true _ ?side1 ?side2 A4.out).mono ?_); (case side1 => repeat (first | exact (Kd.C_below HR0_0.out HB.out) | (with_reducible refine Kd.C_alloc ?_ _) | (with_reducible refine Kd.C_drewN ?_ _) | (with_reducible refine Kd.C_drew ?_))); (case side2 => exact HC0_0.out); rintro e w' ⟨rfl, ⟨nd, rfl⟩⟩; refine ⟨_, rfl, ?_⟩) | (go_at_call 27; (with_reducible refine (lockstitchref03_Refs.calls k _ _ l0_0 a0_2 true _ ?side1 ?side2 A6.out).mono ?_); (case side1 => repeat (first | exact (Kd.C_below HR0_0.out (by repeat (first | (with_reducible first | exact HB.out | apply below_alloc | apply pw_below_drewN | apply below_drew1 | refine below_set ?_ GE222.out) | exact HB.out))) | (with_reducible refine Kd.C_alloc ?_ _) | (with_reducible refine Kd.C_drewN ?_ _) | (with_reducible refine Kd.C_drew ?_))); (case side2 => exact HC0_0.out); rintro e w' ⟨rfl, ⟨nd, rfl⟩⟩))
     go_meet
     case rel => exact ⟨_, (decide ((a0_2.size : Int) > 4)), (by first | rfl | (simp; done) | (simp [*]; done)), H', ⟨by first | omega | exact Nat.le_refl _⟩, ⟨by (with_reducible repeat (first | refine blk_drewN ?_ _ | refine blk_drew ?_ | refine blk_alloc ?_ _)); exact BK222.out⟩, ⟨by repeat (first | (with_reducible first | exact HB.out | apply below_alloc | apply pw_below_drewN | apply below_drew1 | refine below_set ?_ GE222.out) | exact HB.out)⟩⟩
   ·
    replace c7 := Bool.eq_false_iff.mpr c7
    subst c7
    have H1 : (lockstitchref05_Check.j0 k true l0_0 a0_1 a0_2 l0_3) = some (r1, r2) := by rw [if_neg (show ¬ (false = true) by decide)] at H; exact H
    clear H
    have H := H1
    clear H1
    have H' := Aside0.mk H
    clear H
    have hcz11_0 : w3.cell? ⟨gb222, 0, none⟩ = some (.slice A0_0 l0_0.length c0_0) := (blk_cell BK222.out 0).trans rfl
    have hcz11_1 : w3.cell? ⟨gb222, 1, none⟩ = some (.string a0_1) := (blk_cell BK222.out 1).trans rfl
    have hcz11_2 : w3.cell? ⟨gb222, 2, none⟩ = some (.string a0_2) := (blk_cell BK222.out 2).trans rfl
    have hcz11_3 : w3.cell? ⟨gb222, 3, none⟩ = some (.slice A0_3 l0_3.length c0_3) := (blk_cell BK222.out 3).trans rfl
    have hfz11_0 := blk_frozen BK222.out 0
    have hfz11_1 := blk_frozen BK222.out 1
    have hfz11_2 := blk_frozen BK222.out 2
    have hfz11_3 := blk_frozen BK222.out 3
    go_wp2_with (first | ((with_reducible refine gate_callee (f := 27) rfl ?_); refine goesL_ (some 11) rfl rfl Tryd.func27 (by kernel_rfl) rfl #[.slice A0_0 l0_0.length c0_0, .string a0_1] rfl (by (try simp only [List.map_toArray, List.map_cons, List.map_nil]); first | done | rfl | (simp only [List.length_drop, List.length_take]; rfl)) ?_; (with_reducible refine (lockstitchref03_Refs.calls k _ _ l0_0 a0_1 true _ ?side1 ?side2 A4.out).mono ?_); (case side1 => repeat (first | exact (Kd.C_below HR0_0.out HB.out) | (with_reducible refine Kd.C_alloc ?_ _) | (with_reducible refine Kd.C_drewN ?_ _) | (with_reducible refine Kd.C_drew ?_))); (case side2 => exact HC0_0.out); rintro e w' ⟨rfl, ⟨nd, rfl⟩⟩; refine ⟨_, rfl, ?_⟩) | (go_at_call 27; (with_reducible refine (lockstitchref03_Refs.calls k _ _ l0_0 a0_2 false _ ?side1 ?side2 A6.out).mono ?_); (case side1 => repeat (first | exact (Kd.C_below HR0_0.out (by repeat (first | (with_reducible first | exact HB.out | apply below_alloc | apply pw_below_drewN | apply below_drew1 | refine below_set ?_ GE222.out) | exact HB.out))) | (with_reducible refine Kd.C_alloc ?_ _) | (with_reducible refine Kd.C_drewN ?_ _) | (with_reducible refine Kd.C_drew ?_))); (case side2 => exact HC0_0.out); rintro e w' ⟨rfl, ⟨nd, rfl⟩⟩))
    go_meet
    case rel => exact ⟨_, (true), (by first | rfl | (simp; done) | (simp [*]; done)), H', ⟨by first | omega | exact Nat.le_refl _⟩, ⟨by (with_reducible repeat (first | refine blk_drewN ?_ _ | refine blk_drew ?_ | refine blk_alloc ?_ _)); exact BK222.out⟩, ⟨by repeat (first | (with_reducible first | exact HB.out | apply below_alloc | apply pw_below_drewN | apply below_drew1 | refine below_set ?_ GE222.out) | exact HB.out)⟩⟩
  ·
   replace c5 := Bool.eq_false_iff.mpr c5
   subst c5
   have H1 : (lockstitchref05_Check.j0 k true l0_0 a0_1 a0_2 l0_3) = some (r1, r2) := by rw [if_neg (show ¬ (false = true) by decide)] at H; exact H
   clear H
   have H := H1
   clear H1
   have H' := Aside0.mk H
   clear H
   have hcz12_0 : w3.cell? ⟨gb222, 0, none⟩ = some (.slice A0_0 l0_0.length c0_0) := (blk_cell BK222.out 0).trans rfl
   have hcz12_1 : w3.cell? ⟨gb222, 1, none⟩ = some (.string a0_1) := (blk_cell BK222.out 1).trans rfl
   have hcz12_2 : w3.cell? ⟨gb222, 2, none⟩ = some (.string a0_2) := (blk_cell BK222.out 2).trans rfl
   have hcz12_3 : w3.cell? ⟨gb222, 3, none⟩ = some (.slice A0_3 l0_3.length c0_3) := (blk_cell BK222.out 3).trans rfl
   have hfz12_0 := blk_frozen BK222.out 0
   have hfz12_1 := blk_frozen BK222.out 1
   have hfz12_2 := blk_frozen BK222.out 2
   have hfz12_3 := blk_frozen BK222.out 3
   go_wp2_with (first | ((with_reducible refine gate_callee (f := 27) rfl ?_); refine goesL_ (some 11) rfl rfl Tryd.func27 (by kernel_rfl) rfl #[.slice A0_0 l0_0.length c0_0, .string a0_1] rfl (by (try simp only [List.map_toArray, List.map_cons, List.map_nil]); first | done | rfl | (simp only [List.length_drop, List.length_take]; rfl)) ?_; (with_reducible refine (lockstitchref03_Refs.calls k _ _ l0_0 a0_1 false _ ?side1 ?side2 A4.out).mono ?_); (case side1 => repeat (first | exact (Kd.C_below HR0_0.out HB.out) | (with_reducible refine Kd.C_alloc ?_ _) | (with_reducible refine Kd.C_drewN ?_ _) | (with_reducible refine Kd.C_drew ?_))); (case side2 => exact HC0_0.out); rintro e w' ⟨rfl, ⟨nd, rfl⟩⟩; refine ⟨_, rfl, ?_⟩))
   go_meet
   case rel => exact ⟨_, (true), (by first | rfl | (simp; done) | (simp [*]; done)), H', ⟨by first | omega | exact Nat.le_refl _⟩, ⟨by (with_reducible repeat (first | refine blk_drewN ?_ _ | refine blk_drew ?_ | refine blk_alloc ?_ _)); exact BK222.out⟩, ⟨by repeat (first | (with_reducible first | exact HB.out | apply below_alloc | apply pw_below_drewN | apply below_drew1 | refine below_set ?_ GE222.out) | exact HB.out)⟩⟩
 case rest =>
  clear HC2
  obtain ⟨kq, x32_1, rfl, HA, HJ1, BK222, HB⟩ := hcut
  cases kq with
  | zero => exact absurd HA.out (by simp [lockstitchref05_Check.j0])
  | succ kj1 =>
   have H := HA.out
   clear HA
   simp only [lockstitchref05_Check.j0] at H
   by_cases c13 : x32_1 = true
   ·
    subst c13
    have H1 : (some ((-1), 5)) = some (r1, r2) := by rw [if_pos rfl] at H; exact H
    clear H
    have H := H1
    clear H1
    simp only [Option.some.injEq, Prod.mk.injEq] at H
    obtain ⟨rfl, rfl⟩ := H
    go_wp2
    go_ret2
    exact ⟨by first | rfl | (simp [errW_none, errW_some] <;> rfl) | (simp [*, errW_none, errW_some] <;> rfl), by repeat (first | (with_reducible first | exact HB.out | apply below_alloc | apply pw_below_drewN | apply below_drew1 | refine below_set ?_ GE222.out) | exact HB.out)⟩
   ·
    replace c13 := Bool.eq_false_iff.mpr c13
    subst c13
    have H1 : (if (l0_3.length : Int) < 1 then (lockstitchref05_Check.j1 kj1 true l0_0 a0_1 a0_2 l0_3) else (lockstitchref05_Check.j1 kj1 (decide ((l0_3.length : Int) > 200)) l0_0 a0_1 a0_2 l0_3)) = some (r1, r2) := by rw [if_neg (show ¬ (false = true) by decide)] at H; exact H
    clear H
    have H := H1
    clear H1
    have HC14 := Aside0.mk H
    clear H
    go_upto_region 3 with (fail)
    go_cut [42] (fun v42 wc => ∃ (kq : Nat) (x42_13 : Bool), v42 = .bool x42_13 ∧ Aside0 (lockstitchref05_Check.j1 kq x42_13 l0_0 a0_1 a0_2 l0_3 = some (r1, r2)) ∧ Aside0 (kq ≤ kj1) ∧ Aside0 (wc.heap[gb222]? = some (.cells #[(.slice A0_0 l0_0.length c0_0), .string a0_1, .string a0_2, (.slice A0_3 l0_3.length c0_3)] 25 (0, 0))) ∧ Aside0 (Below w.heap.size w wc))
    case first =>
     have H := HC14.out
     clear HC14
     by_cases c15 : (l0_3.length : Int) < 1
     ·
      rw [if_pos c15] at H
      have c15b0 : decide ((l0_3.length : Int) < 1) = true := decide_eq_true c15
      have c15b1 : decide (l0_3.length < 1) = true := decide_eq_true (by omega)
      clear c15
      (first | rw [c15b0] | (simp only [i64_w, i32_w]; rw [c15b0]) | skip)
      have H' := Aside0.mk H
      clear H
      have hcz16_0 : wc.cell? ⟨gb222, 0, none⟩ = some (.slice A0_0 l0_0.length c0_0) := (blk_cell BK222.out 0).trans rfl
      have hcz16_1 : wc.cell? ⟨gb222, 1, none⟩ = some (.string a0_1) := (blk_cell BK222.out 1).trans rfl
      have hcz16_2 : wc.cell? ⟨gb222, 2, none⟩ = some (.string a0_2) := (blk_cell BK222.out 2).trans rfl
      have hcz16_3 : wc.cell? ⟨gb222, 3, none⟩ = some (.slice A0_3 l0_3.length c0_3) := (blk_cell BK222.out 3).trans rfl
      have hfz16_0 := blk_frozen BK222.out 0
      have hfz16_1 := blk_frozen BK222.out 1
      have hfz16_2 := blk_frozen BK222.out 2
      have hfz16_3 := blk_frozen BK222.out 3
      go_wp2
      go_meet
      case rel => exact ⟨_, (true), (by first | rfl | (simp; done) | (simp [*]; done)), H', ⟨by have := HJ1.out; first | omega | exact Nat.le_refl _⟩, ⟨by (with_reducible repeat (first | refine blk_drewN ?_ _ | refine blk_drew ?_ | refine blk_alloc ?_ _)); exact BK222.out⟩, ⟨by repeat (first | (with_reducible first | exact HB.out | apply below_alloc | apply pw_below_drewN | apply below_drew1 | refine below_set ?_ GE222.out) | exact HB.out)⟩⟩
     ·
      rw [if_neg c15] at H
      have c15b0 : decide ((l0_3.length : Int) < 1) = false := decide_eq_false c15
      have c15b1 : decide (l0_3.length < 1) = false := decide_eq_false (by omega)
      clear c15
      (first | rw [c15b0] | (simp only [i64_w, i32_w]; rw [c15b0]) | skip)
      have H' := Aside0.mk H
      clear H
      have hcz17_0 : wc.cell? ⟨gb222, 0, none⟩ = some (.slice A0_0 l0_0.length c0_0) := (blk_cell BK222.out 0).trans rfl
      have hcz17_1 : wc.cell? ⟨gb222, 1, none⟩ = some (.string a0_1) := (blk_cell BK222.out 1).trans rfl
      have hcz17_2 : wc.cell? ⟨gb222, 2, none⟩ = some (.string a0_2) := (blk_cell BK222.out 2).trans rfl
      have hcz17_3 : wc.cell? ⟨gb222, 3, none⟩ = some (.slice A0_3 l0_3.length c0_3) := (blk_cell BK222.out 3).trans rfl
      have hfz17_0 := blk_frozen BK222.out 0
      have hfz17_1 := blk_frozen BK222.out 1
      have hfz17_2 := blk_frozen BK222.out 2
      have hfz17_3 := blk_frozen BK222.out 3
      go_wp2
      go_meet
      case rel => exact ⟨_, (decide ((l0_3.length : Int) > 200)), (by first | rfl | (simp; done) | (simp [*]; done)), H', ⟨by have := HJ1.out; first | omega | exact Nat.le_refl _⟩, ⟨by (with_reducible repeat (first | refine blk_drewN ?_ _ | refine blk_drew ?_ | refine blk_alloc ?_ _)); exact BK222.out⟩, ⟨by repeat (first | (with_reducible first | exact HB.out | apply below_alloc | apply pw_below_drewN | apply below_drew1 | refine below_set ?_ GE222.out) | exact HB.out)⟩⟩
    case rest =>
     clear HC14
     obtain ⟨kq, x42_13, rfl, HA, HJ13, BK222, HB⟩ := hcut
     cases kq with
     | zero => exact absurd HA.out (by simp [lockstitchref05_Check.j1])
     | succ kj13 =>
      have H := HA.out
      clear HA
      simp only [lockstitchref05_Check.j1] at H
      by_cases c18 : x42_13 = true
      ·
       subst c18
       have H1 : (some ((-1), 3)) = some (r1, r2) := by rw [if_pos rfl] at H; exact H
       clear H
       have H := H1
       clear H1
       simp only [Option.some.injEq, Prod.mk.injEq] at H
       obtain ⟨rfl, rfl⟩ := H
       go_wp2
       go_ret2
       exact ⟨by first | rfl | (simp [errW_none, errW_some] <;> rfl) | (simp [*, errW_none, errW_some] <;> rfl), by repeat (first | (with_reducible first | exact HB.out | apply below_alloc | apply pw_below_drewN | apply below_drew1 | refine below_set ?_ GE222.out) | exact HB.out)⟩
      ·
       replace c18 := Bool.eq_false_iff.mpr c18
       subst c18
       have H1 : (lockstitchref05_Check.l0 kj13 0 l0_0 a0_1 a0_2 l0_3) = some (r1, r2) := by rw [if_neg (show ¬ (false = true) by decide)] at H; exact H
       clear H
       have H := H1
       clear H1
       have H' := Aside0.mk H
       clear H
       go_wp2
       go_loopg [4] kj13 (fun kq v4 w' => ∃ (x4_3 : Int), v4 = .int .i64 x4_3 ∧ Aside0 (lockstitchref05_Check.l0 kq x4_3 l0_0 a0_1 a0_2 l0_3 = some (r1, r2)) ∧ Aside0 (kq ≤ kj13) ∧ Aside0 (w'.heap[gb222]? = some (.cells #[(.slice A0_0 l0_0.length c0_0), .string a0_1, .string a0_2, (.slice A0_3 l0_3.length c0_3)] 25 (0, 0))) ∧ Aside0 (Below w.heap.size w w'))
       case atStart => exact ⟨(0), (by first | rfl | (simp; done) | (simp [*]; done)), H', ⟨Nat.le_refl _⟩, ⟨by (with_reducible repeat (first | refine blk_drewN ?_ _ | refine blk_drew ?_ | refine blk_alloc ?_ _)); exact BK222.out⟩, ⟨by repeat (first | (with_reducible first | exact HB.out | apply below_alloc | apply pw_below_drewN | apply below_drew1 | refine below_set ?_ GE222.out) | exact HB.out)⟩⟩
       case round =>
        clear H'
        obtain ⟨x4_3, rfl, HA, HK3, BK222, HB⟩ := hrel
        cases gk with
        | zero => exact absurd HA.out (by simp [lockstitchref05_Check.l0])
        | succ k3 =>
         have H := HA.out
         clear HA
         simp only [lockstitchref05_Check.l0] at H
         by_cases c19 : x4_3 < (l0_3.length : Int)
         ·
          rw [if_pos c19] at H
          have c19b0 : decide (x4_3 < (l0_3.length : Int)) = true := decide_eq_true c19
          clear c19
          by_cases c20 : 0 ≤ x4_3
          ·
           rw [if_pos c20] at H
           have c20b0 : decide (0 ≤ x4_3) = true := decide_eq_true c20
           clear c20
           have HC21 := Aside0.mk H
           clear H
           have hcz22_0 : wr.cell? ⟨gb222, 0, none⟩ = some (.slice A0_0 l0_0.length c0_0) := (blk_cell BK222.out 0).trans rfl
           have hcz22_1 : wr.cell? ⟨gb222, 1, none⟩ = some (.string a0_1) := (blk_cell BK222.out 1).trans rfl
           have hcz22_2 : wr.cell? ⟨gb222, 2, none⟩ = some (.string a0_2) := (blk_cell BK222.out 2).trans rfl
           have hcz22_3 : wr.cell? ⟨gb222, 3, none⟩ = some (.slice A0_3 l0_3.length c0_3) := (blk_cell BK222.out 3).trans rfl
           have hfz22_0 := blk_frozen BK222.out 0
           have hfz22_1 := blk_frozen BK222.out 1
           have hfz22_2 := blk_frozen BK222.out 2
           have hfz22_3 := blk_frozen BK222.out 3
           have p225 : 0 ≤ (x4_3 : Int) := of_decide_eq_true (by first | (with_reducible assumption) | assumption)
           have q225 : x4_3 < (l0_3.length : Int) := of_decide_eq_true (by first | (with_reducible assumption) | assumption)
           obtain ⟨ad225, e225, hx225_0, hx225_1, hx225_2, hx225_3, hx225_4⟩ := at_T39 HR0_3.out x4_3 p225 q225
           cases e225
           replace hx225_0 := (HB.out.cell (World.block_lt_of_cell? w _ hx225_0)).trans hx225_0
           replace hx225_1 := (HB.out.cell (World.block_lt_of_cell? w _ hx225_1)).trans hx225_1
           replace hx225_2 := (HB.out.cell (World.block_lt_of_cell? w _ hx225_2)).trans hx225_2
           replace hx225_3 := (HB.out.cell (World.block_lt_of_cell? w _ hx225_3)).trans hx225_3
           replace hx225_4 := (HB.out.cell (World.block_lt_of_cell? w _ hx225_4)).trans hx225_4
           replace p225 := eq_true p225
           replace q225 := eq_true q225
           go_upto_region 9 with (first | ((with_reducible refine gate_dst (N := 5) rfl ?_); (try (refine gate_guard (by rfl) ?_; dsimp only)); refine box_event ?hg (N := 5) ?hd (cs := #[.int .u8 0, .int .u8 0, .int .u8 0, .int .u8 0, .int .i64 0]) (t := 39) ?hr ?_; (case hd => rfl); (case hg => rfl); (case hr => first | (go_simp; done) | (go_simp; rfl)); intro gb226 hg w23 hbox hb; have n0_ := Aside0.mk (blk_below (g := gb222) (o := .cells #[.slice A0_0 l0_0.length c0_0, .string a0_1, .string a0_2, .slice (some ad225) l0_3.length c0_3] 25 (0, 0)) (by (with_reducible repeat (first | refine blk_drewN ?_ _ | refine blk_drew ?_ | refine blk_alloc ?_ _)); exact BK222.out) hb); have n1_ := Aside0.mk (below_step (by repeat (first | (with_reducible first | exact HB.out | apply below_alloc | apply pw_below_drewN | apply below_drew1 | refine below_set ?_ GE222.out) | exact HB.out)) hb); have n2_ := Aside0.mk (hbox); have n3_ := Aside0.mk ((by rw [hg]; exact (below_size (by repeat (first | (with_reducible first | exact HB.out | apply below_alloc | apply pw_below_drewN | apply below_drew1 | refine below_set ?_ GE222.out) | exact HB.out))) : w.heap.size ≤ gb226)); have n4_ := n3_; have n5_ := Aside0.mk ((by rw [hg]; exact Nat.ne_of_lt (blk_lt (g := gb222) (o := .cells #[.slice A0_0 l0_0.length c0_0, .string a0_1, .string a0_2, .slice (some ad225) l0_3.length c0_3] 25 (0, 0)) (by (with_reducible repeat (first | refine blk_drewN ?_ _ | refine blk_drew ?_ | refine blk_alloc ?_ _)); exact BK222.out)) : gb222 ≠ gb226)); have n6_ := Aside0.mk n5_.out.symm; clear BK222; clear HB; have BK222 := n0_; have HB := n1_; have BK226 := n2_; have GW226 := n3_; have GE226 := n4_; have NB222_226 := n5_; have NB226_222 := n6_; clear n0_ n1_ n2_ n3_ n4_ n5_ n6_; clear hb hbox hg; have hnb24 := NB226_222.out; have hnc24 := NB222_226.out; have hcz25_0 : w23.cell? ⟨gb226, 0, none⟩ = some (.int .u8 0) := (blk_cell BK226.out 0).trans rfl; have hcz25_1 : w23.cell? ⟨gb226, 1, none⟩ = some (.int .u8 0) := (blk_cell BK226.out 1).trans rfl; have hcz25_2 : w23.cell? ⟨gb226, 2, none⟩ = some (.int .u8 0) := (blk_cell BK226.out 2).trans rfl; have hcz25_3 : w23.cell? ⟨gb226, 3, none⟩ = some (.int .u8 0) := (blk_cell BK226.out 3).trans rfl; have hcz25_4 : w23.cell? ⟨gb226, 4, none⟩ = some (.int .i64 0) := (blk_cell BK226.out 4).trans rfl; have hfz25_0 := blk_frozen BK226.out 0; have hfz25_1 := blk_frozen BK226.out 1; have hfz25_2 := blk_frozen BK226.out 2; have hfz25_3 := blk_frozen BK226.out 3; have hfz25_4 := blk_frozen BK226.out 4))
           (try simp only [Act.put, List.setIfInBounds_toArray, List.set_cons_zero, List.set_cons_succ])
           go_cut [6] (fun v6 wc => ∃ (kq : Nat) (x6_20 : Bool), v6 = .bool x6_20 ∧ Aside0 (lockstitchref05_Check.j3 kq x4_3 x6_20 l0_0 a0_1 a0_2 l0_3 ((rd_T39 l0_3 x4_3).f0) ((rd_T39 l0_3 x4_3).f1) ((rd_T39 l0_3 x4_3).f2) ((rd_T39 l0_3 x4_3).f3) ((rd_T39 l0_3 x4_3).f4) = some (r1, r2)) ∧ Aside0 (kq ≤ k3) ∧ Aside0 (wc.heap[gb222]? = some (.cells #[(.slice A0_0 l0_0.length c0_0), .string a0_1, .string a0_2, (.slice (some ad225) l0_3.length c0_3)] 25 (0, 0))) ∧ Aside0 (wc.heap[gb226]? = some (.cells #[.int .u8 ((rd_T39 l0_3 x4_3).f0), .int .u8 ((rd_T39 l0_3 x4_3).f1), .int .u8 ((rd_T39 l0_3 x4_3).f2), .int .u8 ((rd_T39 l0_3 x4_3).f3), .int .i64 ((rd_T39 l0_3 x4_3).f4)] 39 (0, 0))) ∧ Aside0 (Below w.heap.size w wc))
           case first =>
            have H := HC21.out
            clear HC21
            by_cases c26 : ((rd_T39 l0_3 x4_3).f0) = 3
            ·
             rw [if_pos c26] at H
             have c26b0 : (((rd_T39 l0_3 x4_3).f0) == 3) = true := beq_iff_eq.mpr c26
             have c26b1 : (((rd_T39 l0_3 x4_3).f0) != 3) = false := bne_eq_false_iff_eq.mpr c26
             clear c26
             (first | rw [c26b0] | (simp only [i64_w, i32_w]; rw [c26b0]) | skip)
             have H' := Aside0.mk H
             clear H
             have hnb27 := NB226_222.out
             have hnc27 := NB222_226.out
             have hcz28_0 : w23.cell? ⟨gb226, 0, none⟩ = some (.int .u8 0) := (blk_cell BK226.out 0).trans rfl
             have hcz28_1 : w23.cell? ⟨gb226, 1, none⟩ = some (.int .u8 0) := (blk_cell BK226.out 1).trans rfl
             have hcz28_2 : w23.cell? ⟨gb226, 2, none⟩ = some (.int .u8 0) := (blk_cell BK226.out 2).trans rfl
             have hcz28_3 : w23.cell? ⟨gb226, 3, none⟩ = some (.int .u8 0) := (blk_cell BK226.out 3).trans rfl
             have hcz28_4 : w23.cell? ⟨gb226, 4, none⟩ = some (.int .i64 0) := (blk_cell BK226.out 4).trans rfl
             have hfz28_0 := blk_frozen BK226.out 0
             have hfz28_1 := blk_frozen BK226.out 1
             have hfz28_2 := blk_frozen BK226.out 2
             have hfz28_3 := blk_frozen BK226.out 3
             have hfz28_4 := blk_frozen BK226.out 4
             go_wp2
             go_meet
             case rel => exact ⟨_, (true), (by first | rfl | (simp; done) | (simp [*]; done)), H', ⟨by have := HJ1.out; have := HJ13.out; have := HK3.out; first | omega | exact Nat.le_refl _⟩, ⟨by (with_reducible repeat (first | refine blk_drewN ?_ _ | refine blk_drew ?_ | refine blk_alloc ?_ _)); refine blk_far ?_ NB222_226.out _; (with_reducible repeat (first | refine blk_drewN ?_ _ | refine blk_drew ?_ | refine blk_alloc ?_ _)); refine blk_far ?_ NB222_226.out _; (with_reducible repeat (first | refine blk_drewN ?_ _ | refine blk_drew ?_ | refine blk_alloc ?_ _)); refine blk_far ?_ NB222_226.out _; (with_reducible repeat (first | refine blk_drewN ?_ _ | refine blk_drew ?_ | refine blk_alloc ?_ _)); refine blk_far ?_ NB222_226.out _; (with_reducible repeat (first | refine blk_drewN ?_ _ | refine blk_drew ?_ | refine blk_alloc ?_ _)); refine blk_far ?_ NB222_226.out _; (with_reducible repeat (first | refine blk_drewN ?_ _ | refine blk_drew ?_ | refine blk_alloc ?_ _)); exact BK222.out⟩, ⟨by (with_reducible repeat (first | refine blk_drewN ?_ _ | refine blk_drew ?_ | refine blk_alloc ?_ _)); refine blk_put (cs := #[.int .u8 ((rd_T39 l0_3 x4_3).f0), .int .u8 ((rd_T39 l0_3 x4_3).f1), .int .u8 ((rd_T39 l0_3 x4_3).f2), .int .u8 ((rd_T39 l0_3 x4_3).f3), .int .i64 0]) ?_ 4 _ rfl; (with_reducible repeat (first | refine blk_drewN ?_ _ | refine blk_drew ?_ | refine blk_alloc ?_ _)); refine blk_put (cs := #[.int .u8 ((rd_T39 l0_3 x4_3).f0), .int .u8 ((rd_T39 l0_3 x4_3).f1), .int .u8 ((rd_T39 l0_3 x4_3).f2), .int .u8 0, .int .i64 0]) ?_ 3 _ rfl; (with_reducible repeat (first | refine blk_drewN ?_ _ | refine blk_drew ?_ | refine blk_alloc ?_ _)); refine blk_put (cs := #[.int .u8 ((rd_T39 l0_3 x4_3).f0), .int .u8 ((rd_T39 l0_3 x4_3).f1), .int .u8 0, .int .u8 0, .int .i64 0]) ?_ 2 _ rfl; (with_reducible repeat (first | refine blk_drewN ?_ _ | refine blk_drew ?_ | refine blk_alloc ?_ _)); refine blk_put (cs := #[.int .u8 ((rd_T39 l0_3 x4_3).f0), .int .u8 0, .int .u8 0, .int .u8 0, .int .i64 0]) ?_ 1 _ rfl; (with_reducible repeat (first | refine blk_drewN ?_ _ | refine blk_drew ?_ | refine blk_alloc ?_ _)); refine blk_put (cs := #[.int .u8 0, .int .u8 0, .int .u8 0, .int .u8 0, .int .i64 0]) ?_ 0 _ rfl; (with_reducible repeat (first | refine blk_drewN ?_ _ | refine blk_drew ?_ | refine blk_alloc ?_ _)); exact BK226.out⟩, ⟨by repeat (first | (with_reducible first | exact HB.out | apply below_alloc | apply pw_below_drewN | apply below_drew1 | refine below_set ?_ GE222.out | refine below_set ?_ GE226.out) | exact HB.out)⟩⟩
            ·
             rw [if_neg c26] at H
             have c26b0 : (((rd_T39 l0_3 x4_3).f0) == 3) = false := beq_eq_false_iff_ne.mpr c26
             have c26b1 : (((rd_T39 l0_3 x4_3).f0) != 3) = true := bne_iff_ne.mpr c26
             (first | rw [c26b0] | (simp only [i64_w, i32_w]; rw [c26b0]) | skip)
             have H' := Aside0.mk H
             clear H
             have hnb29 := NB226_222.out
             have hnc29 := NB222_226.out
             have hcz30_0 : w23.cell? ⟨gb226, 0, none⟩ = some (.int .u8 0) := (blk_cell BK226.out 0).trans rfl
             have hcz30_1 : w23.cell? ⟨gb226, 1, none⟩ = some (.int .u8 0) := (blk_cell BK226.out 1).trans rfl
             have hcz30_2 : w23.cell? ⟨gb226, 2, none⟩ = some (.int .u8 0) := (blk_cell BK226.out 2).trans rfl
             have hcz30_3 : w23.cell? ⟨gb226, 3, none⟩ = some (.int .u8 0) := (blk_cell BK226.out 3).trans rfl
             have hcz30_4 : w23.cell? ⟨gb226, 4, none⟩ = some (.int .i64 0) := (blk_cell BK226.out 4).trans rfl
             have hfz30_0 := blk_frozen BK226.out 0
             have hfz30_1 := blk_frozen BK226.out 1
             have hfz30_2 := blk_frozen BK226.out 2
             have hfz30_3 := blk_frozen BK226.out 3
             have hfz30_4 := blk_frozen BK226.out 4
             go_wp2
             go_meet
             case rel => exact ⟨_, ((((rd_T39 l0_3 x4_3).f0) == 4)), (by first | rfl | (simp; done) | (simp [*]; done)), H', ⟨by have := HJ1.out; have := HJ13.out; have := HK3.out; first | omega | exact Nat.le_refl _⟩, ⟨by (with_reducible repeat (first | refine blk_drewN ?_ _ | refine blk_drew ?_ | refine blk_alloc ?_ _)); refine blk_far ?_ NB222_226.out _; (with_reducible repeat (first | refine blk_drewN ?_ _ | refine blk_drew ?_ | refine blk_alloc ?_ _)); refine blk_far ?_ NB222_226.out _; (with_reducible repeat (first | refine blk_drewN ?_ _ | refine blk_drew ?_ | refine blk_alloc ?_ _)); refine blk_far ?_ NB222_226.out _; (with_reducible repeat (first | refine blk_drewN ?_ _ | refine blk_drew ?_ | refine blk_alloc ?_ _)); refine blk_far ?_ NB222_226.out _; (with_reducible repeat (first | refine blk_drewN ?_ _ | refine blk_drew ?_ | refine blk_alloc ?_ _)); refine blk_far ?_ NB222_226.out _; (with_reducible repeat (first | refine blk_drewN ?_ _ | refine blk_drew ?_ | refine blk_alloc ?_ _)); exact BK222.out⟩, ⟨by (with_reducible repeat (first | refine blk_drewN ?_ _ | refine blk_drew ?_ | refine blk_alloc ?_ _)); refine blk_put (cs := #[.int .u8 ((rd_T39 l0_3 x4_3).f0), .int .u8 ((rd_T39 l0_3 x4_3).f1), .int .u8 ((rd_T39 l0_3 x4_3).f2), .int .u8 ((rd_T39 l0_3 x4_3).f3), .int .i64 0]) ?_ 4 _ rfl; (with_reducible repeat (first | refine blk_drewN ?_ _ | refine blk_drew ?_ | refine blk_alloc ?_ _)); refine blk_put (cs := #[.int .u8 ((rd_T39 l0_3 x4_3).f0), .int .u8 ((rd_T39 l0_3 x4_3).f1), .int .u8 ((rd_T39 l0_3 x4_3).f2), .int .u8 0, .int .i64 0]) ?_ 3 _ rfl; (with_reducible repeat (first | refine blk_drewN ?_ _ | refine blk_drew ?_ | refine blk_alloc ?_ _)); refine blk_put (cs := #[.int .u8 ((rd_T39 l0_3 x4_3).f0), .int .u8 ((rd_T39 l0_3 x4_3).f1), .int .u8 0, .int .u8 0, .int .i64 0]) ?_ 2 _ rfl; (with_reducible repeat (first | refine blk_drewN ?_ _ | refine blk_drew ?_ | refine blk_alloc ?_ _)); refine blk_put (cs := #[.int .u8 ((rd_T39 l0_3 x4_3).f0), .int .u8 0, .int .u8 0, .int .u8 0, .int .i64 0]) ?_ 1 _ rfl; (with_reducible repeat (first | refine blk_drewN ?_ _ | refine blk_drew ?_ | refine blk_alloc ?_ _)); refine blk_put (cs := #[.int .u8 0, .int .u8 0, .int .u8 0, .int .u8 0, .int .i64 0]) ?_ 0 _ rfl; (with_reducible repeat (first | refine blk_drewN ?_ _ | refine blk_drew ?_ | refine blk_alloc ?_ _)); exact BK226.out⟩, ⟨by repeat (first | (with_reducible first | exact HB.out | apply below_alloc | apply pw_below_drewN | apply below_drew1 | refine below_set ?_ GE222.out | refine below_set ?_ GE226.out) | exact HB.out)⟩⟩
           case rest =>
            clear HC21
            obtain ⟨kq, x6_20, rfl, HA, HJ20, BK222, BK226, HB⟩ := hcut
            cases kq with
            | zero => exact absurd HA.out (by simp [lockstitchref05_Check.j3])
            | succ kj20 =>
             have H := HA.out
             clear HA
             simp only [lockstitchref05_Check.j3] at H
             replace H := Option.bind_eq_some_iff.mp H
             obtain ⟨t227, A310, H⟩ := H
             replace H : (if t227 = true then (if x6_20 = true then (if ((rd_T39 l0_3 x4_3).f4) < 0 then (lockstitchref05_Check.j4 kj20 x4_3 true l0_0 a0_1 a0_2 l0_3 ((rd_T39 l0_3 x4_3).f0) ((rd_T39 l0_3 x4_3).f1) ((rd_T39 l0_3 x4_3).f2) ((rd_T39 l0_3 x4_3).f3) ((rd_T39 l0_3 x4_3).f4)) else (lockstitchref05_Check.j4 kj20 x4_3 (decide (((rd_T39 l0_3 x4_3).f4) > (l0_3.length : Int))) l0_0 a0_1 a0_2 l0_3 ((rd_T39 l0_3 x4_3).f0) ((rd_T39 l0_3 x4_3).f1) ((rd_T39 l0_3 x4_3).f2) ((rd_T39 l0_3 x4_3).f3) ((rd_T39 l0_3 x4_3).f4))) else (lockstitchref05_Check.j4 kj20 x4_3 false l0_0 a0_1 a0_2 l0_3 ((rd_T39 l0_3 x4_3).f0) ((rd_T39 l0_3 x4_3).f1) ((rd_T39 l0_3 x4_3).f2) ((rd_T39 l0_3 x4_3).f3) ((rd_T39 l0_3 x4_3).f4))) else (some (x4_3, 4))) = some (r1, r2) := H
             have A31 := Aside0.mk A310
             clear A310
             by_cases c32 : t227 = true
             ·
              subst c32
              have H1 : (if x6_20 = true then (if ((rd_T39 l0_3 x4_3).f4) < 0 then (lockstitchref05_Check.j4 kj20 x4_3 true l0_0 a0_1 a0_2 l0_3 ((rd_T39 l0_3 x4_3).f0) ((rd_T39 l0_3 x4_3).f1) ((rd_T39 l0_3 x4_3).f2) ((rd_T39 l0_3 x4_3).f3) ((rd_T39 l0_3 x4_3).f4)) else (lockstitchref05_Check.j4 kj20 x4_3 (decide (((rd_T39 l0_3 x4_3).f4) > (l0_3.length : Int))) l0_0 a0_1 a0_2 l0_3 ((rd_T39 l0_3 x4_3).f0) ((rd_T39 l0_3 x4_3).f1) ((rd_T39 l0_3 x4_3).f2) ((rd_T39 l0_3 x4_3).f3) ((rd_T39 l0_3 x4_3).f4))) else (lockstitchref05_Check.j4 kj20 x4_3 false l0_0 a0_1 a0_2 l0_3 ((rd_T39 l0_3 x4_3).f0) ((rd_T39 l0_3 x4_3).f1) ((rd_T39 l0_3 x4_3).f2) ((rd_T39 l0_3 x4_3).f3) ((rd_T39 l0_3 x4_3).f4))) = some (r1, r2) := by rw [if_pos rfl] at H; exact H
              clear H
              have H := H1
              clear H1
              have HC33 := Aside0.mk H
              clear H
              have hnb34 := NB226_222.out
              have hnc34 := NB222_226.out
              have hcz35_0 : wc.cell? ⟨gb226, 0, none⟩ = some (.int .u8 ((rd_T39 l0_3 x4_3).f0)) := (blk_cell BK226.out 0).trans rfl
              have hcz35_1 : wc.cell? ⟨gb226, 1, none⟩ = some (.int .u8 ((rd_T39 l0_3 x4_3).f1)) := (blk_cell BK226.out 1).trans rfl
              have hcz35_2 : wc.cell? ⟨gb226, 2, none⟩ = some (.int .u8 ((rd_T39 l0_3 x4_3).f2)) := (blk_cell BK226.out 2).trans rfl
              have hcz35_3 : wc.cell? ⟨gb226, 3, none⟩ = some (.int .u8 ((rd_T39 l0_3 x4_3).f3)) := (blk_cell BK226.out 3).trans rfl
              have hcz35_4 : wc.cell? ⟨gb226, 4, none⟩ = some (.int .i64 ((rd_T39 l0_3 x4_3).f4)) := (blk_cell BK226.out 4).trans rfl
              have hfz35_0 := blk_frozen BK226.out 0
              have hfz35_1 := blk_frozen BK226.out 1
              have hfz35_2 := blk_frozen BK226.out 2
              have hfz35_3 := blk_frozen BK226.out 3
              have hfz35_4 := blk_frozen BK226.out 4
              go_upto_region 12 with (first | ((with_reducible refine gate_callee (f := 28) rfl ?_); refine goesL_ (some 65) rfl rfl Tryd.func28 (by kernel_rfl) rfl #[.agg #[.int .u8 ((rd_T39 l0_3 x4_3).f0), .int .u8 ((rd_T39 l0_3 x4_3).f1), .int .u8 ((rd_T39 l0_3 x4_3).f2), .int .u8 ((rd_T39 l0_3 x4_3).f3), .int .i64 ((rd_T39 l0_3 x4_3).f4)]] rfl (by (try simp only [List.map_toArray, List.map_cons, List.map_nil]); first | done | rfl | (simp only [List.length_drop, List.length_take]; rfl)) ?_; (with_reducible refine (lockstitchref04_Right.calls kj20 ((rd_T39 l0_3 x4_3).f0) ((rd_T39 l0_3 x4_3).f1) ((rd_T39 l0_3 x4_3).f2) ((rd_T39 l0_3 x4_3).f3) ((rd_T39 l0_3 x4_3).f4) true _ ?side1 A31.out).mono ?_); (case side1 => repeat (first | exact (Kd.C_below HRT.out HB.out) | (with_reducible refine Kd.C_alloc ?_ _) | (with_reducible refine Kd.C_drewN ?_ _) | (with_reducible refine Kd.C_drew ?_))); rintro e w36 ⟨rfl, hb⟩; refine ⟨_, rfl, ?_⟩; have n0_ := Aside0.mk (blk_below (g := gb222) (o := .cells #[.slice A0_0 l0_0.length c0_0, .string a0_1, .string a0_2, .slice (some ad225) l0_3.length c0_3] 25 (0, 0)) (by (with_reducible repeat (first | refine blk_drewN ?_ _ | refine blk_drew ?_ | refine blk_alloc ?_ _)); exact BK222.out) hb); have n1_ := Aside0.mk (blk_below (g := gb226) (o := .cells #[.int .u8 ((rd_T39 l0_3 x4_3).f0), .int .u8 ((rd_T39 l0_3 x4_3).f1), .int .u8 ((rd_T39 l0_3 x4_3).f2), .int .u8 ((rd_T39 l0_3 x4_3).f3), .int .i64 ((rd_T39 l0_3 x4_3).f4)] 39 (0, 0)) (by (with_reducible repeat (first | refine blk_drewN ?_ _ | refine blk_drew ?_ | refine blk_alloc ?_ _)); exact BK226.out) hb); have n2_ := Aside0.mk (below_step (by repeat (first | (with_reducible first | exact HB.out | apply below_alloc | apply pw_below_drewN | apply below_drew1 | refine below_set ?_ GE222.out | refine below_set ?_ GE226.out) | exact HB.out)) hb); clear BK222; clear BK226; clear HB; have BK222 := n0_; have BK226 := n1_; have HB := n2_; clear n0_ n1_ n2_; (try clear hb); (try clear hb2); (try clear hk); (try clear hi)))
              (try simp only [Act.put, List.setIfInBounds_toArray, List.set_cons_zero, List.set_cons_succ])
              go_cut [68] (fun v68 wc => ∃ (kq : Nat) (x68_32 : Bool), v68 = .bool x68_32 ∧ Aside0 (lockstitchref05_Check.j4 kq x4_3 x68_32 l0_0 a0_1 a0_2 l0_3 ((rd_T39 l0_3 x4_3).f0) ((rd_T39 l0_3 x4_3).f1) ((rd_T39 l0_3 x4_3).f2) ((rd_T39 l0_3 x4_3).f3) ((rd_T39 l0_3 x4_3).f4) = some (r1, r2)) ∧ Aside0 (kq ≤ kj20) ∧ Aside0 (wc.heap[gb222]? = some (.cells #[(.slice A0_0 l0_0.length c0_0), .string a0_1, .string a0_2, (.slice (some ad225) l0_3.length c0_3)] 25 (0, 0))) ∧ Aside0 (wc.heap[gb226]? = some (.cells #[.int .u8 ((rd_T39 l0_3 x4_3).f0), .int .u8 ((rd_T39 l0_3 x4_3).f1), .int .u8 ((rd_T39 l0_3 x4_3).f2), .int .u8 ((rd_T39 l0_3 x4_3).f3), .int .i64 ((rd_T39 l0_3 x4_3).f4)] 39 (0, 0))) ∧ Aside0 (Below w.heap.size w wc))
              case first =>
               have H := HC33.out
               clear HC33
               by_cases c37 : x6_20 = true
               ·
                subst c37
                have H1 : (if ((rd_T39 l0_3 x4_3).f4) < 0 then (lockstitchref05_Check.j4 kj20 x4_3 true l0_0 a0_1 a0_2 l0_3 ((rd_T39 l0_3 x4_3).f0) ((rd_T39 l0_3 x4_3).f1) ((rd_T39 l0_3 x4_3).f2) ((rd_T39 l0_3 x4_3).f3) ((rd_T39 l0_3 x4_3).f4)) else (lockstitchref05_Check.j4 kj20 x4_3 (decide (((rd_T39 l0_3 x4_3).f4) > (l0_3.length : Int))) l0_0 a0_1 a0_2 l0_3 ((rd_T39 l0_3 x4_3).f0) ((rd_T39 l0_3 x4_3).f1) ((rd_T39 l0_3 x4_3).f2) ((rd_T39 l0_3 x4_3).f3) ((rd_T39 l0_3 x4_3).f4))) = some (r1, r2) := by rw [if_pos rfl] at H; exact H
                clear H
                have H := H1
                clear H1
                by_cases c38 : ((rd_T39 l0_3 x4_3).f4) < 0
                ·
                 rw [if_pos c38] at H
                 have c38b0 : decide (((rd_T39 l0_3 x4_3).f4) < 0) = true := decide_eq_true c38
                 clear c38
                 (first | rw [c38b0] | (simp only [i64_w, i32_w]; rw [c38b0]) | skip)
                 have H' := Aside0.mk H
                 clear H
                 have hnb39 := NB226_222.out
                 have hnc39 := NB222_226.out
                 have hcz40_0 : w36.cell? ⟨gb226, 0, none⟩ = some (.int .u8 ((rd_T39 l0_3 x4_3).f0)) := (blk_cell BK226.out 0).trans rfl
                 have hcz40_1 : w36.cell? ⟨gb226, 1, none⟩ = some (.int .u8 ((rd_T39 l0_3 x4_3).f1)) := (blk_cell BK226.out 1).trans rfl
                 have hcz40_2 : w36.cell? ⟨gb226, 2, none⟩ = some (.int .u8 ((rd_T39 l0_3 x4_3).f2)) := (blk_cell BK226.out 2).trans rfl
                 have hcz40_3 : w36.cell? ⟨gb226, 3, none⟩ = some (.int .u8 ((rd_T39 l0_3 x4_3).f3)) := (blk_cell BK226.out 3).trans rfl
                 have hcz40_4 : w36.cell? ⟨gb226, 4, none⟩ = some (.int .i64 ((rd_T39 l0_3 x4_3).f4)) := (blk_cell BK226.out 4).trans rfl
                 have hfz40_0 := blk_frozen BK226.out 0
                 have hfz40_1 := blk_frozen BK226.out 1
                 have hfz40_2 := blk_frozen BK226.out 2
                 have hfz40_3 := blk_frozen BK226.out 3
                 have hfz40_4 := blk_frozen BK226.out 4
                 go_wp2
                 go_meet
                 case rel => exact ⟨_, (true), (by first | rfl | (simp; done) | (simp [*]; done)), H', ⟨by have := HJ1.out; have := HJ13.out; have := HK3.out; have := HJ20.out; first | omega | exact Nat.le_refl _⟩, ⟨by (with_reducible repeat (first | refine blk_drewN ?_ _ | refine blk_drew ?_ | refine blk_alloc ?_ _)); exact BK222.out⟩, ⟨by (with_reducible repeat (first | refine blk_drewN ?_ _ | refine blk_drew ?_ | refine blk_alloc ?_ _)); exact BK226.out⟩, ⟨by repeat (first | (with_reducible first | exact HB.out | apply below_alloc | apply pw_below_drewN | apply below_drew1 | refine below_set ?_ GE222.out | refine below_set ?_ GE226.out) | exact HB.out)⟩⟩
                ·
                 rw [if_neg c38] at H
                 have c38b0 : decide (((rd_T39 l0_3 x4_3).f4) < 0) = false := decide_eq_false c38
                 clear c38
                 (first | rw [c38b0] | (simp only [i64_w, i32_w]; rw [c38b0]) | skip)
                 have H' := Aside0.mk H
                 clear H
                 have hnb41 := NB226_222.out
                 have hnc41 := NB222_226.out
                 have hcz42_0 : w36.cell? ⟨gb226, 0, none⟩ = some (.int .u8 ((rd_T39 l0_3 x4_3).f0)) := (blk_cell BK226.out 0).trans rfl
                 have hcz42_1 : w36.cell? ⟨gb226, 1, none⟩ = some (.int .u8 ((rd_T39 l0_3 x4_3).f1)) := (blk_cell BK226.out 1).trans rfl
                 have hcz42_2 : w36.cell? ⟨gb226, 2, none⟩ = some (.int .u8 ((rd_T39 l0_3 x4_3).f2)) := (blk_cell BK226.out 2).trans rfl
                 have hcz42_3 : w36.cell? ⟨gb226, 3, none⟩ = some (.int .u8 ((rd_T39 l0_3 x4_3).f3)) := (blk_cell BK226.out 3).trans rfl
                 have hcz42_4 : w36.cell? ⟨gb226, 4, none⟩ = some (.int .i64 ((rd_T39 l0_3 x4_3).f4)) := (blk_cell BK226.out 4).trans rfl
                 have hfz42_0 := blk_frozen BK226.out 0
                 have hfz42_1 := blk_frozen BK226.out 1
                 have hfz42_2 := blk_frozen BK226.out 2
                 have hfz42_3 := blk_frozen BK226.out 3
                 have hfz42_4 := blk_frozen BK226.out 4
                 have hcz43_0 : w36.cell? ⟨gb222, 0, none⟩ = some (.slice A0_0 l0_0.length c0_0) := (blk_cell BK222.out 0).trans rfl
                 have hcz43_1 : w36.cell? ⟨gb222, 1, none⟩ = some (.string a0_1) := (blk_cell BK222.out 1).trans rfl
                 have hcz43_2 : w36.cell? ⟨gb222, 2, none⟩ = some (.string a0_2) := (blk_cell BK222.out 2).trans rfl
                 have hcz43_3 : w36.cell? ⟨gb222, 3, none⟩ = some (.slice (some ad225) l0_3.length c0_3) := (blk_cell BK222.out 3).trans rfl
                 have hfz43_0 := blk_frozen BK222.out 0
                 have hfz43_1 := blk_frozen BK222.out 1
                 have hfz43_2 := blk_frozen BK222.out 2
                 have hfz43_3 := blk_frozen BK222.out 3
                 go_wp2
                 go_meet
                 case rel => exact ⟨_, (decide (((rd_T39 l0_3 x4_3).f4) > (l0_3.length : Int))), (by first | rfl | (simp; done) | (simp [*]; done)), H', ⟨by have := HJ1.out; have := HJ13.out; have := HK3.out; have := HJ20.out; first | omega | exact Nat.le_refl _⟩, ⟨by (with_reducible repeat (first | refine blk_drewN ?_ _ | refine blk_drew ?_ | refine blk_alloc ?_ _)); exact BK222.out⟩, ⟨by (with_reducible repeat (first | refine blk_drewN ?_ _ | refine blk_drew ?_ | refine blk_alloc ?_ _)); exact BK226.out⟩, ⟨by repeat (first | (with_reducible first | exact HB.out | apply below_alloc | apply pw_below_drewN | apply below_drew1 | refine below_set ?_ GE222.out | refine below_set ?_ GE226.out) | exact HB.out)⟩⟩
               ·
                replace c37 := Bool.eq_false_iff.mpr c37
                subst c37
                have H1 : (lockstitchref05_Check.j4 kj20 x4_3 false l0_0 a0_1 a0_2 l0_3 ((rd_T39 l0_3 x4_3).f0) ((rd_T39 l0_3 x4_3).f1) ((rd_T39 l0_3 x4_3).f2) ((rd_T39 l0_3 x4_3).f3) ((rd_T39 l0_3 x4_3).f4)) = some (r1, r2) := by rw [if_neg (show ¬ (false = true) by decide)] at H; exact H
                clear H
                have H := H1
                clear H1
                have H' := Aside0.mk H
                clear H
                go_wp2
                go_meet
                case rel => exact ⟨_, (false), (by first | rfl | (simp; done) | (simp [*]; done)), H', ⟨by have := HJ1.out; have := HJ13.out; have := HK3.out; have := HJ20.out; first | omega | exact Nat.le_refl _⟩, ⟨by (with_reducible repeat (first | refine blk_drewN ?_ _ | refine blk_drew ?_ | refine blk_alloc ?_ _)); exact BK222.out⟩, ⟨by (with_reducible repeat (first | refine blk_drewN ?_ _ | refine blk_drew ?_ | refine blk_alloc ?_ _)); exact BK226.out⟩, ⟨by repeat (first | (with_reducible first | exact HB.out | apply below_alloc | apply pw_below_drewN | apply below_drew1 | refine below_set ?_ GE222.out | refine below_set ?_ GE226.out) | exact HB.out)⟩⟩
              case rest =>
               clear HC33
               obtain ⟨kq, x68_32, rfl, HA, HJ32, BK222, BK226, HB⟩ := hcut
               cases kq with
               | zero => exact absurd HA.out (by simp [lockstitchref05_Check.j4])
               | succ kj32 =>
                have H := HA.out
                clear HA
                simp only [lockstitchref05_Check.j4] at H
                by_cases c44 : x68_32 = true
                ·
                 subst c44
                 have H1 : (some (x4_3, 12)) = some (r1, r2) := by rw [if_pos rfl] at H; exact H
                 clear H
                 have H := H1
                 clear H1
                 simp only [Option.some.injEq, Prod.mk.injEq] at H
                 obtain ⟨rfl, rfl⟩ := H
                 go_wp2
                 go_ret2
                 exact ⟨by first | rfl | (simp [errW_none, errW_some] <;> rfl) | (simp [*, errW_none, errW_some] <;> rfl), by repeat (first | (with_reducible first | exact HB.out | apply below_alloc | apply pw_below_drewN | apply below_drew1 | refine below_set ?_ GE222.out | refine below_set ?_ GE226.out) | exact HB.out)⟩
                ·
                 replace c44 := Bool.eq_false_iff.mpr c44
                 subst c44
                 have H1 : ((lockstitchref05_ints.f kj32 ((rd_T39 l0_3 x4_3).f0) ((rd_T39 l0_3 x4_3).f1) ((rd_T39 l0_3 x4_3).f2) ((rd_T39 l0_3 x4_3).f3) ((rd_T39 l0_3 x4_3).f4)).bind fun t228 => (if t228 = true then ((lockstitchref05_kinds.f kj32 l0_0 a0_1 a0_2 l0_3 ((rd_T39 l0_3 x4_3).f0) ((rd_T39 l0_3 x4_3).f1) ((rd_T39 l0_3 x4_3).f2) ((rd_T39 l0_3 x4_3).f3) ((rd_T39 l0_3 x4_3).f4)).bind fun t229 => (if t229 = true then (lockstitchref05_Check.l0 kj32 (wrap64 (x4_3 + 1)) l0_0 a0_1 a0_2 l0_3) else (some (x4_3, 5)))) else (some (x4_3, 5)))) = some (r1, r2) := by rw [if_neg (show ¬ (false = true) by decide)] at H; exact H
                 clear H
                 have H := H1
                 clear H1
                 replace H := Option.bind_eq_some_iff.mp H
                 obtain ⟨t228, A450, H⟩ := H
                 replace H : (if t228 = true then ((lockstitchref05_kinds.f kj32 l0_0 a0_1 a0_2 l0_3 ((rd_T39 l0_3 x4_3).f0) ((rd_T39 l0_3 x4_3).f1) ((rd_T39 l0_3 x4_3).f2) ((rd_T39 l0_3 x4_3).f3) ((rd_T39 l0_3 x4_3).f4)).bind fun t229 => (if t229 = true then (lockstitchref05_Check.l0 kj32 (wrap64 (x4_3 + 1)) l0_0 a0_1 a0_2 l0_3) else (some (x4_3, 5)))) else (some (x4_3, 5))) = some (r1, r2) := H
                 have A45 := Aside0.mk A450
                 clear A450
                 by_cases c46 : t228 = true
                 ·
                  subst c46
                  have H1 : ((lockstitchref05_kinds.f kj32 l0_0 a0_1 a0_2 l0_3 ((rd_T39 l0_3 x4_3).f0) ((rd_T39 l0_3 x4_3).f1) ((rd_T39 l0_3 x4_3).f2) ((rd_T39 l0_3 x4_3).f3) ((rd_T39 l0_3 x4_3).f4)).bind fun t229 => (if t229 = true then (lockstitchref05_Check.l0 kj32 (wrap64 (x4_3 + 1)) l0_0 a0_1 a0_2 l0_3) else (some (x4_3, 5)))) = some (r1, r2) := by rw [if_pos rfl] at H; exact H
                  clear H
                  have H := H1
                  clear H1
                  replace H := Option.bind_eq_some_iff.mp H
                  obtain ⟨t229, A470, H⟩ := H
                  replace H : (if t229 = true then (lockstitchref05_Check.l0 kj32 (wrap64 (x4_3 + 1)) l0_0 a0_1 a0_2 l0_3) else (some (x4_3, 5))) = some (r1, r2) := H
                  have A47 := Aside0.mk A470
                  clear A470
                  by_cases c48 : t229 = true
                  ·
                   subst c48
                   have H1 : (lockstitchref05_Check.l0 kj32 (wrap64 (x4_3 + 1)) l0_0 a0_1 a0_2 l0_3) = some (r1, r2) := by rw [if_pos rfl] at H; exact H
                   clear H
                   have H := H1
                   clear H1
                   have H' := Aside0.mk H
                   clear H
                   have hnb49 := NB226_222.out
                   have hnc49 := NB222_226.out
                   have hcz50_0 : wc.cell? ⟨gb226, 0, none⟩ = some (.int .u8 ((rd_T39 l0_3 x4_3).f0)) := (blk_cell BK226.out 0).trans rfl
                   have hcz50_1 : wc.cell? ⟨gb226, 1, none⟩ = some (.int .u8 ((rd_T39 l0_3 x4_3).f1)) := (blk_cell BK226.out 1).trans rfl
                   have hcz50_2 : wc.cell? ⟨gb226, 2, none⟩ = some (.int .u8 ((rd_T39 l0_3 x4_3).f2)) := (blk_cell BK226.out 2).trans rfl
                   have hcz50_3 : wc.cell? ⟨gb226, 3, none⟩ = some (.int .u8 ((rd_T39 l0_3 x4_3).f3)) := (blk_cell BK226.out 3).trans rfl
                   have hcz50_4 : wc.cell? ⟨gb226, 4, none⟩ = some (.int .i64 ((rd_T39 l0_3 x4_3).f4)) := (blk_cell BK226.out 4).trans rfl
                   have hfz50_0 := blk_frozen BK226.out 0
                   have hfz50_1 := blk_frozen BK226.out 1
                   have hfz50_2 := blk_frozen BK226.out 2
                   have hfz50_3 := blk_frozen BK226.out 3
                   have hfz50_4 := blk_frozen BK226.out 4
                   go_wp2_with (first | ((with_reducible refine gate_callee (f := 29) rfl ?_); refine goesL_ (some 86) rfl rfl Tryd.func29 (by kernel_rfl) rfl #[.agg #[.int .u8 ((rd_T39 l0_3 x4_3).f0), .int .u8 ((rd_T39 l0_3 x4_3).f1), .int .u8 ((rd_T39 l0_3 x4_3).f2), .int .u8 ((rd_T39 l0_3 x4_3).f3), .int .i64 ((rd_T39 l0_3 x4_3).f4)]] rfl (by (try simp only [List.map_toArray, List.map_cons, List.map_nil]); first | done | rfl | (simp only [List.length_drop, List.length_take]; rfl)) ?_; (with_reducible refine (lockstitchref05_ints.calls kj32 ((rd_T39 l0_3 x4_3).f0) ((rd_T39 l0_3 x4_3).f1) ((rd_T39 l0_3 x4_3).f2) ((rd_T39 l0_3 x4_3).f3) ((rd_T39 l0_3 x4_3).f4) true _ A45.out).mono ?_); rintro e w51 ⟨rfl, hb⟩; refine ⟨_, rfl, ?_⟩; have n0_ := Aside0.mk (blk_below (g := gb222) (o := .cells #[.slice A0_0 l0_0.length c0_0, .string a0_1, .string a0_2, .slice (some ad225) l0_3.length c0_3] 25 (0, 0)) (by (with_reducible repeat (first | refine blk_drewN ?_ _ | refine blk_drew ?_ | refine blk_alloc ?_ _)); exact BK222.out) hb); have n1_ := Aside0.mk (blk_below (g := gb226) (o := .cells #[.int .u8 ((rd_T39 l0_3 x4_3).f0), .int .u8 ((rd_T39 l0_3 x4_3).f1), .int .u8 ((rd_T39 l0_3 x4_3).f2), .int .u8 ((rd_T39 l0_3 x4_3).f3), .int .i64 ((rd_T39 l0_3 x4_3).f4)] 39 (0, 0)) (by (with_reducible repeat (first | refine blk_drewN ?_ _ | refine blk_drew ?_ | refine blk_alloc ?_ _)); exact BK226.out) hb); have n2_ := Aside0.mk (below_step (by repeat (first | (with_reducible first | exact HB.out | apply below_alloc | apply pw_below_drewN | apply below_drew1 | refine below_set ?_ GE222.out | refine below_set ?_ GE226.out) | exact HB.out)) hb); clear BK222; clear BK226; clear HB; have BK222 := n0_; have BK226 := n1_; have HB := n2_; clear n0_ n1_ n2_; (try clear hb); (try clear hb2); (try clear hk); (try clear hi); have hcz52_0 : w51.cell? ⟨gb222, 0, none⟩ = some (.slice A0_0 l0_0.length c0_0) := (blk_cell BK222.out 0).trans rfl; have hcz52_1 : w51.cell? ⟨gb222, 1, none⟩ = some (.string a0_1) := (blk_cell BK222.out 1).trans rfl; have hcz52_2 : w51.cell? ⟨gb222, 2, none⟩ = some (.string a0_2) := (blk_cell BK222.out 2).trans rfl; have hcz52_3 : w51.cell? ⟨gb222, 3, none⟩ = some (.slice (some ad225) l0_3.length c0_3) := (blk_cell BK222.out 3).trans rfl; have hfz52_0 := blk_frozen BK222.out 0; have hfz52_1 := blk_frozen BK222.out 1; have hfz52_2 := blk_frozen BK222.out 2; have hfz52_3 := blk_frozen BK222.out 3; have hcz53_0 : w51.cell? ⟨gb226, 0, none⟩ = some (.int .u8 ((rd_T39 l0_3 x4_3).f0)) := (blk_cell BK226.out 0).trans rfl; have hcz53_1 : w51.cell? ⟨gb226, 1, none⟩ = some (.int .u8 ((rd_T39 l0_3 x4_3).f1)) := (blk_cell BK226.out 1).trans rfl; have hcz53_2 : w51.cell? ⟨gb226, 2, none⟩ = some (.int .u8 ((rd_T39 l0_3 x4_3).f2)) := (blk_cell BK226.out 2).trans rfl; have hcz53_3 : w51.cell? ⟨gb226, 3, none⟩ = some (.int .u8 ((rd_T39 l0_3 x4_3).f3)) := (blk_cell BK226.out 3).trans rfl; have hcz53_4 : w51.cell? ⟨gb226, 4, none⟩ = some (.int .i64 ((rd_T39 l0_3 x4_3).f4)) := (blk_cell BK226.out 4).trans rfl; have hfz53_0 := blk_frozen BK226.out 0; have hfz53_1 := blk_frozen BK226.out 1; have hfz53_2 := blk_frozen BK226.out 2; have hfz53_3 := blk_frozen BK226.out 3; have hfz53_4 := blk_frozen BK226.out 4) | (go_at_call 30; (with_reducible refine (lockstitchref05_kinds.calls kj32 _ _ l0_0 a0_1 a0_2 _ _ l0_3 ((rd_T39 l0_3 x4_3).f0) ((rd_T39 l0_3 x4_3).f1) ((rd_T39 l0_3 x4_3).f2) ((rd_T39 l0_3 x4_3).f3) ((rd_T39 l0_3 x4_3).f4) true _ ?side1 ?side2 ?side3 ?side4 A47.out).mono ?_); (case side1 => repeat (first | exact (Kd.C_below HR0_0.out HB.out) | (with_reducible refine Kd.C_alloc ?_ _) | (with_reducible refine Kd.C_drewN ?_ _) | (with_reducible refine Kd.C_drew ?_))); (case side2 => exact HC0_0.out); (case side3 => repeat (first | exact (Kd.C_below HR0_3.out HB.out) | (with_reducible refine Kd.C_alloc ?_ _) | (with_reducible refine Kd.C_drewN ?_ _) | (with_reducible refine Kd.C_drew ?_))); (case side4 => exact HC0_3.out); rintro e w54 ⟨rfl, hb⟩; have n0_ := Aside0.mk (blk_below (g := gb222) (o := .cells #[.slice A0_0 l0_0.length c0_0, .string a0_1, .string a0_2, .slice (some ad225) l0_3.length c0_3] 25 (0, 0)) (by (with_reducible repeat (first | refine blk_drewN ?_ _ | refine blk_drew ?_ | refine blk_alloc ?_ _)); exact BK222.out) hb); have n1_ := Aside0.mk (blk_below (g := gb226) (o := .cells #[.int .u8 ((rd_T39 l0_3 x4_3).f0), .int .u8 ((rd_T39 l0_3 x4_3).f1), .int .u8 ((rd_T39 l0_3 x4_3).f2), .int .u8 ((rd_T39 l0_3 x4_3).f3), .int .i64 ((rd_T39 l0_3 x4_3).f4)] 39 (0, 0)) (by (with_reducible repeat (first | refine blk_drewN ?_ _ | refine blk_drew ?_ | refine blk_alloc ?_ _)); exact BK226.out) hb); have n2_ := Aside0.mk (below_step (by repeat (first | (with_reducible first | exact HB.out | apply below_alloc | apply pw_below_drewN | apply below_drew1 | refine below_set ?_ GE222.out | refine below_set ?_ GE226.out) | exact HB.out)) hb); clear BK222; clear BK226; clear HB; have BK222 := n0_; have BK226 := n1_; have HB := n2_; clear n0_ n1_ n2_; (try clear hb); (try clear hb2); (try clear hk); (try clear hi)))
                   go_roundg kj32
                   case measure => have := HJ1.out; have := HJ13.out; have := HK3.out; have := HJ20.out; have := HJ32.out; omega
                   case rel => exact ⟨(wrap64 (x4_3 + 1)), (by first | rfl | (simp; done) | (simp [*]; done)), H', ⟨by have := HJ1.out; have := HJ13.out; have := HK3.out; have := HJ20.out; have := HJ32.out; omega⟩, ⟨by (with_reducible repeat (first | refine blk_drewN ?_ _ | refine blk_drew ?_ | refine blk_alloc ?_ _)); exact BK222.out⟩, ⟨by repeat (first | (with_reducible first | exact HB.out | apply below_alloc | apply pw_below_drewN | apply below_drew1 | refine below_set ?_ GE222.out | refine below_set ?_ GE226.out) | exact HB.out)⟩⟩
                  ·
                   replace c48 := Bool.eq_false_iff.mpr c48
                   subst c48
                   have H1 : (some (x4_3, 5)) = some (r1, r2) := by rw [if_neg (show ¬ (false = true) by decide)] at H; exact H
                   clear H
                   have H := H1
                   clear H1
                   simp only [Option.some.injEq, Prod.mk.injEq] at H
                   obtain ⟨rfl, rfl⟩ := H
                   have hnb55 := NB226_222.out
                   have hnc55 := NB222_226.out
                   have hcz56_0 : wc.cell? ⟨gb226, 0, none⟩ = some (.int .u8 ((rd_T39 l0_3 x4_3).f0)) := (blk_cell BK226.out 0).trans rfl
                   have hcz56_1 : wc.cell? ⟨gb226, 1, none⟩ = some (.int .u8 ((rd_T39 l0_3 x4_3).f1)) := (blk_cell BK226.out 1).trans rfl
                   have hcz56_2 : wc.cell? ⟨gb226, 2, none⟩ = some (.int .u8 ((rd_T39 l0_3 x4_3).f2)) := (blk_cell BK226.out 2).trans rfl
                   have hcz56_3 : wc.cell? ⟨gb226, 3, none⟩ = some (.int .u8 ((rd_T39 l0_3 x4_3).f3)) := (blk_cell BK226.out 3).trans rfl
                   have hcz56_4 : wc.cell? ⟨gb226, 4, none⟩ = some (.int .i64 ((rd_T39 l0_3 x4_3).f4)) := (blk_cell BK226.out 4).trans rfl
                   have hfz56_0 := blk_frozen BK226.out 0
                   have hfz56_1 := blk_frozen BK226.out 1
                   have hfz56_2 := blk_frozen BK226.out 2
                   have hfz56_3 := blk_frozen BK226.out 3
                   have hfz56_4 := blk_frozen BK226.out 4
                   go_wp2_with (first | ((with_reducible refine gate_callee (f := 29) rfl ?_); refine goesL_ (some 86) rfl rfl Tryd.func29 (by kernel_rfl) rfl #[.agg #[.int .u8 ((rd_T39 l0_3 x4_3).f0), .int .u8 ((rd_T39 l0_3 x4_3).f1), .int .u8 ((rd_T39 l0_3 x4_3).f2), .int .u8 ((rd_T39 l0_3 x4_3).f3), .int .i64 ((rd_T39 l0_3 x4_3).f4)]] rfl (by (try simp only [List.map_toArray, List.map_cons, List.map_nil]); first | done | rfl | (simp only [List.length_drop, List.length_take]; rfl)) ?_; (with_reducible refine (lockstitchref05_ints.calls kj32 ((rd_T39 l0_3 x4_3).f0) ((rd_T39 l0_3 x4_3).f1) ((rd_T39 l0_3 x4_3).f2) ((rd_T39 l0_3 x4_3).f3) ((rd_T39 l0_3 x4_3).f4) true _ A45.out).mono ?_); rintro e w57 ⟨rfl, hb⟩; refine ⟨_, rfl, ?_⟩; have n0_ := Aside0.mk (blk_below (g := gb222) (o := .cells #[.slice A0_0 l0_0.length c0_0, .string a0_1, .string a0_2, .slice (some ad225) l0_3.length c0_3] 25 (0, 0)) (by (with_reducible repeat (first | refine blk_drewN ?_ _ | refine blk_drew ?_ | refine blk_alloc ?_ _)); exact BK222.out) hb); have n1_ := Aside0.mk (blk_below (g := gb226) (o := .cells #[.int .u8 ((rd_T39 l0_3 x4_3).f0), .int .u8 ((rd_T39 l0_3 x4_3).f1), .int .u8 ((rd_T39 l0_3 x4_3).f2), .int .u8 ((rd_T39 l0_3 x4_3).f3), .int .i64 ((rd_T39 l0_3 x4_3).f4)] 39 (0, 0)) (by (with_reducible repeat (first | refine blk_drewN ?_ _ | refine blk_drew ?_ | refine blk_alloc ?_ _)); exact BK226.out) hb); have n2_ := Aside0.mk (below_step (by repeat (first | (with_reducible first | exact HB.out | apply below_alloc | apply pw_below_drewN | apply below_drew1 | refine below_set ?_ GE222.out | refine below_set ?_ GE226.out) | exact HB.out)) hb); clear BK222; clear BK226; clear HB; have BK222 := n0_; have BK226 := n1_; have HB := n2_; clear n0_ n1_ n2_; (try clear hb); (try clear hb2); (try clear hk); (try clear hi); have hcz58_0 : w57.cell? ⟨gb222, 0, none⟩ = some (.slice A0_0 l0_0.length c0_0) := (blk_cell BK222.out 0).trans rfl; have hcz58_1 : w57.cell? ⟨gb222, 1, none⟩ = some (.string a0_1) := (blk_cell BK222.out 1).trans rfl; have hcz58_2 : w57.cell? ⟨gb222, 2, none⟩ = some (.string a0_2) := (blk_cell BK222.out 2).trans rfl; have hcz58_3 : w57.cell? ⟨gb222, 3, none⟩ = some (.slice (some ad225) l0_3.length c0_3) := (blk_cell BK222.out 3).trans rfl; have hfz58_0 := blk_frozen BK222.out 0; have hfz58_1 := blk_frozen BK222.out 1; have hfz58_2 := blk_frozen BK222.out 2; have hfz58_3 := blk_frozen BK222.out 3; have hcz59_0 : w57.cell? ⟨gb226, 0, none⟩ = some (.int .u8 ((rd_T39 l0_3 x4_3).f0)) := (blk_cell BK226.out 0).trans rfl; have hcz59_1 : w57.cell? ⟨gb226, 1, none⟩ = some (.int .u8 ((rd_T39 l0_3 x4_3).f1)) := (blk_cell BK226.out 1).trans rfl; have hcz59_2 : w57.cell? ⟨gb226, 2, none⟩ = some (.int .u8 ((rd_T39 l0_3 x4_3).f2)) := (blk_cell BK226.out 2).trans rfl; have hcz59_3 : w57.cell? ⟨gb226, 3, none⟩ = some (.int .u8 ((rd_T39 l0_3 x4_3).f3)) := (blk_cell BK226.out 3).trans rfl; have hcz59_4 : w57.cell? ⟨gb226, 4, none⟩ = some (.int .i64 ((rd_T39 l0_3 x4_3).f4)) := (blk_cell BK226.out 4).trans rfl; have hfz59_0 := blk_frozen BK226.out 0; have hfz59_1 := blk_frozen BK226.out 1; have hfz59_2 := blk_frozen BK226.out 2; have hfz59_3 := blk_frozen BK226.out 3; have hfz59_4 := blk_frozen BK226.out 4) | (go_at_call 30; (with_reducible refine (lockstitchref05_kinds.calls kj32 _ _ l0_0 a0_1 a0_2 _ _ l0_3 ((rd_T39 l0_3 x4_3).f0) ((rd_T39 l0_3 x4_3).f1) ((rd_T39 l0_3 x4_3).f2) ((rd_T39 l0_3 x4_3).f3) ((rd_T39 l0_3 x4_3).f4) false _ ?side1 ?side2 ?side3 ?side4 A47.out).mono ?_); (case side1 => repeat (first | exact (Kd.C_below HR0_0.out HB.out) | (with_reducible refine Kd.C_alloc ?_ _) | (with_reducible refine Kd.C_drewN ?_ _) | (with_reducible refine Kd.C_drew ?_))); (case side2 => exact HC0_0.out); (case side3 => repeat (first | exact (Kd.C_below HR0_3.out HB.out) | (with_reducible refine Kd.C_alloc ?_ _) | (with_reducible refine Kd.C_drewN ?_ _) | (with_reducible refine Kd.C_drew ?_))); (case side4 => exact HC0_3.out); rintro e w60 ⟨rfl, hb⟩; have n0_ := Aside0.mk (blk_below (g := gb222) (o := .cells #[.slice A0_0 l0_0.length c0_0, .string a0_1, .string a0_2, .slice (some ad225) l0_3.length c0_3] 25 (0, 0)) (by (with_reducible repeat (first | refine blk_drewN ?_ _ | refine blk_drew ?_ | refine blk_alloc ?_ _)); exact BK222.out) hb); have n1_ := Aside0.mk (blk_below (g := gb226) (o := .cells #[.int .u8 ((rd_T39 l0_3 x4_3).f0), .int .u8 ((rd_T39 l0_3 x4_3).f1), .int .u8 ((rd_T39 l0_3 x4_3).f2), .int .u8 ((rd_T39 l0_3 x4_3).f3), .int .i64 ((rd_T39 l0_3 x4_3).f4)] 39 (0, 0)) (by (with_reducible repeat (first | refine blk_drewN ?_ _ | refine blk_drew ?_ | refine blk_alloc ?_ _)); exact BK226.out) hb); have n2_ := Aside0.mk (below_step (by repeat (first | (with_reducible first | exact HB.out | apply below_alloc | apply pw_below_drewN | apply below_drew1 | refine below_set ?_ GE222.out | refine below_set ?_ GE226.out) | exact HB.out)) hb); clear BK222; clear BK226; clear HB; have BK222 := n0_; have BK226 := n1_; have HB := n2_; clear n0_ n1_ n2_; (try clear hb); (try clear hb2); (try clear hk); (try clear hi)))
                   go_ret2
                   exact ⟨by first | rfl | (simp [errW_none, errW_some] <;> rfl) | (simp [*, errW_none, errW_some] <;> rfl), by repeat (first | (with_reducible first | exact HB.out | apply below_alloc | apply pw_below_drewN | apply below_drew1 | refine below_set ?_ GE222.out | refine below_set ?_ GE226.out) | exact HB.out)⟩
                 ·
                  replace c46 := Bool.eq_false_iff.mpr c46
                  subst c46
                  have H1 : (some (x4_3, 5)) = some (r1, r2) := by rw [if_neg (show ¬ (false = true) by decide)] at H; exact H
                  clear H
                  have H := H1
                  clear H1
                  simp only [Option.some.injEq, Prod.mk.injEq] at H
                  obtain ⟨rfl, rfl⟩ := H
                  have hnb61 := NB226_222.out
                  have hnc61 := NB222_226.out
                  have hcz62_0 : wc.cell? ⟨gb226, 0, none⟩ = some (.int .u8 ((rd_T39 l0_3 x4_3).f0)) := (blk_cell BK226.out 0).trans rfl
                  have hcz62_1 : wc.cell? ⟨gb226, 1, none⟩ = some (.int .u8 ((rd_T39 l0_3 x4_3).f1)) := (blk_cell BK226.out 1).trans rfl
                  have hcz62_2 : wc.cell? ⟨gb226, 2, none⟩ = some (.int .u8 ((rd_T39 l0_3 x4_3).f2)) := (blk_cell BK226.out 2).trans rfl
                  have hcz62_3 : wc.cell? ⟨gb226, 3, none⟩ = some (.int .u8 ((rd_T39 l0_3 x4_3).f3)) := (blk_cell BK226.out 3).trans rfl
                  have hcz62_4 : wc.cell? ⟨gb226, 4, none⟩ = some (.int .i64 ((rd_T39 l0_3 x4_3).f4)) := (blk_cell BK226.out 4).trans rfl
                  have hfz62_0 := blk_frozen BK226.out 0
                  have hfz62_1 := blk_frozen BK226.out 1
                  have hfz62_2 := blk_frozen BK226.out 2
                  have hfz62_3 := blk_frozen BK226.out 3
                  have hfz62_4 := blk_frozen BK226.out 4
                  go_wp2_with (first | ((with_reducible refine gate_callee (f := 29) rfl ?_); refine goesL_ (some 86) rfl rfl Tryd.func29 (by kernel_rfl) rfl #[.agg #[.int .u8 ((rd_T39 l0_3 x4_3).f0), .int .u8 ((rd_T39 l0_3 x4_3).f1), .int .u8 ((rd_T39 l0_3 x4_3).f2), .int .u8 ((rd_T39 l0_3 x4_3).f3), .int .i64 ((rd_T39 l0_3 x4_3).f4)]] rfl (by (try simp only [List.map_toArray, List.map_cons, List.map_nil]); first | done | rfl | (simp only [List.length_drop, List.length_take]; rfl)) ?_; (with_reducible refine (lockstitchref05_ints.calls kj32 ((rd_T39 l0_3 x4_3).f0) ((rd_T39 l0_3 x4_3).f1) ((rd_T39 l0_3 x4_3).f2) ((rd_T39 l0_3 x4_3).f3) ((rd_T39 l0_3 x4_3).f4) false _ A45.out).mono ?_); rintro e w63 ⟨rfl, hb⟩; refine ⟨_, rfl, ?_⟩; have n0_ := Aside0.mk (blk_below (g := gb222) (o := .cells #[.slice A0_0 l0_0.length c0_0, .string a0_1, .string a0_2, .slice (some ad225) l0_3.length c0_3] 25 (0, 0)) (by (with_reducible repeat (first | refine blk_drewN ?_ _ | refine blk_drew ?_ | refine blk_alloc ?_ _)); exact BK222.out) hb); have n1_ := Aside0.mk (blk_below (g := gb226) (o := .cells #[.int .u8 ((rd_T39 l0_3 x4_3).f0), .int .u8 ((rd_T39 l0_3 x4_3).f1), .int .u8 ((rd_T39 l0_3 x4_3).f2), .int .u8 ((rd_T39 l0_3 x4_3).f3), .int .i64 ((rd_T39 l0_3 x4_3).f4)] 39 (0, 0)) (by (with_reducible repeat (first | refine blk_drewN ?_ _ | refine blk_drew ?_ | refine blk_alloc ?_ _)); exact BK226.out) hb); have n2_ := Aside0.mk (below_step (by repeat (first | (with_reducible first | exact HB.out | apply below_alloc | apply pw_below_drewN | apply below_drew1 | refine below_set ?_ GE222.out | refine below_set ?_ GE226.out) | exact HB.out)) hb); clear BK222; clear BK226; clear HB; have BK222 := n0_; have BK226 := n1_; have HB := n2_; clear n0_ n1_ n2_; (try clear hb); (try clear hb2); (try clear hk); (try clear hi)))
                  go_ret2
                  exact ⟨by first | rfl | (simp [errW_none, errW_some] <;> rfl) | (simp [*, errW_none, errW_some] <;> rfl), by repeat (first | (with_reducible first | exact HB.out | apply below_alloc | apply pw_below_drewN | apply below_drew1 | refine below_set ?_ GE222.out | refine below_set ?_ GE226.out) | exact HB.out)⟩
             ·
              replace c32 := Bool.eq_false_iff.mpr c32
              subst c32
              have H1 : (some (x4_3, 4)) = some (r1, r2) := by rw [if_neg (show ¬ (false = true) by decide)] at H; exact H
              clear H
              have H := H1
              clear H1
              simp only [Option.some.injEq, Prod.mk.injEq] at H
              obtain ⟨rfl, rfl⟩ := H
              have hnb64 := NB226_222.out
              have hnc64 := NB222_226.out
              have hcz65_0 : wc.cell? ⟨gb226, 0, none⟩ = some (.int .u8 ((rd_T39 l0_3 x4_3).f0)) := (blk_cell BK226.out 0).trans rfl
              have hcz65_1 : wc.cell? ⟨gb226, 1, none⟩ = some (.int .u8 ((rd_T39 l0_3 x4_3).f1)) := (blk_cell BK226.out 1).trans rfl
              have hcz65_2 : wc.cell? ⟨gb226, 2, none⟩ = some (.int .u8 ((rd_T39 l0_3 x4_3).f2)) := (blk_cell BK226.out 2).trans rfl
              have hcz65_3 : wc.cell? ⟨gb226, 3, none⟩ = some (.int .u8 ((rd_T39 l0_3 x4_3).f3)) := (blk_cell BK226.out 3).trans rfl
              have hcz65_4 : wc.cell? ⟨gb226, 4, none⟩ = some (.int .i64 ((rd_T39 l0_3 x4_3).f4)) := (blk_cell BK226.out 4).trans rfl
              have hfz65_0 := blk_frozen BK226.out 0
              have hfz65_1 := blk_frozen BK226.out 1
              have hfz65_2 := blk_frozen BK226.out 2
              have hfz65_3 := blk_frozen BK226.out 3
              have hfz65_4 := blk_frozen BK226.out 4
              go_wp2_with (first | ((with_reducible refine gate_callee (f := 28) rfl ?_); refine goesL_ (some 65) rfl rfl Tryd.func28 (by kernel_rfl) rfl #[.agg #[.int .u8 ((rd_T39 l0_3 x4_3).f0), .int .u8 ((rd_T39 l0_3 x4_3).f1), .int .u8 ((rd_T39 l0_3 x4_3).f2), .int .u8 ((rd_T39 l0_3 x4_3).f3), .int .i64 ((rd_T39 l0_3 x4_3).f4)]] rfl (by (try simp only [List.map_toArray, List.map_cons, List.map_nil]); first | done | rfl | (simp only [List.length_drop, List.length_take]; rfl)) ?_; (with_reducible refine (lockstitchref04_Right.calls kj20 ((rd_T39 l0_3 x4_3).f0) ((rd_T39 l0_3 x4_3).f1) ((rd_T39 l0_3 x4_3).f2) ((rd_T39 l0_3 x4_3).f3) ((rd_T39 l0_3 x4_3).f4) false _ ?side1 A31.out).mono ?_); (case side1 => repeat (first | exact (Kd.C_below HRT.out HB.out) | (with_reducible refine Kd.C_alloc ?_ _) | (with_reducible refine Kd.C_drewN ?_ _) | (with_reducible refine Kd.C_drew ?_))); rintro e w66 ⟨rfl, hb⟩; refine ⟨_, rfl, ?_⟩; have n0_ := Aside0.mk (blk_below (g := gb222) (o := .cells #[.slice A0_0 l0_0.length c0_0, .string a0_1, .string a0_2, .slice (some ad225) l0_3.length c0_3] 25 (0, 0)) (by (with_reducible repeat (first | refine blk_drewN ?_ _ | refine blk_drew ?_ | refine blk_alloc ?_ _)); exact BK222.out) hb); have n1_ := Aside0.mk (blk_below (g := gb226) (o := .cells #[.int .u8 ((rd_T39 l0_3 x4_3).f0), .int .u8 ((rd_T39 l0_3 x4_3).f1), .int .u8 ((rd_T39 l0_3 x4_3).f2), .int .u8 ((rd_T39 l0_3 x4_3).f3), .int .i64 ((rd_T39 l0_3 x4_3).f4)] 39 (0, 0)) (by (with_reducible repeat (first | refine blk_drewN ?_ _ | refine blk_drew ?_ | refine blk_alloc ?_ _)); exact BK226.out) hb); have n2_ := Aside0.mk (below_step (by repeat (first | (with_reducible first | exact HB.out | apply below_alloc | apply pw_below_drewN | apply below_drew1 | refine below_set ?_ GE222.out | refine below_set ?_ GE226.out) | exact HB.out)) hb); clear BK222; clear BK226; clear HB; have BK222 := n0_; have BK226 := n1_; have HB := n2_; clear n0_ n1_ n2_; (try clear hb); (try clear hb2); (try clear hk); (try clear hi)))
              go_ret2
              exact ⟨by first | rfl | (simp [errW_none, errW_some] <;> rfl) | (simp [*, errW_none, errW_some] <;> rfl), by repeat (first | (with_reducible first | exact HB.out | apply below_alloc | apply pw_below_drewN | apply below_drew1 | refine below_set ?_ GE222.out | refine below_set ?_ GE226.out) | exact HB.out)⟩
          ·
           rw [if_neg c20] at H
           exact absurd H (by simp)
         ·
          rw [if_neg c19] at H
          have c19b0 : decide (x4_3 < (l0_3.length : Int)) = false := decide_eq_false c19
          clear c19
          simp only [Option.some.injEq, Prod.mk.injEq] at H
          obtain ⟨rfl, rfl⟩ := H
          have hcz67_0 : wr.cell? ⟨gb222, 0, none⟩ = some (.slice A0_0 l0_0.length c0_0) := (blk_cell BK222.out 0).trans rfl
          have hcz67_1 : wr.cell? ⟨gb222, 1, none⟩ = some (.string a0_1) := (blk_cell BK222.out 1).trans rfl
          have hcz67_2 : wr.cell? ⟨gb222, 2, none⟩ = some (.string a0_2) := (blk_cell BK222.out 2).trans rfl
          have hcz67_3 : wr.cell? ⟨gb222, 3, none⟩ = some (.slice A0_3 l0_3.length c0_3) := (blk_cell BK222.out 3).trans rfl
          have hfz67_0 := blk_frozen BK222.out 0
          have hfz67_1 := blk_frozen BK222.out 1
          have hfz67_2 := blk_frozen BK222.out 2
          have hfz67_3 := blk_frozen BK222.out 3
          go_wp2
          go_ret2
          exact ⟨by first | rfl | (simp [errW_none, errW_some] <;> rfl) | (simp [*, errW_none, errW_some] <;> rfl), by repeat (first | (with_reducible first | exact HB.out | apply below_alloc | apply pw_below_drewN | apply below_drew1 | refine below_set ?_ GE222.out) | exact HB.out)⟩

end Go.Proofs.YtbmhmlgfpijmhaaDoor.P
