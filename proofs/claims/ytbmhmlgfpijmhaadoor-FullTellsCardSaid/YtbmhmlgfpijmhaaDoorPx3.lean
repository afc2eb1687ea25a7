/- FUNCTIONS OF THE PROGRAM AS LEAN FUNCTIONS, AND THAT THE PROGRAM's CALLS ANSWER AS THEY DO: written by a program of this session. -/
import Derived.Test.YtbmhmlgfpijmhaaDoorPx0
import Derived.Test.YtbmhmlgfpijmhaaDoorPx2
namespace Go.Proofs.YtbmhmlgfpijmhaaDoor.P
open Go.RowKit Go.Proofs.YtbmhmlgfpijmhaaDoorW.PrintWords Go.Proofs.YtbmhmlgfpijmhaaDoorW.PrintLast Go.Proofs.YtbmhmlgfpijmhaaDoorW.PrintMore
attribute [local go_sem] max2_int min2_int max_two min_two max_three min_three max_four min_four   -- for this text's walks alone
set_option linter.unusedVariables false
set_option linter.unusedSimpArgs false

/-! ### full_Last: function 11 -/
mutual
def full_Last.j0 : Nat → Int → Bool → List ByteArray → ByteArray → ByteArray → List (S39) → Option (Int)
 | 0, _, _, _, _, _, _ => none
 | k + 1, x1, x27, x112000, x112001, x112002, x112003 => if x27 = true then (some (-1)) else (if 0 ≤ x1 then (if x1 < (x112003.length : Int) then ((check_Local.f k x112000 x112001 x112002 x112003 ((rd_T39 x112003 x1).f1)).bind fun t114 => ((kind_Size.f k x112000 t114).bind fun t115 => (if 0 ≤ t115 then (if 0 ≤ (wrap64 (x1 + 1)) then (if (wrap64 (x1 + 1)) ≤ (x112003.length : Int) then ((some (x112003.drop ((wrap64 (x1 + 1)) : Int).toNat : List (S39))).bind fun y116 => (full_Last.l0 k x1 ((rd_T39 x112003 x1).f1) (wrap64 ((shl .i64 1 t115) - 1)) 0 y116 (y116.length : Int) 0)) else (none)) else (none)) else (none)))) else (none)) else (none))
def full_Last.l0 : Nat → Int → Int → Int → Int → List (S39) → Int → Int → Option (Int)
 | 0, _, _, _, _, _, _, _ => none
 | k + 1, x1, x5, x6, x7, x46, x47, x48 => if x48 < x47 then (if 0 ≤ x48 then (if x48 < (x46.length : Int) then (if ((rd_T39 x46 x48).f0) = 1 then (full_Last.j2 k x1 x5 x6 x7 x48 x46 x47 x48 ((rd_T39 x46 x48).f0) (((rd_T39 x46 x48).f0) == 1) ((rd_T39 x46 x48).f0) ((rd_T39 x46 x48).f1) ((rd_T39 x46 x48).f2) ((rd_T39 x46 x48).f3) ((rd_T39 x46 x48).f4)) else (if ((rd_T39 x46 x48).f0) = 2 then (full_Last.j2 k x1 x5 x6 x7 x48 x46 x47 x48 ((rd_T39 x46 x48).f0) (((rd_T39 x46 x48).f0) == 2) ((rd_T39 x46 x48).f0) ((rd_T39 x46 x48).f1) ((rd_T39 x46 x48).f2) ((rd_T39 x46 x48).f3) ((rd_T39 x46 x48).f4)) else (if ((rd_T39 x46 x48).f0) = 14 then (full_Last.j2 k x1 x5 x6 x7 x48 x46 x47 x48 ((rd_T39 x46 x48).f0) (((rd_T39 x46 x48).f0) == 14) ((rd_T39 x46 x48).f0) ((rd_T39 x46 x48).f1) ((rd_T39 x46 x48).f2) ((rd_T39 x46 x48).f3) ((rd_T39 x46 x48).f4)) else (full_Last.j2 k x1 x5 x6 x7 x48 x46 x47 x48 ((rd_T39 x46 x48).f0) (((rd_T39 x46 x48).f0) == 15) ((rd_T39 x46 x48).f0) ((rd_T39 x46 x48).f1) ((rd_T39 x46 x48).f2) ((rd_T39 x46 x48).f3) ((rd_T39 x46 x48).f4))))) else (none)) else (none)) else (some (-1))
def full_Last.j2 : Nat → Int → Int → Int → Int → Int → List (S39) → Int → Int → Int → Bool → Int → Int → Int → Int → Int → Option (Int)
 | 0, _, _, _, _, _, _, _, _, _, _, _, _, _, _, _ => none
 | k + 1, x1, x5, x6, x7, x8, x46, x47, x48, x54, x55, x122000, x122001, x122002, x122003, x122004 => if x55 = true then (full_Last.l0 k x1 x5 x6 x7 x46 x47 (wrap64 (x48 + 1))) else (if x54 = 6 then (full_Last.j3 k x1 x5 x6 x7 x8 x46 x47 x48 x54 (x54 == 6) x122000 x122001 x122002 x122003 x122004) else (full_Last.j3 k x1 x5 x6 x7 x8 x46 x47 x48 x54 (x54 == 7) x122000 x122001 x122002 x122003 x122004))
def full_Last.j3 : Nat → Int → Int → Int → Int → Int → List (S39) → Int → Int → Int → Bool → Int → Int → Int → Int → Int → Option (Int)
 | 0, _, _, _, _, _, _, _, _, _, _, _, _, _, _, _ => none
 | k + 1, x1, x5, x6, x7, x8, x46, x47, x48, x54, x60, x122000, x122001, x122002, x122003, x122004 => if x60 = true then (if x122001 = x5 then (some (-1)) else (full_Last.l0 k x1 x5 x6 x7 x46 x47 (wrap64 (x48 + 1)))) else (if x54 = 9 then (full_Last.j4 k x1 x5 x6 x7 x8 x46 x47 x48 (x54 == 9) x122000 x122001 x122002 x122003 x122004) else (full_Last.j4 k x1 x5 x6 x7 x8 x46 x47 x48 (x54 == 11) x122000 x122001 x122002 x122003 x122004))
def full_Last.j4 : Nat → Int → Int → Int → Int → Int → List (S39) → Int → Int → Bool → Int → Int → Int → Int → Int → Option (Int)
 | 0, _, _, _, _, _, _, _, _, _, _, _, _, _, _ => none
 | k + 1, x1, x5, x6, x7, x8, x46, x47, x48, x67, x122000, x122001, x122002, x122003, x122004 => if x67 = true then (if x122001 = x5 then (if x122004 < 0 then (full_Last.j5 k x1 x5 x6 x7 x8 x46 x47 x48 true x122000 x122001 x122002 x122003 x122004) else (full_Last.j5 k x1 x5 x6 x7 x8 x46 x47 x48 (decide (x122004 ≥ 6)) x122000 x122001 x122002 x122003 x122004)) else (full_Last.j5 k x1 x5 x6 x7 x8 x46 x47 x48 true x122000 x122001 x122002 x122003 x122004)) else (some (-1))
def full_Last.j5 : Nat → Int → Int → Int → Int → Int → List (S39) → Int → Int → Bool → Int → Int → Int → Int → Int → Option (Int)
 | 0, _, _, _, _, _, _, _, _, _, _, _, _, _, _ => none
 | k + 1, x1, x5, x6, x7, x8, x46, x47, x48, x83, x122000, x122001, x122002, x122003, x122004 => if x83 = true then (some (-1)) else (if 0 ≤ x122004 then (if (Go.bits .or .i64 x7 (shl .i64 1 x122004)) = x6 then (some (wrap64 ((wrap64 (x1 + 1)) + x8))) else (full_Last.l0 k x1 x5 x6 (Go.bits .or .i64 x7 (shl .i64 1 x122004)) x46 x47 (wrap64 (x48 + 1)))) else (none))
end
def full_Last.f (k : Nat) (l0_0 : List ByteArray) (a0_1 : ByteArray) (a0_2 : ByteArray) (l0_3 : List (S39)) (a1 : Int) : Option (Int) := if a1 < 0 then (full_Last.j0 k a1 true l0_0 a0_1 a0_2 l0_3) else (if a1 ≥ (l0_3.length : Int) then (full_Last.j0 k a1 true l0_0 a0_1 a0_2 l0_3) else (if 0 ≤ a1 then (if a1 < (l0_3.length : Int) then (full_Last.j0 k a1 (((rd_T39 l0_3 a1).f0) != 5) l0_0 a0_1 a0_2 l0_3) else (none)) else (none)))
theorem full_Last.mono_l : ∀ k, (∀ y0 y1 y2 y3 y4 y5, LeO (full_Last.j0 k y0 y1 y2 y3 y4 y5) (full_Last.j0 (k + 1) y0 y1 y2 y3 y4 y5)) ∧ (∀ y0 y1 y2 y3 y4 y5 y6, LeO (full_Last.l0 k y0 y1 y2 y3 y4 y5 y6) (full_Last.l0 (k + 1) y0 y1 y2 y3 y4 y5 y6)) ∧ (∀ y0 y1 y2 y3 y4 y5 y6 y7 y8 y9 y10 y11 y12 y13 y14, LeO (full_Last.j2 k y0 y1 y2 y3 y4 y5 y6 y7 y8 y9 y10 y11 y12 y13 y14) (full_Last.j2 (k + 1) y0 y1 y2 y3 y4 y5 y6 y7 y8 y9 y10 y11 y12 y13 y14)) ∧ (∀ y0 y1 y2 y3 y4 y5 y6 y7 y8 y9 y10 y11 y12 y13 y14, LeO (full_Last.j3 k y0 y1 y2 y3 y4 y5 y6 y7 y8 y9 y10 y11 y12 y13 y14) (full_Last.j3 (k + 1) y0 y1 y2 y3 y4 y5 y6 y7 y8 y9 y10 y11 y12 y13 y14)) ∧ (∀ y0 y1 y2 y3 y4 y5 y6 y7 y8 y9 y10 y11 y12 y13, LeO (full_Last.j4 k y0 y1 y2 y3 y4 y5 y6 y7 y8 y9 y10 y11 y12 y13) (full_Last.j4 (k + 1) y0 y1 y2 y3 y4 y5 y6 y7 y8 y9 y10 y11 y12 y13)) ∧ (∀ y0 y1 y2 y3 y4 y5 y6 y7 y8 y9 y10 y11 y12 y13, LeO (full_Last.j5 k y0 y1 y2 y3 y4 y5 y6 y7 y8 y9 y10 y11 y12 y13) (full_Last.j5 (k + 1) y0 y1 y2 y3 y4 y5 y6 y7 y8 y9 y10 y11 y12 y13))
 | 0 => ⟨fun _ _ _ _ _ _ r h => by simp [full_Last.j0] at h, fun _ _ _ _ _ _ _ r h => by simp [full_Last.l0] at h, fun _ _ _ _ _ _ _ _ _ _ _ _ _ _ _ r h => by simp [full_Last.j2] at h, fun _ _ _ _ _ _ _ _ _ _ _ _ _ _ _ r h => by simp [full_Last.j3] at h, fun _ _ _ _ _ _ _ _ _ _ _ _ _ _ r h => by simp [full_Last.j4] at h, fun _ _ _ _ _ _ _ _ _ _ _ _ _ _ r h => by simp [full_Last.j5] at h⟩
 | k + 1 => by
  obtain ⟨ih0, ih1, ih2, ih3, ih4, ih5⟩ := full_Last.mono_l k
  refine ⟨?_, ?_, ?_, ?_, ?_, ?_⟩
  ·
   intro y0 y1 y2 y3 y4 y5
   unfold full_Last.j0
   repeat' with_reducible first | apply ih0 | apply ih1 | apply ih2 | apply ih3 | apply ih4 | apply ih5 | apply check_Local.mono | apply kind_Size.mono | exact LeO.refl _ | exact LeO.none _ | refine LeO.ite ?_ ?_ | refine LeO.bind ?_ (fun _ => ?_)
  ·
   intro y0 y1 y2 y3 y4 y5 y6
   unfold full_Last.l0
   repeat' with_reducible first | apply ih0 | apply ih1 | apply ih2 | apply ih3 | apply ih4 | apply ih5 | apply check_Local.mono | apply kind_Size.mono | exact LeO.refl _ | exact LeO.none _ | refine LeO.ite ?_ ?_ | refine LeO.bind ?_ (fun _ => ?_)
  ·
   intro y0 y1 y2 y3 y4 y5 y6 y7 y8 y9 y10 y11 y12 y13 y14
   unfold full_Last.j2
   repeat' with_reducible first | apply ih0 | apply ih1 | apply ih2 | apply ih3 | apply ih4 | apply ih5 | apply check_Local.mono | apply kind_Size.mono | exact LeO.refl _ | exact LeO.none _ | refine LeO.ite ?_ ?_ | refine LeO.bind ?_ (fun _ => ?_)
  ·
   intro y0 y1 y2 y3 y4 y5 y6 y7 y8 y9 y10 y11 y12 y13 y14
   unfold full_Last.j3
   repeat' with_reducible first | apply ih0 | apply ih1 | apply ih2 | apply ih3 | apply ih4 | apply ih5 | apply check_Local.mono | apply kind_Size.mono | exact LeO.refl _ | exact LeO.none _ | refine LeO.ite ?_ ?_ | refine LeO.bind ?_ (fun _ => ?_)
  ·
   intro y0 y1 y2 y3 y4 y5 y6 y7 y8 y9 y10 y11 y12 y13
   unfold full_Last.j4
   repeat' with_reducible first | apply ih0 | apply ih1 | apply ih2 | apply ih3 | apply ih4 | apply ih5 | apply check_Local.mono | apply kind_Size.mono | exact LeO.refl _ | exact LeO.none _ | refine LeO.ite ?_ ?_ | refine LeO.bind ?_ (fun _ => ?_)
  ·
   intro y0 y1 y2 y3 y4 y5 y6 y7 y8 y9 y10 y11 y12 y13
   unfold full_Last.j5
   repeat' with_reducible first | apply ih0 | apply ih1 | apply ih2 | apply ih3 | apply ih4 | apply ih5 | apply check_Local.mono | apply kind_Size.mono | exact LeO.refl _ | exact LeO.none _ | refine LeO.ite ?_ ?_ | refine LeO.bind ?_ (fun _ => ?_)
theorem full_Last.mono : ∀ a0 a1 a2 a3 a4 k, LeO (full_Last.f k a0 a1 a2 a3 a4) (full_Last.f (k + 1) a0 a1 a2 a3 a4) := by
 intro a0 a1 a2 a3 a4 k
 obtain ⟨ih0, ih1, ih2, ih3, ih4, ih5⟩ := full_Last.mono_l k
 unfold full_Last.f
 repeat' with_reducible first | apply ih0 | apply ih1 | apply ih2 | apply ih3 | apply ih4 | apply ih5 | apply check_Local.mono | apply kind_Size.mono | exact LeO.refl _ | exact LeO.none _ | refine LeO.ite ?_ ?_ | refine LeO.bind ?_ (fun _ => ?_)
def full_Last.T4 : Bool × List (List Nat × List Nat) := (true, [([], []), ([0], [0]), ([], []), ([], []), ([2, 3], [2, 3]), ([1, 4, 4], [1, 4]), ([5], [5]), ([6], [6]), ([7, 5, 0, 1, 2, 3, 4, 5, 6, 7], [7])])
def full_Last.B4 : List Nat := [0, 1, 0, 0, 12, 31, 63, 127, 255]
theorem full_Last.tab4 : rtab .any (opsOf Tryd.f11 4) = full_Last.T4 := by kernel_rfl
theorem full_Last.bits4 : waitsOk full_Last.T4.2 full_Last.B4 = true := by kernel_rfl
set_option maxHeartbeats 8000000 in
set_option maxRecDepth 100000 in
theorem full_Last.calls (k : Nat) (A0_0 : Option Addr) (c0_0 : Nat) (l0_0 : List ByteArray) (a0_1 : ByteArray) (a0_2 : ByteArray) (A0_3 : Option Addr) (c0_3 : Nat) (l0_3 : List (S39)) (a1 : Int) (r : Int) (w : World) (hr0_0 : Kd.C Kd.string w A0_0 l0_0.length l0_0) (hc0_0 : l0_0.length ≤ c0_0) (hr0_3 : Kd.C k39 w A0_3 l0_3.length l0_3) (hc0_3 : l0_3.length ≤ c0_3) (h : full_Last.f k l0_0 a0_1 a0_2 l0_3 a1 = some r) :
  Calls Tryd.prog 11 #[.agg #[.slice A0_0 l0_0.length c0_0, .string a0_1, .string a0_2, .slice A0_3 l0_3.length c0_3], .int .i64 a1] w fun e w' => e = .returned (.int .i64 r) ∧ Below w.heap.size w w' := by
 have hu25 := Tryd.underlying25
 have hu39 := Tryd.underlying39
 have HR0_0 := Aside0.mk hr0_0
 have HC0_0 := Aside0.mk hc0_0
 clear hr0_0 hc0_0
 have HR0_3 := Aside0.mk hr0_3
 have HC0_3 := Aside0.mk hc0_3
 clear hr0_3 hc0_3
 have HB := Aside0.mk (Below.refl w.heap.size w)
 have H : (if a1 < 0 then (full_Last.j0 k a1 true l0_0 a0_1 a0_2 l0_3) else (if a1 ≥ (l0_3.length : Int) then (full_Last.j0 k a1 true l0_0 a0_1 a0_2 l0_3) else (if 0 ≤ a1 then (if a1 < (l0_3.length : Int) then (full_Last.j0 k a1 (((rd_T39 l0_3 a1).f0) != 5) l0_0 a0_1 a0_2 l0_3) else (none)) else (none)))) = some r := h
 clear h
 have HC3 := Aside0.mk H
 clear H
 go_enter Tryd.func11, Tryd.ntmps11
 go_upto_region 1 with (first | ((with_reducible refine gate_dst (N := 2) rfl ?_); (try (refine gate_guard (by rfl) ?_; dsimp only)); refine box_event ?hg (N := 2) ?hd (cs := #[.slice A0_0 l0_0.length c0_0, .string a0_1, .string a0_2, .slice A0_3 l0_3.length c0_3]) (t := 25) ?hr ?_; (case hd => rfl); (case hg => rfl); (case hr => first | (go_simp; done) | (go_simp; rfl)); intro gb111 hg w4 hbox hb; have n0_ := Aside0.mk (below_step (by repeat (first | (with_reducible first | exact HB.out | apply below_alloc | apply pw_below_drewN | apply below_drew1) | exact HB.out)) hb); have n1_ := Aside0.mk (hbox); have n2_ := Aside0.mk ((by rw [hg]; exact (below_size (by repeat (first | (with_reducible first | exact HB.out | apply below_alloc | apply pw_below_drewN | apply below_drew1) | exact HB.out))) : w.heap.size ≤ gb111)); have n3_ := n2_; clear HB; have HB := n0_; have BK111 := n1_; have GW111 := n2_; have GE111 := n3_; clear n0_ n1_ n2_ n3_; clear hb hbox hg))
 (try simp only [Act.put, List.setIfInBounds_toArray, List.set_cons_zero, List.set_cons_succ])
 go_cut [27] (fun v27 wc => ∃ (kq : Nat) (x27_2 : Bool), v27 = .bool x27_2 ∧ Aside0 (full_Last.j0 kq a1 x27_2 l0_0 a0_1 a0_2 l0_3 = some r) ∧ Aside0 (kq ≤ k) ∧ Aside0 (wc.heap[gb111]? = some (.cells #[(.slice A0_0 l0_0.length c0_0), .string a0_1, .string a0_2, (.slice A0_3 l0_3.length c0_3)] 25 (0, 0))) ∧ Aside0 (Below w.heap.size w wc))
 case first =>
  have H := HC3.out
  clear HC3
  by_cases c5 : a1 < 0
  ·
   rw [if_pos c5] at H
   have c5b0 : decide (a1 < 0) = true := decide_eq_true c5
   clear c5
   (first | rw [c5b0] | (simp only [i64_w, i32_w]; rw [c5b0]) | skip)
   have H' := Aside0.mk H
   clear H
   go_wp2
   go_meet
   case rel => exact ⟨_, (true), (by first | rfl | (simp; done) | (simp [*]; done)), H', ⟨by first | omega | exact Nat.le_refl _⟩, ⟨by (with_reducible repeat (first | refine blk_drewN ?_ _ | refine blk_drew ?_ | refine blk_alloc ?_ _)); exact BK111.out⟩, ⟨by repeat (first | (with_reducible first | exact HB.out | apply below_alloc | apply pw_below_drewN | apply below_drew1 | refine below_set ?_ GE111.out) | exact HB.out)⟩⟩
  ·
   rw [if_neg c5] at H
   have c5b0 : decide (a1 < 0) = false := decide_eq_false c5
   clear c5
   (first | rw [c5b0] | (simp only [i64_w, i32_w]; rw [c5b0]) | skip)
   by_cases c6 : a1 ≥ (l0_3.length : Int)
   ·
    rw [if_pos c6] at H
    have c6b0 : decide ((l0_3.length : Int) ≤ a1) = true := decide_eq_true c6
    clear c6
    have H' := Aside0.mk H
    clear H
    have hcz7_0 : w4.cell? ⟨gb111, 0, none⟩ = some (.slice A0_0 l0_0.length c0_0) := (blk_cell BK111.out 0).trans rfl
    have hcz7_1 : w4.cell? ⟨gb111, 1, none⟩ = some (.string a0_1) := (blk_cell BK111.out 1).trans rfl
    have hcz7_2 : w4.cell? ⟨gb111, 2, none⟩ = some (.string a0_2) := (blk_cell BK111.out 2).trans rfl
    have hcz7_3 : w4.cell? ⟨gb111, 3, none⟩ = some (.slice A0_3 l0_3.length c0_3) := (blk_cell BK111.out 3).trans rfl
    have hfz7_0 := blk_frozen BK111.out 0
    have hfz7_1 := blk_frozen BK111.out 1
    have hfz7_2 := blk_frozen BK111.out 2
    have hfz7_3 := blk_frozen BK111.out 3
    go_wp2
    go_meet
    case rel => exact ⟨_, (true), (by first | rfl | (simp; done) | (simp [*]; done)), H', ⟨by first | omega | exact Nat.le_refl _⟩, ⟨by (with_reducible repeat (first | refine blk_drewN ?_ _ | refine blk_drew ?_ | refine blk_alloc ?_ _)); exact BK111.out⟩, ⟨by repeat (first | (with_reducible first | exact HB.out | apply below_alloc | apply pw_below_drewN | apply below_drew1 | refine below_set ?_ GE111.out) | exact HB.out)⟩⟩
   ·
    rw [if_neg c6] at H
    have c6b0 : decide ((l0_3.length : Int) ≤ a1) = false := decide_eq_false c6
    clear c6
    by_cases c8 : 0 ≤ a1
    ·
     rw [if_pos c8] at H
     have c8b0 : decide (0 ≤ a1) = true := decide_eq_true c8
     clear c8
     by_cases c9 : a1 < (l0_3.length : Int)
     ·
      rw [if_pos c9] at H
      have c9b0 : decide (a1 < (l0_3.length : Int)) = true := decide_eq_true c9
      clear c9
      have H' := Aside0.mk H
      clear H
      have hcz10_0 : w4.cell? ⟨gb111, 0, none⟩ = some (.slice A0_0 l0_0.length c0_0) := (blk_cell BK111.out 0).trans rfl
      have hcz10_1 : w4.cell? ⟨gb111, 1, none⟩ = some (.string a0_1) := (blk_cell BK111.out 1).trans rfl
      have hcz10_2 : w4.cell? ⟨gb111, 2, none⟩ = some (.string a0_2) := (blk_cell BK111.out 2).trans rfl
      have hcz10_3 : w4.cell? ⟨gb111, 3, none⟩ = some (.slice A0_3 l0_3.length c0_3) := (blk_cell BK111.out 3).trans rfl
      have hfz10_0 := blk_frozen BK111.out 0
      have hfz10_1 := blk_frozen BK111.out 1
      have hfz10_2 := blk_frozen BK111.out 2
      have hfz10_3 := blk_frozen BK111.out 3
      have p112 : 0 ≤ (a1 : Int) := of_decide_eq_true (by first | (with_reducible assumption) | assumption)
      have q112 : a1 < (l0_3.length : Int) := of_decide_eq_true (by first | (with_reducible assumption) | assumption)
      obtain ⟨ad112, e112, hx112_0, hx112_1, hx112_2, hx112_3, hx112_4⟩ := at_T39 HR0_3.out a1 p112 q112
      cases e112
      replace hx112_0 := (HB.out.cell (World.block_lt_of_cell? w _ hx112_0)).trans hx112_0
      replace hx112_1 := (HB.out.cell (World.block_lt_of_cell? w _ hx112_1)).trans hx112_1
      replace hx112_2 := (HB.out.cell (World.block_lt_of_cell? w _ hx112_2)).trans hx112_2
      replace hx112_3 := (HB.out.cell (World.block_lt_of_cell? w _ hx112_3)).trans hx112_3
      replace hx112_4 := (HB.out.cell (World.block_lt_of_cell? w _ hx112_4)).trans hx112_4
      replace p112 := eq_true p112
      replace q112 := eq_true q112
      go_wp2
      go_meet
      case rel => exact ⟨_, ((((rd_T39 l0_3 a1).f0) != 5)), (by first | rfl | (simp; done) | (simp [*]; done)), H', ⟨by first | omega | exact Nat.le_refl _⟩, ⟨by (with_reducible repeat (first | refine blk_drewN ?_ _ | refine blk_drew ?_ | refine blk_alloc ?_ _)); exact BK111.out⟩, ⟨by repeat (first | (with_reducible first | exact HB.out | apply below_alloc | apply pw_below_drewN | apply below_drew1 | refine below_set ?_ GE111.out) | exact HB.out)⟩⟩
     ·
      rw [if_neg c9] at H
      exact absurd H (by simp)
    ·
     rw [if_neg c8] at H
     exact absurd H (by simp)
 case rest =>
  clear HC3
  obtain ⟨kq, x27_2, rfl, HA, HJ2, BK111, HB⟩ := hcut
  cases kq with
  | zero => exact absurd HA.out (by simp [full_Last.j0])
  | succ kj2 =>
   have H := HA.out
   clear HA
   simp only [full_Last.j0] at H
   by_cases c11 : x27_2 = true
   ·
    subst c11
    have H1 : (some (-1)) = some r := by rw [if_pos rfl] at H; exact H
    clear H
    have H := H1
    clear H1
    obtain rfl := Option.some.inj H
    go_wp2
    go_ret
    exact ⟨by first | rfl | (simp [errW_none, errW_some] <;> rfl) | (simp [*, errW_none, errW_some] <;> rfl), by repeat (first | (with_reducible first | exact HB.out | apply below_alloc | apply pw_below_drewN | apply below_drew1 | refine below_set ?_ GE111.out) | exact HB.out)⟩
   ·
    replace c11 := Bool.eq_false_iff.mpr c11
    subst c11
    have H1 : (if 0 ≤ a1 then (if a1 < (l0_3.length : Int) then ((check_Local.f kj2 l0_0 a0_1 a0_2 l0_3 ((rd_T39 l0_3 a1).f1)).bind fun t114 => ((kind_Size.f kj2 l0_0 t114).bind fun t115 => (if 0 ≤ t115 then (if 0 ≤ (wrap64 (a1 + 1)) then (if (wrap64 (a1 + 1)) ≤ (l0_3.length : Int) then ((some (l0_3.drop ((wrap64 (a1 + 1)) : Int).toNat : List (S39))).bind fun y116 => (full_Last.l0 kj2 a1 ((rd_T39 l0_3 a1).f1) (wrap64 ((shl .i64 1 t115) - 1)) 0 y116 (y116.length : Int) 0)) else (none)) else (none)) else (none)))) else (none)) else (none)) = some r := by rw [if_neg (show ¬ (false = true) by decide)] at H; exact H
    clear H
    have H := H1
    clear H1
    by_cases c12 : 0 ≤ a1
    ·
     rw [if_pos c12] at H
     have c12b0 : decide (0 ≤ a1) = true := decide_eq_true c12
     clear c12
     by_cases c13 : a1 < (l0_3.length : Int)
     ·
      rw [if_pos c13] at H
      have c13b0 : decide (a1 < (l0_3.length : Int)) = true := decide_eq_true c13
      clear c13
      replace H := Option.bind_eq_some_iff.mp H
      obtain ⟨t114, A140, H⟩ := H
      replace H : ((kind_Size.f kj2 l0_0 t114).bind fun t115 => (if 0 ≤ t115 then (if 0 ≤ (wrap64 (a1 + 1)) then (if (wrap64 (a1 + 1)) ≤ (l0_3.length : Int) then ((some (l0_3.drop ((wrap64 (a1 + 1)) : Int).toNat : List (S39))).bind fun y116 => (full_Last.l0 kj2 a1 ((rd_T39 l0_3 a1).f1) (wrap64 ((shl .i64 1 t115) - 1)) 0 y116 (y116.length : Int) 0)) else (none)) else (none)) else (none))) = some r := H
      have A14 := Aside0.mk A140
      clear A140
      replace H := Option.bind_eq_some_iff.mp H
      obtain ⟨t115, A150, H⟩ := H
      replace H : (if 0 ≤ t115 then (if 0 ≤ (wrap64 (a1 + 1)) then (if (wrap64 (a1 + 1)) ≤ (l0_3.length : Int) then ((some (l0_3.drop ((wrap64 (a1 + 1)) : Int).toNat : List (S39))).bind fun y116 => (full_Last.l0 kj2 a1 ((rd_T39 l0_3 a1).f1) (wrap64 ((shl .i64 1 t115) - 1)) 0 y116 (y116.length : Int) 0)) else (none)) else (none)) else (none)) = some r := H
      have A15 := Aside0.mk A150
      clear A150
      by_cases c16 : 0 ≤ t115
      ·
       rw [if_pos c16] at H
       have c16b0 := eq_true c16
       have c16b1 : decide (0 ≤ t115) = true := decide_eq_true c16
       clear c16
       obtain ⟨ji17, hji17⟩ : ∃ j_ : Int, (shl .i64 1 t115) = j_ := ⟨_, rfl⟩
       replace H : (if 0 ≤ (wrap64 (a1 + 1)) then (if (wrap64 (a1 + 1)) ≤ (l0_3.length : Int) then ((some (l0_3.drop ((wrap64 (a1 + 1)) : Int).toNat : List (S39))).bind fun y116 => (full_Last.l0 kj2 a1 ((rd_T39 l0_3 a1).f1) (wrap64 ((ji17) - 1)) 0 y116 (y116.length : Int) 0)) else (none)) else (none)) = some r := by first | (rw [hji17] at H; exact H) | (simp only [hji17] at H ⊢; exact H)
       (try rw [hji17] at A14)
       (try rw [hji17] at A15)
       have hji17_ : (IntKind.i64.wrap (1 * 2 ^ min t115.toNat 64)) = ji17 := hji17
       have hji17z : t115 ≤ 64 → (IntKind.i64.wrap (1 * 2 ^ t115.toNat)) = ji17 := shl_small hji17
       have hji17u : (IntKind.i64.wrap (2 ^ min t115.toNat 64)) = ji17 := by have h_ := hji17_; rw [Int.one_mul] at h_; exact h_
       have hji17v : t115 ≤ 64 → (IntKind.i64.wrap (2 ^ t115.toNat)) = ji17 := fun hle_ => by have h_ := hji17z hle_; rw [Int.one_mul] at h_; exact h_
       have hji17y : (wrap64 (1 * 2 ^ min t115.toNat 64)) = ji17 := (i64_w _).symm.trans hji17_
       have hji17x : t115 ≤ 64 → (wrap64 (1 * 2 ^ t115.toNat)) = ji17 := fun h_ => (i64_w _).symm.trans (hji17z h_)
       obtain ⟨ji18, hji18⟩ : ∃ j_ : Int, (wrap64 (a1 + 1)) = j_ := ⟨_, rfl⟩
       replace H : (if 0 ≤ (ji18) then (if (ji18) ≤ (l0_3.length : Int) then ((some (l0_3.drop ((ji18) : Int).toNat : List (S39))).bind fun y116 => (full_Last.l0 kj2 a1 ((rd_T39 l0_3 a1).f1) (wrap64 ((ji17) - 1)) 0 y116 (y116.length : Int) 0)) else (none)) else (none)) = some r := by first | (rw [hji18] at H; exact H) | (simp only [hji18] at H ⊢; exact H)
       (try rw [hji18] at A14)
       (try rw [hji18] at A15)
       have hji18w : (IntKind.i64.wrap (a1 + 1)) = ji18 := (i64_w _).trans hji18
       by_cases c19 : 0 ≤ (ji18)
       ·
        rw [if_pos c19] at H
        have c19b0 := eq_true c19
        have c19b1 : decide (0 ≤ (ji18)) = true := decide_eq_true c19
        clear c19
        by_cases c20 : (ji18) ≤ (l0_3.length : Int)
        ·
         rw [if_pos c20] at H
         have c20b0 := eq_true c20
         have c20b1 : decide ((ji18) ≤ (l0_3.length : Int)) = true := decide_eq_true c20
         clear c20
         obtain ⟨y116, hy116⟩ : ∃ y_ : List (S39), y_ = (l0_3.drop ((ji18) : Int).toNat) := ⟨_, rfl⟩
         replace H : (full_Last.l0 kj2 a1 ((rd_T39 l0_3 a1).f1) (wrap64 ((ji17) - 1)) 0 y116 (y116.length : Int) 0) = some r := by first | (rw [hy116]; with_reducible exact H) | (have H2_ := (Option.bind_some _ _).symm.trans H; rw [hy116]; with_reducible exact H2_) | (have H2_ := (Option.bind_some _ _).symm.trans H; with_reducible exact H2_) | with_reducible exact H | (rw [hy116]; exact H) | exact H
         have Ny116 := Aside0.mk hy116
         clear hy116
         have H' := Aside0.mk H
         clear H
         have hcz21_0 : wc.cell? ⟨gb111, 0, none⟩ = some (.slice A0_0 l0_0.length c0_0) := (blk_cell BK111.out 0).trans rfl
         have hcz21_1 : wc.cell? ⟨gb111, 1, none⟩ = some (.string a0_1) := (blk_cell BK111.out 1).trans rfl
         have hcz21_2 : wc.cell? ⟨gb111, 2, none⟩ = some (.string a0_2) := (blk_cell BK111.out 2).trans rfl
         have hcz21_3 : wc.cell? ⟨gb111, 3, none⟩ = some (.slice A0_3 l0_3.length c0_3) := (blk_cell BK111.out 3).trans rfl
         have hfz21_0 := blk_frozen BK111.out 0
         have hfz21_1 := blk_frozen BK111.out 1
         have hfz21_2 := blk_frozen BK111.out 2
         have hfz21_3 := blk_frozen BK111.out 3
         have p113 : 0 ≤ (a1 : Int) := of_decide_eq_true (by first | (with_reducible assumption) | assumption)
         have q113 : a1 < (l0_3.length : Int) := of_decide_eq_true (by first | (with_reducible assumption) | assumption)
         obtain ⟨ad113, e113, hx113_0, hx113_1, hx113_2, hx113_3, hx113_4⟩ := at_T39 HR0_3.out a1 p113 q113
         cases e113
         replace hx113_0 := (HB.out.cell (World.block_lt_of_cell? w _ hx113_0)).trans hx113_0
         replace hx113_1 := (HB.out.cell (World.block_lt_of_cell? w _ hx113_1)).trans hx113_1
         replace hx113_2 := (HB.out.cell (World.block_lt_of_cell? w _ hx113_2)).trans hx113_2
         replace hx113_3 := (HB.out.cell (World.block_lt_of_cell? w _ hx113_3)).trans hx113_3
         replace hx113_4 := (HB.out.cell (World.block_lt_of_cell? w _ hx113_4)).trans hx113_4
         replace p113 := eq_true p113
         replace q113 := eq_true q113
         try go_wp2
         have n0_ := Aside0.mk (blk_drew BK111.out)
         have n1_ := Aside0.mk (below_drew1 HB.out)
         clear BK111
         clear HB
         have BK111 := n0_
         have HB := n1_
         clear n0_ n1_
         refine start_ (n := 9) (S := fun w' => w'.cell? ⟨gb111, 0, none⟩ = some (.slice A0_0 l0_0.length c0_0) ∧ w'.cell? ⟨gb111, 1, none⟩ = some (.string a0_1) ∧ w'.cell? ⟨gb111, 2, none⟩ = some (.string a0_2) ∧ w'.cell? ⟨gb111, 3, none⟩ = some (.slice (some ad113) l0_3.length c0_3)) (ds := []) #[false, false, false, false, false, false, false, false, false] (by kernel_rfl) rfl rfl ⟨(blk_cell BK111.out 0).trans rfl, (blk_cell BK111.out 1).trans rfl, (blk_cell BK111.out 2).trans rfl, (blk_cell BK111.out 3).trans rfl⟩ (fun hHeld => ?_); refine with_tabW full_Last.tab4 full_Last.bits4 (fun HT_ HW_ => ?_)
         generalize wc.drew = w22 at BK111 HB hHeld ⊢
         refine pure_ (i := 0) (N := some 34) (v := ?_) (a' := ?_) #[true, false, false, false, false, false, false, false, false] rfl rfl (any_of HT_.out (by kernel_rfl)) (fun _ _ _ h => h) (Or.inl ⟨by rfl, ?_⟩) ?_ ?_
         rotate_left
         ·
          intro w'
          go_simp
          with_reducible rfl
         rotate_left
         ·
          simp only [Act.put, List.setIfInBounds_toArray, List.set_cons_zero, List.set_cons_succ, i64_w, i32_w]
          rfl
         refine pure_ (i := 3) (N := some 37) (v := ?_) (a' := ?_) #[true, false, false, true, false, false, false, false, false] rfl rfl (any_of HT_.out (by kernel_rfl)) (fun _ _ _ h => h) (Or.inl ⟨by rfl, ?_⟩) ?_ ?_
         rotate_left
         ·
          intro w'
          go_simp
          with_reducible rfl
         rotate_left
         ·
          simp only [Act.put, List.setIfInBounds_toArray, List.set_cons_zero, List.set_cons_succ, i64_w, i32_w]
          rfl
         refine take_ (i := 1) (N := some 35) (v := ?_) (a' := ?_) #[true, true, false, true, false, false, false, false, false] rfl rfl (take_ofW HT_.out HW_.out (by kernel_rfl)) (fun _ _ _ h => h) (Or.inl ⟨by rfl, ?_⟩) hHeld ?_ ?_
         rotate_left
         ·
          rintro w' ⟨s0, s1, s2, s3⟩
          go_simp
          with_reducible rfl
         rotate_left
         ·
          simp only [Act.put, List.setIfInBounds_toArray, List.set_cons_zero, List.set_cons_succ, i64_w, i32_w]
          rfl
         refine take_ (i := 2) (N := some 36) (v := ?_) (a' := ?_) #[true, true, true, true, false, false, false, false, false] rfl rfl (take_ofW HT_.out HW_.out (by kernel_rfl)) (fun _ _ _ h => h) (Or.inl ⟨by rfl, ?_⟩) hHeld ?_ ?_
         rotate_left
         ·
          rintro w' ⟨s0, s1, s2, s3⟩
          go_simp
          with_reducible rfl
         rotate_left
         ·
          simp only [Act.put, List.setIfInBounds_toArray, List.set_cons_zero, List.set_cons_succ, i64_w, i32_w]
          rfl
         refine one_ (i := 4) (N := some 38) #[true, true, true, true, true, false, false, false, false] rfl rfl (one_of HT_.out (by kernel_rfl)) (by decide) (fun K hK => ?_)
         refine goes_ Tryd.func21 (by kernel_rfl) rfl #[.agg #[.slice A0_0 l0_0.length c0_0, .string a0_1, .string a0_2, .slice (some ad113) l0_3.length c0_3], .int .u8 ((rd_T39 l0_3 a1).f1)] (by rfl) rfl rfl (by (try simp only [List.map_toArray, List.map_cons, List.map_nil]); first | done | rfl | (simp only [List.length_drop, List.length_take]; rfl)) ?_
         with_reducible refine (check_Local.calls kj2 _ _ l0_0 a0_1 a0_2 _ _ l0_3 ((rd_T39 l0_3 a1).f1) t114 _ ?side1 ?side2 ?side3 ?side4 A14.out).mono ?_
         (case side1 => repeat (first | exact (Kd.C_below HR0_0.out HB.out) | (with_reducible refine Kd.C_alloc ?_ _) | (with_reducible refine Kd.C_drewN ?_ _) | (with_reducible refine Kd.C_drew ?_)))
         (case side2 => exact HC0_0.out)
         (case side3 => repeat (first | exact (Kd.C_below HR0_3.out HB.out) | (with_reducible refine Kd.C_alloc ?_ _) | (with_reducible refine Kd.C_drewN ?_ _) | (with_reducible refine Kd.C_drew ?_)))
         (case side4 => exact HC0_3.out)
         rintro e w23 ⟨rfl, hb⟩
         refine ⟨_, rfl, ?_⟩
         have n0_ := Aside0.mk (blk_below (g := gb111) (o := .cells #[.slice A0_0 l0_0.length c0_0, .string a0_1, .string a0_2, .slice (some ad113) l0_3.length c0_3] 25 (0, 0)) (by (with_reducible repeat (first | refine blk_drewN ?_ _ | refine blk_drew ?_ | refine blk_alloc ?_ _)); exact BK111.out) hb)
         have n1_ := Aside0.mk (below_step (by repeat (first | (with_reducible first | exact HB.out | apply below_alloc | apply pw_below_drewN | apply below_drew1 | refine below_set ?_ GE111.out) | exact HB.out)) hb)
         clear BK111
         clear HB
         have BK111 := n0_
         have HB := n1_
         clear n0_ n1_
         (try clear hb)
         (try clear hb2)
         (try clear hk)
         (try clear hi)
         refine hK.out _ _ ⟨(blk_cell BK111.out 0).trans rfl, (blk_cell BK111.out 1).trans rfl, (blk_cell BK111.out 2).trans rfl, (blk_cell BK111.out 3).trans rfl⟩ (fun hHeld => ?_)
         clear hK K
         refine norm_ (a' := ?_) ?_ ?_
         rotate_left
         ·
          show Act.put _ (some 38) _ = _
          simp only [Act.put, List.setIfInBounds_toArray, List.set_cons_zero, List.set_cons_succ, i64_w, i32_w]
          rfl
         refine one_ (i := 5) (N := some 39) #[true, true, true, true, true, true, false, false, false] rfl rfl (one_of HT_.out (by kernel_rfl)) (by decide) (fun K hK => ?_)
         refine goes_ Tryd.func20 (by kernel_rfl) rfl #[.slice A0_0 l0_0.length c0_0, .int .i64 t114] (by rfl) rfl rfl (by (try simp only [List.map_toArray, List.map_cons, List.map_nil]); first | done | rfl | (simp only [List.length_drop, List.length_take]; rfl)) ?_
         with_reducible refine (kind_Size.calls kj2 _ _ l0_0 t114 t115 _ ?side1 ?side2 A15.out).mono ?_
         (case side1 => repeat (first | exact (Kd.C_below HR0_0.out HB.out) | (with_reducible refine Kd.C_alloc ?_ _) | (with_reducible refine Kd.C_drewN ?_ _) | (with_reducible refine Kd.C_drew ?_)))
         (case side2 => exact HC0_0.out)
         rintro e w' ⟨rfl, ⟨nd, rfl⟩⟩
         refine ⟨_, rfl, ?_⟩
         refine hK.out _ _ ⟨(blk_cell BK111.out 0).trans rfl, (blk_cell BK111.out 1).trans rfl, (blk_cell BK111.out 2).trans rfl, (blk_cell BK111.out 3).trans rfl⟩ (fun hHeld => ?_)
         clear hK K
         refine norm_ (a' := ?_) ?_ ?_
         rotate_left
         ·
          show Act.put _ (some 39) _ = _
          simp only [Act.put, List.setIfInBounds_toArray, List.set_cons_zero, List.set_cons_succ, i64_w, i32_w]
          rfl
         refine pure_ (i := 6) (N := some 40) (v := ?_) (a' := ?_) #[true, true, true, true, true, true, true, false, false] rfl rfl (any_of HT_.out (by kernel_rfl)) (fun _ _ _ h => h) (Or.inl ⟨by rfl, ?_⟩) ?_ ?_
         rotate_left
         ·
          intro w'
          go_simp
          with_reducible rfl
         rotate_left
         ·
          simp only [Act.put, List.setIfInBounds_toArray, List.set_cons_zero, List.set_cons_succ, i64_w, i32_w]
          rfl
         refine pure_ (i := 7) (N := some 41) (v := ?_) (a' := ?_) #[true, true, true, true, true, true, true, true, false] rfl rfl (any_of HT_.out (by kernel_rfl)) (fun _ _ _ h => h) (Or.inl ⟨by rfl, ?_⟩) ?_ ?_
         rotate_left
         ·
          intro w'
          go_simp
          with_reducible rfl
         rotate_left
         ·
          simp only [Act.put, List.setIfInBounds_toArray, List.set_cons_zero, List.set_cons_succ, i64_w, i32_w]
          rfl
         refine pure_ (i := 8) (N := some 6) (v := ?_) (a' := ?_) #[true, true, true, true, true, true, true, true, true] rfl rfl (any_of HT_.out (by kernel_rfl)) (fun _ _ _ h => h) (Or.inl ⟨by rfl, ?_⟩) ?_ ?_
         rotate_left
         ·
          intro w'
          go_simp
          with_reducible rfl
         rotate_left
         ·
          simp only [Act.put, List.setIfInBounds_toArray, List.set_cons_zero, List.set_cons_succ, i64_w, i32_w]
          rfl
         refine done_ (done_of HT_.out (by kernel_rfl)) ?_
         have hcz24_0 : w23.cell? ⟨gb111, 0, none⟩ = some (.slice A0_0 l0_0.length c0_0) := (blk_cell BK111.out 0).trans rfl
         have hcz24_1 : w23.cell? ⟨gb111, 1, none⟩ = some (.string a0_1) := (blk_cell BK111.out 1).trans rfl
         have hcz24_2 : w23.cell? ⟨gb111, 2, none⟩ = some (.string a0_2) := (blk_cell BK111.out 2).trans rfl
         have hcz24_3 : w23.cell? ⟨gb111, 3, none⟩ = some (.slice (some ad113) l0_3.length c0_3) := (blk_cell BK111.out 3).trans rfl
         have hfz24_0 := blk_frozen BK111.out 0
         have hfz24_1 := blk_frozen BK111.out 1
         have hfz24_2 := blk_frozen BK111.out 2
         have hfz24_3 := blk_frozen BK111.out 3
         have q25 : ((ji18) : Int) ≤ ((l0_3.length : Int) : Int) := of_decide_eq_true (by first | (with_reducible assumption) | assumption)
         obtain ⟨i025, hi025, _, hsz25, _⟩ := info_parts info39
         have hroom25 : l0_3.length ≤ c0_3 := HC0_3.out
         have hC25 : Kd.C k39 _ (some ad113) l0_3.length l0_3 := HR0_3.out
         have q025 : (0 : Int) ≤ ((ji18) : Int) := of_decide_eq_true (by first | (with_reducible assumption) | assumption)
         have hcut25 := cut_from (P := Tryd.prog) 23 39 .i64 Tryd.underlying23 hi025 5 hsz25 (some ad113) l0_3.length c0_3 (ji18) q025 q25
         have hr25 := Kd.C_drop (m := ((ji18) : Int).toNat) (c := c0_3) hC25 (by omega) hroom25
         obtain ⟨A25, hA25⟩ : ∃ A1, A1 = (if c0_3 = ((ji18) : Int).toNat then (some ad113) else ((some ad113) : Option Addr).map (·.add (((ji18) : Int).toNat * 5))) := ⟨_, rfl⟩
         obtain ⟨c25, hc25⟩ : ∃ c1, c1 = c0_3 - ((ji18) : Int).toNat := ⟨_, rfl⟩
         have hy25 : y116.length = l0_3.length - ((ji18) : Int).toNat := (by rw [Ny116.out, List.length_drop] <;> omega)
         rw [show (l0_3).drop ((ji18) : Int).toNat = y116 from Ny116.out.symm] at hr25
         replace hr25 : Kd.C k39 _ A25 y116.length y116 := (by rw [hA25]; exact hr25)
         rw [← hy25, ← hA25, ← hc25] at hcut25
         have HR119 := Aside0.mk hr25
         have HC119 := Aside0.mk (show y116.length ≤ c25 from by rw [hy25, hc25]; exact Nat.sub_le_sub_right hroom25 _)
         clear hr25 hC25 hroom25 hi025 hsz25 hc25
         have KY25 := Aside0.mk hy25
         have KA25 := Aside0.mk hA25
         clear hy25 hA25
         replace q25 := eq_true q25
         try go_wp2
         go_loopg [7, 48] kj2 (fun kq v7 v48 w' => ∃ (x7_2 : Int) (x48_2 : Int), v7 = .int .i64 x7_2 ∧ v48 = .int .i64 x48_2 ∧ Aside0 (full_Last.l0 kq a1 ((rd_T39 l0_3 a1).f1) (wrap64 ((ji17) - 1)) x7_2 y116 (y116.length : Int) x48_2 = some r) ∧ Aside0 (kq ≤ kj2) ∧ Aside0 (w'.heap[gb111]? = some (.cells #[(.slice A0_0 l0_0.length c0_0), .string a0_1, .string a0_2, (.slice (some ad113) l0_3.length c0_3)] 25 (0, 0))) ∧ Aside0 (Below w.heap.size w w'))
         case atStart => exact ⟨(0), (0), (by first | rfl | (simp; done) | (simp [*]; done)), (by first | rfl | (simp; done) | (simp [*]; done)), H', ⟨Nat.le_refl _⟩, ⟨by (with_reducible repeat (first | refine blk_drewN ?_ _ | refine blk_drew ?_ | refine blk_alloc ?_ _)); exact BK111.out⟩, ⟨by repeat (first | (with_reducible first | exact HB.out | apply below_alloc | apply pw_below_drewN | apply below_drew1 | refine below_set ?_ GE111.out) | exact HB.out)⟩⟩
         case round =>
          clear H'
          obtain ⟨x7_2, x48_2, rfl, rfl, HA, HK2, BK111, HB⟩ := hrel
          cases gk with
          | zero => exact absurd HA.out (by simp [full_Last.l0])
          | succ k2 =>
           have H := HA.out
           clear HA
           simp only [full_Last.l0] at H
           by_cases c26 : x48_2 < (y116.length : Int)
           ·
            rw [if_pos c26] at H
            have c26b0 : decide (x48_2 < (y116.length : Int)) = true := decide_eq_true c26
            clear c26
            by_cases c27 : 0 ≤ x48_2
            ·
             rw [if_pos c27] at H
             have c27b0 : decide (0 ≤ x48_2) = true := decide_eq_true c27
             clear c27
             by_cases c28 : x48_2 < (y116.length : Int)
             ·
              rw [if_pos c28] at H
              have c28b0 : decide (x48_2 < (y116.length : Int)) = true := decide_eq_true c28
              clear c28
              have HC29 := Aside0.mk H
              clear H
              have p120 : 0 ≤ (x48_2 : Int) := of_decide_eq_true (by first | (with_reducible assumption) | assumption)
              have q120 : x48_2 < (y116.length : Int) := of_decide_eq_true (by first | (with_reducible assumption) | assumption)
              obtain ⟨ad120, e120, hx120_0, hx120_1, hx120_2, hx120_3, hx120_4⟩ := at_T39 HR119.out x48_2 p120 q120
              cases e120
              replace hx120_0 := (HB.out.cell (World.block_lt_of_cell? w _ hx120_0)).trans hx120_0
              replace hx120_1 := (HB.out.cell (World.block_lt_of_cell? w _ hx120_1)).trans hx120_1
              replace hx120_2 := (HB.out.cell (World.block_lt_of_cell? w _ hx120_2)).trans hx120_2
              replace hx120_3 := (HB.out.cell (World.block_lt_of_cell? w _ hx120_3)).trans hx120_3
              replace hx120_4 := (HB.out.cell (World.block_lt_of_cell? w _ hx120_4)).trans hx120_4
              replace p120 := eq_true p120
              replace q120 := eq_true q120
              go_upto_if 55 with (first | ((with_reducible refine gate_dst (N := 9) rfl ?_); (try (refine gate_guard (by rfl) ?_; dsimp only)); refine box_event ?hg (N := 9) ?hd (cs := #[.int .u8 0, .int .u8 0, .int .u8 0, .int .u8 0, .int .i64 0]) (t := 39) ?hr ?_; (case hd => rfl); (case hg => rfl); (case hr => first | (go_simp; done) | (go_simp; rfl)); intro gb121 hg w30 hbox hb; have n0_ := Aside0.mk (blk_below (g := gb111) (o := .cells #[.slice A0_0 l0_0.length c0_0, .string a0_1, .string a0_2, .slice (some ad113) l0_3.length c0_3] 25 (0, 0)) (by (with_reducible repeat (first | refine blk_drewN ?_ _ | refine blk_drew ?_ | refine blk_alloc ?_ _)); exact BK111.out) hb); have n1_ := Aside0.mk (below_step (by repeat (first | (with_reducible first | exact HB.out | apply below_alloc | apply pw_below_drewN | apply below_drew1 | refine below_set ?_ GE111.out) | exact HB.out)) hb); have n2_ := Aside0.mk (hbox); have n3_ := Aside0.mk ((by rw [hg]; exact (below_size (by repeat (first | (with_reducible first | exact HB.out | apply below_alloc | apply pw_below_drewN | apply below_drew1 | refine below_set ?_ GE111.out) | exact HB.out))) : w.heap.size ≤ gb121)); have n4_ := n3_; have n5_ := Aside0.mk ((by rw [hg]; exact Nat.ne_of_lt (blk_lt (g := gb111) (o := .cells #[.slice A0_0 l0_0.length c0_0, .string a0_1, .string a0_2, .slice (some ad113) l0_3.length c0_3] 25 (0, 0)) (by (with_reducible repeat (first | refine blk_drewN ?_ _ | refine blk_drew ?_ | refine blk_alloc ?_ _)); exact BK111.out)) : gb111 ≠ gb121)); have n6_ := Aside0.mk n5_.out.symm; clear BK111; clear HB; have BK111 := n0_; have HB := n1_; have BK121 := n2_; have GW121 := n3_; have GE121 := n4_; have NB111_121 := n5_; have NB121_111 := n6_; clear n0_ n1_ n2_ n3_ n4_ n5_ n6_; clear hb hbox hg; have hnb31 := NB121_111.out; have hnc31 := NB111_121.out; have hcz32_0 : w30.cell? ⟨gb121, 0, none⟩ = some (.int .u8 0) := (blk_cell BK121.out 0).trans rfl; have hcz32_1 : w30.cell? ⟨gb121, 1, none⟩ = some (.int .u8 0) := (blk_cell BK121.out 1).trans rfl; have hcz32_2 : w30.cell? ⟨gb121, 2, none⟩ = some (.int .u8 0) := (blk_cell BK121.out 2).trans rfl; have hcz32_3 : w30.cell? ⟨gb121, 3, none⟩ = some (.int .u8 0) := (blk_cell BK121.out 3).trans rfl; have hcz32_4 : w30.cell? ⟨gb121, 4, none⟩ = some (.int .i64 0) := (blk_cell BK121.out 4).trans rfl; have hfz32_0 := blk_frozen BK121.out 0; have hfz32_1 := blk_frozen BK121.out 1; have hfz32_2 := blk_frozen BK121.out 2; have hfz32_3 := blk_frozen BK121.out 3; have hfz32_4 := blk_frozen BK121.out 4))
              (try simp only [Act.put, List.setIfInBounds_toArray, List.set_cons_zero, List.set_cons_succ])
              go_cut [55] (fun v55 wc => ∃ (kq : Nat) (x55_28 : Bool), v55 = .bool x55_28 ∧ Aside0 (full_Last.j2 kq a1 ((rd_T39 l0_3 a1).f1) (wrap64 ((ji17) - 1)) x7_2 x48_2 y116 (y116.length : Int) x48_2 ((rd_T39 y116 x48_2).f0) x55_28 ((rd_T39 y116 x48_2).f0) ((rd_T39 y116 x48_2).f1) ((rd_T39 y116 x48_2).f2) ((rd_T39 y116 x48_2).f3) ((rd_T39 y116 x48_2).f4) = some r) ∧ Aside0 (kq ≤ k2) ∧ Aside0 (wc.heap[gb111]? = some (.cells #[(.slice A0_0 l0_0.length c0_0), .string a0_1, .string a0_2, (.slice (some ad113) l0_3.length c0_3)] 25 (0, 0))) ∧ Aside0 (wc.heap[gb121]? = some (.cells #[.int .u8 ((rd_T39 y116 x48_2).f0), .int .u8 ((rd_T39 y116 x48_2).f1), .int .u8 ((rd_T39 y116 x48_2).f2), .int .u8 ((rd_T39 y116 x48_2).f3), .int .i64 ((rd_T39 y116 x48_2).f4)] 39 (0, 0))) ∧ Aside0 (Below w.heap.size w wc))
              case first =>
               have H := HC29.out
               clear HC29
               by_cases c33 : ((rd_T39 y116 x48_2).f0) = 1
               ·
                rw [if_pos c33] at H
                have c33b0 : (((rd_T39 y116 x48_2).f0) == 1) = true := beq_iff_eq.mpr c33
                have c33b1 : (((rd_T39 y116 x48_2).f0) != 1) = false := bne_eq_false_iff_eq.mpr c33
                clear c33
                (first | rw [c33b0] | (simp only [i64_w, i32_w]; rw [c33b0]) | skip)
                have H' := Aside0.mk H
                clear H
                go_wp2
                go_meet
                case rel => exact ⟨_, ((((rd_T39 y116 x48_2).f0) == 1)), (by first | rfl | (simp; done) | (simp [*]; done)), H', ⟨by have := HJ2.out; have := HK2.out; first | omega | exact Nat.le_refl _⟩, ⟨by (with_reducible repeat (first | refine blk_drewN ?_ _ | refine blk_drew ?_ | refine blk_alloc ?_ _)); refine blk_far ?_ NB111_121.out _; (with_reducible repeat (first | refine blk_drewN ?_ _ | refine blk_drew ?_ | refine blk_alloc ?_ _)); refine blk_far ?_ NB111_121.out _; (with_reducible repeat (first | refine blk_drewN ?_ _ | refine blk_drew ?_ | refine blk_alloc ?_ _)); refine blk_far ?_ NB111_121.out _; (with_reducible repeat (first | refine blk_drewN ?_ _ | refine blk_drew ?_ | refine blk_alloc ?_ _)); refine blk_far ?_ NB111_121.out _; (with_reducible repeat (first | refine blk_drewN ?_ _ | refine blk_drew ?_ | refine blk_alloc ?_ _)); refine blk_far ?_ NB111_121.out _; (with_reducible repeat (first | refine blk_drewN ?_ _ | refine blk_drew ?_ | refine blk_alloc ?_ _)); exact BK111.out⟩, ⟨by (with_reducible repeat (first | refine blk_drewN ?_ _ | refine blk_drew ?_ | refine blk_alloc ?_ _)); refine blk_put (cs := #[.int .u8 ((rd_T39 y116 x48_2).f0), .int .u8 ((rd_T39 y116 x48_2).f1), .int .u8 ((rd_T39 y116 x48_2).f2), .int .u8 ((rd_T39 y116 x48_2).f3), .int .i64 0]) ?_ 4 _ rfl; (with_reducible repeat (first | refine blk_drewN ?_ _ | refine blk_drew ?_ | refine blk_alloc ?_ _)); refine blk_put (cs := #[.int .u8 ((rd_T39 y116 x48_2).f0), .int .u8 ((rd_T39 y116 x48_2).f1), .int .u8 ((rd_T39 y116 x48_2).f2), .int .u8 0, .int .i64 0]) ?_ 3 _ rfl; (with_reducible repeat (first | refine blk_drewN ?_ _ | refine blk_drew ?_ | refine blk_alloc ?_ _)); refine blk_put (cs := #[.int .u8 ((rd_T39 y116 x48_2).f0), .int .u8 ((rd_T39 y116 x48_2).f1), .int .u8 0, .int .u8 0, .int .i64 0]) ?_ 2 _ rfl; (with_reducible repeat (first | refine blk_drewN ?_ _ | refine blk_drew ?_ | refine blk_alloc ?_ _)); refine blk_put (cs := #[.int .u8 ((rd_T39 y116 x48_2).f0), .int .u8 0, .int .u8 0, .int .u8 0, .int .i64 0]) ?_ 1 _ rfl; (with_reducible repeat (first | refine blk_drewN ?_ _ | refine blk_drew ?_ | refine blk_alloc ?_ _)); refine blk_put (cs := #[.int .u8 0, .int .u8 0, .int .u8 0, .int .u8 0, .int .i64 0]) ?_ 0 _ rfl; (with_reducible repeat (first | refine blk_drewN ?_ _ | refine blk_drew ?_ | refine blk_alloc ?_ _)); exact BK121.out⟩, ⟨by repeat (first | (with_reducible first | exact HB.out | apply below_alloc | apply pw_below_drewN | apply below_drew1 | refine below_set ?_ GE111.out | refine below_set ?_ GE121.out) | exact HB.out)⟩⟩
               ·
                rw [if_neg c33] at H
                have c33b0 : (((rd_T39 y116 x48_2).f0) == 1) = false := beq_eq_false_iff_ne.mpr c33
                have c33b1 : (((rd_T39 y116 x48_2).f0) != 1) = true := bne_iff_ne.mpr c33
                (first | rw [c33b0] | (simp only [i64_w, i32_w]; rw [c33b0]) | skip)
                by_cases c34 : ((rd_T39 y116 x48_2).f0) = 2
                ·
                 rw [if_pos c34] at H
                 have c34b0 : (((rd_T39 y116 x48_2).f0) == 2) = true := beq_iff_eq.mpr c34
                 have c34b1 : (((rd_T39 y116 x48_2).f0) != 2) = false := bne_eq_false_iff_eq.mpr c34
                 clear c34
                 have H' := Aside0.mk H
                 clear H
                 go_wp2
                 go_meet
                 case rel => exact ⟨_, ((((rd_T39 y116 x48_2).f0) == 2)), (by first | rfl | (simp; done) | (simp [*]; done)), H', ⟨by have := HJ2.out; have := HK2.out; first | omega | exact Nat.le_refl _⟩, ⟨by (with_reducible repeat (first | refine blk_drewN ?_ _ | refine blk_drew ?_ | refine blk_alloc ?_ _)); refine blk_far ?_ NB111_121.out _; (with_reducible repeat (first | refine blk_drewN ?_ _ | refine blk_drew ?_ | refine blk_alloc ?_ _)); refine blk_far ?_ NB111_121.out _; (with_reducible repeat (first | refine blk_drewN ?_ _ | refine blk_drew ?_ | refine blk_alloc ?_ _)); refine blk_far ?_ NB111_121.out _; (with_reducible repeat (first | refine blk_drewN ?_ _ | refine blk_drew ?_ | refine blk_alloc ?_ _)); refine blk_far ?_ NB111_121.out _; (with_reducible repeat (first | refine blk_drewN ?_ _ | refine blk_drew ?_ | refine blk_alloc ?_ _)); refine blk_far ?_ NB111_121.out _; (with_reducible repeat (first | refine blk_drewN ?_ _ | refine blk_drew ?_ | refine blk_alloc ?_ _)); exact BK111.out⟩, ⟨by (with_reducible repeat (first | refine blk_drewN ?_ _ | refine blk_drew ?_ | refine blk_alloc ?_ _)); refine blk_put (cs := #[.int .u8 ((rd_T39 y116 x48_2).f0), .int .u8 ((rd_T39 y116 x48_2).f1), .int .u8 ((rd_T39 y116 x48_2).f2), .int .u8 ((rd_T39 y116 x48_2).f3), .int .i64 0]) ?_ 4 _ rfl; (with_reducible repeat (first | refine blk_drewN ?_ _ | refine blk_drew ?_ | refine blk_alloc ?_ _)); refine blk_put (cs := #[.int .u8 ((rd_T39 y116 x48_2).f0), .int .u8 ((rd_T39 y116 x48_2).f1), .int .u8 ((rd_T39 y116 x48_2).f2), .int .u8 0, .int .i64 0]) ?_ 3 _ rfl; (with_reducible repeat (first | refine blk_drewN ?_ _ | refine blk_drew ?_ | refine blk_alloc ?_ _)); refine blk_put (cs := #[.int .u8 ((rd_T39 y116 x48_2).f0), .int .u8 ((rd_T39 y116 x48_2).f1), .int .u8 0, .int .u8 0, .int .i64 0]) ?_ 2 _ rfl; (with_reducible repeat (first | refine blk_drewN ?_ _ | refine blk_drew ?_ | refine blk_alloc ?_ _)); refine blk_put (cs := #[.int .u8 ((rd_T39 y116 x48_2).f0), .int .u8 0, .int .u8 0, .int .u8 0, .int .i64 0]) ?_ 1 _ rfl; (with_reducible repeat (first | refine blk_drewN ?_ _ | refine blk_drew ?_ | refine blk_alloc ?_ _)); refine blk_put (cs := #[.int .u8 0, .int .u8 0, .int .u8 0, .int .u8 0, .int .i64 0]) ?_ 0 _ rfl; (with_reducible repeat (first | refine blk_drewN ?_ _ | refine blk_drew ?_ | refine blk_alloc ?_ _)); exact BK121.out⟩, ⟨by repeat (first | (with_reducible first | exact HB.out | apply below_alloc | apply pw_below_drewN | apply below_drew1 | refine below_set ?_ GE111.out | refine below_set ?_ GE121.out) | exact HB.out)⟩⟩
                ·
                 rw [if_neg c34] at H
                 have c34b0 : (((rd_T39 y116 x48_2).f0) == 2) = false := beq_eq_false_iff_ne.mpr c34
                 have c34b1 : (((rd_T39 y116 x48_2).f0) != 2) = true := bne_iff_ne.mpr c34
                 by_cases c35 : ((rd_T39 y116 x48_2).f0) = 14
                 ·
                  rw [if_pos c35] at H
                  have c35b0 : (((rd_T39 y116 x48_2).f0) == 14) = true := beq_iff_eq.mpr c35
                  have c35b1 : (((rd_T39 y116 x48_2).f0) != 14) = false := bne_eq_false_iff_eq.mpr c35
                  clear c35
                  have H' := Aside0.mk H
                  clear H
                  go_wp2
                  go_meet
                  case rel => exact ⟨_, ((((rd_T39 y116 x48_2).f0) == 14)), (by first | rfl | (simp; done) | (simp [*]; done)), H', ⟨by have := HJ2.out; have := HK2.out; first | omega | exact Nat.le_refl _⟩, ⟨by (with_reducible repeat (first | refine blk_drewN ?_ _ | refine blk_drew ?_ | refine blk_alloc ?_ _)); refine blk_far ?_ NB111_121.out _; (with_reducible repeat (first | refine blk_drewN ?_ _ | refine blk_drew ?_ | refine blk_alloc ?_ _)); refine blk_far ?_ NB111_121.out _; (with_reducible repeat (first | refine blk_drewN ?_ _ | refine blk_drew ?_ | refine blk_alloc ?_ _)); refine blk_far ?_ NB111_121.out _; (with_reducible repeat (first | refine blk_drewN ?_ _ | refine blk_drew ?_ | refine blk_alloc ?_ _)); refine blk_far ?_ NB111_121.out _; (with_reducible repeat (first | refine blk_drewN ?_ _ | refine blk_drew ?_ | refine blk_alloc ?_ _)); refine blk_far ?_ NB111_121.out _; (with_reducible repeat (first | refine blk_drewN ?_ _ | refine blk_drew ?_ | refine blk_alloc ?_ _)); exact BK111.out⟩, ⟨by (with_reducible repeat (first | refine blk_drewN ?_ _ | refine blk_drew ?_ | refine blk_alloc ?_ _)); refine blk_put (cs := #[.int .u8 ((rd_T39 y116 x48_2).f0), .int .u8 ((rd_T39 y116 x48_2).f1), .int .u8 ((rd_T39 y116 x48_2).f2), .int .u8 ((rd_T39 y116 x48_2).f3), .int .i64 0]) ?_ 4 _ rfl; (with_reducible repeat (first | refine blk_drewN ?_ _ | refine blk_drew ?_ | refine blk_alloc ?_ _)); refine blk_put (cs := #[.int .u8 ((rd_T39 y116 x48_2).f0), .int .u8 ((rd_T39 y116 x48_2).f1), .int .u8 ((rd_T39 y116 x48_2).f2), .int .u8 0, .int .i64 0]) ?_ 3 _ rfl; (with_reducible repeat (first | refine blk_drewN ?_ _ | refine blk_drew ?_ | refine blk_alloc ?_ _)); refine blk_put (cs := #[.int .u8 ((rd_T39 y116 x48_2).f0), .int .u8 ((rd_T39 y116 x48_2).f1), .int .u8 0, .int .u8 0, .int .i64 0]) ?_ 2 _ rfl; (with_reducible repeat (first | refine blk_drewN ?_ _ | refine blk_drew ?_ | refine blk_alloc ?_ _)); refine blk_put (cs := #[.int .u8 ((rd_T39 y116 x48_2).f0), .int .u8 0, .int .u8 0, .int .u8 0, .int .i64 0]) ?_ 1 _ rfl; (with_reducible repeat (first | refine blk_drewN ?_ _ | refine blk_drew ?_ | refine blk_alloc ?_ _)); refine blk_put (cs := #[.int .u8 0, .int .u8 0, .int .u8 0, .int .u8 0, .int .i64 0]) ?_ 0 _ rfl; (with_reducible repeat (first | refine blk_drewN ?_ _ | refine blk_drew ?_ | refine blk_alloc ?_ _)); exact BK121.out⟩, ⟨by repeat (first | (with_reducible first | exact HB.out | apply below_alloc | apply pw_below_drewN | apply below_drew1 | refine below_set ?_ GE111.out | refine below_set ?_ GE121.out) | exact HB.out)⟩⟩
                 ·
                  rw [if_neg c35] at H
                  have c35b0 : (((rd_T39 y116 x48_2).f0) == 14) = false := beq_eq_false_iff_ne.mpr c35
                  have c35b1 : (((rd_T39 y116 x48_2).f0) != 14) = true := bne_iff_ne.mpr c35
                  have H' := Aside0.mk H
                  clear H
                  go_wp2
                  go_meet
                  case rel => exact ⟨_, ((((rd_T39 y116 x48_2).f0) == 15)), (by first | rfl | (simp; done) | (simp [*]; done)), H', ⟨by have := HJ2.out; have := HK2.out; first | omega | exact Nat.le_refl _⟩, ⟨by (with_reducible repeat (first | refine blk_drewN ?_ _ | refine blk_drew ?_ | refine blk_alloc ?_ _)); refine blk_far ?_ NB111_121.out _; (with_reducible repeat (first | refine blk_drewN ?_ _ | refine blk_drew ?_ | refine blk_alloc ?_ _)); refine blk_far ?_ NB111_121.out _; (with_reducible repeat (first | refine blk_drewN ?_ _ | refine blk_drew ?_ | refine blk_alloc ?_ _)); refine blk_far ?_ NB111_121.out _; (with_reducible repeat (first | refine blk_drewN ?_ _ | refine blk_drew ?_ | refine blk_alloc ?_ _)); refine blk_far ?_ NB111_121.out _; (with_reducible repeat (first | refine blk_drewN ?_ _ | refine blk_drew ?_ | refine blk_alloc ?_ _)); refine blk_far ?_ NB111_121.out _; (with_reducible repeat (first | refine blk_drewN ?_ _ | refine blk_drew ?_ | refine blk_alloc ?_ _)); exact BK111.out⟩, ⟨by (with_reducible repeat (first | refine blk_drewN ?_ _ | refine blk_drew ?_ | refine blk_alloc ?_ _)); refine blk_put (cs := #[.int .u8 ((rd_T39 y116 x48_2).f0), .int .u8 ((rd_T39 y116 x48_2).f1), .int .u8 ((rd_T39 y116 x48_2).f2), .int .u8 ((rd_T39 y116 x48_2).f3), .int .i64 0]) ?_ 4 _ rfl; (with_reducible repeat (first | refine blk_drewN ?_ _ | refine blk_drew ?_ | refine blk_alloc ?_ _)); refine blk_put (cs := #[.int .u8 ((rd_T39 y116 x48_2).f0), .int .u8 ((rd_T39 y116 x48_2).f1), .int .u8 ((rd_T39 y116 x48_2).f2), .int .u8 0, .int .i64 0]) ?_ 3 _ rfl; (with_reducible repeat (first | refine blk_drewN ?_ _ | refine blk_drew ?_ | refine blk_alloc ?_ _)); refine blk_put (cs := #[.int .u8 ((rd_T39 y116 x48_2).f0), .int .u8 ((rd_T39 y116 x48_2).f1), .int .u8 0, .int .u8 0, .int .i64 0]) ?_ 2 _ rfl; (with_reducible repeat (first | refine blk_drewN ?_ _ | refine blk_drew ?_ | refine blk_alloc ?_ _)); refine blk_put (cs := #[.int .u8 ((rd_T39 y116 x48_2).f0), .int .u8 0, .int .u8 0, .int .u8 0, .int .i64 0]) ?_ 1 _ rfl; (with_reducible repeat (first | refine blk_drewN ?_ _ | refine blk_drew ?_ | refine blk_alloc ?_ _)); refine blk_put (cs := #[.int .u8 0, .int .u8 0, .int .u8 0, .int .u8 0, .int .i64 0]) ?_ 0 _ rfl; (with_reducible repeat (first | refine blk_drewN ?_ _ | refine blk_drew ?_ | refine blk_alloc ?_ _)); exact BK121.out⟩, ⟨by repeat (first | (with_reducible first | exact HB.out | apply below_alloc | apply pw_below_drewN | apply below_drew1 | refine below_set ?_ GE111.out | refine below_set ?_ GE121.out) | exact HB.out)⟩⟩
              case rest =>
               clear HC29
               obtain ⟨kq, x55_28, rfl, HA, HJ28, BK111, BK121, HB⟩ := hcut
               cases kq with
               | zero => exact absurd HA.out (by simp [full_Last.j2])
               | succ kj28 =>
                have H := HA.out
                clear HA
                simp only [full_Last.j2] at H
                by_cases c36 : x55_28 = true
                ·
                 subst c36
                 have H1 : (full_Last.l0 kj28 a1 ((rd_T39 l0_3 a1).f1) (wrap64 ((ji17) - 1)) x7_2 y116 (y116.length : Int) (wrap64 (x48_2 + 1))) = some r := by rw [if_pos rfl] at H; exact H
                 clear H
                 have H := H1
                 clear H1
                 have H' := Aside0.mk H
                 clear H
                 go_wp2
                 go_roundg kj28
                 case measure => have := HJ2.out; have := HK2.out; have := HJ28.out; omega
                 case rel => exact ⟨(x7_2), (wrap64 (x48_2 + 1)), (by first | rfl | (simp; done) | (simp [*]; done)), (by first | rfl | (simp; done) | (simp [*]; done)), H', ⟨by have := HJ2.out; have := HK2.out; have := HJ28.out; omega⟩, ⟨by (with_reducible repeat (first | refine blk_drewN ?_ _ | refine blk_drew ?_ | refine blk_alloc ?_ _)); exact BK111.out⟩, ⟨by repeat (first | (with_reducible first | exact HB.out | apply below_alloc | apply pw_below_drewN | apply below_drew1 | refine below_set ?_ GE111.out | refine below_set ?_ GE121.out) | exact HB.out)⟩⟩
                ·
                 replace c36 := Bool.eq_false_iff.mpr c36
                 subst c36
                 have H1 : (if ((rd_T39 y116 x48_2).f0) = 6 then (full_Last.j3 kj28 a1 ((rd_T39 l0_3 a1).f1) (wrap64 ((ji17) - 1)) x7_2 x48_2 y116 (y116.length : Int) x48_2 ((rd_T39 y116 x48_2).f0) (((rd_T39 y116 x48_2).f0) == 6) ((rd_T39 y116 x48_2).f0) ((rd_T39 y116 x48_2).f1) ((rd_T39 y116 x48_2).f2) ((rd_T39 y116 x48_2).f3) ((rd_T39 y116 x48_2).f4)) else (full_Last.j3 kj28 a1 ((rd_T39 l0_3 a1).f1) (wrap64 ((ji17) - 1)) x7_2 x48_2 y116 (y116.length : Int) x48_2 ((rd_T39 y116 x48_2).f0) (((rd_T39 y116 x48_2).f0) == 7) ((rd_T39 y116 x48_2).f0) ((rd_T39 y116 x48_2).f1) ((rd_T39 y116 x48_2).f2) ((rd_T39 y116 x48_2).f3) ((rd_T39 y116 x48_2).f4))) = some r := by rw [if_neg (show ¬ (false = true) by decide)] at H; exact H
                 clear H
                 have H := H1
                 clear H1
                 have HC37 := Aside0.mk H
                 clear H
                 go_upto_if 60 with (fail)
                 go_cut [60] (fun v60 wc => ∃ (kq : Nat) (x60_36 : Bool), v60 = .bool x60_36 ∧ Aside0 (full_Last.j3 kq a1 ((rd_T39 l0_3 a1).f1) (wrap64 ((ji17) - 1)) x7_2 x48_2 y116 (y116.length : Int) x48_2 ((rd_T39 y116 x48_2).f0) x60_36 ((rd_T39 y116 x48_2).f0) ((rd_T39 y116 x48_2).f1) ((rd_T39 y116 x48_2).f2) ((rd_T39 y116 x48_2).f3) ((rd_T39 y116 x48_2).f4) = some r) ∧ Aside0 (kq ≤ kj28) ∧ Aside0 (wc.heap[gb111]? = some (.cells #[(.slice A0_0 l0_0.length c0_0), .string a0_1, .string a0_2, (.slice (some ad113) l0_3.length c0_3)] 25 (0, 0))) ∧ Aside0 (wc.heap[gb121]? = some (.cells #[.int .u8 ((rd_T39 y116 x48_2).f0), .int .u8 ((rd_T39 y116 x48_2).f1), .int .u8 ((rd_T39 y116 x48_2).f2), .int .u8 ((rd_T39 y116 x48_2).f3), .int .i64 ((rd_T39 y116 x48_2).f4)] 39 (0, 0))) ∧ Aside0 (Below w.heap.size w wc))
                 case first =>
                  have H := HC37.out
                  clear HC37
                  by_cases c38 : ((rd_T39 y116 x48_2).f0) = 6
                  ·
                   rw [if_pos c38] at H
                   have c38b0 : (((rd_T39 y116 x48_2).f0) == 6) = true := beq_iff_eq.mpr c38
                   have c38b1 : (((rd_T39 y116 x48_2).f0) != 6) = false := bne_eq_false_iff_eq.mpr c38
                   clear c38
                   (first | rw [c38b0] | (simp only [i64_w, i32_w]; rw [c38b0]) | skip)
                   have H' := Aside0.mk H
                   clear H
                   go_wp2
                   go_meet
                   case rel => exact ⟨_, ((((rd_T39 y116 x48_2).f0) == 6)), (by first | rfl | (simp; done) | (simp [*]; done)), H', ⟨by have := HJ2.out; have := HK2.out; have := HJ28.out; first | omega | exact Nat.le_refl _⟩, ⟨by (with_reducible repeat (first | refine blk_drewN ?_ _ | refine blk_drew ?_ | refine blk_alloc ?_ _)); exact BK111.out⟩, ⟨by (with_reducible repeat (first | refine blk_drewN ?_ _ | refine blk_drew ?_ | refine blk_alloc ?_ _)); exact BK121.out⟩, ⟨by repeat (first | (with_reducible first | exact HB.out | apply below_alloc | apply pw_below_drewN | apply below_drew1 | refine below_set ?_ GE111.out | refine below_set ?_ GE121.out) | exact HB.out)⟩⟩
                  ·
                   rw [if_neg c38] at H
                   have c38b0 : (((rd_T39 y116 x48_2).f0) == 6) = false := beq_eq_false_iff_ne.mpr c38
                   have c38b1 : (((rd_T39 y116 x48_2).f0) != 6) = true := bne_iff_ne.mpr c38
                   (first | rw [c38b0] | (simp only [i64_w, i32_w]; rw [c38b0]) | skip)
                   have H' := Aside0.mk H
                   clear H
                   go_wp2
                   go_meet
                   case rel => exact ⟨_, ((((rd_T39 y116 x48_2).f0) == 7)), (by first | rfl | (simp; done) | (simp [*]; done)), H', ⟨by have := HJ2.out; have := HK2.out; have := HJ28.out; first | omega | exact Nat.le_refl _⟩, ⟨by (with_reducible repeat (first | refine blk_drewN ?_ _ | refine blk_drew ?_ | refine blk_alloc ?_ _)); exact BK111.out⟩, ⟨by (with_reducible repeat (first | refine blk_drewN ?_ _ | refine blk_drew ?_ | refine blk_alloc ?_ _)); exact BK121.out⟩, ⟨by repeat (first | (with_reducible first | exact HB.out | apply below_alloc | apply pw_below_drewN | apply below_drew1 | refine below_set ?_ GE111.out | refine below_set ?_ GE121.out) | exact HB.out)⟩⟩
                 case rest =>
                  clear HC37
                  obtain ⟨kq, x60_36, rfl, HA, HJ36, BK111, BK121, HB⟩ := hcut
                  cases kq with
                  | zero => exact absurd HA.out (by simp [full_Last.j3])
                  | succ kj36 =>
                   have H := HA.out
                   clear HA
                   simp only [full_Last.j3] at H
                   by_cases c39 : x60_36 = true
                   ·
                    subst c39
                    have H1 : (if ((rd_T39 y116 x48_2).f1) = ((rd_T39 l0_3 a1).f1) then (some (-1)) else (full_Last.l0 kj36 a1 ((rd_T39 l0_3 a1).f1) (wrap64 ((ji17) - 1)) x7_2 y116 (y116.length : Int) (wrap64 (x48_2 + 1)))) = some r := by rw [if_pos rfl] at H; exact H
                    clear H
                    have H := H1
                    clear H1
                    by_cases c40 : ((rd_T39 y116 x48_2).f1) = ((rd_T39 l0_3 a1).f1)
                    ·
                     rw [if_pos c40] at H
                     have c40b0 : (((rd_T39 y116 x48_2).f1) == ((rd_T39 l0_3 a1).f1)) = true := beq_iff_eq.mpr c40
                     have c40b1 : (((rd_T39 y116 x48_2).f1) != ((rd_T39 l0_3 a1).f1)) = false := bne_eq_false_iff_eq.mpr c40
                     clear c40
                     obtain rfl := Option.some.inj H
                     have hnb41 := NB121_111.out
                     have hnc41 := NB111_121.out
                     have hcz42_0 : wc.cell? ⟨gb121, 0, none⟩ = some (.int .u8 ((rd_T39 y116 x48_2).f0)) := (blk_cell BK121.out 0).trans rfl
                     have hcz42_1 : wc.cell? ⟨gb121, 1, none⟩ = some (.int .u8 ((rd_T39 y116 x48_2).f1)) := (blk_cell BK121.out 1).trans rfl
                     have hcz42_2 : wc.cell? ⟨gb121, 2, none⟩ = some (.int .u8 ((rd_T39 y116 x48_2).f2)) := (blk_cell BK121.out 2).trans rfl
                     have hcz42_3 : wc.cell? ⟨gb121, 3, none⟩ = some (.int .u8 ((rd_T39 y116 x48_2).f3)) := (blk_cell BK121.out 3).trans rfl
                     have hcz42_4 : wc.cell? ⟨gb121, 4, none⟩ = some (.int .i64 ((rd_T39 y116 x48_2).f4)) := (blk_cell BK121.out 4).trans rfl
                     have hfz42_0 := blk_frozen BK121.out 0
                     have hfz42_1 := blk_frozen BK121.out 1
                     have hfz42_2 := blk_frozen BK121.out 2
                     have hfz42_3 := blk_frozen BK121.out 3
                     have hfz42_4 := blk_frozen BK121.out 4
                     go_wp2
                     go_ret
                     exact ⟨by first | rfl | (simp [errW_none, errW_some] <;> rfl) | (simp only [← hji17, ← hji18]; first | rfl | (simp [errW_none, errW_some] <;> rfl)) | (simp [*, errW_none, errW_some] <;> rfl), by repeat (first | (with_reducible first | exact HB.out | apply below_alloc | apply pw_below_drewN | apply below_drew1 | refine below_set ?_ GE111.out | refine below_set ?_ GE121.out) | exact HB.out)⟩
                    ·
                     rw [if_neg c40] at H
                     have c40b0 : (((rd_T39 y116 x48_2).f1) == ((rd_T39 l0_3 a1).f1)) = false := beq_eq_false_iff_ne.mpr c40
                     have c40b1 : (((rd_T39 y116 x48_2).f1) != ((rd_T39 l0_3 a1).f1)) = true := bne_iff_ne.mpr c40
                     have H' := Aside0.mk H
                     clear H
                     have hnb43 := NB121_111.out
                     have hnc43 := NB111_121.out
                     have hcz44_0 : wc.cell? ⟨gb121, 0, none⟩ = some (.int .u8 ((rd_T39 y116 x48_2).f0)) := (blk_cell BK121.out 0).trans rfl
                     have hcz44_1 : wc.cell? ⟨gb121, 1, none⟩ = some (.int .u8 ((rd_T39 y116 x48_2).f1)) := (blk_cell BK121.out 1).trans rfl
                     have hcz44_2 : wc.cell? ⟨gb121, 2, none⟩ = some (.int .u8 ((rd_T39 y116 x48_2).f2)) := (blk_cell BK121.out 2).trans rfl
                     have hcz44_3 : wc.cell? ⟨gb121, 3, none⟩ = some (.int .u8 ((rd_T39 y116 x48_2).f3)) := (blk_cell BK121.out 3).trans rfl
                     have hcz44_4 : wc.cell? ⟨gb121, 4, none⟩ = some (.int .i64 ((rd_T39 y116 x48_2).f4)) := (blk_cell BK121.out 4).trans rfl
                     have hfz44_0 := blk_frozen BK121.out 0
                     have hfz44_1 := blk_frozen BK121.out 1
                     have hfz44_2 := blk_frozen BK121.out 2
                     have hfz44_3 := blk_frozen BK121.out 3
                     have hfz44_4 := blk_frozen BK121.out 4
                     go_wp2
                     go_roundg kj36
                     case measure => have := HJ2.out; have := HK2.out; have := HJ28.out; have := HJ36.out; omega
                     case rel => exact ⟨(x7_2), (wrap64 (x48_2 + 1)), (by first | rfl | (simp; done) | (simp [*]; done)), (by first | rfl | (simp; done) | (simp [*]; done)), H', ⟨by have := HJ2.out; have := HK2.out; have := HJ28.out; have := HJ36.out; omega⟩, ⟨by (with_reducible repeat (first | refine blk_drewN ?_ _ | refine blk_drew ?_ | refine blk_alloc ?_ _)); exact BK111.out⟩, ⟨by repeat (first | (with_reducible first | exact HB.out | apply below_alloc | apply pw_below_drewN | apply below_drew1 | refine below_set ?_ GE111.out | refine below_set ?_ GE121.out) | exact HB.out)⟩⟩
                   ·
                    replace c39 := Bool.eq_false_iff.mpr c39
                    subst c39
                    have H1 : (if ((rd_T39 y116 x48_2).f0) = 9 then (full_Last.j4 kj36 a1 ((rd_T39 l0_3 a1).f1) (wrap64 ((ji17) - 1)) x7_2 x48_2 y116 (y116.length : Int) x48_2 (((rd_T39 y116 x48_2).f0) == 9) ((rd_T39 y116 x48_2).f0) ((rd_T39 y116 x48_2).f1) ((rd_T39 y116 x48_2).f2) ((rd_T39 y116 x48_2).f3) ((rd_T39 y116 x48_2).f4)) else (full_Last.j4 kj36 a1 ((rd_T39 l0_3 a1).f1) (wrap64 ((ji17) - 1)) x7_2 x48_2 y116 (y116.length : Int) x48_2 (((rd_T39 y116 x48_2).f0) == 11) ((rd_T39 y116 x48_2).f0) ((rd_T39 y116 x48_2).f1) ((rd_T39 y116 x48_2).f2) ((rd_T39 y116 x48_2).f3) ((rd_T39 y116 x48_2).f4))) = some r := by rw [if_neg (show ¬ (false = true) by decide)] at H; exact H
                    clear H
                    have H := H1
                    clear H1
                    have HC45 := Aside0.mk H
                    clear H
                    go_upto_if 67 with (fail)
                    go_cut [67] (fun v67 wc => ∃ (kq : Nat) (x67_44 : Bool), v67 = .bool x67_44 ∧ Aside0 (full_Last.j4 kq a1 ((rd_T39 l0_3 a1).f1) (wrap64 ((ji17) - 1)) x7_2 x48_2 y116 (y116.length : Int) x48_2 x67_44 ((rd_T39 y116 x48_2).f0) ((rd_T39 y116 x48_2).f1) ((rd_T39 y116 x48_2).f2) ((rd_T39 y116 x48_2).f3) ((rd_T39 y116 x48_2).f4) = some r) ∧ Aside0 (kq ≤ kj36) ∧ Aside0 (wc.heap[gb111]? = some (.cells #[(.slice A0_0 l0_0.length c0_0), .string a0_1, .string a0_2, (.slice (some ad113) l0_3.length c0_3)] 25 (0, 0))) ∧ Aside0 (wc.heap[gb121]? = some (.cells #[.int .u8 ((rd_T39 y116 x48_2).f0), .int .u8 ((rd_T39 y116 x48_2).f1), .int .u8 ((rd_T39 y116 x48_2).f2), .int .u8 ((rd_T39 y116 x48_2).f3), .int .i64 ((rd_T39 y116 x48_2).f4)] 39 (0, 0))) ∧ Aside0 (Below w.heap.size w wc))
                    case first =>
                     have H := HC45.out
                     clear HC45
                     by_cases c46 : ((rd_T39 y116 x48_2).f0) = 9
                     ·
                      rw [if_pos c46] at H
                      have c46b0 : (((rd_T39 y116 x48_2).f0) == 9) = true := beq_iff_eq.mpr c46
                      have c46b1 : (((rd_T39 y116 x48_2).f0) != 9) = false := bne_eq_false_iff_eq.mpr c46
                      clear c46
                      (first | rw [c46b0] | (simp only [i64_w, i32_w]; rw [c46b0]) | skip)
                      have H' := Aside0.mk H
                      clear H
                      go_wp2
                      go_meet
                      case rel => exact ⟨_, ((((rd_T39 y116 x48_2).f0) == 9)), (by first | rfl | (simp; done) | (simp [*]; done)), H', ⟨by have := HJ2.out; have := HK2.out; have := HJ28.out; have := HJ36.out; first | omega | exact Nat.le_refl _⟩, ⟨by (with_reducible repeat (first | refine blk_drewN ?_ _ | refine blk_drew ?_ | refine blk_alloc ?_ _)); exact BK111.out⟩, ⟨by (with_reducible repeat (first | refine blk_drewN ?_ _ | refine blk_drew ?_ | refine blk_alloc ?_ _)); exact BK121.out⟩, ⟨by repeat (first | (with_reducible first | exact HB.out | apply below_alloc | apply pw_below_drewN | apply below_drew1 | refine below_set ?_ GE111.out | refine below_set ?_ GE121.out) | exact HB.out)⟩⟩
                     ·
                      rw [if_neg c46] at H
                      have c46b0 : (((rd_T39 y116 x48_2).f0) == 9) = false := beq_eq_false_iff_ne.mpr c46
                      have c46b1 : (((rd_T39 y116 x48_2).f0) != 9) = true := bne_iff_ne.mpr c46
                      (first | rw [c46b0] | (simp only [i64_w, i32_w]; rw [c46b0]) | skip)
                      have H' := Aside0.mk H
                      clear H
                      go_wp2
                      go_meet
                      case rel => exact ⟨_, ((((rd_T39 y116 x48_2).f0) == 11)), (by first | rfl | (simp; done) | (simp [*]; done)), H', ⟨by have := HJ2.out; have := HK2.out; have := HJ28.out; have := HJ36.out; first | omega | exact Nat.le_refl _⟩, ⟨by (with_reducible repeat (first | refine blk_drewN ?_ _ | refine blk_drew ?_ | refine blk_alloc ?_ _)); exact BK111.out⟩, ⟨by (with_reducible repeat (first | refine blk_drewN ?_ _ | refine blk_drew ?_ | refine blk_alloc ?_ _)); exact BK121.out⟩, ⟨by repeat (first | (with_reducible first | exact HB.out | apply below_alloc | apply pw_below_drewN | apply below_drew1 | refine below_set ?_ GE111.out | refine below_set ?_ GE121.out) | exact HB.out)⟩⟩
                    case rest =>
                     clear HC45
                     obtain ⟨kq, x67_44, rfl, HA, HJ44, BK111, BK121, HB⟩ := hcut
                     cases kq with
                     | zero => exact absurd HA.out (by simp [full_Last.j4])
                     | succ kj44 =>
                      have H := HA.out
                      clear HA
                      simp only [full_Last.j4] at H
                      by_cases c47 : x67_44 = true
                      ·
                       subst c47
                       have H1 : (if ((rd_T39 y116 x48_2).f1) = ((rd_T39 l0_3 a1).f1) then (if ((rd_T39 y116 x48_2).f4) < 0 then (full_Last.j5 kj44 a1 ((rd_T39 l0_3 a1).f1) (wrap64 ((ji17) - 1)) x7_2 x48_2 y116 (y116.length : Int) x48_2 true ((rd_T39 y116 x48_2).f0) ((rd_T39 y116 x48_2).f1) ((rd_T39 y116 x48_2).f2) ((rd_T39 y116 x48_2).f3) ((rd_T39 y116 x48_2).f4)) else (full_Last.j5 kj44 a1 ((rd_T39 l0_3 a1).f1) (wrap64 ((ji17) - 1)) x7_2 x48_2 y116 (y116.length : Int) x48_2 (decide (((rd_T39 y116 x48_2).f4) ≥ 6)) ((rd_T39 y116 x48_2).f0) ((rd_T39 y116 x48_2).f1) ((rd_T39 y116 x48_2).f2) ((rd_T39 y116 x48_2).f3) ((rd_T39 y116 x48_2).f4))) else (full_Last.j5 kj44 a1 ((rd_T39 l0_3 a1).f1) (wrap64 ((ji17) - 1)) x7_2 x48_2 y116 (y116.length : Int) x48_2 true ((rd_T39 y116 x48_2).f0) ((rd_T39 y116 x48_2).f1) ((rd_T39 y116 x48_2).f2) ((rd_T39 y116 x48_2).f3) ((rd_T39 y116 x48_2).f4))) = some r := by rw [if_pos rfl] at H; exact H
                       clear H
                       have H := H1
                       clear H1
                       have HC48 := Aside0.mk H
                       clear H
                       go_upto_region 21 with (fail)
                       go_cut [83] (fun v83 wc => ∃ (kq : Nat) (x83_47 : Bool), v83 = .bool x83_47 ∧ Aside0 (full_Last.j5 kq a1 ((rd_T39 l0_3 a1).f1) (wrap64 ((ji17) - 1)) x7_2 x48_2 y116 (y116.length : Int) x48_2 x83_47 ((rd_T39 y116 x48_2).f0) ((rd_T39 y116 x48_2).f1) ((rd_T39 y116 x48_2).f2) ((rd_T39 y116 x48_2).f3) ((rd_T39 y116 x48_2).f4) = some r) ∧ Aside0 (kq ≤ kj44) ∧ Aside0 (wc.heap[gb111]? = some (.cells #[(.slice A0_0 l0_0.length c0_0), .string a0_1, .string a0_2, (.slice (some ad113) l0_3.length c0_3)] 25 (0, 0))) ∧ Aside0 (wc.heap[gb121]? = some (.cells #[.int .u8 ((rd_T39 y116 x48_2).f0), .int .u8 ((rd_T39 y116 x48_2).f1), .int .u8 ((rd_T39 y116 x48_2).f2), .int .u8 ((rd_T39 y116 x48_2).f3), .int .i64 ((rd_T39 y116 x48_2).f4)] 39 (0, 0))) ∧ Aside0 (Below w.heap.size w wc))
                       case first =>
                        have H := HC48.out
                        clear HC48
                        by_cases c49 : ((rd_T39 y116 x48_2).f1) = ((rd_T39 l0_3 a1).f1)
                        ·
                         rw [if_pos c49] at H
                         have c49b0 : (((rd_T39 y116 x48_2).f1) == ((rd_T39 l0_3 a1).f1)) = true := beq_iff_eq.mpr c49
                         have c49b1 : (((rd_T39 y116 x48_2).f1) != ((rd_T39 l0_3 a1).f1)) = false := bne_eq_false_iff_eq.mpr c49
                         clear c49
                         (first | rw [c49b0] | (simp only [i64_w, i32_w]; rw [c49b0]) | skip)
                         by_cases c50 : ((rd_T39 y116 x48_2).f4) < 0
                         ·
                          rw [if_pos c50] at H
                          have c50b0 : decide (((rd_T39 y116 x48_2).f4) < 0) = true := decide_eq_true c50
                          clear c50
                          have H' := Aside0.mk H
                          clear H
                          have hnb51 := NB121_111.out
                          have hnc51 := NB111_121.out
                          have hcz52_0 : wc.cell? ⟨gb121, 0, none⟩ = some (.int .u8 ((rd_T39 y116 x48_2).f0)) := (blk_cell BK121.out 0).trans rfl
                          have hcz52_1 : wc.cell? ⟨gb121, 1, none⟩ = some (.int .u8 ((rd_T39 y116 x48_2).f1)) := (blk_cell BK121.out 1).trans rfl
                          have hcz52_2 : wc.cell? ⟨gb121, 2, none⟩ = some (.int .u8 ((rd_T39 y116 x48_2).f2)) := (blk_cell BK121.out 2).trans rfl
                          have hcz52_3 : wc.cell? ⟨gb121, 3, none⟩ = some (.int .u8 ((rd_T39 y116 x48_2).f3)) := (blk_cell BK121.out 3).trans rfl
                          have hcz52_4 : wc.cell? ⟨gb121, 4, none⟩ = some (.int .i64 ((rd_T39 y116 x48_2).f4)) := (blk_cell BK121.out 4).trans rfl
                          have hfz52_0 := blk_frozen BK121.out 0
                          have hfz52_1 := blk_frozen BK121.out 1
                          have hfz52_2 := blk_frozen BK121.out 2
                          have hfz52_3 := blk_frozen BK121.out 3
                          have hfz52_4 := blk_frozen BK121.out 4
                          go_wp2
                          go_meet
                          case rel => exact ⟨_, (true), (by first | rfl | (simp; done) | (simp [*]; done)), H', ⟨by have := HJ2.out; have := HK2.out; have := HJ28.out; have := HJ36.out; have := HJ44.out; first | omega | exact Nat.le_refl _⟩, ⟨by (with_reducible repeat (first | refine blk_drewN ?_ _ | refine blk_drew ?_ | refine blk_alloc ?_ _)); exact BK111.out⟩, ⟨by (with_reducible repeat (first | refine blk_drewN ?_ _ | refine blk_drew ?_ | refine blk_alloc ?_ _)); exact BK121.out⟩, ⟨by repeat (first | (with_reducible first | exact HB.out | apply below_alloc | apply pw_below_drewN | apply below_drew1 | refine below_set ?_ GE111.out | refine below_set ?_ GE121.out) | exact HB.out)⟩⟩
                         ·
                          rw [if_neg c50] at H
                          have c50b0 : decide (((rd_T39 y116 x48_2).f4) < 0) = false := decide_eq_false c50
                          clear c50
                          have H' := Aside0.mk H
                          clear H
                          have hnb53 := NB121_111.out
                          have hnc53 := NB111_121.out
                          have hcz54_0 : wc.cell? ⟨gb121, 0, none⟩ = some (.int .u8 ((rd_T39 y116 x48_2).f0)) := (blk_cell BK121.out 0).trans rfl
                          have hcz54_1 : wc.cell? ⟨gb121, 1, none⟩ = some (.int .u8 ((rd_T39 y116 x48_2).f1)) := (blk_cell BK121.out 1).trans rfl
                          have hcz54_2 : wc.cell? ⟨gb121, 2, none⟩ = some (.int .u8 ((rd_T39 y116 x48_2).f2)) := (blk_cell BK121.out 2).trans rfl
                          have hcz54_3 : wc.cell? ⟨gb121, 3, none⟩ = some (.int .u8 ((rd_T39 y116 x48_2).f3)) := (blk_cell BK121.out 3).trans rfl
                          have hcz54_4 : wc.cell? ⟨gb121, 4, none⟩ = some (.int .i64 ((rd_T39 y116 x48_2).f4)) := (blk_cell BK121.out 4).trans rfl
                          have hfz54_0 := blk_frozen BK121.out 0
                          have hfz54_1 := blk_frozen BK121.out 1
                          have hfz54_2 := blk_frozen BK121.out 2
                          have hfz54_3 := blk_frozen BK121.out 3
                          have hfz54_4 := blk_frozen BK121.out 4
                          go_wp2
                          go_meet
                          case rel => exact ⟨_, (decide (((rd_T39 y116 x48_2).f4) ≥ 6)), (by first | rfl | (simp; done) | (simp [*]; done)), H', ⟨by have := HJ2.out; have := HK2.out; have := HJ28.out; have := HJ36.out; have := HJ44.out; first | omega | exact Nat.le_refl _⟩, ⟨by (with_reducible repeat (first | refine blk_drewN ?_ _ | refine blk_drew ?_ | refine blk_alloc ?_ _)); exact BK111.out⟩, ⟨by (with_reducible repeat (first | refine blk_drewN ?_ _ | refine blk_drew ?_ | refine blk_alloc ?_ _)); exact BK121.out⟩, ⟨by repeat (first | (with_reducible first | exact HB.out | apply below_alloc | apply pw_below_drewN | apply below_drew1 | refine below_set ?_ GE111.out | refine below_set ?_ GE121.out) | exact HB.out)⟩⟩
                        ·
                         rw [if_neg c49] at H
                         have c49b0 : (((rd_T39 y116 x48_2).f1) == ((rd_T39 l0_3 a1).f1)) = false := beq_eq_false_iff_ne.mpr c49
                         have c49b1 : (((rd_T39 y116 x48_2).f1) != ((rd_T39 l0_3 a1).f1)) = true := bne_iff_ne.mpr c49
                         (first | rw [c49b0] | (simp only [i64_w, i32_w]; rw [c49b0]) | skip)
                         have H' := Aside0.mk H
                         clear H
                         have hnb55 := NB121_111.out
                         have hnc55 := NB111_121.out
                         have hcz56_0 : wc.cell? ⟨gb121, 0, none⟩ = some (.int .u8 ((rd_T39 y116 x48_2).f0)) := (blk_cell BK121.out 0).trans rfl
                         have hcz56_1 : wc.cell? ⟨gb121, 1, none⟩ = some (.int .u8 ((rd_T39 y116 x48_2).f1)) := (blk_cell BK121.out 1).trans rfl
                         have hcz56_2 : wc.cell? ⟨gb121, 2, none⟩ = some (.int .u8 ((rd_T39 y116 x48_2).f2)) := (blk_cell BK121.out 2).trans rfl
                         have hcz56_3 : wc.cell? ⟨gb121, 3, none⟩ = some (.int .u8 ((rd_T39 y116 x48_2).f3)) := (blk_cell BK121.out 3).trans rfl
                         have hcz56_4 : wc.cell? ⟨gb121, 4, none⟩ = some (.int .i64 ((rd_T39 y116 x48_2).f4)) := (blk_cell BK121.out 4).trans rfl
                         have hfz56_0 := blk_frozen BK121.out 0
                         have hfz56_1 := blk_frozen BK121.out 1
                         have hfz56_2 := blk_frozen BK121.out 2
                         have hfz56_3 := blk_frozen BK121.out 3
                         have hfz56_4 := blk_frozen BK121.out 4
                         go_wp2
                         go_meet
                         case rel => exact ⟨_, (true), (by first | rfl | (simp; done) | (simp [*]; done)), H', ⟨by have := HJ2.out; have := HK2.out; have := HJ28.out; have := HJ36.out; have := HJ44.out; first | omega | exact Nat.le_refl _⟩, ⟨by (with_reducible repeat (first | refine blk_drewN ?_ _ | refine blk_drew ?_ | refine blk_alloc ?_ _)); exact BK111.out⟩, ⟨by (with_reducible repeat (first | refine blk_drewN ?_ _ | refine blk_drew ?_ | refine blk_alloc ?_ _)); exact BK121.out⟩, ⟨by repeat (first | (with_reducible first | exact HB.out | apply below_alloc | apply pw_below_drewN | apply below_drew1 | refine below_set ?_ GE111.out | refine below_set ?_ GE121.out) | exact HB.out)⟩⟩
                       case rest =>
                        clear HC48
                        obtain ⟨kq, x83_47, rfl, HA, HJ47, BK111, BK121, HB⟩ := hcut
                        cases kq with
                        | zero => exact absurd HA.out (by simp [full_Last.j5])
                        | succ kj47 =>
                         have H := HA.out
                         clear HA
                         simp only [full_Last.j5] at H
                         by_cases c57 : x83_47 = true
                         ·
                          subst c57
                          have H1 : (some (-1)) = some r := by rw [if_pos rfl] at H; exact H
                          clear H
                          have H := H1
                          clear H1
                          obtain rfl := Option.some.inj H
                          go_wp2
                          go_ret
                          exact ⟨by first | rfl | (simp [errW_none, errW_some] <;> rfl) | (simp only [← hji17, ← hji18]; first | rfl | (simp [errW_none, errW_some] <;> rfl)) | (simp [*, errW_none, errW_some] <;> rfl), by repeat (first | (with_reducible first | exact HB.out | apply below_alloc | apply pw_below_drewN | apply below_drew1 | refine below_set ?_ GE111.out | refine below_set ?_ GE121.out) | exact HB.out)⟩
                         ·
                          replace c57 := Bool.eq_false_iff.mpr c57
                          subst c57
                          have H1 : (if 0 ≤ ((rd_T39 y116 x48_2).f4) then (if (Go.bits .or .i64 x7_2 (shl .i64 1 ((rd_T39 y116 x48_2).f4))) = (wrap64 ((ji17) - 1)) then (some (wrap64 ((wrap64 (a1 + 1)) + x48_2))) else (full_Last.l0 kj47 a1 ((rd_T39 l0_3 a1).f1) (wrap64 ((ji17) - 1)) (Go.bits .or .i64 x7_2 (shl .i64 1 ((rd_T39 y116 x48_2).f4))) y116 (y116.length : Int) (wrap64 (x48_2 + 1)))) else (none)) = some r := by rw [if_neg (show ¬ (false = true) by decide)] at H; exact H
                          clear H
                          have H := H1
                          clear H1
                          by_cases c58 : 0 ≤ ((rd_T39 y116 x48_2).f4)
                          ·
                           rw [if_pos c58] at H
                           have c58b0 := eq_true c58
                           have c58b1 : decide (0 ≤ ((rd_T39 y116 x48_2).f4)) = true := decide_eq_true c58
                           clear c58
                           obtain ⟨ji59, hji59⟩ : ∃ j_ : Int, (shl .i64 1 ((rd_T39 y116 x48_2).f4)) = j_ := ⟨_, rfl⟩
                           replace H : (if (Go.bits .or .i64 x7_2 (ji59)) = (wrap64 ((ji17) - 1)) then (some (wrap64 ((wrap64 (a1 + 1)) + x48_2))) else (full_Last.l0 kj47 a1 ((rd_T39 l0_3 a1).f1) (wrap64 ((ji17) - 1)) (Go.bits .or .i64 x7_2 (ji59)) y116 (y116.length : Int) (wrap64 (x48_2 + 1)))) = some r := by first | (rw [hji59] at H; exact H) | (simp only [hji59] at H ⊢; exact H)
                           have hji59_ : (IntKind.i64.wrap (1 * 2 ^ min ((rd_T39 y116 x48_2).f4).toNat 64)) = ji59 := hji59
                           have hji59z : ((rd_T39 y116 x48_2).f4) ≤ 64 → (IntKind.i64.wrap (1 * 2 ^ ((rd_T39 y116 x48_2).f4).toNat)) = ji59 := shl_small hji59
                           have hji59u : (IntKind.i64.wrap (2 ^ min ((rd_T39 y116 x48_2).f4).toNat 64)) = ji59 := by have h_ := hji59_; rw [Int.one_mul] at h_; exact h_
                           have hji59v : ((rd_T39 y116 x48_2).f4) ≤ 64 → (IntKind.i64.wrap (2 ^ ((rd_T39 y116 x48_2).f4).toNat)) = ji59 := fun hle_ => by have h_ := hji59z hle_; rw [Int.one_mul] at h_; exact h_
                           have hji59y : (wrap64 (1 * 2 ^ min ((rd_T39 y116 x48_2).f4).toNat 64)) = ji59 := (i64_w _).symm.trans hji59_
                           have hji59x : ((rd_T39 y116 x48_2).f4) ≤ 64 → (wrap64 (1 * 2 ^ ((rd_T39 y116 x48_2).f4).toNat)) = ji59 := fun h_ => (i64_w _).symm.trans (hji59z h_)
                           by_cases c60 : (Go.bits .or .i64 x7_2 (ji59)) = (wrap64 ((ji17) - 1))
                           ·
                            rw [if_pos c60] at H
                            have c60b0 : ((Go.bits .or .i64 x7_2 (ji59)) == (wrap64 ((ji17) - 1))) = true := beq_iff_eq.mpr c60
                            have c60b1 : ((Go.bits .or .i64 x7_2 (ji59)) != (wrap64 ((ji17) - 1))) = false := bne_eq_false_iff_eq.mpr c60
                            clear c60
                            obtain rfl := Option.some.inj H
                            have hnb61 := NB121_111.out
                            have hnc61 := NB111_121.out
                            have hcz62_0 : wc.cell? ⟨gb121, 0, none⟩ = some (.int .u8 ((rd_T39 y116 x48_2).f0)) := (blk_cell BK121.out 0).trans rfl
                            have hcz62_1 : wc.cell? ⟨gb121, 1, none⟩ = some (.int .u8 ((rd_T39 y116 x48_2).f1)) := (blk_cell BK121.out 1).trans rfl
                            have hcz62_2 : wc.cell? ⟨gb121, 2, none⟩ = some (.int .u8 ((rd_T39 y116 x48_2).f2)) := (blk_cell BK121.out 2).trans rfl
                            have hcz62_3 : wc.cell? ⟨gb121, 3, none⟩ = some (.int .u8 ((rd_T39 y116 x48_2).f3)) := (blk_cell BK121.out 3).trans rfl
                            have hcz62_4 : wc.cell? ⟨gb121, 4, none⟩ = some (.int .i64 ((rd_T39 y116 x48_2).f4)) := (blk_cell BK121.out 4).trans rfl
                            have hfz62_0 := blk_frozen BK121.out 0
                            have hfz62_1 := blk_frozen BK121.out 1
                            have hfz62_2 := blk_frozen BK121.out 2
                            have hfz62_3 := blk_frozen BK121.out 3
                            have hfz62_4 := blk_frozen BK121.out 4
                            go_wp2
                            go_ret
                            exact ⟨by first | rfl | (simp [errW_none, errW_some] <;> rfl) | (simp only [← hji17, ← hji18, ← hji59]; first | rfl | (simp [errW_none, errW_some] <;> rfl)) | (simp [*, errW_none, errW_some] <;> rfl), by repeat (first | (with_reducible first | exact HB.out | apply below_alloc | apply pw_below_drewN | apply below_drew1 | refine below_set ?_ GE111.out | refine below_set ?_ GE121.out) | exact HB.out)⟩
                           ·
                            rw [if_neg c60] at H
                            have c60b0 : ((Go.bits .or .i64 x7_2 (ji59)) == (wrap64 ((ji17) - 1))) = false := beq_eq_false_iff_ne.mpr c60
                            have c60b1 : ((Go.bits .or .i64 x7_2 (ji59)) != (wrap64 ((ji17) - 1))) = true := bne_iff_ne.mpr c60
                            have H' := Aside0.mk H
                            clear H
                            have hnb63 := NB121_111.out
                            have hnc63 := NB111_121.out
                            have hcz64_0 : wc.cell? ⟨gb121, 0, none⟩ = some (.int .u8 ((rd_T39 y116 x48_2).f0)) := (blk_cell BK121.out 0).trans rfl
                            have hcz64_1 : wc.cell? ⟨gb121, 1, none⟩ = some (.int .u8 ((rd_T39 y116 x48_2).f1)) := (blk_cell BK121.out 1).trans rfl
                            have hcz64_2 : wc.cell? ⟨gb121, 2, none⟩ = some (.int .u8 ((rd_T39 y116 x48_2).f2)) := (blk_cell BK121.out 2).trans rfl
                            have hcz64_3 : wc.cell? ⟨gb121, 3, none⟩ = some (.int .u8 ((rd_T39 y116 x48_2).f3)) := (blk_cell BK121.out 3).trans rfl
                            have hcz64_4 : wc.cell? ⟨gb121, 4, none⟩ = some (.int .i64 ((rd_T39 y116 x48_2).f4)) := (blk_cell BK121.out 4).trans rfl
                            have hfz64_0 := blk_frozen BK121.out 0
                            have hfz64_1 := blk_frozen BK121.out 1
                            have hfz64_2 := blk_frozen BK121.out 2
                            have hfz64_3 := blk_frozen BK121.out 3
                            have hfz64_4 := blk_frozen BK121.out 4
                            go_wp2
                            go_roundg kj47
                            case measure => have := HJ2.out; have := HK2.out; have := HJ28.out; have := HJ36.out; have := HJ44.out; have := HJ47.out; omega
                            case rel => exact ⟨(Go.bits .or .i64 x7_2 (ji59)), (wrap64 (x48_2 + 1)), (by first | rfl | (simp; done) | (simp only [← hji59] <;> (first | rfl | simp)) | (simp [*]; done)), (by first | rfl | (simp; done) | (simp [*]; done)), H', ⟨by have := HJ2.out; have := HK2.out; have := HJ28.out; have := HJ36.out; have := HJ44.out; have := HJ47.out; omega⟩, ⟨by (with_reducible repeat (first | refine blk_drewN ?_ _ | refine blk_drew ?_ | refine blk_alloc ?_ _)); exact BK111.out⟩, ⟨by repeat (first | (with_reducible first | exact HB.out | apply below_alloc | apply pw_below_drewN | apply below_drew1 | refine below_set ?_ GE111.out | refine below_set ?_ GE121.out) | exact HB.out)⟩⟩
                          ·
                           rw [if_neg c58] at H
                           exact absurd H (by simp)
                      ·
                       replace c47 := Bool.eq_false_iff.mpr c47
                       subst c47
                       have H1 : (some (-1)) = some r := by rw [if_neg (show ¬ (false = true) by decide)] at H; exact H
                       clear H
                       have H := H1
                       clear H1
                       obtain rfl := Option.some.inj H
                       go_wp2
                       go_ret
                       exact ⟨by first | rfl | (simp [errW_none, errW_some] <;> rfl) | (simp only [← hji17, ← hji18]; first | rfl | (simp [errW_none, errW_some] <;> rfl)) | (simp [*, errW_none, errW_some] <;> rfl), by repeat (first | (with_reducible first | exact HB.out | apply below_alloc | apply pw_below_drewN | apply below_drew1 | refine below_set ?_ GE111.out | refine below_set ?_ GE121.out) | exact HB.out)⟩
             ·
              rw [if_neg c28] at H
              exact absurd H (by simp)
            ·
             rw [if_neg c27] at H
             exact absurd H (by simp)
           ·
            rw [if_neg c26] at H
            have c26b0 : decide (x48_2 < (y116.length : Int)) = false := decide_eq_false c26
            clear c26
            obtain rfl := Option.some.inj H
            go_wp2
            go_ret
            exact ⟨by first | rfl | (simp [errW_none, errW_some] <;> rfl) | (simp only [← hji17, ← hji18]; first | rfl | (simp [errW_none, errW_some] <;> rfl)) | (simp [*, errW_none, errW_some] <;> rfl), by repeat (first | (with_reducible first | exact HB.out | apply below_alloc | apply pw_below_drewN | apply below_drew1 | refine below_set ?_ GE111.out) | exact HB.out)⟩
        ·
         rw [if_neg c20] at H
         exact absurd H (by simp)
       ·
        rw [if_neg c19] at H
        exact absurd H (by simp)
      ·
       rw [if_neg c16] at H
       exact absurd H (by simp)
     ·
      rw [if_neg c13] at H
      exact absurd H (by simp)
    ·
     rw [if_neg c12] at H
     exact absurd H (by simp)

end Go.Proofs.YtbmhmlgfpijmhaaDoor.P
