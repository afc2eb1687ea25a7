/- FUNCTIONS OF THE PROGRAM AS LEAN FUNCTIONS, AND THAT THE PROGRAM's CALLS ANSWER AS THEY DO: written by a program of this session. -/
import Derived.Test.YtbmhmlgfpijmhaaDoorPx0
import Derived.Test.YtbmhmlgfpijmhaaDoorPx5
import Derived.Test.YtbmhmlgfpijmhaaDoorPx6
namespace Go.Proofs.YtbmhmlgfpijmhaaDoor.P
open Go.RowKit Go.Proofs.YtbmhmlgfpijmhaaDoorW.PrintWords Go.Proofs.YtbmhmlgfpijmhaaDoorW.PrintLast Go.Proofs.YtbmhmlgfpijmhaaDoorW.PrintMore
attribute [local go_sem] max2_int min2_int max_two min_two max_three min_three max_four min_four   -- for this text's walks alone
set_option linter.unusedVariables false
set_option linter.unusedSimpArgs false

/-! ### lockstitchref04_read: function 37 -/
mutual
def lockstitchref04_read.l0 : Nat → List ByteArray → Int → Option (Int × Int × Int × Int × Int × Bool)
 | 0, _, _ => none
 | k + 1, x0, x4 => if x4 ≤ 15 then ((lockstitchref04_shape.f x4).bind fun bt148 => (if 0 < (x0.length : Int) then (if (rdOf ByteArray.empty x0 0).toList = bt148.1.toList then (lockstitchref04_read.j1 k x0 x4 bt148.2 ((x0.length : Int) != (wrap64 ((bt148.2.size : Int) + 1)))) else (lockstitchref04_read.j1 k x0 x4 bt148.2 true)) else (none))) else (some (0, 0, 0, 0, 0, false))
def lockstitchref04_read.j1 : Nat → List ByteArray → Int → ByteArray → Bool → Option (Int × Int × Int × Int × Int × Bool)
 | 0, _, _, _, _ => none
 | k + 1, x0, x4, x6, x34 => if x34 = true then (lockstitchref04_read.l0 k x0 ((x4 + 1) % 256)) else (lockstitchref04_read.l1 k x0 x6 0 x4 0 0 0 0)
def lockstitchref04_read.l1 : Nat → List ByteArray → ByteArray → Int → Int → Int → Int → Int → Int → Option (Int × Int × Int × Int × Int × Bool)
 | 0, _, _, _, _, _, _, _, _ => none
 | k + 1, x0, x6, x8, x152000, x152001, x152002, x152003, x152004 => if x8 < (x6.size : Int) then (if 0 ≤ (wrap64 (x8 + 1)) then (if (wrap64 (x8 + 1)) < (x0.length : Int) then ((lockstitchref02_Number.f k (rdOf ByteArray.empty x0 (wrap64 (x8 + 1)))).bind fun bt153 => (if 0 ≤ x8 then ((lockstitchref04_with.f k x152000 x152001 x152002 x152003 x152004 (bt x6 x8) bt153.1).bind fun bt155 => (if bt153.2 = 0 then (if bt155.2.2.2.2.2 = true then (lockstitchref04_read.l1 k x0 x6 (wrap64 (x8 + 1)) bt155.1 bt155.2.1 bt155.2.2.1 bt155.2.2.2.1 bt155.2.2.2.2.1) else (some (0, 0, 0, 0, 0, false))) else (some (0, 0, 0, 0, 0, false)))) else (none))) else (none)) else (none)) else (some (x152000, x152001, x152002, x152003, x152004, true))
end
def lockstitchref04_read.f (k : Nat) (l0 : List ByteArray) : Option (Int × Int × Int × Int × Int × Bool) := lockstitchref04_read.l0 k l0 1
theorem lockstitchref04_read.mono_l : ∀ k, (∀ y0 y1, LeO (lockstitchref04_read.l0 k y0 y1) (lockstitchref04_read.l0 (k + 1) y0 y1)) ∧ (∀ y0 y1 y2 y3, LeO (lockstitchref04_read.j1 k y0 y1 y2 y3) (lockstitchref04_read.j1 (k + 1) y0 y1 y2 y3)) ∧ (∀ y0 y1 y2 y3 y4 y5 y6 y7, LeO (lockstitchref04_read.l1 k y0 y1 y2 y3 y4 y5 y6 y7) (lockstitchref04_read.l1 (k + 1) y0 y1 y2 y3 y4 y5 y6 y7))
 | 0 => ⟨fun _ _ r h => by simp [lockstitchref04_read.l0] at h, fun _ _ _ _ r h => by simp [lockstitchref04_read.j1] at h, fun _ _ _ _ _ _ _ _ r h => by simp [lockstitchref04_read.l1] at h⟩
 | k + 1 => by
  obtain ⟨ih0, ih1, ih2⟩ := lockstitchref04_read.mono_l k
  refine ⟨?_, ?_, ?_⟩
  ·
   intro y0 y1
   unfold lockstitchref04_read.l0
   repeat' with_reducible first | apply ih0 | apply ih1 | apply ih2 | apply lockstitchref02_Number.mono | apply lockstitchref04_with.mono | exact LeO.refl _ | exact LeO.none _ | refine LeO.ite ?_ ?_ | refine LeO.bind ?_ (fun _ => ?_)
  ·
   intro y0 y1 y2 y3
   unfold lockstitchref04_read.j1
   repeat' with_reducible first | apply ih0 | apply ih1 | apply ih2 | apply lockstitchref02_Number.mono | apply lockstitchref04_with.mono | exact LeO.refl _ | exact LeO.none _ | refine LeO.ite ?_ ?_ | refine LeO.bind ?_ (fun _ => ?_)
  ·
   intro y0 y1 y2 y3 y4 y5 y6 y7
   unfold lockstitchref04_read.l1
   repeat' with_reducible first | apply ih0 | apply ih1 | apply ih2 | apply lockstitchref02_Number.mono | apply lockstitchref04_with.mono | exact LeO.refl _ | exact LeO.none _ | refine LeO.ite ?_ ?_ | refine LeO.bind ?_ (fun _ => ?_)
theorem lockstitchref04_read.mono : ∀ a0 k, LeO (lockstitchref04_read.f k a0) (lockstitchref04_read.f (k + 1) a0) := by
 intro a0 k
 obtain ⟨ih0, ih1, ih2⟩ := lockstitchref04_read.mono_l k
 unfold lockstitchref04_read.f
 repeat' with_reducible first | apply ih0 | apply ih1 | apply ih2 | apply lockstitchref02_Number.mono | apply lockstitchref04_with.mono | exact LeO.refl _ | exact LeO.none _ | refine LeO.ite ?_ ?_ | refine LeO.bind ?_ (fun _ => ?_)
def lockstitchref04_read.T11 : Bool × List (List Nat × List Nat) := (true, [([], []), ([], []), ([], []), ([1, 2], [1, 2]), ([], []), ([0, 3, 4], [0, 3, 4]), ([5], [5]), ([6], [6]), ([6], [6]), ([], []), ([9, 7, 5, 0, 1, 2, 3, 4, 5, 6, 7, 9], [7, 9]), ([8, 10, 0, 1, 2, 3, 4, 5, 6, 7, 8, 9, 10], [8])])
def lockstitchref04_read.B11 : List Nat := [0, 0, 0, 6, 0, 31, 63, 127, 127, 0, 767, 2047]
theorem lockstitchref04_read.tab11 : rtab .any (opsOf Tryd.f37 11) = lockstitchref04_read.T11 := by kernel_rfl
theorem lockstitchref04_read.bits11 : waitsOk lockstitchref04_read.T11.2 lockstitchref04_read.B11 = true := by kernel_rfl
set_option maxHeartbeats 8000000 in
set_option maxRecDepth 100000 in
theorem lockstitchref04_read.calls (k : Nat) (A0 : Option Addr) (c0 : Nat) (l0 : List ByteArray) (r1 : Int) (r2 : Int) (r3 : Int) (r4 : Int) (r5 : Int) (r6 : Bool) (w : World) (hr0 : Kd.C Kd.string w A0 l0.length l0) (hc0 : l0.length ≤ c0) (h : lockstitchref04_read.f k l0 = some (r1, r2, r3, r4, r5, r6)) :
  Calls Tryd.prog 37 #[.slice A0 l0.length c0] w fun e w' => e = .returned (.tuple #[.agg #[.int .u8 r1, .int .u8 r2, .int .u8 r3, .int .u8 r4, .int .i64 r5], .bool r6]) ∧ Below w.heap.size w w' := by
 have hu39 := Tryd.underlying39
 have HR0 := Aside0.mk hr0
 have HC0 := Aside0.mk hc0
 clear hr0 hc0
 have HB := Aside0.mk (Below.refl w.heap.size w)
 have H : (lockstitchref04_read.l0 k l0 1) = some (r1, r2, r3, r4, r5, r6) := h
 clear h
 have H' := Aside0.mk H
 clear H
 go_enter Tryd.func37, Tryd.ntmps37
 go_wp2_with (first | ((with_reducible refine gate_dst (N := 2) rfl ?_); (try (refine gate_guard (by rfl) ?_; dsimp only)); refine box_event ?hg (N := 2) ?hd (cs := #[.int .u8 0, .int .u8 0, .int .u8 0, .int .u8 0, .int .i64 0]) (t := 39) ?hr ?_; (case hd => rfl); (case hg => rfl); (case hr => first | (go_simp; done) | (go_simp; rfl)); intro gb147 hg w2 hbox hb; have n0_ := Aside0.mk (below_step (by repeat (first | (with_reducible first | exact HB.out | apply below_alloc | apply pw_below_drewN | apply below_drew1) | exact HB.out)) hb); have n1_ := Aside0.mk (hbox); have n2_ := Aside0.mk ((by rw [hg]; exact (below_size (by repeat (first | (with_reducible first | exact HB.out | apply below_alloc | apply pw_below_drewN | apply below_drew1) | exact HB.out))) : w.heap.size ≤ gb147)); have n3_ := n2_; clear HB; have HB := n0_; have BK147 := n1_; have GW147 := n2_; have GE147 := n3_; clear n0_ n1_ n2_ n3_; clear hb hbox hg))
 go_loopg [4] k (fun kq v4 w' => ∃ (x4_1 : Int) (x148000_1 : Int) (x148001_1 : Int) (x148002_1 : Int) (x148003_1 : Int) (x148004_1 : Int), v4 = .int .u8 x4_1 ∧ Aside0 (lockstitchref04_read.l0 kq l0 x4_1 = some (r1, r2, r3, r4, r5, r6)) ∧ Aside0 (kq ≤ k) ∧ Aside0 (w'.heap[gb147]? = some (.cells #[.int .u8 x148000_1, .int .u8 x148001_1, .int .u8 x148002_1, .int .u8 x148003_1, .int .i64 x148004_1] 39 (0, 0))) ∧ Aside0 (Below w.heap.size w w'))
 case atStart => exact ⟨(1), (0), (0), (0), (0), (0), (by first | rfl | (simp; done) | (simp [*]; done)), H', ⟨Nat.le_refl _⟩, ⟨by (with_reducible repeat (first | refine blk_drewN ?_ _ | refine blk_drew ?_ | refine blk_alloc ?_ _)); exact BK147.out⟩, ⟨by repeat (first | (with_reducible first | exact HB.out | apply below_alloc | apply pw_below_drewN | apply below_drew1 | refine below_set ?_ GE147.out) | exact HB.out)⟩⟩
 case round =>
  clear H'
  obtain ⟨x4_1, x148000_1, x148001_1, x148002_1, x148003_1, x148004_1, rfl, HA, HK1, BK147, HB⟩ := hrel
  cases gk with
  | zero => exact absurd HA.out (by simp [lockstitchref04_read.l0])
  | succ k1 =>
   have H := HA.out
   clear HA
   simp only [lockstitchref04_read.l0] at H
   by_cases c3 : x4_1 ≤ 15
   ·
    rw [if_pos c3] at H
    have c3b0 : decide (x4_1 ≤ 15) = true := decide_eq_true c3
    clear c3
    replace H := Option.bind_eq_some_iff.mp H
    obtain ⟨⟨t148, t149⟩, A40, H⟩ := H
    replace H : (if 0 < (l0.length : Int) then (if (rdOf ByteArray.empty l0 0).toList = t148.toList then (lockstitchref04_read.j1 k1 l0 x4_1 t149 ((l0.length : Int) != (wrap64 ((t149.size : Int) + 1)))) else (lockstitchref04_read.j1 k1 l0 x4_1 t149 true)) else (none)) = some (r1, r2, r3, r4, r5, r6) := H
    have A4 := Aside0.mk A40
    clear A40
    have HC5 := Aside0.mk H
    clear H
    go_upto_region 5 with (first | ((with_reducible refine gate_callee (f := 36) rfl ?_); refine goesL_ (some 19) rfl rfl Tryd.func36 (by kernel_rfl) rfl #[.int .u8 x4_1] rfl (by (try simp only [List.map_toArray, List.map_cons, List.map_nil]); first | done | rfl | (simp only [List.length_drop, List.length_take]; rfl)) ?_; (with_reducible refine (lockstitchref04_shape.calls x4_1 t148 t149 _ A4.out).mono ?_); rintro e w' ⟨rfl, ⟨nd, rfl⟩⟩; refine ⟨_, rfl, ?_⟩))
    (try simp only [Act.put, List.setIfInBounds_toArray, List.set_cons_zero, List.set_cons_succ])
    go_cut [34] (fun v34 wc => ∃ (kq : Nat) (x34_4 : Bool), v34 = .bool x34_4 ∧ Aside0 (lockstitchref04_read.j1 kq l0 x4_1 t149 x34_4 = some (r1, r2, r3, r4, r5, r6)) ∧ Aside0 (kq ≤ k1) ∧ Aside0 (wc.heap[gb147]? = some (.cells #[.int .u8 x148000_1, .int .u8 x148001_1, .int .u8 x148002_1, .int .u8 x148003_1, .int .i64 x148004_1] 39 (0, 0))) ∧ Aside0 (Below w.heap.size w wc))
    case first =>
     have H := HC5.out
     clear HC5
     by_cases c6 : 0 < (l0.length : Int)
     ·
      rw [if_pos c6] at H
      have c6b0 : decide (0 < (l0.length : Int)) = true := decide_eq_true c6
      have c6b1 : decide (0 < l0.length) = true := decide_eq_true (by omega)
      clear c6
      (first | rw [c6b0] | (simp only [i64_w, i32_w]; rw [c6b0]) | skip)
      by_cases c7 : (rdOf ByteArray.empty l0 0).toList = t148.toList
      ·
       rw [if_pos c7] at H
       have c7b0 : ((rdOf ByteArray.empty l0 0).toList == t148.toList) = true := beq_iff_eq.mpr c7
       have c7b1 : ((rdOf ByteArray.empty l0 0).toList != t148.toList) = false := bne_eq_false_iff_eq.mpr c7
       clear c7
       have H' := Aside0.mk H
       clear H
       have p150 : 0 ≤ (0 : Int) := (by omega)
       have q150 : 0 < (l0.length : Int) := of_decide_eq_true (by first | (with_reducible assumption) | assumption)
       obtain ⟨ad150, e150, hx150_0⟩ := Kd.at_string HR0.out 0 p150 q150
       cases e150
       have qi150 : (0 < l0.length) = True := eq_true (by omega)
       (try rw [show ((0 : Int)).toNat = 0 from rfl] at hx150_0)
       (try rw [Addr.add_zero'] at hx150_0)
       replace hx150_0 := (HB.out.cell (World.block_lt_of_cell? w _ hx150_0)).trans hx150_0
       replace p150 := eq_true p150
       replace q150 := eq_true q150
       go_wp2
       go_meet
       case rel => exact ⟨_, (((l0.length : Int) != (wrap64 ((t149.size : Int) + 1)))), (by first | rfl | (simp; done) | (simp [*]; done)), H', ⟨by have := HK1.out; first | omega | exact Nat.le_refl _⟩, ⟨by (with_reducible repeat (first | refine blk_drewN ?_ _ | refine blk_drew ?_ | refine blk_alloc ?_ _)); exact BK147.out⟩, ⟨by repeat (first | (with_reducible first | exact HB.out | apply below_alloc | apply pw_below_drewN | apply below_drew1 | refine below_set ?_ GE147.out) | exact HB.out)⟩⟩
      ·
       rw [if_neg c7] at H
       have c7b0 : ((rdOf ByteArray.empty l0 0).toList == t148.toList) = false := beq_eq_false_iff_ne.mpr c7
       have c7b1 : ((rdOf ByteArray.empty l0 0).toList != t148.toList) = true := bne_iff_ne.mpr c7
       have H' := Aside0.mk H
       clear H
       have p150 : 0 ≤ (0 : Int) := (by omega)
       have q150 : 0 < (l0.length : Int) := of_decide_eq_true (by first | (with_reducible assumption) | assumption)
       obtain ⟨ad150, e150, hx150_0⟩ := Kd.at_string HR0.out 0 p150 q150
       cases e150
       have qi150 : (0 < l0.length) = True := eq_true (by omega)
       (try rw [show ((0 : Int)).toNat = 0 from rfl] at hx150_0)
       (try rw [Addr.add_zero'] at hx150_0)
       replace hx150_0 := (HB.out.cell (World.block_lt_of_cell? w _ hx150_0)).trans hx150_0
       replace p150 := eq_true p150
       replace q150 := eq_true q150
       go_wp2
       go_meet
       case rel => exact ⟨_, (true), (by first | rfl | (simp; done) | (simp [*]; done)), H', ⟨by have := HK1.out; first | omega | exact Nat.le_refl _⟩, ⟨by (with_reducible repeat (first | refine blk_drewN ?_ _ | refine blk_drew ?_ | refine blk_alloc ?_ _)); exact BK147.out⟩, ⟨by repeat (first | (with_reducible first | exact HB.out | apply below_alloc | apply pw_below_drewN | apply below_drew1 | refine below_set ?_ GE147.out) | exact HB.out)⟩⟩
     ·
      rw [if_neg c6] at H
      exact absurd H (by simp)
    case rest =>
     clear HC5
     obtain ⟨kq, x34_4, rfl, HA, HJ4, BK147, HB⟩ := hcut
     cases kq with
     | zero => exact absurd HA.out (by simp [lockstitchref04_read.j1])
     | succ kj4 =>
      have H := HA.out
      clear HA
      simp only [lockstitchref04_read.j1] at H
      by_cases c8 : x34_4 = true
      ·
       subst c8
       have H1 : (lockstitchref04_read.l0 kj4 l0 ((x4_1 + 1) % 256)) = some (r1, r2, r3, r4, r5, r6) := by rw [if_pos rfl] at H; exact H
       clear H
       have H := H1
       clear H1
       have H' := Aside0.mk H
       clear H
       go_wp2
       go_roundg kj4
       case measure => have := HK1.out; have := HJ4.out; omega
       case rel => exact ⟨((x4_1 + 1) % 256), (x148000_1), (x148001_1), (x148002_1), (x148003_1), (x148004_1), (by first | rfl | (simp; done) | (simp [*]; done)), H', ⟨by have := HK1.out; have := HJ4.out; omega⟩, ⟨by (with_reducible repeat (first | refine blk_drewN ?_ _ | refine blk_drew ?_ | refine blk_alloc ?_ _)); exact BK147.out⟩, ⟨by repeat (first | (with_reducible first | exact HB.out | apply below_alloc | apply pw_below_drewN | apply below_drew1 | refine below_set ?_ GE147.out) | exact HB.out)⟩⟩
      ·
       replace c8 := Bool.eq_false_iff.mpr c8
       subst c8
       have H1 : (lockstitchref04_read.l1 kj4 l0 t149 0 x4_1 0 0 0 0) = some (r1, r2, r3, r4, r5, r6) := by rw [if_neg (show ¬ (false = true) by decide)] at H; exact H
       clear H
       have H := H1
       clear H1
       have H' := Aside0.mk H
       clear H
       go_wp2_with (first | ((with_reducible refine gate_dst (N := 7) rfl ?_); (try (refine gate_guard (by rfl) ?_; dsimp only)); refine box_event ?hg (N := 7) ?hd (cs := #[.int .u8 0, .int .u8 0, .int .u8 0, .int .u8 0, .int .i64 0]) (t := 39) ?hr ?_; (case hd => rfl); (case hg => rfl); (case hr => first | (go_simp; done) | (go_simp; rfl)); intro gb151 hg w9 hbox hb; have n0_ := Aside0.mk (blk_below (g := gb147) (o := .cells #[.int .u8 x148000_1, .int .u8 x148001_1, .int .u8 x148002_1, .int .u8 x148003_1, .int .i64 x148004_1] 39 (0, 0)) (by (with_reducible repeat (first | refine blk_drewN ?_ _ | refine blk_drew ?_ | refine blk_alloc ?_ _)); exact BK147.out) hb); have n1_ := Aside0.mk (below_step (by repeat (first | (with_reducible first | exact HB.out | apply below_alloc | apply pw_below_drewN | apply below_drew1 | refine below_set ?_ GE147.out) | exact HB.out)) hb); have n2_ := Aside0.mk (hbox); have n3_ := Aside0.mk ((by rw [hg]; exact (below_size (by repeat (first | (with_reducible first | exact HB.out | apply below_alloc | apply pw_below_drewN | apply below_drew1 | refine below_set ?_ GE147.out) | exact HB.out))) : w.heap.size ≤ gb151)); have n4_ := n3_; have n5_ := Aside0.mk ((by rw [hg]; exact Nat.ne_of_lt (blk_lt (g := gb147) (o := .cells #[.int .u8 x148000_1, .int .u8 x148001_1, .int .u8 x148002_1, .int .u8 x148003_1, .int .i64 x148004_1] 39 (0, 0)) (by (with_reducible repeat (first | refine blk_drewN ?_ _ | refine blk_drew ?_ | refine blk_alloc ?_ _)); exact BK147.out)) : gb147 ≠ gb151)); have n6_ := Aside0.mk n5_.out.symm; clear BK147; clear HB; have BK147 := n0_; have HB := n1_; have BK151 := n2_; have GW151 := n3_; have GE151 := n4_; have NB147_151 := n5_; have NB151_147 := n6_; clear n0_ n1_ n2_ n3_ n4_ n5_ n6_; clear hb hbox hg; have hnb10 := NB151_147.out; have hnc10 := NB147_151.out; have hcz11_0 : w9.cell? ⟨gb151, 0, none⟩ = some (.int .u8 0) := (blk_cell BK151.out 0).trans rfl; have hcz11_1 : w9.cell? ⟨gb151, 1, none⟩ = some (.int .u8 0) := (blk_cell BK151.out 1).trans rfl; have hcz11_2 : w9.cell? ⟨gb151, 2, none⟩ = some (.int .u8 0) := (blk_cell BK151.out 2).trans rfl; have hcz11_3 : w9.cell? ⟨gb151, 3, none⟩ = some (.int .u8 0) := (blk_cell BK151.out 3).trans rfl; have hcz11_4 : w9.cell? ⟨gb151, 4, none⟩ = some (.int .i64 0) := (blk_cell BK151.out 4).trans rfl; have hfz11_0 := blk_frozen BK151.out 0; have hfz11_1 := blk_frozen BK151.out 1; have hfz11_2 := blk_frozen BK151.out 2; have hfz11_3 := blk_frozen BK151.out 3; have hfz11_4 := blk_frozen BK151.out 4))
       go_loopg [8] kj4 (fun kq v8 w' => ∃ (x8_3 : Int) (x148000_3 : Int) (x148001_3 : Int) (x148002_3 : Int) (x148003_3 : Int) (x148004_3 : Int) (x152000_3 : Int) (x152001_3 : Int) (x152002_3 : Int) (x152003_3 : Int) (x152004_3 : Int), v8 = .int .i64 x8_3 ∧ Aside0 (lockstitchref04_read.l1 kq l0 t149 x8_3 x152000_3 x152001_3 x152002_3 x152003_3 x152004_3 = some (r1, r2, r3, r4, r5, r6)) ∧ Aside0 (kq ≤ kj4) ∧ Aside0 (w'.heap[gb147]? = some (.cells #[.int .u8 x148000_3, .int .u8 x148001_3, .int .u8 x148002_3, .int .u8 x148003_3, .int .i64 x148004_3] 39 (0, 0))) ∧ Aside0 (w'.heap[gb151]? = some (.cells #[.int .u8 x152000_3, .int .u8 x152001_3, .int .u8 x152002_3, .int .u8 x152003_3, .int .i64 x152004_3] 39 (0, 0))) ∧ Aside0 (Below w.heap.size w w'))
       case atStart => exact ⟨(0), (x148000_1), (x148001_1), (x148002_1), (x148003_1), (x148004_1), (x4_1), (0), (0), (0), (0), (by first | rfl | (simp; done) | (simp [*]; done)), H', ⟨Nat.le_refl _⟩, ⟨by (with_reducible repeat (first | refine blk_drewN ?_ _ | refine blk_drew ?_ | refine blk_alloc ?_ _)); refine blk_far ?_ NB147_151.out _; (with_reducible repeat (first | refine blk_drewN ?_ _ | refine blk_drew ?_ | refine blk_alloc ?_ _)); refine blk_far ?_ NB147_151.out _; (with_reducible repeat (first | refine blk_drewN ?_ _ | refine blk_drew ?_ | refine blk_alloc ?_ _)); refine blk_far ?_ NB147_151.out _; (with_reducible repeat (first | refine blk_drewN ?_ _ | refine blk_drew ?_ | refine blk_alloc ?_ _)); refine blk_far ?_ NB147_151.out _; (with_reducible repeat (first | refine blk_drewN ?_ _ | refine blk_drew ?_ | refine blk_alloc ?_ _)); refine blk_far ?_ NB147_151.out _; (with_reducible repeat (first | refine blk_drewN ?_ _ | refine blk_drew ?_ | refine blk_alloc ?_ _)); exact BK147.out⟩, ⟨by (with_reducible repeat (first | refine blk_drewN ?_ _ | refine blk_drew ?_ | refine blk_alloc ?_ _)); refine blk_put (cs := #[.int .u8 x4_1, .int .u8 0, .int .u8 0, .int .u8 0, .int .i64 0]) ?_ 4 _ rfl; (with_reducible repeat (first | refine blk_drewN ?_ _ | refine blk_drew ?_ | refine blk_alloc ?_ _)); refine blk_put (cs := #[.int .u8 x4_1, .int .u8 0, .int .u8 0, .int .u8 0, .int .i64 0]) ?_ 3 _ rfl; (with_reducible repeat (first | refine blk_drewN ?_ _ | refine blk_drew ?_ | refine blk_alloc ?_ _)); refine blk_put (cs := #[.int .u8 x4_1, .int .u8 0, .int .u8 0, .int .u8 0, .int .i64 0]) ?_ 2 _ rfl; (with_reducible repeat (first | refine blk_drewN ?_ _ | refine blk_drew ?_ | refine blk_alloc ?_ _)); refine blk_put (cs := #[.int .u8 x4_1, .int .u8 0, .int .u8 0, .int .u8 0, .int .i64 0]) ?_ 1 _ rfl; (with_reducible repeat (first | refine blk_drewN ?_ _ | refine blk_drew ?_ | refine blk_alloc ?_ _)); refine blk_put (cs := #[.int .u8 0, .int .u8 0, .int .u8 0, .int .u8 0, .int .i64 0]) ?_ 0 _ rfl; (with_reducible repeat (first | refine blk_drewN ?_ _ | refine blk_drew ?_ | refine blk_alloc ?_ _)); exact BK151.out⟩, ⟨by repeat (first | (with_reducible first | exact HB.out | apply below_alloc | apply pw_below_drewN | apply below_drew1 | refine below_set ?_ GE147.out | refine below_set ?_ GE151.out) | exact HB.out)⟩⟩
       case round =>
        clear H'
        obtain ⟨x8_3, x148000_3, x148001_3, x148002_3, x148003_3, x148004_3, x152000_3, x152001_3, x152002_3, x152003_3, x152004_3, rfl, HA, HK3, BK147, BK151, HB⟩ := hrel
        cases gk with
        | zero => exact absurd HA.out (by simp [lockstitchref04_read.l1])
        | succ k3 =>
         have H := HA.out
         clear HA
         simp only [lockstitchref04_read.l1] at H
         by_cases c12 : x8_3 < (t149.size : Int)
         ·
          rw [if_pos c12] at H
          have c12b0 : decide (x8_3 < (t149.size : Int)) = true := decide_eq_true c12
          clear c12
          obtain ⟨ji13, hji13⟩ : ∃ j_ : Int, (wrap64 (x8_3 + 1)) = j_ := ⟨_, rfl⟩
          replace H : (if 0 ≤ (ji13) then (if (ji13) < (l0.length : Int) then ((lockstitchref02_Number.f k3 (rdOf ByteArray.empty l0 (ji13))).bind fun bt153 => (if 0 ≤ x8_3 then ((lockstitchref04_with.f k3 x152000_3 x152001_3 x152002_3 x152003_3 x152004_3 (bt t149 x8_3) bt153.1).bind fun bt155 => (if bt153.2 = 0 then (if bt155.2.2.2.2.2 = true then (lockstitchref04_read.l1 k3 l0 t149 ji13 bt155.1 bt155.2.1 bt155.2.2.1 bt155.2.2.2.1 bt155.2.2.2.2.1) else (some (0, 0, 0, 0, 0, false))) else (some (0, 0, 0, 0, 0, false)))) else (none))) else (none)) else (none)) = some (r1, r2, r3, r4, r5, r6) := by first | (rw [hji13] at H; exact H) | (simp only [hji13] at H ⊢; exact H)
          have hji13w : (IntKind.i64.wrap (x8_3 + 1)) = ji13 := (i64_w _).trans hji13
          by_cases c14 : 0 ≤ (ji13)
          ·
           rw [if_pos c14] at H
           have c14b0 : decide (0 ≤ (ji13)) = true := decide_eq_true c14
           clear c14
           by_cases c15 : (ji13) < (l0.length : Int)
           ·
            rw [if_pos c15] at H
            have c15b0 : decide ((ji13) < (l0.length : Int)) = true := decide_eq_true c15
            clear c15
            replace H := Option.bind_eq_some_iff.mp H
            obtain ⟨⟨t153, t154⟩, A160, H⟩ := H
            replace H : (if 0 ≤ x8_3 then ((lockstitchref04_with.f k3 x152000_3 x152001_3 x152002_3 x152003_3 x152004_3 (bt t149 x8_3) t153).bind fun bt155 => (if t154 = 0 then (if bt155.2.2.2.2.2 = true then (lockstitchref04_read.l1 k3 l0 t149 ji13 bt155.1 bt155.2.1 bt155.2.2.1 bt155.2.2.2.1 bt155.2.2.2.2.1) else (some (0, 0, 0, 0, 0, false))) else (some (0, 0, 0, 0, 0, false)))) else (none)) = some (r1, r2, r3, r4, r5, r6) := H
            have A16 := Aside0.mk A160
            clear A160
            by_cases c17 : 0 ≤ x8_3
            ·
             rw [if_pos c17] at H
             have c17b0 : decide (0 ≤ x8_3) = true := decide_eq_true c17
             clear c17
             replace H := Option.bind_eq_some_iff.mp H
             obtain ⟨⟨t155, t156, t157, t158, t159, t160⟩, A190, H⟩ := H
             replace H : (if t154 = 0 then (if t160 = true then (lockstitchref04_read.l1 k3 l0 t149 ji13 t155 t156 t157 t158 t159) else (some (0, 0, 0, 0, 0, false))) else (some (0, 0, 0, 0, 0, false))) = some (r1, r2, r3, r4, r5, r6) := H
             have A19 := Aside0.mk A190
             clear A190
             by_cases c20 : t154 = 0
             ·
              rw [if_pos c20] at H
              have c20b0 : (t154 == 0) = true := beq_iff_eq.mpr c20
              have c20b1 : (t154 != 0) = false := bne_eq_false_iff_eq.mpr c20
              clear c20
              by_cases c21 : t160 = true
              ·
               subst c21
               have H1 : (lockstitchref04_read.l1 k3 l0 t149 ji13 t155 t156 t157 t158 t159) = some (r1, r2, r3, r4, r5, r6) := by rw [if_pos rfl] at H; exact H
               clear H
               have H := H1
               clear H1
               have H' := Aside0.mk H
               clear H
               have p152 : 0 ≤ ((ji13) : Int) := of_decide_eq_true (by first | (with_reducible assumption) | assumption)
               have q152 : (ji13) < (l0.length : Int) := of_decide_eq_true (by first | (with_reducible assumption) | assumption)
               obtain ⟨ad152, e152, hx152_0⟩ := Kd.at_string HR0.out (ji13) p152 q152
               cases e152
               replace hx152_0 := (HB.out.cell (World.block_lt_of_cell? w _ hx152_0)).trans hx152_0
               replace p152 := eq_true p152
               replace q152 := eq_true q152
               try go_wp2_with (first | ((with_reducible refine gate_callee (f := 46) rfl ?_); refine goesL_ (some 49) rfl rfl Tryd.func46 (by kernel_rfl) rfl #[.string (rdOf ByteArray.empty l0 (ji13))] rfl (by (try simp only [List.map_toArray, List.map_cons, List.map_nil]); first | done | (simp only [hji13]; rfl) | rfl | (simp only [List.length_drop, List.length_take]; rfl)) ?_; (with_reducible refine (lockstitchref02_Number.calls k3 (rdOf ByteArray.empty l0 (ji13)) t153 t154 _ A16.out).mono ?_); rintro e w' ⟨rfl, ⟨nd, rfl⟩⟩; refine ⟨_, rfl, ?_⟩; (try (rw [drewN_self wr]; generalize hq_ : World.drewN wr _ = wr; have n0_ : Aside0 (wr.heap[gb147]? = some (.cells #[.int .u8 x148000_3, .int .u8 x148001_3, .int .u8 x148002_3, .int .u8 x148003_3, .int .i64 x148004_3] 39 (0, 0))) := ⟨by rw [← hq_]; exact (by (with_reducible repeat (first | refine blk_drewN ?_ _ | refine blk_drew ?_ | refine blk_alloc ?_ _)); exact BK147.out)⟩; have n1_ : Aside0 (wr.heap[gb151]? = some (.cells #[.int .u8 x152000_3, .int .u8 x152001_3, .int .u8 x152002_3, .int .u8 x152003_3, .int .i64 x152004_3] 39 (0, 0))) := ⟨by rw [← hq_]; exact (by (with_reducible repeat (first | refine blk_drewN ?_ _ | refine blk_drew ?_ | refine blk_alloc ?_ _)); exact BK151.out)⟩; have n2_ : Aside0 (Below w.heap.size w wr) := ⟨by rw [← hq_]; exact (by repeat (first | (with_reducible first | exact HB.out | apply below_alloc | apply pw_below_drewN | apply below_drew1 | refine below_set ?_ GE147.out | refine below_set ?_ GE151.out) | exact HB.out))⟩; clear BK147 BK151 HB hq_; have BK147 := n0_; have BK151 := n1_; have HB := n2_; clear n0_ n1_ n2_))))
               have n0_ := Aside0.mk (blk_drew BK147.out)
               have n1_ := Aside0.mk (blk_drew BK151.out)
               have n2_ := Aside0.mk (below_drew1 HB.out)
               clear BK147
               clear BK151
               clear HB
               have BK147 := n0_
               have BK151 := n1_
               have HB := n2_
               clear n0_ n1_ n2_
               have p18 : 0 ≤ (x8_3 : Int) := of_decide_eq_true (by first | (with_reducible assumption) | assumption)
               have q18 : x8_3 < (t149.size : Int) := of_decide_eq_true (by first | (with_reducible assumption) | assumption)
               have hx18 := bt_at t149 x8_3
               replace p18 := eq_true p18
               replace q18 := eq_true q18
               refine start_ (n := 12) (S := fun w' => w'.cell? ⟨gb151, 0, none⟩ = some (.int .u8 x152000_3) ∧ w'.cell? ⟨gb151, 1, none⟩ = some (.int .u8 x152001_3) ∧ w'.cell? ⟨gb151, 2, none⟩ = some (.int .u8 x152002_3) ∧ w'.cell? ⟨gb151, 3, none⟩ = some (.int .u8 x152003_3) ∧ w'.cell? ⟨gb151, 4, none⟩ = some (.int .i64 x152004_3)) (ds := []) #[false, false, false, false, false, false, false, false, false, false, false, false] (by kernel_rfl) rfl rfl ⟨(blk_cell BK151.out 0).trans rfl, (blk_cell BK151.out 1).trans rfl, (blk_cell BK151.out 2).trans rfl, (blk_cell BK151.out 3).trans rfl, (blk_cell BK151.out 4).trans rfl⟩ (fun hHeld => ?_); refine with_tabW lockstitchref04_read.tab11 lockstitchref04_read.bits11 (fun HT_ HW_ => ?_)
               generalize wr.drew = w22 at BK147 BK151 HB hHeld ⊢
               refine pure_ (i := 1) (N := some 54) (v := ?_) (a' := ?_) #[false, true, false, false, false, false, false, false, false, false, false, false] rfl rfl (any_of HT_.out (by kernel_rfl)) (fun _ _ _ h => h) (Or.inl ⟨by rfl, ?_⟩) ?_ ?_
               rotate_left
               ·
                intro w'
                go_simp
                with_reducible rfl
               rotate_left
               ·
                simp only [Act.put, List.setIfInBounds_toArray, List.set_cons_zero, List.set_cons_succ, i64_w, i32_w]
                rfl
               refine pure_ (i := 2) (N := some 55) (v := ?_) (a' := ?_) #[false, true, true, false, false, false, false, false, false, false, false, false] rfl rfl (any_of HT_.out (by kernel_rfl)) (fun _ _ _ h => h) (Or.inl ⟨by rfl, ?_⟩) ?_ ?_
               rotate_left
               ·
                intro w'
                go_simp
                with_reducible rfl
               rotate_left
               ·
                simp only [Act.put, List.setIfInBounds_toArray, List.set_cons_zero, List.set_cons_succ, i64_w, i32_w]
                rfl
               refine pure_ (i := 4) (N := some 57) (v := ?_) (a' := ?_) #[false, true, true, false, true, false, false, false, false, false, false, false] rfl rfl (any_of HT_.out (by kernel_rfl)) (fun _ _ _ h => h) (Or.inl ⟨by rfl, ?_⟩) ?_ ?_
               rotate_left
               ·
                intro w'
                go_simp
                with_reducible rfl
               rotate_left
               ·
                simp only [Act.put, List.setIfInBounds_toArray, List.set_cons_zero, List.set_cons_succ, i64_w, i32_w]
                rfl
               refine take_ (i := 0) (N := some 53) (v := ?_) (a' := ?_) #[true, true, true, false, true, false, false, false, false, false, false, false] rfl rfl (take_ofW HT_.out HW_.out (by kernel_rfl)) (fun _ _ _ h => h) (Or.inl ⟨by rfl, ?_⟩) hHeld ?_ ?_
               rotate_left
               ·
                rintro w' ⟨s0, s1, s2, s3, s4⟩
                go_simp
                with_reducible rfl
               rotate_left
               ·
                simp only [Act.put, List.setIfInBounds_toArray, List.set_cons_zero, List.set_cons_succ, i64_w, i32_w]
                rfl
               refine take_ (i := 3) (N := some 56) (v := ?_) (a' := ?_) #[true, true, true, true, true, false, false, false, false, false, false, false] rfl rfl (take_ofW HT_.out HW_.out (by kernel_rfl)) (fun _ _ _ h => h) (Or.inl ⟨by rfl, ?_⟩) hHeld ?_ ?_
               rotate_left
               ·
                rintro w' ⟨s0, s1, s2, s3, s4⟩
                go_simp
                with_reducible rfl
               rotate_left
               ·
                simp only [Act.put, List.setIfInBounds_toArray, List.set_cons_zero, List.set_cons_succ, i64_w, i32_w]
                rfl
               refine join_ (σ := Nat) 2 #[true, true, true, true, true, true, true, true, true, true, false, false] (fun s_ => [(58, .tuple #[.agg #[.int .u8 t155, .int .u8 t156, .int .u8 t157, .int .u8 t158, .int .i64 t159], .bool true]), (11, .pointer (some ⟨s_, 0, none⟩)), (52, .tuple #[.agg #[.int .u8 t155, .int .u8 t156, .int .u8 t157, .int .u8 t158, .int .i64 t159], .bool true]), (59, .agg #[.int .u8 t155, .int .u8 t156, .int .u8 t157, .int .u8 t158, .int .i64 t159]), (60, .bool true)]) (fun s_ w' => (w'.cell? ⟨gb151, 0, none⟩ = some (.int .u8 x152000_3) ∧ w'.cell? ⟨gb151, 1, none⟩ = some (.int .u8 x152001_3) ∧ w'.cell? ⟨gb151, 2, none⟩ = some (.int .u8 x152002_3) ∧ w'.cell? ⟨gb151, 3, none⟩ = some (.int .u8 x152003_3) ∧ w'.cell? ⟨gb151, 4, none⟩ = some (.int .i64 x152004_3)) ∧ (w'.heap[gb147]? = some (.cells #[.int .u8 x148000_3, .int .u8 x148001_3, .int .u8 x148002_3, .int .u8 x148003_3, .int .i64 x148004_3] 39 (0, 0))) ∧ (w'.heap[gb151]? = some (.cells #[.int .u8 x152000_3, .int .u8 x152001_3, .int .u8 x152002_3, .int .u8 x152003_3, .int .i64 x152004_3] 39 (0, 0))) ∧ (w'.heap[s_]? = some (.cells #[.int .u8 0, .int .u8 0, .int .u8 0, .int .u8 0, .int .i64 0] 39 (0, 0))) ∧ (w.heap.size ≤ s_) ∧ (w.heap.size ≤ s_) ∧ (gb147 ≠ s_) ∧ (s_ ≠ gb147) ∧ (gb151 ≠ s_) ∧ (s_ ≠ gb151) ∧ (Below w.heap.size w w')) ?_ ?_
               rotate_left
               ·
                intro hCont
                refine two_ (i := 5) (j := 9) (Ni := some 58) (Nj := some 11) #[true, true, true, true, true, true, false, false, false, false, false, false] #[true, true, true, true, true, false, false, false, false, true, false, false] rfl rfl rfl rfl (two_of HT_.out (by kernel_rfl)) (by decide) (by decide) (fun K hK => ?_) (fun K hK => ?_)
                ·
                 skip
                 refine goes_ Tryd.func47 (by kernel_rfl) rfl #[.agg #[.int .u8 x152000_3, .int .u8 x152001_3, .int .u8 x152002_3, .int .u8 x152003_3, .int .i64 x152004_3], .int .u8 (bt t149 x8_3), .int .i64 t153] (by rfl) rfl rfl (by (try simp only [List.map_toArray, List.map_cons, List.map_nil]); first | done | rfl | (simp only [List.length_drop, List.length_take]; rfl)) ?_
                 with_reducible refine (lockstitchref04_with.calls k3 x152000_3 x152001_3 x152002_3 x152003_3 x152004_3 (bt t149 x8_3) t153 t155 t156 t157 t158 t159 true _ A19.out).mono ?_
                 rintro e w23 ⟨rfl, hb⟩
                 refine ⟨_, rfl, ?_⟩
                 have n0_ := Aside0.mk (blk_below (g := gb147) (o := .cells #[.int .u8 x148000_3, .int .u8 x148001_3, .int .u8 x148002_3, .int .u8 x148003_3, .int .i64 x148004_3] 39 (0, 0)) (by (with_reducible repeat (first | refine blk_drewN ?_ _ | refine blk_drew ?_ | refine blk_alloc ?_ _)); exact BK147.out) hb)
                 have n1_ := Aside0.mk (blk_below (g := gb151) (o := .cells #[.int .u8 x152000_3, .int .u8 x152001_3, .int .u8 x152002_3, .int .u8 x152003_3, .int .i64 x152004_3] 39 (0, 0)) (by (with_reducible repeat (first | refine blk_drewN ?_ _ | refine blk_drew ?_ | refine blk_alloc ?_ _)); exact BK151.out) hb)
                 have n2_ := Aside0.mk (below_step (by repeat (first | (with_reducible first | exact HB.out | apply below_alloc | apply pw_below_drewN | apply below_drew1 | refine below_set ?_ GE147.out | refine below_set ?_ GE151.out) | exact HB.out)) hb)
                 clear BK147
                 clear BK151
                 clear HB
                 have BK147 := n0_
                 have BK151 := n1_
                 have HB := n2_
                 clear n0_ n1_ n2_
                 (try clear hb)
                 (try clear hb2)
                 (try clear hk)
                 (try clear hi)
                 refine hK.out _ _ ⟨(blk_cell BK151.out 0).trans rfl, (blk_cell BK151.out 1).trans rfl, (blk_cell BK151.out 2).trans rfl, (blk_cell BK151.out 3).trans rfl, (blk_cell BK151.out 4).trans rfl⟩ (fun hHeld => ?_)
                 clear hK K
                 refine norm_ (a' := ?_) ?_ ?_
                 rotate_left
                 ·
                  show Act.put _ (some 58) _ = _
                  simp only [Act.put, List.setIfInBounds_toArray, List.set_cons_zero, List.set_cons_succ, i64_w, i32_w]
                  rfl
                 refine pure_ (i := 6) (N := some 52) (v := ?_) (a' := ?_) #[true, true, true, true, true, true, true, false, false, false, false, false] rfl rfl (any_of HT_.out (by kernel_rfl)) (fun _ _ _ h => h) (Or.inl ⟨by rfl, ?_⟩) ?_ ?_
                 rotate_left
                 ·
                  intro w'
                  go_simp
                  with_reducible rfl
                 rotate_left
                 ·
                  simp only [Act.put, List.setIfInBounds_toArray, List.set_cons_zero, List.set_cons_succ, i64_w, i32_w]
                  rfl
                 refine pure_ (i := 7) (N := some 59) (v := ?_) (a' := ?_) #[true, true, true, true, true, true, true, true, false, false, false, false] rfl rfl (any_of HT_.out (by kernel_rfl)) (fun _ _ _ h => h) (Or.inl ⟨by rfl, ?_⟩) ?_ ?_
                 rotate_left
                 ·
                  intro w'
                  go_simp
                  with_reducible rfl
                 rotate_left
                 ·
                  simp only [Act.put, List.setIfInBounds_toArray, List.set_cons_zero, List.set_cons_succ, i64_w, i32_w]
                  rfl
                 refine pure_ (i := 8) (N := some 60) (v := ?_) (a' := ?_) #[true, true, true, true, true, true, true, true, true, false, false, false] rfl rfl (any_of HT_.out (by kernel_rfl)) (fun _ _ _ h => h) (Or.inl ⟨by rfl, ?_⟩) ?_ ?_
                 rotate_left
                 ·
                  intro w'
                  go_simp
                  with_reducible rfl
                 rotate_left
                 ·
                  simp only [Act.put, List.setIfInBounds_toArray, List.set_cons_zero, List.set_cons_succ, i64_w, i32_w]
                  rfl
                 refine one_ (i := 9) (N := some 11) #[true, true, true, true, true, true, true, true, true, true, false, false] rfl rfl (one_of HT_.out (by kernel_rfl)) (by decide) (fun K hK => ?_)
                 refine box_step ?hg (N := 11) ?hd (cs := #[.int .u8 0, .int .u8 0, .int .u8 0, .int .u8 0, .int .i64 0]) (t := 39) ?hr ?_; (case hd => rfl); (case hg => rfl); (case hr => first | (go_simp; done) | (go_simp; rfl))
                 intro gb161 hg w24 hbox hb
                 have n0_ := Aside0.mk (blk_below (g := gb147) (o := .cells #[.int .u8 x148000_3, .int .u8 x148001_3, .int .u8 x148002_3, .int .u8 x148003_3, .int .i64 x148004_3] 39 (0, 0)) (by (with_reducible repeat (first | refine blk_drewN ?_ _ | refine blk_drew ?_ | refine blk_alloc ?_ _)); exact BK147.out) hb)
                 have n1_ := Aside0.mk (blk_below (g := gb151) (o := .cells #[.int .u8 x152000_3, .int .u8 x152001_3, .int .u8 x152002_3, .int .u8 x152003_3, .int .i64 x152004_3] 39 (0, 0)) (by (with_reducible repeat (first | refine blk_drewN ?_ _ | refine blk_drew ?_ | refine blk_alloc ?_ _)); exact BK151.out) hb)
                 have n2_ := Aside0.mk (below_step (by repeat (first | (with_reducible first | exact HB.out | apply below_alloc | apply pw_below_drewN | apply below_drew1 | refine below_set ?_ GE147.out | refine below_set ?_ GE151.out) | exact HB.out)) hb)
                 have n3_ := Aside0.mk (hbox)
                 have n4_ := Aside0.mk ((by rw [hg]; exact (below_size (by repeat (first | (with_reducible first | exact HB.out | apply below_alloc | apply pw_below_drewN | apply below_drew1 | refine below_set ?_ GE147.out | refine below_set ?_ GE151.out) | exact HB.out))) : w.heap.size ≤ gb161))
                 have n5_ := n4_
                 have n6_ := Aside0.mk ((by rw [hg]; exact Nat.ne_of_lt (blk_lt (g := gb147) (o := .cells #[.int .u8 x148000_3, .int .u8 x148001_3, .int .u8 x148002_3, .int .u8 x148003_3, .int .i64 x148004_3] 39 (0, 0)) (by (with_reducible repeat (first | refine blk_drewN ?_ _ | refine blk_drew ?_ | refine blk_alloc ?_ _)); exact BK147.out)) : gb147 ≠ gb161))
                 have n7_ := Aside0.mk n6_.out.symm
                 have n8_ := Aside0.mk ((by rw [hg]; exact Nat.ne_of_lt (blk_lt (g := gb151) (o := .cells #[.int .u8 x152000_3, .int .u8 x152001_3, .int .u8 x152002_3, .int .u8 x152003_3, .int .i64 x152004_3] 39 (0, 0)) (by (with_reducible repeat (first | refine blk_drewN ?_ _ | refine blk_drew ?_ | refine blk_alloc ?_ _)); exact BK151.out)) : gb151 ≠ gb161))
                 have n9_ := Aside0.mk n8_.out.symm
                 clear BK147
                 clear BK151
                 clear HB
                 have BK147 := n0_
                 have BK151 := n1_
                 have HB := n2_
                 have BK161 := n3_
                 have GW161 := n4_
                 have GE161 := n5_
                 have NB147_161 := n6_
                 have NB161_147 := n7_
                 have NB151_161 := n8_
                 have NB161_151 := n9_
                 clear n0_ n1_ n2_ n3_ n4_ n5_ n6_ n7_ n8_ n9_
                 clear hb hbox hg
                 refine hK.out _ _ ⟨(blk_cell BK151.out 0).trans rfl, (blk_cell BK151.out 1).trans rfl, (blk_cell BK151.out 2).trans rfl, (blk_cell BK151.out 3).trans rfl, (blk_cell BK151.out 4).trans rfl⟩ (fun hHeld => ?_)
                 clear hK K
                 refine norm_ (a' := ?_) ?_ ?_
                 rotate_left
                 ·
                  show Act.put _ (some 11) _ = _
                  simp only [Act.put, List.setIfInBounds_toArray, List.set_cons_zero, List.set_cons_succ, i64_w, i32_w]
                  rfl
                 exact norm_ (by simp only [putAll, Act.put, List.setIfInBounds_toArray, List.set_cons_zero, List.set_cons_succ]) (hCont (gb161) _ ⟨hHeld, (by (with_reducible repeat (first | refine blk_drewN ?_ _ | refine blk_drew ?_ | refine blk_alloc ?_ _)); exact BK147.out), (by (with_reducible repeat (first | refine blk_drewN ?_ _ | refine blk_drew ?_ | refine blk_alloc ?_ _)); exact BK151.out), (by (with_reducible repeat (first | refine blk_drewN ?_ _ | refine blk_drew ?_ | refine blk_alloc ?_ _)); exact BK161.out), GW161.out, GE161.out, NB147_161.out, NB161_147.out, NB151_161.out, NB161_151.out, (by repeat (first | (with_reducible first | exact HB.out | apply below_alloc | apply pw_below_drewN | apply below_drew1 | refine below_set ?_ GE147.out | refine below_set ?_ GE151.out | refine below_set ?_ GE161.out) | exact HB.out))⟩)
                ·
                 skip
                 refine box_step ?hg (N := 11) ?hd (cs := #[.int .u8 0, .int .u8 0, .int .u8 0, .int .u8 0, .int .i64 0]) (t := 39) ?hr ?_; (case hd => rfl); (case hg => rfl); (case hr => first | (go_simp; done) | (go_simp; rfl))
                 intro gb161 hg w23 hbox hb
                 have n0_ := Aside0.mk (blk_below (g := gb147) (o := .cells #[.int .u8 x148000_3, .int .u8 x148001_3, .int .u8 x148002_3, .int .u8 x148003_3, .int .i64 x148004_3] 39 (0, 0)) (by (with_reducible repeat (first | refine blk_drewN ?_ _ | refine blk_drew ?_ | refine blk_alloc ?_ _)); exact BK147.out) hb)
                 have n1_ := Aside0.mk (blk_below (g := gb151) (o := .cells #[.int .u8 x152000_3, .int .u8 x152001_3, .int .u8 x152002_3, .int .u8 x152003_3, .int .i64 x152004_3] 39 (0, 0)) (by (with_reducible repeat (first | refine blk_drewN ?_ _ | refine blk_drew ?_ | refine blk_alloc ?_ _)); exact BK151.out) hb)
                 have n2_ := Aside0.mk (below_step (by repeat (first | (with_reducible first | exact HB.out | apply below_alloc | apply pw_below_drewN | apply below_drew1 | refine below_set ?_ GE147.out | refine below_set ?_ GE151.out) | exact HB.out)) hb)
                 have n3_ := Aside0.mk (hbox)
                 have n4_ := Aside0.mk ((by rw [hg]; exact (below_size (by repeat (first | (with_reducible first | exact HB.out | apply below_alloc | apply pw_below_drewN | apply below_drew1 | refine below_set ?_ GE147.out | refine below_set ?_ GE151.out) | exact HB.out))) : w.heap.size ≤ gb161))
                 have n5_ := n4_
                 have n6_ := Aside0.mk ((by rw [hg]; exact Nat.ne_of_lt (blk_lt (g := gb147) (o := .cells #[.int .u8 x148000_3, .int .u8 x148001_3, .int .u8 x148002_3, .int .u8 x148003_3, .int .i64 x148004_3] 39 (0, 0)) (by (with_reducible repeat (first | refine blk_drewN ?_ _ | refine blk_drew ?_ | refine blk_alloc ?_ _)); exact BK147.out)) : gb147 ≠ gb161))
                 have n7_ := Aside0.mk n6_.out.symm
                 have n8_ := Aside0.mk ((by rw [hg]; exact Nat.ne_of_lt (blk_lt (g := gb151) (o := .cells #[.int .u8 x152000_3, .int .u8 x152001_3, .int .u8 x152002_3, .int .u8 x152003_3, .int .i64 x152004_3] 39 (0, 0)) (by (with_reducible repeat (first | refine blk_drewN ?_ _ | refine blk_drew ?_ | refine blk_alloc ?_ _)); exact BK151.out)) : gb151 ≠ gb161))
                 have n9_ := Aside0.mk n8_.out.symm
                 clear BK147
                 clear BK151
                 clear HB
                 have BK147 := n0_
                 have BK151 := n1_
                 have HB := n2_
                 have BK161 := n3_
                 have GW161 := n4_
                 have GE161 := n5_
                 have NB147_161 := n6_
                 have NB161_147 := n7_
                 have NB151_161 := n8_
                 have NB161_151 := n9_
                 clear n0_ n1_ n2_ n3_ n4_ n5_ n6_ n7_ n8_ n9_
                 clear hb hbox hg
                 refine hK.out _ _ ⟨(blk_cell BK151.out 0).trans rfl, (blk_cell BK151.out 1).trans rfl, (blk_cell BK151.out 2).trans rfl, (blk_cell BK151.out 3).trans rfl, (blk_cell BK151.out 4).trans rfl⟩ (fun hHeld => ?_)
                 clear hK K
                 refine norm_ (a' := ?_) ?_ ?_
                 rotate_left
                 ·
                  show Act.put _ (some 11) _ = _
                  simp only [Act.put, List.setIfInBounds_toArray, List.set_cons_zero, List.set_cons_succ, i64_w, i32_w]
                  rfl
                 refine one_ (i := 5) (N := some 58) #[true, true, true, true, true, true, false, false, false, true, false, false] rfl rfl (one_of HT_.out (by kernel_rfl)) (by decide) (fun K hK => ?_)
                 refine goes_ Tryd.func47 (by kernel_rfl) rfl #[.agg #[.int .u8 x152000_3, .int .u8 x152001_3, .int .u8 x152002_3, .int .u8 x152003_3, .int .i64 x152004_3], .int .u8 (bt t149 x8_3), .int .i64 t153] (by rfl) rfl rfl (by (try simp only [List.map_toArray, List.map_cons, List.map_nil]); first | done | rfl | (simp only [List.length_drop, List.length_take]; rfl)) ?_
                 with_reducible refine (lockstitchref04_with.calls k3 x152000_3 x152001_3 x152002_3 x152003_3 x152004_3 (bt t149 x8_3) t153 t155 t156 t157 t158 t159 true _ A19.out).mono ?_
                 rintro e w24 ⟨rfl, hb⟩
                 refine ⟨_, rfl, ?_⟩
                 have n0_ := Aside0.mk (blk_below (g := gb147) (o := .cells #[.int .u8 x148000_3, .int .u8 x148001_3, .int .u8 x148002_3, .int .u8 x148003_3, .int .i64 x148004_3] 39 (0, 0)) (by (with_reducible repeat (first | refine blk_drewN ?_ _ | refine blk_drew ?_ | refine blk_alloc ?_ _)); exact BK147.out) hb)
                 have n1_ := Aside0.mk (blk_below (g := gb151) (o := .cells #[.int .u8 x152000_3, .int .u8 x152001_3, .int .u8 x152002_3, .int .u8 x152003_3, .int .i64 x152004_3] 39 (0, 0)) (by (with_reducible repeat (first | refine blk_drewN ?_ _ | refine blk_drew ?_ | refine blk_alloc ?_ _)); exact BK151.out) hb)
                 have n2_ := Aside0.mk (blk_below (g := gb161) (o := .cells #[.int .u8 0, .int .u8 0, .int .u8 0, .int .u8 0, .int .i64 0] 39 (0, 0)) (by (with_reducible repeat (first | refine blk_drewN ?_ _ | refine blk_drew ?_ | refine blk_alloc ?_ _)); exact BK161.out) hb)
                 have n3_ := Aside0.mk (below_step (by repeat (first | (with_reducible first | exact HB.out | apply below_alloc | apply pw_below_drewN | apply below_drew1 | refine below_set ?_ GE147.out | refine below_set ?_ GE151.out | refine below_set ?_ GE161.out) | exact HB.out)) hb)
                 clear BK147
                 clear BK151
                 clear BK161
                 clear HB
                 have BK147 := n0_
                 have BK151 := n1_
                 have BK161 := n2_
                 have HB := n3_
                 clear n0_ n1_ n2_ n3_
                 (try clear hb)
                 (try clear hb2)
                 (try clear hk)
                 (try clear hi)
                 refine hK.out _ _ ⟨(blk_cell BK151.out 0).trans rfl, (blk_cell BK151.out 1).trans rfl, (blk_cell BK151.out 2).trans rfl, (blk_cell BK151.out 3).trans rfl, (blk_cell BK151.out 4).trans rfl⟩ (fun hHeld => ?_)
                 clear hK K
                 refine norm_ (a' := ?_) ?_ ?_
                 rotate_left
                 ·
                  show Act.put _ (some 58) _ = _
                  simp only [Act.put, List.setIfInBounds_toArray, List.set_cons_zero, List.set_cons_succ, i64_w, i32_w]
                  rfl
                 refine pure_ (i := 6) (N := some 52) (v := ?_) (a' := ?_) #[true, true, true, true, true, true, true, false, false, true, false, false] rfl rfl (any_of HT_.out (by kernel_rfl)) (fun _ _ _ h => h) (Or.inl ⟨by rfl, ?_⟩) ?_ ?_
                 rotate_left
                 ·
                  intro w'
                  go_simp
                  with_reducible rfl
                 rotate_left
                 ·
                  simp only [Act.put, List.setIfInBounds_toArray, List.set_cons_zero, List.set_cons_succ, i64_w, i32_w]
                  rfl
                 refine pure_ (i := 7) (N := some 59) (v := ?_) (a' := ?_) #[true, true, true, true, true, true, true, true, false, true, false, false] rfl rfl (any_of HT_.out (by kernel_rfl)) (fun _ _ _ h => h) (Or.inl ⟨by rfl, ?_⟩) ?_ ?_
                 rotate_left
                 ·
                  intro w'
                  go_simp
                  with_reducible rfl
                 rotate_left
                 ·
                  simp only [Act.put, List.setIfInBounds_toArray, List.set_cons_zero, List.set_cons_succ, i64_w, i32_w]
                  rfl
                 refine pure_ (i := 8) (N := some 60) (v := ?_) (a' := ?_) #[true, true, true, true, true, true, true, true, true, true, false, false] rfl rfl (any_of HT_.out (by kernel_rfl)) (fun _ _ _ h => h) (Or.inl ⟨by rfl, ?_⟩) ?_ ?_
                 rotate_left
                 ·
                  intro w'
                  go_simp
                  with_reducible rfl
                 rotate_left
                 ·
                  simp only [Act.put, List.setIfInBounds_toArray, List.set_cons_zero, List.set_cons_succ, i64_w, i32_w]
                  rfl
                 exact norm_ (by simp only [putAll, Act.put, List.setIfInBounds_toArray, List.set_cons_zero, List.set_cons_succ]) (hCont (gb161) _ ⟨hHeld, (by (with_reducible repeat (first | refine blk_drewN ?_ _ | refine blk_drew ?_ | refine blk_alloc ?_ _)); exact BK147.out), (by (with_reducible repeat (first | refine blk_drewN ?_ _ | refine blk_drew ?_ | refine blk_alloc ?_ _)); exact BK151.out), (by (with_reducible repeat (first | refine blk_drewN ?_ _ | refine blk_drew ?_ | refine blk_alloc ?_ _)); exact BK161.out), GW161.out, GE161.out, NB147_161.out, NB161_147.out, NB151_161.out, NB161_151.out, (by repeat (first | (with_reducible first | exact HB.out | apply below_alloc | apply pw_below_drewN | apply below_drew1 | refine below_set ?_ GE147.out | refine below_set ?_ GE151.out | refine below_set ?_ GE161.out) | exact HB.out))⟩)
               rintro gb161 w25 ⟨hS_, h0_, h1_, h2_, h3_, h4_, h5_, h6_, h7_, h8_, h9_⟩
               have n0_ : Aside0 (w25.heap[gb147]? = some (.cells #[.int .u8 x148000_3, .int .u8 x148001_3, .int .u8 x148002_3, .int .u8 x148003_3, .int .i64 x148004_3] 39 (0, 0))) := ⟨h0_⟩
               have n1_ : Aside0 (w25.heap[gb151]? = some (.cells #[.int .u8 x152000_3, .int .u8 x152001_3, .int .u8 x152002_3, .int .u8 x152003_3, .int .i64 x152004_3] 39 (0, 0))) := ⟨h1_⟩
               have n2_ : Aside0 (w25.heap[gb161]? = some (.cells #[.int .u8 0, .int .u8 0, .int .u8 0, .int .u8 0, .int .i64 0] 39 (0, 0))) := ⟨h2_⟩
               have n3_ : Aside0 (w.heap.size ≤ gb161) := ⟨h3_⟩
               have n4_ : Aside0 (w.heap.size ≤ gb161) := ⟨h4_⟩
               have n5_ : Aside0 (gb147 ≠ gb161) := ⟨h5_⟩
               have n6_ : Aside0 (gb161 ≠ gb147) := ⟨h6_⟩
               have n7_ : Aside0 (gb151 ≠ gb161) := ⟨h7_⟩
               have n8_ : Aside0 (gb161 ≠ gb151) := ⟨h8_⟩
               have n9_ : Aside0 (Below w.heap.size w w25) := ⟨h9_⟩
               clear BK147
               clear BK151
               clear HB
               clear h0_ h1_ h2_ h3_ h4_ h5_ h6_ h7_ h8_ h9_
               have BK147 := n0_
               have BK151 := n1_
               have BK161 := n2_
               have GW161 := n3_
               have GE161 := n4_
               have NB147_161 := n5_
               have NB161_147 := n6_
               have NB151_161 := n7_
               have NB161_151 := n8_
               have HB := n9_
               clear n0_ n1_ n2_ n3_ n4_ n5_ n6_ n7_ n8_ n9_
               have hHeld : w25.cell? ⟨gb151, 0, none⟩ = some (.int .u8 x152000_3) ∧ w25.cell? ⟨gb151, 1, none⟩ = some (.int .u8 x152001_3) ∧ w25.cell? ⟨gb151, 2, none⟩ = some (.int .u8 x152002_3) ∧ w25.cell? ⟨gb151, 3, none⟩ = some (.int .u8 x152003_3) ∧ w25.cell? ⟨gb151, 4, none⟩ = some (.int .i64 x152004_3) := hS_
               refine norm_ (a' := ?_) ?_ ?_
               rotate_left
               ·
                simp only [putAll, Act.put, List.setIfInBounds_toArray, List.set_cons_zero, List.set_cons_succ]
                rfl
               refine one_ (i := 10) (N := none) #[true, true, true, true, true, true, true, true, true, true, true, false] rfl rfl (one_of HT_.out (by kernel_rfl)) (by decide) (fun K hK => ?_)
               have hs26 : w25.cell? ⟨gb161, 0, none⟩ = some (.int .u8 0) := (blk_cell BK161.out 0).trans rfl
               have hfs26 := blk_frozen BK161.out 0
               have hns26_0 := NB147_161.out
               have hns26_1 := NB151_161.out
               have hms26_0 := NB161_147.out
               have hms26_1 := NB161_151.out
               have hs27 : w25.cell? ⟨gb161, 1, none⟩ = some (.int .u8 0) := (blk_cell BK161.out 1).trans rfl
               have hfs27 := blk_frozen BK161.out 1
               have hns27_0 := NB147_161.out
               have hns27_1 := NB151_161.out
               have hms27_0 := NB161_147.out
               have hms27_1 := NB161_151.out
               have hs28 : w25.cell? ⟨gb161, 2, none⟩ = some (.int .u8 0) := (blk_cell BK161.out 2).trans rfl
               have hfs28 := blk_frozen BK161.out 2
               have hns28_0 := NB147_161.out
               have hns28_1 := NB151_161.out
               have hms28_0 := NB161_147.out
               have hms28_1 := NB161_151.out
               have hs29 : w25.cell? ⟨gb161, 3, none⟩ = some (.int .u8 0) := (blk_cell BK161.out 3).trans rfl
               have hfs29 := blk_frozen BK161.out 3
               have hns29_0 := NB147_161.out
               have hns29_1 := NB151_161.out
               have hms29_0 := NB161_147.out
               have hms29_1 := NB161_151.out
               have hs30 : w25.cell? ⟨gb161, 4, none⟩ = some (.int .i64 0) := (blk_cell BK161.out 4).trans rfl
               have hfs30 := blk_frozen BK161.out 4
               have hns30_0 := NB147_161.out
               have hns30_1 := NB151_161.out
               have hms30_0 := NB161_147.out
               have hms30_1 := NB161_151.out
               refine skip_ (w1 := ?_) (by rfl) rfl ?_ ?_
               rotate_left
               ·
                go_simp
                rfl
               refine hK.out _ _ ⟨((cell_far (p := ⟨gb161, _, none⟩) NB151_161.out _).trans (((cell_far (p := ⟨gb161, _, none⟩) NB151_161.out _).trans (((cell_far (p := ⟨gb161, _, none⟩) NB151_161.out _).trans (((cell_far (p := ⟨gb161, _, none⟩) NB151_161.out _).trans (((cell_far (p := ⟨gb161, _, none⟩) NB151_161.out _).trans (hHeld.1)))))))))), ((cell_far (p := ⟨gb161, _, none⟩) NB151_161.out _).trans (((cell_far (p := ⟨gb161, _, none⟩) NB151_161.out _).trans (((cell_far (p := ⟨gb161, _, none⟩) NB151_161.out _).trans (((cell_far (p := ⟨gb161, _, none⟩) NB151_161.out _).trans (((cell_far (p := ⟨gb161, _, none⟩) NB151_161.out _).trans (hHeld.2.1)))))))))), ((cell_far (p := ⟨gb161, _, none⟩) NB151_161.out _).trans (((cell_far (p := ⟨gb161, _, none⟩) NB151_161.out _).trans (((cell_far (p := ⟨gb161, _, none⟩) NB151_161.out _).trans (((cell_far (p := ⟨gb161, _, none⟩) NB151_161.out _).trans (((cell_far (p := ⟨gb161, _, none⟩) NB151_161.out _).trans (hHeld.2.2.1)))))))))), ((cell_far (p := ⟨gb161, _, none⟩) NB151_161.out _).trans (((cell_far (p := ⟨gb161, _, none⟩) NB151_161.out _).trans (((cell_far (p := ⟨gb161, _, none⟩) NB151_161.out _).trans (((cell_far (p := ⟨gb161, _, none⟩) NB151_161.out _).trans (((cell_far (p := ⟨gb161, _, none⟩) NB151_161.out _).trans (hHeld.2.2.2.1)))))))))), ((cell_far (p := ⟨gb161, _, none⟩) NB151_161.out _).trans (((cell_far (p := ⟨gb161, _, none⟩) NB151_161.out _).trans (((cell_far (p := ⟨gb161, _, none⟩) NB151_161.out _).trans (((cell_far (p := ⟨gb161, _, none⟩) NB151_161.out _).trans (((cell_far (p := ⟨gb161, _, none⟩) NB151_161.out _).trans (hHeld.2.2.2.2))))))))))⟩ (fun hHeld => ?_)
               clear hK K
               refine pure_ (i := 11) (N := some 12) (v := ?_) (a' := ?_) #[true, true, true, true, true, true, true, true, true, true, true, true] rfl rfl (any_of HT_.out (by kernel_rfl)) (fun _ _ _ h => h) (Or.inl ⟨by rfl, ?_⟩) ?_ ?_
               rotate_left
               ·
                intro w'
                go_simp
                with_reducible rfl
               rotate_left
               ·
                simp only [Act.put, List.setIfInBounds_toArray, List.set_cons_zero, List.set_cons_succ, i64_w, i32_w]
                rfl
               refine done_ (done_of HT_.out (by kernel_rfl)) ?_
               have hnb31 := NB161_147.out
               have hnc31 := NB147_161.out
               have hnb32 := NB161_151.out
               have hnc32 := NB151_161.out
               have hcz33_0 : w25.cell? ⟨gb161, 0, none⟩ = some (.int .u8 0) := (blk_cell BK161.out 0).trans rfl
               have hcz33_1 : w25.cell? ⟨gb161, 1, none⟩ = some (.int .u8 0) := (blk_cell BK161.out 1).trans rfl
               have hcz33_2 : w25.cell? ⟨gb161, 2, none⟩ = some (.int .u8 0) := (blk_cell BK161.out 2).trans rfl
               have hcz33_3 : w25.cell? ⟨gb161, 3, none⟩ = some (.int .u8 0) := (blk_cell BK161.out 3).trans rfl
               have hcz33_4 : w25.cell? ⟨gb161, 4, none⟩ = some (.int .i64 0) := (blk_cell BK161.out 4).trans rfl
               have hfz33_0 := blk_frozen BK161.out 0
               have hfz33_1 := blk_frozen BK161.out 1
               have hfz33_2 := blk_frozen BK161.out 2
               have hfz33_3 := blk_frozen BK161.out 3
               have hfz33_4 := blk_frozen BK161.out 4
               have hnb34 := NB151_147.out
               have hnc34 := NB147_151.out
               have hcz35_0 : w25.cell? ⟨gb151, 0, none⟩ = some (.int .u8 x152000_3) := (blk_cell BK151.out 0).trans rfl
               have hcz35_1 : w25.cell? ⟨gb151, 1, none⟩ = some (.int .u8 x152001_3) := (blk_cell BK151.out 1).trans rfl
               have hcz35_2 : w25.cell? ⟨gb151, 2, none⟩ = some (.int .u8 x152002_3) := (blk_cell BK151.out 2).trans rfl
               have hcz35_3 : w25.cell? ⟨gb151, 3, none⟩ = some (.int .u8 x152003_3) := (blk_cell BK151.out 3).trans rfl
               have hcz35_4 : w25.cell? ⟨gb151, 4, none⟩ = some (.int .i64 x152004_3) := (blk_cell BK151.out 4).trans rfl
               have hfz35_0 := blk_frozen BK151.out 0
               have hfz35_1 := blk_frozen BK151.out 1
               have hfz35_2 := blk_frozen BK151.out 2
               have hfz35_3 := blk_frozen BK151.out 3
               have hfz35_4 := blk_frozen BK151.out 4
               try go_wp2
               go_roundg k3
               case measure => have := HK1.out; have := HJ4.out; have := HK3.out; omega
               case rel => exact ⟨(ji13), (x148000_3), (x148001_3), (x148002_3), (x148003_3), (x148004_3), (t155), (t156), (t157), (t158), (t159), (by first | rfl | (simp; done) | (simp only [← hji13] <;> (first | rfl | simp)) | (simp [*]; done)), H', ⟨by have := HK1.out; have := HJ4.out; have := HK3.out; omega⟩, ⟨by (with_reducible repeat (first | refine blk_drewN ?_ _ | refine blk_drew ?_ | refine blk_alloc ?_ _)); refine blk_far ?_ NB147_151.out _; (with_reducible repeat (first | refine blk_drewN ?_ _ | refine blk_drew ?_ | refine blk_alloc ?_ _)); refine blk_far ?_ NB147_151.out _; (with_reducible repeat (first | refine blk_drewN ?_ _ | refine blk_drew ?_ | refine blk_alloc ?_ _)); refine blk_far ?_ NB147_151.out _; (with_reducible repeat (first | refine blk_drewN ?_ _ | refine blk_drew ?_ | refine blk_alloc ?_ _)); refine blk_far ?_ NB147_151.out _; (with_reducible repeat (first | refine blk_drewN ?_ _ | refine blk_drew ?_ | refine blk_alloc ?_ _)); refine blk_far ?_ NB147_151.out _; (with_reducible repeat (first | refine blk_drewN ?_ _ | refine blk_drew ?_ | refine blk_alloc ?_ _)); refine blk_far ?_ NB147_161.out _; (with_reducible repeat (first | refine blk_drewN ?_ _ | refine blk_drew ?_ | refine blk_alloc ?_ _)); refine blk_far ?_ NB147_161.out _; (with_reducible repeat (first | refine blk_drewN ?_ _ | refine blk_drew ?_ | refine blk_alloc ?_ _)); refine blk_far ?_ NB147_161.out _; (with_reducible repeat (first | refine blk_drewN ?_ _ | refine blk_drew ?_ | refine blk_alloc ?_ _)); refine blk_far ?_ NB147_161.out _; (with_reducible repeat (first | refine blk_drewN ?_ _ | refine blk_drew ?_ | refine blk_alloc ?_ _)); refine blk_far ?_ NB147_161.out _; (with_reducible repeat (first | refine blk_drewN ?_ _ | refine blk_drew ?_ | refine blk_alloc ?_ _)); exact BK147.out⟩, ⟨by (with_reducible repeat (first | refine blk_drewN ?_ _ | refine blk_drew ?_ | refine blk_alloc ?_ _)); refine blk_put (cs := #[.int .u8 t155, .int .u8 t156, .int .u8 t157, .int .u8 t158, .int .i64 x152004_3]) ?_ 4 _ rfl; (with_reducible repeat (first | refine blk_drewN ?_ _ | refine blk_drew ?_ | refine blk_alloc ?_ _)); refine blk_put (cs := #[.int .u8 t155, .int .u8 t156, .int .u8 t157, .int .u8 x152003_3, .int .i64 x152004_3]) ?_ 3 _ rfl; (with_reducible repeat (first | refine blk_drewN ?_ _ | refine blk_drew ?_ | refine blk_alloc ?_ _)); refine blk_put (cs := #[.int .u8 t155, .int .u8 t156, .int .u8 x152002_3, .int .u8 x152003_3, .int .i64 x152004_3]) ?_ 2 _ rfl; (with_reducible repeat (first | refine blk_drewN ?_ _ | refine blk_drew ?_ | refine blk_alloc ?_ _)); refine blk_put (cs := #[.int .u8 t155, .int .u8 x152001_3, .int .u8 x152002_3, .int .u8 x152003_3, .int .i64 x152004_3]) ?_ 1 _ rfl; (with_reducible repeat (first | refine blk_drewN ?_ _ | refine blk_drew ?_ | refine blk_alloc ?_ _)); refine blk_put (cs := #[.int .u8 x152000_3, .int .u8 x152001_3, .int .u8 x152002_3, .int .u8 x152003_3, .int .i64 x152004_3]) ?_ 0 _ rfl; (with_reducible repeat (first | refine blk_drewN ?_ _ | refine blk_drew ?_ | refine blk_alloc ?_ _)); refine blk_far ?_ NB151_161.out _; (with_reducible repeat (first | refine blk_drewN ?_ _ | refine blk_drew ?_ | refine blk_alloc ?_ _)); refine blk_far ?_ NB151_161.out _; (with_reducible repeat (first | refine blk_drewN ?_ _ | refine blk_drew ?_ | refine blk_alloc ?_ _)); refine blk_far ?_ NB151_161.out _; (with_reducible repeat (first | refine blk_drewN ?_ _ | refine blk_drew ?_ | refine blk_alloc ?_ _)); refine blk_far ?_ NB151_161.out _; (with_reducible repeat (first | refine blk_drewN ?_ _ | refine blk_drew ?_ | refine blk_alloc ?_ _)); refine blk_far ?_ NB151_161.out _; (with_reducible repeat (first | refine blk_drewN ?_ _ | refine blk_drew ?_ | refine blk_alloc ?_ _)); exact BK151.out⟩, ⟨by repeat (first | (with_reducible first | exact HB.out | apply below_alloc | apply pw_below_drewN | apply below_drew1 | refine below_set ?_ GE147.out | refine below_set ?_ GE151.out | refine below_set ?_ GE161.out) | exact HB.out)⟩⟩
              ·
               replace c21 := Bool.eq_false_iff.mpr c21
               subst c21
               have H1 : (some (0, 0, 0, 0, 0, false)) = some (r1, r2, r3, r4, r5, r6) := by rw [if_neg (show ¬ (false = true) by decide)] at H; exact H
               clear H
               have H := H1
               clear H1
               simp only [Option.some.injEq, Prod.mk.injEq] at H
               obtain ⟨rfl, rfl, rfl, rfl, rfl, rfl⟩ := H
               have p152 : 0 ≤ ((ji13) : Int) := of_decide_eq_true (by first | (with_reducible assumption) | assumption)
               have q152 : (ji13) < (l0.length : Int) := of_decide_eq_true (by first | (with_reducible assumption) | assumption)
               obtain ⟨ad152, e152, hx152_0⟩ := Kd.at_string HR0.out (ji13) p152 q152
               cases e152
               replace hx152_0 := (HB.out.cell (World.block_lt_of_cell? w _ hx152_0)).trans hx152_0
               replace p152 := eq_true p152
               replace q152 := eq_true q152
               try go_wp2_with (first | ((with_reducible refine gate_callee (f := 46) rfl ?_); refine goesL_ (some 49) rfl rfl Tryd.func46 (by kernel_rfl) rfl #[.string (rdOf ByteArray.empty l0 (ji13))] rfl (by (try simp only [List.map_toArray, List.map_cons, List.map_nil]); first | done | (simp only [hji13]; rfl) | rfl | (simp only [List.length_drop, List.length_take]; rfl)) ?_; (with_reducible refine (lockstitchref02_Number.calls k3 (rdOf ByteArray.empty l0 (ji13)) t153 t154 _ A16.out).mono ?_); rintro e w' ⟨rfl, ⟨nd, rfl⟩⟩; refine ⟨_, rfl, ?_⟩; (try (rw [drewN_self wr]; generalize hq_ : World.drewN wr _ = wr; have n0_ : Aside0 (wr.heap[gb147]? = some (.cells #[.int .u8 x148000_3, .int .u8 x148001_3, .int .u8 x148002_3, .int .u8 x148003_3, .int .i64 x148004_3] 39 (0, 0))) := ⟨by rw [← hq_]; exact (by (with_reducible repeat (first | refine blk_drewN ?_ _ | refine blk_drew ?_ | refine blk_alloc ?_ _)); exact BK147.out)⟩; have n1_ : Aside0 (wr.heap[gb151]? = some (.cells #[.int .u8 x152000_3, .int .u8 x152001_3, .int .u8 x152002_3, .int .u8 x152003_3, .int .i64 x152004_3] 39 (0, 0))) := ⟨by rw [← hq_]; exact (by (with_reducible repeat (first | refine blk_drewN ?_ _ | refine blk_drew ?_ | refine blk_alloc ?_ _)); exact BK151.out)⟩; have n2_ : Aside0 (Below w.heap.size w wr) := ⟨by rw [← hq_]; exact (by repeat (first | (with_reducible first | exact HB.out | apply below_alloc | apply pw_below_drewN | apply below_drew1 | refine below_set ?_ GE147.out | refine below_set ?_ GE151.out) | exact HB.out))⟩; clear BK147 BK151 HB hq_; have BK147 := n0_; have BK151 := n1_; have HB := n2_; clear n0_ n1_ n2_))))
               have n0_ := Aside0.mk (blk_drew BK147.out)
               have n1_ := Aside0.mk (blk_drew BK151.out)
               have n2_ := Aside0.mk (below_drew1 HB.out)
               clear BK147
               clear BK151
               clear HB
               have BK147 := n0_
               have BK151 := n1_
               have HB := n2_
               clear n0_ n1_ n2_
               have p18 : 0 ≤ (x8_3 : Int) := of_decide_eq_true (by first | (with_reducible assumption) | assumption)
               have q18 : x8_3 < (t149.size : Int) := of_decide_eq_true (by first | (with_reducible assumption) | assumption)
               have hx18 := bt_at t149 x8_3
               replace p18 := eq_true p18
               replace q18 := eq_true q18
               refine start_ (n := 12) (S := fun w' => w'.cell? ⟨gb151, 0, none⟩ = some (.int .u8 x152000_3) ∧ w'.cell? ⟨gb151, 1, none⟩ = some (.int .u8 x152001_3) ∧ w'.cell? ⟨gb151, 2, none⟩ = some (.int .u8 x152002_3) ∧ w'.cell? ⟨gb151, 3, none⟩ = some (.int .u8 x152003_3) ∧ w'.cell? ⟨gb151, 4, none⟩ = some (.int .i64 x152004_3)) (ds := []) #[false, false, false, false, false, false, false, false, false, false, false, false] (by kernel_rfl) rfl rfl ⟨(blk_cell BK151.out 0).trans rfl, (blk_cell BK151.out 1).trans rfl, (blk_cell BK151.out 2).trans rfl, (blk_cell BK151.out 3).trans rfl, (blk_cell BK151.out 4).trans rfl⟩ (fun hHeld => ?_); refine with_tabW lockstitchref04_read.tab11 lockstitchref04_read.bits11 (fun HT_ HW_ => ?_)
               generalize wr.drew = w36 at BK147 BK151 HB hHeld ⊢
               refine pure_ (i := 1) (N := some 54) (v := ?_) (a' := ?_) #[false, true, false, false, false, false, false, false, false, false, false, false] rfl rfl (any_of HT_.out (by kernel_rfl)) (fun _ _ _ h => h) (Or.inl ⟨by rfl, ?_⟩) ?_ ?_
               rotate_left
               ·
                intro w'
                go_simp
                with_reducible rfl
               rotate_left
               ·
                simp only [Act.put, List.setIfInBounds_toArray, List.set_cons_zero, List.set_cons_succ, i64_w, i32_w]
                rfl
               refine pure_ (i := 2) (N := some 55) (v := ?_) (a' := ?_) #[false, true, true, false, false, false, false, false, false, false, false, false] rfl rfl (any_of HT_.out (by kernel_rfl)) (fun _ _ _ h => h) (Or.inl ⟨by rfl, ?_⟩) ?_ ?_
               rotate_left
               ·
                intro w'
                go_simp
                with_reducible rfl
               rotate_left
               ·
                simp only [Act.put, List.setIfInBounds_toArray, List.set_cons_zero, List.set_cons_succ, i64_w, i32_w]
                rfl
               refine pure_ (i := 4) (N := some 57) (v := ?_) (a' := ?_) #[false, true, true, false, true, false, false, false, false, false, false, false] rfl rfl (any_of HT_.out (by kernel_rfl)) (fun _ _ _ h => h) (Or.inl ⟨by rfl, ?_⟩) ?_ ?_
               rotate_left
               ·
                intro w'
                go_simp
                with_reducible rfl
               rotate_left
               ·
                simp only [Act.put, List.setIfInBounds_toArray, List.set_cons_zero, List.set_cons_succ, i64_w, i32_w]
                rfl
               refine take_ (i := 0) (N := some 53) (v := ?_) (a' := ?_) #[true, true, true, false, true, false, false, false, false, false, false, false] rfl rfl (take_ofW HT_.out HW_.out (by kernel_rfl)) (fun _ _ _ h => h) (Or.inl ⟨by rfl, ?_⟩) hHeld ?_ ?_
               rotate_left
               ·
                rintro w' ⟨s0, s1, s2, s3, s4⟩
                go_simp
                with_reducible rfl
               rotate_left
               ·
                simp only [Act.put, List.setIfInBounds_toArray, List.set_cons_zero, List.set_cons_succ, i64_w, i32_w]
                rfl
               refine take_ (i := 3) (N := some 56) (v := ?_) (a' := ?_) #[true, true, true, true, true, false, false, false, false, false, false, false] rfl rfl (take_ofW HT_.out HW_.out (by kernel_rfl)) (fun _ _ _ h => h) (Or.inl ⟨by rfl, ?_⟩) hHeld ?_ ?_
               rotate_left
               ·
                rintro w' ⟨s0, s1, s2, s3, s4⟩
                go_simp
                with_reducible rfl
               rotate_left
               ·
                simp only [Act.put, List.setIfInBounds_toArray, List.set_cons_zero, List.set_cons_succ, i64_w, i32_w]
                rfl
               refine join_ (σ := Nat) 2 #[true, true, true, true, true, true, true, true, true, true, false, false] (fun s_ => [(58, .tuple #[.agg #[.int .u8 t155, .int .u8 t156, .int .u8 t157, .int .u8 t158, .int .i64 t159], .bool false]), (11, .pointer (some ⟨s_, 0, none⟩)), (52, .tuple #[.agg #[.int .u8 t155, .int .u8 t156, .int .u8 t157, .int .u8 t158, .int .i64 t159], .bool false]), (59, .agg #[.int .u8 t155, .int .u8 t156, .int .u8 t157, .int .u8 t158, .int .i64 t159]), (60, .bool false)]) (fun s_ w' => (w'.cell? ⟨gb151, 0, none⟩ = some (.int .u8 x152000_3) ∧ w'.cell? ⟨gb151, 1, none⟩ = some (.int .u8 x152001_3) ∧ w'.cell? ⟨gb151, 2, none⟩ = some (.int .u8 x152002_3) ∧ w'.cell? ⟨gb151, 3, none⟩ = some (.int .u8 x152003_3) ∧ w'.cell? ⟨gb151, 4, none⟩ = some (.int .i64 x152004_3)) ∧ (w'.heap[gb147]? = some (.cells #[.int .u8 x148000_3, .int .u8 x148001_3, .int .u8 x148002_3, .int .u8 x148003_3, .int .i64 x148004_3] 39 (0, 0))) ∧ (w'.heap[gb151]? = some (.cells #[.int .u8 x152000_3, .int .u8 x152001_3, .int .u8 x152002_3, .int .u8 x152003_3, .int .i64 x152004_3] 39 (0, 0))) ∧ (w'.heap[s_]? = some (.cells #[.int .u8 0, .int .u8 0, .int .u8 0, .int .u8 0, .int .i64 0] 39 (0, 0))) ∧ (w.heap.size ≤ s_) ∧ (w.heap.size ≤ s_) ∧ (gb147 ≠ s_) ∧ (s_ ≠ gb147) ∧ (gb151 ≠ s_) ∧ (s_ ≠ gb151) ∧ (Below w.heap.size w w')) ?_ ?_
               rotate_left
               ·
                intro hCont
                refine two_ (i := 5) (j := 9) (Ni := some 58) (Nj := some 11) #[true, true, true, true, true, true, false, false, false, false, false, false] #[true, true, true, true, true, false, false, false, false, true, false, false] rfl rfl rfl rfl (two_of HT_.out (by kernel_rfl)) (by decide) (by decide) (fun K hK => ?_) (fun K hK => ?_)
                ·
                 skip
                 refine goes_ Tryd.func47 (by kernel_rfl) rfl #[.agg #[.int .u8 x152000_3, .int .u8 x152001_3, .int .u8 x152002_3, .int .u8 x152003_3, .int .i64 x152004_3], .int .u8 (bt t149 x8_3), .int .i64 t153] (by rfl) rfl rfl (by (try simp only [List.map_toArray, List.map_cons, List.map_nil]); first | done | rfl | (simp only [List.length_drop, List.length_take]; rfl)) ?_
                 with_reducible refine (lockstitchref04_with.calls k3 x152000_3 x152001_3 x152002_3 x152003_3 x152004_3 (bt t149 x8_3) t153 t155 t156 t157 t158 t159 false _ A19.out).mono ?_
                 rintro e w37 ⟨rfl, hb⟩
                 refine ⟨_, rfl, ?_⟩
                 have n0_ := Aside0.mk (blk_below (g := gb147) (o := .cells #[.int .u8 x148000_3, .int .u8 x148001_3, .int .u8 x148002_3, .int .u8 x148003_3, .int .i64 x148004_3] 39 (0, 0)) (by (with_reducible repeat (first | refine blk_drewN ?_ _ | refine blk_drew ?_ | refine blk_alloc ?_ _)); exact BK147.out) hb)
                 have n1_ := Aside0.mk (blk_below (g := gb151) (o := .cells #[.int .u8 x152000_3, .int .u8 x152001_3, .int .u8 x152002_3, .int .u8 x152003_3, .int .i64 x152004_3] 39 (0, 0)) (by (with_reducible repeat (first | refine blk_drewN ?_ _ | refine blk_drew ?_ | refine blk_alloc ?_ _)); exact BK151.out) hb)
                 have n2_ := Aside0.mk (below_step (by repeat (first | (with_reducible first | exact HB.out | apply below_alloc | apply pw_below_drewN | apply below_drew1 | refine below_set ?_ GE147.out | refine below_set ?_ GE151.out) | exact HB.out)) hb)
                 clear BK147
                 clear BK151
                 clear HB
                 have BK147 := n0_
                 have BK151 := n1_
                 have HB := n2_
                 clear n0_ n1_ n2_
                 (try clear hb)
                 (try clear hb2)
                 (try clear hk)
                 (try clear hi)
                 refine hK.out _ _ ⟨(blk_cell BK151.out 0).trans rfl, (blk_cell BK151.out 1).trans rfl, (blk_cell BK151.out 2).trans rfl, (blk_cell BK151.out 3).trans rfl, (blk_cell BK151.out 4).trans rfl⟩ (fun hHeld => ?_)
                 clear hK K
                 refine norm_ (a' := ?_) ?_ ?_
                 rotate_left
                 ·
                  show Act.put _ (some 58) _ = _
                  simp only [Act.put, List.setIfInBounds_toArray, List.set_cons_zero, List.set_cons_succ, i64_w, i32_w]
                  rfl
                 refine pure_ (i := 6) (N := some 52) (v := ?_) (a' := ?_) #[true, true, true, true, true, true, true, false, false, false, false, false] rfl rfl (any_of HT_.out (by kernel_rfl)) (fun _ _ _ h => h) (Or.inl ⟨by rfl, ?_⟩) ?_ ?_
                 rotate_left
                 ·
                  intro w'
                  go_simp
                  with_reducible rfl
                 rotate_left
                 ·
                  simp only [Act.put, List.setIfInBounds_toArray, List.set_cons_zero, List.set_cons_succ, i64_w, i32_w]
                  rfl
                 refine pure_ (i := 7) (N := some 59) (v := ?_) (a' := ?_) #[true, true, true, true, true, true, true, true, false, false, false, false] rfl rfl (any_of HT_.out (by kernel_rfl)) (fun _ _ _ h => h) (Or.inl ⟨by rfl, ?_⟩) ?_ ?_
                 rotate_left
                 ·
                  intro w'
                  go_simp
                  with_reducible rfl
                 rotate_left
                 ·
                  simp only [Act.put, List.setIfInBounds_toArray, List.set_cons_zero, List.set_cons_succ, i64_w, i32_w]
                  rfl
                 refine pure_ (i := 8) (N := some 60) (v := ?_) (a' := ?_) #[true, true, true, true, true, true, true, true, true, false, false, false] rfl rfl (any_of HT_.out (by kernel_rfl)) (fun _ _ _ h => h) (Or.inl ⟨by rfl, ?_⟩) ?_ ?_
                 rotate_left
                 ·
                  intro w'
                  go_simp
                  with_reducible rfl
                 rotate_left
                 ·
                  simp only [Act.put, List.setIfInBounds_toArray, List.set_cons_zero, List.set_cons_succ, i64_w, i32_w]
                  rfl
                 refine one_ (i := 9) (N := some 11) #[true, true, true, true, true, true, true, true, true, true, false, false] rfl rfl (one_of HT_.out (by kernel_rfl)) (by decide) (fun K hK => ?_)
                 refine box_step ?hg (N := 11) ?hd (cs := #[.int .u8 0, .int .u8 0, .int .u8 0, .int .u8 0, .int .i64 0]) (t := 39) ?hr ?_; (case hd => rfl); (case hg => rfl); (case hr => first | (go_simp; done) | (go_simp; rfl))
                 intro gb161 hg w38 hbox hb
                 have n0_ := Aside0.mk (blk_below (g := gb147) (o := .cells #[.int .u8 x148000_3, .int .u8 x148001_3, .int .u8 x148002_3, .int .u8 x148003_3, .int .i64 x148004_3] 39 (0, 0)) (by (with_reducible repeat (first | refine blk_drewN ?_ _ | refine blk_drew ?_ | refine blk_alloc ?_ _)); exact BK147.out) hb)
                 have n1_ := Aside0.mk (blk_below (g := gb151) (o := .cells #[.int .u8 x152000_3, .int .u8 x152001_3, .int .u8 x152002_3, .int .u8 x152003_3, .int .i64 x152004_3] 39 (0, 0)) (by (with_reducible repeat (first | refine blk_drewN ?_ _ | refine blk_drew ?_ | refine blk_alloc ?_ _)); exact BK151.out) hb)
                 have n2_ := Aside0.mk (below_step (by repeat (first | (with_reducible first | exact HB.out | apply below_alloc | apply pw_below_drewN | apply below_drew1 | refine below_set ?_ GE147.out | refine below_set ?_ GE151.out) | exact HB.out)) hb)
                 have n3_ := Aside0.mk (hbox)
                 have n4_ := Aside0.mk ((by rw [hg]; exact (below_size (by repeat (first | (with_reducible first | exact HB.out | apply below_alloc | apply pw_below_drewN | apply below_drew1 | refine below_set ?_ GE147.out | refine below_set ?_ GE151.out) | exact HB.out))) : w.heap.size ≤ gb161))
                 have n5_ := n4_
                 have n6_ := Aside0.mk ((by rw [hg]; exact Nat.ne_of_lt (blk_lt (g := gb147) (o := .cells #[.int .u8 x148000_3, .int .u8 x148001_3, .int .u8 x148002_3, .int .u8 x148003_3, .int .i64 x148004_3] 39 (0, 0)) (by (with_reducible repeat (first | refine blk_drewN ?_ _ | refine blk_drew ?_ | refine blk_alloc ?_ _)); exact BK147.out)) : gb147 ≠ gb161))
                 have n7_ := Aside0.mk n6_.out.symm
                 have n8_ := Aside0.mk ((by rw [hg]; exact Nat.ne_of_lt (blk_lt (g := gb151) (o := .cells #[.int .u8 x152000_3, .int .u8 x152001_3, .int .u8 x152002_3, .int .u8 x152003_3, .int .i64 x152004_3] 39 (0, 0)) (by (with_reducible repeat (first | refine blk_drewN ?_ _ | refine blk_drew ?_ | refine blk_alloc ?_ _)); exact BK151.out)) : gb151 ≠ gb161))
                 have n9_ := Aside0.mk n8_.out.symm
                 clear BK147
                 clear BK151
                 clear HB
                 have BK147 := n0_
                 have BK151 := n1_
                 have HB := n2_
                 have BK161 := n3_
                 have GW161 := n4_
                 have GE161 := n5_
                 have NB147_161 := n6_
                 have NB161_147 := n7_
                 have NB151_161 := n8_
                 have NB161_151 := n9_
                 clear n0_ n1_ n2_ n3_ n4_ n5_ n6_ n7_ n8_ n9_
                 clear hb hbox hg
                 refine hK.out _ _ ⟨(blk_cell BK151.out 0).trans rfl, (blk_cell BK151.out 1).trans rfl, (blk_cell BK151.out 2).trans rfl, (blk_cell BK151.out 3).trans rfl, (blk_cell BK151.out 4).trans rfl⟩ (fun hHeld => ?_)
                 clear hK K
                 refine norm_ (a' := ?_) ?_ ?_
                 rotate_left
                 ·
                  show Act.put _ (some 11) _ = _
                  simp only [Act.put, List.setIfInBounds_toArray, List.set_cons_zero, List.set_cons_succ, i64_w, i32_w]
                  rfl
                 exact norm_ (by simp only [putAll, Act.put, List.setIfInBounds_toArray, List.set_cons_zero, List.set_cons_succ]) (hCont (gb161) _ ⟨hHeld, (by (with_reducible repeat (first | refine blk_drewN ?_ _ | refine blk_drew ?_ | refine blk_alloc ?_ _)); exact BK147.out), (by (with_reducible repeat (first | refine blk_drewN ?_ _ | refine blk_drew ?_ | refine blk_alloc ?_ _)); exact BK151.out), (by (with_reducible repeat (first | refine blk_drewN ?_ _ | refine blk_drew ?_ | refine blk_alloc ?_ _)); exact BK161.out), GW161.out, GE161.out, NB147_161.out, NB161_147.out, NB151_161.out, NB161_151.out, (by repeat (first | (with_reducible first | exact HB.out | apply below_alloc | apply pw_below_drewN | apply below_drew1 | refine below_set ?_ GE147.out | refine below_set ?_ GE151.out | refine below_set ?_ GE161.out) | exact HB.out))⟩)
                ·
                 skip
                 refine box_step ?hg (N := 11) ?hd (cs := #[.int .u8 0, .int .u8 0, .int .u8 0, .int .u8 0, .int .i64 0]) (t := 39) ?hr ?_; (case hd => rfl); (case hg => rfl); (case hr => first | (go_simp; done) | (go_simp; rfl))
                 intro gb161 hg w37 hbox hb
                 have n0_ := Aside0.mk (blk_below (g := gb147) (o := .cells #[.int .u8 x148000_3, .int .u8 x148001_3, .int .u8 x148002_3, .int .u8 x148003_3, .int .i64 x148004_3] 39 (0, 0)) (by (with_reducible repeat (first | refine blk_drewN ?_ _ | refine blk_drew ?_ | refine blk_alloc ?_ _)); exact BK147.out) hb)
                 have n1_ := Aside0.mk (blk_below (g := gb151) (o := .cells #[.int .u8 x152000_3, .int .u8 x152001_3, .int .u8 x152002_3, .int .u8 x152003_3, .int .i64 x152004_3] 39 (0, 0)) (by (with_reducible repeat (first | refine blk_drewN ?_ _ | refine blk_drew ?_ | refine blk_alloc ?_ _)); exact BK151.out) hb)
                 have n2_ := Aside0.mk (below_step (by repeat (first | (with_reducible first | exact HB.out | apply below_alloc | apply pw_below_drewN | apply below_drew1 | refine below_set ?_ GE147.out | refine below_set ?_ GE151.out) | exact HB.out)) hb)
                 have n3_ := Aside0.mk (hbox)
                 have n4_ := Aside0.mk ((by rw [hg]; exact (below_size (by repeat (first | (with_reducible first | exact HB.out | apply below_alloc | apply pw_below_drewN | apply below_drew1 | refine below_set ?_ GE147.out | refine below_set ?_ GE151.out) | exact HB.out))) : w.heap.size ≤ gb161))
                 have n5_ := n4_
                 have n6_ := Aside0.mk ((by rw [hg]; exact Nat.ne_of_lt (blk_lt (g := gb147) (o := .cells #[.int .u8 x148000_3, .int .u8 x148001_3, .int .u8 x148002_3, .int .u8 x148003_3, .int .i64 x148004_3] 39 (0, 0)) (by (with_reducible repeat (first | refine blk_drewN ?_ _ | refine blk_drew ?_ | refine blk_alloc ?_ _)); exact BK147.out)) : gb147 ≠ gb161))
                 have n7_ := Aside0.mk n6_.out.symm
                 have n8_ := Aside0.mk ((by rw [hg]; exact Nat.ne_of_lt (blk_lt (g := gb151) (o := .cells #[.int .u8 x152000_3, .int .u8 x152001_3, .int .u8 x152002_3, .int .u8 x152003_3, .int .i64 x152004_3] 39 (0, 0)) (by (with_reducible repeat (first | refine blk_drewN ?_ _ | refine blk_drew ?_ | refine blk_alloc ?_ _)); exact BK151.out)) : gb151 ≠ gb161))
                 have n9_ := Aside0.mk n8_.out.symm
                 clear BK147
                 clear BK151
                 clear HB
                 have BK147 := n0_
                 have BK151 := n1_
                 have HB := n2_
                 have BK161 := n3_
                 have GW161 := n4_
                 have GE161 := n5_
                 have NB147_161 := n6_
                 have NB161_147 := n7_
                 have NB151_161 := n8_
                 have NB161_151 := n9_
                 clear n0_ n1_ n2_ n3_ n4_ n5_ n6_ n7_ n8_ n9_
                 clear hb hbox hg
                 refine hK.out _ _ ⟨(blk_cell BK151.out 0).trans rfl, (blk_cell BK151.out 1).trans rfl, (blk_cell BK151.out 2).trans rfl, (blk_cell BK151.out 3).trans rfl, (blk_cell BK151.out 4).trans rfl⟩ (fun hHeld => ?_)
                 clear hK K
                 refine norm_ (a' := ?_) ?_ ?_
                 rotate_left
                 ·
                  show Act.put _ (some 11) _ = _
                  simp only [Act.put, List.setIfInBounds_toArray, List.set_cons_zero, List.set_cons_succ, i64_w, i32_w]
                  rfl
                 refine one_ (i := 5) (N := some 58) #[true, true, true, true, true, true, false, false, false, true, false, false] rfl rfl (one_of HT_.out (by kernel_rfl)) (by decide) (fun K hK => ?_)
                 refine goes_ Tryd.func47 (by kernel_rfl) rfl #[.agg #[.int .u8 x152000_3, .int .u8 x152001_3, .int .u8 x152002_3, .int .u8 x152003_3, .int .i64 x152004_3], .int .u8 (bt t149 x8_3), .int .i64 t153] (by rfl) rfl rfl (by (try simp only [List.map_toArray, List.map_cons, List.map_nil]); first | done | rfl | (simp only [List.length_drop, List.length_take]; rfl)) ?_
                 with_reducible refine (lockstitchref04_with.calls k3 x152000_3 x152001_3 x152002_3 x152003_3 x152004_3 (bt t149 x8_3) t153 t155 t156 t157 t158 t159 false _ A19.out).mono ?_
                 rintro e w38 ⟨rfl, hb⟩
                 refine ⟨_, rfl, ?_⟩
                 have n0_ := Aside0.mk (blk_below (g := gb147) (o := .cells #[.int .u8 x148000_3, .int .u8 x148001_3, .int .u8 x148002_3, .int .u8 x148003_3, .int .i64 x148004_3] 39 (0, 0)) (by (with_reducible repeat (first | refine blk_drewN ?_ _ | refine blk_drew ?_ | refine blk_alloc ?_ _)); exact BK147.out) hb)
                 have n1_ := Aside0.mk (blk_below (g := gb151) (o := .cells #[.int .u8 x152000_3, .int .u8 x152001_3, .int .u8 x152002_3, .int .u8 x152003_3, .int .i64 x152004_3] 39 (0, 0)) (by (with_reducible repeat (first | refine blk_drewN ?_ _ | refine blk_drew ?_ | refine blk_alloc ?_ _)); exact BK151.out) hb)
                 have n2_ := Aside0.mk (blk_below (g := gb161) (o := .cells #[.int .u8 0, .int .u8 0, .int .u8 0, .int .u8 0, .int .i64 0] 39 (0, 0)) (by (with_reducible repeat (first | refine blk_drewN ?_ _ | refine blk_drew ?_ | refine blk_alloc ?_ _)); exact BK161.out) hb)
                 have n3_ := Aside0.mk (below_step (by repeat (first | (with_reducible first | exact HB.out | apply below_alloc | apply pw_below_drewN | apply below_drew1 | refine below_set ?_ GE147.out | refine below_set ?_ GE151.out | refine below_set ?_ GE161.out) | exact HB.out)) hb)
                 clear BK147
                 clear BK151
                 clear BK161
                 clear HB
                 have BK147 := n0_
                 have BK151 := n1_
                 have BK161 := n2_
                 have HB := n3_
                 clear n0_ n1_ n2_ n3_
                 (try clear hb)
                 (try clear hb2)
                 (try clear hk)
                 (try clear hi)
                 refine hK.out _ _ ⟨(blk_cell BK151.out 0).trans rfl, (blk_cell BK151.out 1).trans rfl, (blk_cell BK151.out 2).trans rfl, (blk_cell BK151.out 3).trans rfl, (blk_cell BK151.out 4).trans rfl⟩ (fun hHeld => ?_)
                 clear hK K
                 refine norm_ (a' := ?_) ?_ ?_
                 rotate_left
                 ·
                  show Act.put _ (some 58) _ = _
                  simp only [Act.put, List.setIfInBounds_toArray, List.set_cons_zero, List.set_cons_succ, i64_w, i32_w]
                  rfl
                 refine pure_ (i := 6) (N := some 52) (v := ?_) (a' := ?_) #[true, true, true, true, true, true, true, false, false, true, false, false] rfl rfl (any_of HT_.out (by kernel_rfl)) (fun _ _ _ h => h) (Or.inl ⟨by rfl, ?_⟩) ?_ ?_
                 rotate_left
                 ·
                  intro w'
                  go_simp
                  with_reducible rfl
                 rotate_left
                 ·
                  simp only [Act.put, List.setIfInBounds_toArray, List.set_cons_zero, List.set_cons_succ, i64_w, i32_w]
                  rfl
                 refine pure_ (i := 7) (N := some 59) (v := ?_) (a' := ?_) #[true, true, true, true, true, true, true, true, false, true, false, false] rfl rfl (any_of HT_.out (by kernel_rfl)) (fun _ _ _ h => h) (Or.inl ⟨by rfl, ?_⟩) ?_ ?_
                 rotate_left
                 ·
                  intro w'
                  go_simp
                  with_reducible rfl
                 rotate_left
                 ·
                  simp only [Act.put, List.setIfInBounds_toArray, List.set_cons_zero, List.set_cons_succ, i64_w, i32_w]
                  rfl
                 refine pure_ (i := 8) (N := some 60) (v := ?_) (a' := ?_) #[true, true, true, true, true, true, true, true, true, true, false, false] rfl rfl (any_of HT_.out (by kernel_rfl)) (fun _ _ _ h => h) (Or.inl ⟨by rfl, ?_⟩) ?_ ?_
                 rotate_left
                 ·
                  intro w'
                  go_simp
                  with_reducible rfl
                 rotate_left
                 ·
                  simp only [Act.put, List.setIfInBounds_toArray, List.set_cons_zero, List.set_cons_succ, i64_w, i32_w]
                  rfl
                 exact norm_ (by simp only [putAll, Act.put, List.setIfInBounds_toArray, List.set_cons_zero, List.set_cons_succ]) (hCont (gb161) _ ⟨hHeld, (by (with_reducible repeat (first | refine blk_drewN ?_ _ | refine blk_drew ?_ | refine blk_alloc ?_ _)); exact BK147.out), (by (with_reducible repeat (first | refine blk_drewN ?_ _ | refine blk_drew ?_ | refine blk_alloc ?_ _)); exact BK151.out), (by (with_reducible repeat (first | refine blk_drewN ?_ _ | refine blk_drew ?_ | refine blk_alloc ?_ _)); exact BK161.out), GW161.out, GE161.out, NB147_161.out, NB161_147.out, NB151_161.out, NB161_151.out, (by repeat (first | (with_reducible first | exact HB.out | apply below_alloc | apply pw_below_drewN | apply below_drew1 | refine below_set ?_ GE147.out | refine below_set ?_ GE151.out | refine below_set ?_ GE161.out) | exact HB.out))⟩)
               rintro gb161 w39 ⟨hS_, h0_, h1_, h2_, h3_, h4_, h5_, h6_, h7_, h8_, h9_⟩
               have n0_ : Aside0 (w39.heap[gb147]? = some (.cells #[.int .u8 x148000_3, .int .u8 x148001_3, .int .u8 x148002_3, .int .u8 x148003_3, .int .i64 x148004_3] 39 (0, 0))) := ⟨h0_⟩
               have n1_ : Aside0 (w39.heap[gb151]? = some (.cells #[.int .u8 x152000_3, .int .u8 x152001_3, .int .u8 x152002_3, .int .u8 x152003_3, .int .i64 x152004_3] 39 (0, 0))) := ⟨h1_⟩
               have n2_ : Aside0 (w39.heap[gb161]? = some (.cells #[.int .u8 0, .int .u8 0, .int .u8 0, .int .u8 0, .int .i64 0] 39 (0, 0))) := ⟨h2_⟩
               have n3_ : Aside0 (w.heap.size ≤ gb161) := ⟨h3_⟩
               have n4_ : Aside0 (w.heap.size ≤ gb161) := ⟨h4_⟩
               have n5_ : Aside0 (gb147 ≠ gb161) := ⟨h5_⟩
               have n6_ : Aside0 (gb161 ≠ gb147) := ⟨h6_⟩
               have n7_ : Aside0 (gb151 ≠ gb161) := ⟨h7_⟩
               have n8_ : Aside0 (gb161 ≠ gb151) := ⟨h8_⟩
               have n9_ : Aside0 (Below w.heap.size w w39) := ⟨h9_⟩
               clear BK147
               clear BK151
               clear HB
               clear h0_ h1_ h2_ h3_ h4_ h5_ h6_ h7_ h8_ h9_
               have BK147 := n0_
               have BK151 := n1_
               have BK161 := n2_
               have GW161 := n3_
               have GE161 := n4_
               have NB147_161 := n5_
               have NB161_147 := n6_
               have NB151_161 := n7_
               have NB161_151 := n8_
               have HB := n9_
               clear n0_ n1_ n2_ n3_ n4_ n5_ n6_ n7_ n8_ n9_
               have hHeld : w39.cell? ⟨gb151, 0, none⟩ = some (.int .u8 x152000_3) ∧ w39.cell? ⟨gb151, 1, none⟩ = some (.int .u8 x152001_3) ∧ w39.cell? ⟨gb151, 2, none⟩ = some (.int .u8 x152002_3) ∧ w39.cell? ⟨gb151, 3, none⟩ = some (.int .u8 x152003_3) ∧ w39.cell? ⟨gb151, 4, none⟩ = some (.int .i64 x152004_3) := hS_
               refine norm_ (a' := ?_) ?_ ?_
               rotate_left
               ·
                simp only [putAll, Act.put, List.setIfInBounds_toArray, List.set_cons_zero, List.set_cons_succ]
                rfl
               refine one_ (i := 10) (N := none) #[true, true, true, true, true, true, true, true, true, true, true, false] rfl rfl (one_of HT_.out (by kernel_rfl)) (by decide) (fun K hK => ?_)
               have hs40 : w39.cell? ⟨gb161, 0, none⟩ = some (.int .u8 0) := (blk_cell BK161.out 0).trans rfl
               have hfs40 := blk_frozen BK161.out 0
               have hns40_0 := NB147_161.out
               have hns40_1 := NB151_161.out
               have hms40_0 := NB161_147.out
               have hms40_1 := NB161_151.out
               have hs41 : w39.cell? ⟨gb161, 1, none⟩ = some (.int .u8 0) := (blk_cell BK161.out 1).trans rfl
               have hfs41 := blk_frozen BK161.out 1
               have hns41_0 := NB147_161.out
               have hns41_1 := NB151_161.out
               have hms41_0 := NB161_147.out
               have hms41_1 := NB161_151.out
               have hs42 : w39.cell? ⟨gb161, 2, none⟩ = some (.int .u8 0) := (blk_cell BK161.out 2).trans rfl
               have hfs42 := blk_frozen BK161.out 2
               have hns42_0 := NB147_161.out
               have hns42_1 := NB151_161.out
               have hms42_0 := NB161_147.out
               have hms42_1 := NB161_151.out
               have hs43 : w39.cell? ⟨gb161, 3, none⟩ = some (.int .u8 0) := (blk_cell BK161.out 3).trans rfl
               have hfs43 := blk_frozen BK161.out 3
               have hns43_0 := NB147_161.out
               have hns43_1 := NB151_161.out
               have hms43_0 := NB161_147.out
               have hms43_1 := NB161_151.out
               have hs44 : w39.cell? ⟨gb161, 4, none⟩ = some (.int .i64 0) := (blk_cell BK161.out 4).trans rfl
               have hfs44 := blk_frozen BK161.out 4
               have hns44_0 := NB147_161.out
               have hns44_1 := NB151_161.out
               have hms44_0 := NB161_147.out
               have hms44_1 := NB161_151.out
               refine skip_ (w1 := ?_) (by rfl) rfl ?_ ?_
               rotate_left
               ·
                go_simp
                rfl
               refine hK.out _ _ ⟨((cell_far (p := ⟨gb161, _, none⟩) NB151_161.out _).trans (((cell_far (p := ⟨gb161, _, none⟩) NB151_161.out _).trans (((cell_far (p := ⟨gb161, _, none⟩) NB151_161.out _).trans (((cell_far (p := ⟨gb161, _, none⟩) NB151_161.out _).trans (((cell_far (p := ⟨gb161, _, none⟩) NB151_161.out _).trans (hHeld.1)))))))))), ((cell_far (p := ⟨gb161, _, none⟩) NB151_161.out _).trans (((cell_far (p := ⟨gb161, _, none⟩) NB151_161.out _).trans (((cell_far (p := ⟨gb161, _, none⟩) NB151_161.out _).trans (((cell_far (p := ⟨gb161, _, none⟩) NB151_161.out _).trans (((cell_far (p := ⟨gb161, _, none⟩) NB151_161.out _).trans (hHeld.2.1)))))))))), ((cell_far (p := ⟨gb161, _, none⟩) NB151_161.out _).trans (((cell_far (p := ⟨gb161, _, none⟩) NB151_161.out _).trans (((cell_far (p := ⟨gb161, _, none⟩) NB151_161.out _).trans (((cell_far (p := ⟨gb161, _, none⟩) NB151_161.out _).trans (((cell_far (p := ⟨gb161, _, none⟩) NB151_161.out _).trans (hHeld.2.2.1)))))))))), ((cell_far (p := ⟨gb161, _, none⟩) NB151_161.out _).trans (((cell_far (p := ⟨gb161, _, none⟩) NB151_161.out _).trans (((cell_far (p := ⟨gb161, _, none⟩) NB151_161.out _).trans (((cell_far (p := ⟨gb161, _, none⟩) NB151_161.out _).trans (((cell_far (p := ⟨gb161, _, none⟩) NB151_161.out _).trans (hHeld.2.2.2.1)))))))))), ((cell_far (p := ⟨gb161, _, none⟩) NB151_161.out _).trans (((cell_far (p := ⟨gb161, _, none⟩) NB151_161.out _).trans (((cell_far (p := ⟨gb161, _, none⟩) NB151_161.out _).trans (((cell_far (p := ⟨gb161, _, none⟩) NB151_161.out _).trans (((cell_far (p := ⟨gb161, _, none⟩) NB151_161.out _).trans (hHeld.2.2.2.2))))))))))⟩ (fun hHeld => ?_)
               clear hK K
               refine pure_ (i := 11) (N := some 12) (v := ?_) (a' := ?_) #[true, true, true, true, true, true, true, true, true, true, true, true] rfl rfl (any_of HT_.out (by kernel_rfl)) (fun _ _ _ h => h) (Or.inl ⟨by rfl, ?_⟩) ?_ ?_
               rotate_left
               ·
                intro w'
                go_simp
                with_reducible rfl
               rotate_left
               ·
                simp only [Act.put, List.setIfInBounds_toArray, List.set_cons_zero, List.set_cons_succ, i64_w, i32_w]
                rfl
               refine done_ (done_of HT_.out (by kernel_rfl)) ?_
               have hnb45 := NB147_151.out
               have hnc45 := NB151_147.out
               have hnb46 := NB147_161.out
               have hnc46 := NB161_147.out
               have hcz47_0 : w39.cell? ⟨gb147, 0, none⟩ = some (.int .u8 x148000_3) := (blk_cell BK147.out 0).trans rfl
               have hcz47_1 : w39.cell? ⟨gb147, 1, none⟩ = some (.int .u8 x148001_3) := (blk_cell BK147.out 1).trans rfl
               have hcz47_2 : w39.cell? ⟨gb147, 2, none⟩ = some (.int .u8 x148002_3) := (blk_cell BK147.out 2).trans rfl
               have hcz47_3 : w39.cell? ⟨gb147, 3, none⟩ = some (.int .u8 x148003_3) := (blk_cell BK147.out 3).trans rfl
               have hcz47_4 : w39.cell? ⟨gb147, 4, none⟩ = some (.int .i64 x148004_3) := (blk_cell BK147.out 4).trans rfl
               have hfz47_0 := blk_frozen BK147.out 0
               have hfz47_1 := blk_frozen BK147.out 1
               have hfz47_2 := blk_frozen BK147.out 2
               have hfz47_3 := blk_frozen BK147.out 3
               have hfz47_4 := blk_frozen BK147.out 4
               try go_wp2
               refine bodyPost_ret (results_ct rfl _ _ gb147 39 #[.int .u8 0, .int .u8 0, .int .u8 0, .int .u8 0, .int .i64 0] (0, 0) _ rfl (by (with_reducible repeat (first | refine blk_drewN ?_ _ | refine blk_drew ?_ | refine blk_alloc ?_ _)); refine blk_put (cs := #[.int .u8 0, .int .u8 0, .int .u8 0, .int .u8 0, .int .i64 x148004_3]) ?_ 4 _ rfl; (with_reducible repeat (first | refine blk_drewN ?_ _ | refine blk_drew ?_ | refine blk_alloc ?_ _)); refine blk_put (cs := #[.int .u8 0, .int .u8 0, .int .u8 0, .int .u8 x148003_3, .int .i64 x148004_3]) ?_ 3 _ rfl; (with_reducible repeat (first | refine blk_drewN ?_ _ | refine blk_drew ?_ | refine blk_alloc ?_ _)); refine blk_put (cs := #[.int .u8 0, .int .u8 0, .int .u8 x148002_3, .int .u8 x148003_3, .int .i64 x148004_3]) ?_ 2 _ rfl; (with_reducible repeat (first | refine blk_drewN ?_ _ | refine blk_drew ?_ | refine blk_alloc ?_ _)); refine blk_put (cs := #[.int .u8 0, .int .u8 x148001_3, .int .u8 x148002_3, .int .u8 x148003_3, .int .i64 x148004_3]) ?_ 1 _ rfl; (with_reducible repeat (first | refine blk_drewN ?_ _ | refine blk_drew ?_ | refine blk_alloc ?_ _)); refine blk_put (cs := #[.int .u8 x148000_3, .int .u8 x148001_3, .int .u8 x148002_3, .int .u8 x148003_3, .int .i64 x148004_3]) ?_ 0 _ rfl; (with_reducible repeat (first | refine blk_drewN ?_ _ | refine blk_drew ?_ | refine blk_alloc ?_ _)); refine blk_far ?_ NB147_161.out _; (with_reducible repeat (first | refine blk_drewN ?_ _ | refine blk_drew ?_ | refine blk_alloc ?_ _)); refine blk_far ?_ NB147_161.out _; (with_reducible repeat (first | refine blk_drewN ?_ _ | refine blk_drew ?_ | refine blk_alloc ?_ _)); refine blk_far ?_ NB147_161.out _; (with_reducible repeat (first | refine blk_drewN ?_ _ | refine blk_drew ?_ | refine blk_alloc ?_ _)); refine blk_far ?_ NB147_161.out _; (with_reducible repeat (first | refine blk_drewN ?_ _ | refine blk_drew ?_ | refine blk_alloc ?_ _)); refine blk_far ?_ NB147_161.out _; (with_reducible repeat (first | refine blk_drewN ?_ _ | refine blk_drew ?_ | refine blk_alloc ?_ _)); exact BK147.out) Tryd.underlying39 rfl (by kernel_rfl)) rfl ?_
               exact ⟨by first | rfl | (simp [errW_none, errW_some] <;> rfl) | (simp only [← hji13]; first | rfl | (simp [errW_none, errW_some] <;> rfl)) | (simp [*, errW_none, errW_some] <;> rfl), by repeat (first | (with_reducible first | exact HB.out | apply below_alloc | apply pw_below_drewN | apply below_drew1 | refine below_set ?_ GE147.out | refine below_set ?_ GE151.out | refine below_set ?_ GE161.out) | exact HB.out)⟩
             ·
              rw [if_neg c20] at H
              have c20b0 : (t154 == 0) = false := beq_eq_false_iff_ne.mpr c20
              have c20b1 : (t154 != 0) = true := bne_iff_ne.mpr c20
              simp only [Option.some.injEq, Prod.mk.injEq] at H
              obtain ⟨rfl, rfl, rfl, rfl, rfl, rfl⟩ := H
              have p152 : 0 ≤ ((ji13) : Int) := of_decide_eq_true (by first | (with_reducible assumption) | assumption)
              have q152 : (ji13) < (l0.length : Int) := of_decide_eq_true (by first | (with_reducible assumption) | assumption)
              obtain ⟨ad152, e152, hx152_0⟩ := Kd.at_string HR0.out (ji13) p152 q152
              cases e152
              replace hx152_0 := (HB.out.cell (World.block_lt_of_cell? w _ hx152_0)).trans hx152_0
              replace p152 := eq_true p152
              replace q152 := eq_true q152
              try go_wp2_with (first | ((with_reducible refine gate_callee (f := 46) rfl ?_); refine goesL_ (some 49) rfl rfl Tryd.func46 (by kernel_rfl) rfl #[.string (rdOf ByteArray.empty l0 (ji13))] rfl (by (try simp only [List.map_toArray, List.map_cons, List.map_nil]); first | done | (simp only [hji13]; rfl) | rfl | (simp only [List.length_drop, List.length_take]; rfl)) ?_; (with_reducible refine (lockstitchref02_Number.calls k3 (rdOf ByteArray.empty l0 (ji13)) t153 t154 _ A16.out).mono ?_); rintro e w' ⟨rfl, ⟨nd, rfl⟩⟩; refine ⟨_, rfl, ?_⟩; (try (rw [drewN_self wr]; generalize hq_ : World.drewN wr _ = wr; have n0_ : Aside0 (wr.heap[gb147]? = some (.cells #[.int .u8 x148000_3, .int .u8 x148001_3, .int .u8 x148002_3, .int .u8 x148003_3, .int .i64 x148004_3] 39 (0, 0))) := ⟨by rw [← hq_]; exact (by (with_reducible repeat (first | refine blk_drewN ?_ _ | refine blk_drew ?_ | refine blk_alloc ?_ _)); exact BK147.out)⟩; have n1_ : Aside0 (wr.heap[gb151]? = some (.cells #[.int .u8 x152000_3, .int .u8 x152001_3, .int .u8 x152002_3, .int .u8 x152003_3, .int .i64 x152004_3] 39 (0, 0))) := ⟨by rw [← hq_]; exact (by (with_reducible repeat (first | refine blk_drewN ?_ _ | refine blk_drew ?_ | refine blk_alloc ?_ _)); exact BK151.out)⟩; have n2_ : Aside0 (Below w.heap.size w wr) := ⟨by rw [← hq_]; exact (by repeat (first | (with_reducible first | exact HB.out | apply below_alloc | apply pw_below_drewN | apply below_drew1 | refine below_set ?_ GE147.out | refine below_set ?_ GE151.out) | exact HB.out))⟩; clear BK147 BK151 HB hq_; have BK147 := n0_; have BK151 := n1_; have HB := n2_; clear n0_ n1_ n2_))))
              have n0_ := Aside0.mk (blk_drew BK147.out)
              have n1_ := Aside0.mk (blk_drew BK151.out)
              have n2_ := Aside0.mk (below_drew1 HB.out)
              clear BK147
              clear BK151
              clear HB
              have BK147 := n0_
              have BK151 := n1_
              have HB := n2_
              clear n0_ n1_ n2_
              have p18 : 0 ≤ (x8_3 : Int) := of_decide_eq_true (by first | (with_reducible assumption) | assumption)
              have q18 : x8_3 < (t149.size : Int) := of_decide_eq_true (by first | (with_reducible assumption) | assumption)
              have hx18 := bt_at t149 x8_3
              replace p18 := eq_true p18
              replace q18 := eq_true q18
              refine start_ (n := 12) (S := fun w' => w'.cell? ⟨gb151, 0, none⟩ = some (.int .u8 x152000_3) ∧ w'.cell? ⟨gb151, 1, none⟩ = some (.int .u8 x152001_3) ∧ w'.cell? ⟨gb151, 2, none⟩ = some (.int .u8 x152002_3) ∧ w'.cell? ⟨gb151, 3, none⟩ = some (.int .u8 x152003_3) ∧ w'.cell? ⟨gb151, 4, none⟩ = some (.int .i64 x152004_3)) (ds := []) #[false, false, false, false, false, false, false, false, false, false, false, false] (by kernel_rfl) rfl rfl ⟨(blk_cell BK151.out 0).trans rfl, (blk_cell BK151.out 1).trans rfl, (blk_cell BK151.out 2).trans rfl, (blk_cell BK151.out 3).trans rfl, (blk_cell BK151.out 4).trans rfl⟩ (fun hHeld => ?_); refine with_tabW lockstitchref04_read.tab11 lockstitchref04_read.bits11 (fun HT_ HW_ => ?_)
              generalize wr.drew = w48 at BK147 BK151 HB hHeld ⊢
              refine pure_ (i := 1) (N := some 54) (v := ?_) (a' := ?_) #[false, true, false, false, false, false, false, false, false, false, false, false] rfl rfl (any_of HT_.out (by kernel_rfl)) (fun _ _ _ h => h) (Or.inl ⟨by rfl, ?_⟩) ?_ ?_
              rotate_left
              ·
               intro w'
               go_simp
               with_reducible rfl
              rotate_left
              ·
               simp only [Act.put, List.setIfInBounds_toArray, List.set_cons_zero, List.set_cons_succ, i64_w, i32_w]
               rfl
              refine pure_ (i := 2) (N := some 55) (v := ?_) (a' := ?_) #[false, true, true, false, false, false, false, false, false, false, false, false] rfl rfl (any_of HT_.out (by kernel_rfl)) (fun _ _ _ h => h) (Or.inl ⟨by rfl, ?_⟩) ?_ ?_
              rotate_left
              ·
               intro w'
               go_simp
               with_reducible rfl
              rotate_left
              ·
               simp only [Act.put, List.setIfInBounds_toArray, List.set_cons_zero, List.set_cons_succ, i64_w, i32_w]
               rfl
              refine pure_ (i := 4) (N := some 57) (v := ?_) (a' := ?_) #[false, true, true, false, true, false, false, false, false, false, false, false] rfl rfl (any_of HT_.out (by kernel_rfl)) (fun _ _ _ h => h) (Or.inl ⟨by rfl, ?_⟩) ?_ ?_
              rotate_left
              ·
               intro w'
               go_simp
               with_reducible rfl
              rotate_left
              ·
               simp only [Act.put, List.setIfInBounds_toArray, List.set_cons_zero, List.set_cons_succ, i64_w, i32_w]
               rfl
              refine take_ (i := 0) (N := some 53) (v := ?_) (a' := ?_) #[true, true, true, false, true, false, false, false, false, false, false, false] rfl rfl (take_ofW HT_.out HW_.out (by kernel_rfl)) (fun _ _ _ h => h) (Or.inl ⟨by rfl, ?_⟩) hHeld ?_ ?_
              rotate_left
              ·
               rintro w' ⟨s0, s1, s2, s3, s4⟩
               go_simp
               with_reducible rfl
              rotate_left
              ·
               simp only [Act.put, List.setIfInBounds_toArray, List.set_cons_zero, List.set_cons_succ, i64_w, i32_w]
               rfl
              refine take_ (i := 3) (N := some 56) (v := ?_) (a' := ?_) #[true, true, true, true, true, false, false, false, false, false, false, false] rfl rfl (take_ofW HT_.out HW_.out (by kernel_rfl)) (fun _ _ _ h => h) (Or.inl ⟨by rfl, ?_⟩) hHeld ?_ ?_
              rotate_left
              ·
               rintro w' ⟨s0, s1, s2, s3, s4⟩
               go_simp
               with_reducible rfl
              rotate_left
              ·
               simp only [Act.put, List.setIfInBounds_toArray, List.set_cons_zero, List.set_cons_succ, i64_w, i32_w]
               rfl
              refine join_ (σ := Nat) 2 #[true, true, true, true, true, true, true, true, true, true, false, false] (fun s_ => [(58, .tuple #[.agg #[.int .u8 t155, .int .u8 t156, .int .u8 t157, .int .u8 t158, .int .i64 t159], .bool t160]), (11, .pointer (some ⟨s_, 0, none⟩)), (52, .tuple #[.agg #[.int .u8 t155, .int .u8 t156, .int .u8 t157, .int .u8 t158, .int .i64 t159], .bool t160]), (59, .agg #[.int .u8 t155, .int .u8 t156, .int .u8 t157, .int .u8 t158, .int .i64 t159]), (60, .bool t160)]) (fun s_ w' => (w'.cell? ⟨gb151, 0, none⟩ = some (.int .u8 x152000_3) ∧ w'.cell? ⟨gb151, 1, none⟩ = some (.int .u8 x152001_3) ∧ w'.cell? ⟨gb151, 2, none⟩ = some (.int .u8 x152002_3) ∧ w'.cell? ⟨gb151, 3, none⟩ = some (.int .u8 x152003_3) ∧ w'.cell? ⟨gb151, 4, none⟩ = some (.int .i64 x152004_3)) ∧ (w'.heap[gb147]? = some (.cells #[.int .u8 x148000_3, .int .u8 x148001_3, .int .u8 x148002_3, .int .u8 x148003_3, .int .i64 x148004_3] 39 (0, 0))) ∧ (w'.heap[gb151]? = some (.cells #[.int .u8 x152000_3, .int .u8 x152001_3, .int .u8 x152002_3, .int .u8 x152003_3, .int .i64 x152004_3] 39 (0, 0))) ∧ (w'.heap[s_]? = some (.cells #[.int .u8 0, .int .u8 0, .int .u8 0, .int .u8 0, .int .i64 0] 39 (0, 0))) ∧ (w.heap.size ≤ s_) ∧ (w.heap.size ≤ s_) ∧ (gb147 ≠ s_) ∧ (s_ ≠ gb147) ∧ (gb151 ≠ s_) ∧ (s_ ≠ gb151) ∧ (Below w.heap.size w w')) ?_ ?_
              rotate_left
              ·
               intro hCont
               refine two_ (i := 5) (j := 9) (Ni := some 58) (Nj := some 11) #[true, true, true, true, true, true, false, false, false, false, false, false] #[true, true, true, true, true, false, false, false, false, true, false, false] rfl rfl rfl rfl (two_of HT_.out (by kernel_rfl)) (by decide) (by decide) (fun K hK => ?_) (fun K hK => ?_)
               ·
                skip
                refine goes_ Tryd.func47 (by kernel_rfl) rfl #[.agg #[.int .u8 x152000_3, .int .u8 x152001_3, .int .u8 x152002_3, .int .u8 x152003_3, .int .i64 x152004_3], .int .u8 (bt t149 x8_3), .int .i64 t153] (by rfl) rfl rfl (by (try simp only [List.map_toArray, List.map_cons, List.map_nil]); first | done | rfl | (simp only [List.length_drop, List.length_take]; rfl)) ?_
                with_reducible refine (lockstitchref04_with.calls k3 x152000_3 x152001_3 x152002_3 x152003_3 x152004_3 (bt t149 x8_3) t153 t155 t156 t157 t158 t159 t160 _ A19.out).mono ?_
                rintro e w49 ⟨rfl, hb⟩
                refine ⟨_, rfl, ?_⟩
                have n0_ := Aside0.mk (blk_below (g := gb147) (o := .cells #[.int .u8 x148000_3, .int .u8 x148001_3, .int .u8 x148002_3, .int .u8 x148003_3, .int .i64 x148004_3] 39 (0, 0)) (by (with_reducible repeat (first | refine blk_drewN ?_ _ | refine blk_drew ?_ | refine blk_alloc ?_ _)); exact BK147.out) hb)
                have n1_ := Aside0.mk (blk_below (g := gb151) (o := .cells #[.int .u8 x152000_3, .int .u8 x152001_3, .int .u8 x152002_3, .int .u8 x152003_3, .int .i64 x152004_3] 39 (0, 0)) (by (with_reducible repeat (first | refine blk_drewN ?_ _ | refine blk_drew ?_ | refine blk_alloc ?_ _)); exact BK151.out) hb)
                have n2_ := Aside0.mk (below_step (by repeat (first | (with_reducible first | exact HB.out | apply below_alloc | apply pw_below_drewN | apply below_drew1 | refine below_set ?_ GE147.out | refine below_set ?_ GE151.out) | exact HB.out)) hb)
                clear BK147
                clear BK151
                clear HB
                have BK147 := n0_
                have BK151 := n1_
                have HB := n2_
                clear n0_ n1_ n2_
                (try clear hb)
                (try clear hb2)
                (try clear hk)
                (try clear hi)
                refine hK.out _ _ ⟨(blk_cell BK151.out 0).trans rfl, (blk_cell BK151.out 1).trans rfl, (blk_cell BK151.out 2).trans rfl, (blk_cell BK151.out 3).trans rfl, (blk_cell BK151.out 4).trans rfl⟩ (fun hHeld => ?_)
                clear hK K
                refine norm_ (a' := ?_) ?_ ?_
                rotate_left
                ·
                 show Act.put _ (some 58) _ = _
                 simp only [Act.put, List.setIfInBounds_toArray, List.set_cons_zero, List.set_cons_succ, i64_w, i32_w]
                 rfl
                refine pure_ (i := 6) (N := some 52) (v := ?_) (a' := ?_) #[true, true, true, true, true, true, true, false, false, false, false, false] rfl rfl (any_of HT_.out (by kernel_rfl)) (fun _ _ _ h => h) (Or.inl ⟨by rfl, ?_⟩) ?_ ?_
                rotate_left
                ·
                 intro w'
                 go_simp
                 with_reducible rfl
                rotate_left
                ·
                 simp only [Act.put, List.setIfInBounds_toArray, List.set_cons_zero, List.set_cons_succ, i64_w, i32_w]
                 rfl
                refine pure_ (i := 7) (N := some 59) (v := ?_) (a' := ?_) #[true, true, true, true, true, true, true, true, false, false, false, false] rfl rfl (any_of HT_.out (by kernel_rfl)) (fun _ _ _ h => h) (Or.inl ⟨by rfl, ?_⟩) ?_ ?_
                rotate_left
                ·
                 intro w'
                 go_simp
                 with_reducible rfl
                rotate_left
                ·
                 simp only [Act.put, List.setIfInBounds_toArray, List.set_cons_zero, List.set_cons_succ, i64_w, i32_w]
                 rfl
                refine pure_ (i := 8) (N := some 60) (v := ?_) (a' := ?_) #[true, true, true, true, true, true, true, true, true, false, false, false] rfl rfl (any_of HT_.out (by kernel_rfl)) (fun _ _ _ h => h) (Or.inl ⟨by rfl, ?_⟩) ?_ ?_
                rotate_left
                ·
                 intro w'
                 go_simp
                 with_reducible rfl
                rotate_left
                ·
                 simp only [Act.put, List.setIfInBounds_toArray, List.set_cons_zero, List.set_cons_succ, i64_w, i32_w]
                 rfl
                refine one_ (i := 9) (N := some 11) #[true, true, true, true, true, true, true, true, true, true, false, false] rfl rfl (one_of HT_.out (by kernel_rfl)) (by decide) (fun K hK => ?_)
                refine box_step ?hg (N := 11) ?hd (cs := #[.int .u8 0, .int .u8 0, .int .u8 0, .int .u8 0, .int .i64 0]) (t := 39) ?hr ?_; (case hd => rfl); (case hg => rfl); (case hr => first | (go_simp; done) | (go_simp; rfl))
                intro gb161 hg w50 hbox hb
                have n0_ := Aside0.mk (blk_below (g := gb147) (o := .cells #[.int .u8 x148000_3, .int .u8 x148001_3, .int .u8 x148002_3, .int .u8 x148003_3, .int .i64 x148004_3] 39 (0, 0)) (by (with_reducible repeat (first | refine blk_drewN ?_ _ | refine blk_drew ?_ | refine blk_alloc ?_ _)); exact BK147.out) hb)
                have n1_ := Aside0.mk (blk_below (g := gb151) (o := .cells #[.int .u8 x152000_3, .int .u8 x152001_3, .int .u8 x152002_3, .int .u8 x152003_3, .int .i64 x152004_3] 39 (0, 0)) (by (with_reducible repeat (first | refine blk_drewN ?_ _ | refine blk_drew ?_ | refine blk_alloc ?_ _)); exact BK151.out) hb)
                have n2_ := Aside0.mk (below_step (by repeat (first | (with_reducible first | exact HB.out | apply below_alloc | apply pw_below_drewN | apply below_drew1 | refine below_set ?_ GE147.out | refine below_set ?_ GE151.out) | exact HB.out)) hb)
                have n3_ := Aside0.mk (hbox)
                have n4_ := Aside0.mk ((by rw [hg]; exact (below_size (by repeat (first | (with_reducible first | exact HB.out | apply below_alloc | apply pw_below_drewN | apply below_drew1 | refine below_set ?_ GE147.out | refine below_set ?_ GE151.out) | exact HB.out))) : w.heap.size ≤ gb161))
                have n5_ := n4_
                have n6_ := Aside0.mk ((by rw [hg]; exact Nat.ne_of_lt (blk_lt (g := gb147) (o := .cells #[.int .u8 x148000_3, .int .u8 x148001_3, .int .u8 x148002_3, .int .u8 x148003_3, .int .i64 x148004_3] 39 (0, 0)) (by (with_reducible repeat (first | refine blk_drewN ?_ _ | refine blk_drew ?_ | refine blk_alloc ?_ _)); exact BK147.out)) : gb147 ≠ gb161))
                have n7_ := Aside0.mk n6_.out.symm
                have n8_ := Aside0.mk ((by rw [hg]; exact Nat.ne_of_lt (blk_lt (g := gb151) (o := .cells #[.int .u8 x152000_3, .int .u8 x152001_3, .int .u8 x152002_3, .int .u8 x152003_3, .int .i64 x152004_3] 39 (0, 0)) (by (with_reducible repeat (first | refine blk_drewN ?_ _ | refine blk_drew ?_ | refine blk_alloc ?_ _)); exact BK151.out)) : gb151 ≠ gb161))
                have n9_ := Aside0.mk n8_.out.symm
                clear BK147
                clear BK151
                clear HB
                have BK147 := n0_
                have BK151 := n1_
                have HB := n2_
                have BK161 := n3_
                have GW161 := n4_
                have GE161 := n5_
                have NB147_161 := n6_
                have NB161_147 := n7_
                have NB151_161 := n8_
                have NB161_151 := n9_
                clear n0_ n1_ n2_ n3_ n4_ n5_ n6_ n7_ n8_ n9_
                clear hb hbox hg
                refine hK.out _ _ ⟨(blk_cell BK151.out 0).trans rfl, (blk_cell BK151.out 1).trans rfl, (blk_cell BK151.out 2).trans rfl, (blk_cell BK151.out 3).trans rfl, (blk_cell BK151.out 4).trans rfl⟩ (fun hHeld => ?_)
                clear hK K
                refine norm_ (a' := ?_) ?_ ?_
                rotate_left
                ·
                 show Act.put _ (some 11) _ = _
                 simp only [Act.put, List.setIfInBounds_toArray, List.set_cons_zero, List.set_cons_succ, i64_w, i32_w]
                 rfl
                exact norm_ (by simp only [putAll, Act.put, List.setIfInBounds_toArray, List.set_cons_zero, List.set_cons_succ]) (hCont (gb161) _ ⟨hHeld, (by (with_reducible repeat (first | refine blk_drewN ?_ _ | refine blk_drew ?_ | refine blk_alloc ?_ _)); exact BK147.out), (by (with_reducible repeat (first | refine blk_drewN ?_ _ | refine blk_drew ?_ | refine blk_alloc ?_ _)); exact BK151.out), (by (with_reducible repeat (first | refine blk_drewN ?_ _ | refine blk_drew ?_ | refine blk_alloc ?_ _)); exact BK161.out), GW161.out, GE161.out, NB147_161.out, NB161_147.out, NB151_161.out, NB161_151.out, (by repeat (first | (with_reducible first | exact HB.out | apply below_alloc | apply pw_below_drewN | apply below_drew1 | refine below_set ?_ GE147.out | refine below_set ?_ GE151.out | refine below_set ?_ GE161.out) | exact HB.out))⟩)
               ·
                skip
                refine box_step ?hg (N := 11) ?hd (cs := #[.int .u8 0, .int .u8 0, .int .u8 0, .int .u8 0, .int .i64 0]) (t := 39) ?hr ?_; (case hd => rfl); (case hg => rfl); (case hr => first | (go_simp; done) | (go_simp; rfl))
                intro gb161 hg w49 hbox hb
                have n0_ := Aside0.mk (blk_below (g := gb147) (o := .cells #[.int .u8 x148000_3, .int .u8 x148001_3, .int .u8 x148002_3, .int .u8 x148003_3, .int .i64 x148004_3] 39 (0, 0)) (by (with_reducible repeat (first | refine blk_drewN ?_ _ | refine blk_drew ?_ | refine blk_alloc ?_ _)); exact BK147.out) hb)
                have n1_ := Aside0.mk (blk_below (g := gb151) (o := .cells #[.int .u8 x152000_3, .int .u8 x152001_3, .int .u8 x152002_3, .int .u8 x152003_3, .int .i64 x152004_3] 39 (0, 0)) (by (with_reducible repeat (first | refine blk_drewN ?_ _ | refine blk_drew ?_ | refine blk_alloc ?_ _)); exact BK151.out) hb)
                have n2_ := Aside0.mk (below_step (by repeat (first | (with_reducible first | exact HB.out | apply below_alloc | apply pw_below_drewN | apply below_drew1 | refine below_set ?_ GE147.out | refine below_set ?_ GE151.out) | exact HB.out)) hb)
                have n3_ := Aside0.mk (hbox)
                have n4_ := Aside0.mk ((by rw [hg]; exact (below_size (by repeat (first | (with_reducible first | exact HB.out | apply below_alloc | apply pw_below_drewN | apply below_drew1 | refine below_set ?_ GE147.out | refine below_set ?_ GE151.out) | exact HB.out))) : w.heap.size ≤ gb161))
                have n5_ := n4_
                have n6_ := Aside0.mk ((by rw [hg]; exact Nat.ne_of_lt (blk_lt (g := gb147) (o := .cells #[.int .u8 x148000_3, .int .u8 x148001_3, .int .u8 x148002_3, .int .u8 x148003_3, .int .i64 x148004_3] 39 (0, 0)) (by (with_reducible repeat (first | refine blk_drewN ?_ _ | refine blk_drew ?_ | refine blk_alloc ?_ _)); exact BK147.out)) : gb147 ≠ gb161))
                have n7_ := Aside0.mk n6_.out.symm
                have n8_ := Aside0.mk ((by rw [hg]; exact Nat.ne_of_lt (blk_lt (g := gb151) (o := .cells #[.int .u8 x152000_3, .int .u8 x152001_3, .int .u8 x152002_3, .int .u8 x152003_3, .int .i64 x152004_3] 39 (0, 0)) (by (with_reducible repeat (first | refine blk_drewN ?_ _ | refine blk_drew ?_ | refine blk_alloc ?_ _)); exact BK151.out)) : gb151 ≠ gb161))
                have n9_ := Aside0.mk n8_.out.symm
                clear BK147
                clear BK151
                clear HB
                have BK147 := n0_
                have BK151 := n1_
                have HB := n2_
                have BK161 := n3_
                have GW161 := n4_
                have GE161 := n5_
                have NB147_161 := n6_
                have NB161_147 := n7_
                have NB151_161 := n8_
                have NB161_151 := n9_
                clear n0_ n1_ n2_ n3_ n4_ n5_ n6_ n7_ n8_ n9_
                clear hb hbox hg
                refine hK.out _ _ ⟨(blk_cell BK151.out 0).trans rfl, (blk_cell BK151.out 1).trans rfl, (blk_cell BK151.out 2).trans rfl, (blk_cell BK151.out 3).trans rfl, (blk_cell BK151.out 4).trans rfl⟩ (fun hHeld => ?_)
                clear hK K
                refine norm_ (a' := ?_) ?_ ?_
                rotate_left
                ·
                 show Act.put _ (some 11) _ = _
                 simp only [Act.put, List.setIfInBounds_toArray, List.set_cons_zero, List.set_cons_succ, i64_w, i32_w]
                 rfl
                refine one_ (i := 5) (N := some 58) #[true, true, true, true, true, true, false, false, false, true, false, false] rfl rfl (one_of HT_.out (by kernel_rfl)) (by decide) (fun K hK => ?_)
                refine goes_ Tryd.func47 (by kernel_rfl) rfl #[.agg #[.int .u8 x152000_3, .int .u8 x152001_3, .int .u8 x152002_3, .int .u8 x152003_3, .int .i64 x152004_3], .int .u8 (bt t149 x8_3), .int .i64 t153] (by rfl) rfl rfl (by (try simp only [List.map_toArray, List.map_cons, List.map_nil]); first | done | rfl | (simp only [List.length_drop, List.length_take]; rfl)) ?_
                with_reducible refine (lockstitchref04_with.calls k3 x152000_3 x152001_3 x152002_3 x152003_3 x152004_3 (bt t149 x8_3) t153 t155 t156 t157 t158 t159 t160 _ A19.out).mono ?_
                rintro e w50 ⟨rfl, hb⟩
                refine ⟨_, rfl, ?_⟩
                have n0_ := Aside0.mk (blk_below (g := gb147) (o := .cells #[.int .u8 x148000_3, .int .u8 x148001_3, .int .u8 x148002_3, .int .u8 x148003_3, .int .i64 x148004_3] 39 (0, 0)) (by (with_reducible repeat (first | refine blk_drewN ?_ _ | refine blk_drew ?_ | refine blk_alloc ?_ _)); exact BK147.out) hb)
                have n1_ := Aside0.mk (blk_below (g := gb151) (o := .cells #[.int .u8 x152000_3, .int .u8 x152001_3, .int .u8 x152002_3, .int .u8 x152003_3, .int .i64 x152004_3] 39 (0, 0)) (by (with_reducible repeat (first | refine blk_drewN ?_ _ | refine blk_drew ?_ | refine blk_alloc ?_ _)); exact BK151.out) hb)
                have n2_ := Aside0.mk (blk_below (g := gb161) (o := .cells #[.int .u8 0, .int .u8 0, .int .u8 0, .int .u8 0, .int .i64 0] 39 (0, 0)) (by (with_reducible repeat (first | refine blk_drewN ?_ _ | refine blk_drew ?_ | refine blk_alloc ?_ _)); exact BK161.out) hb)
                have n3_ := Aside0.mk (below_step (by repeat (first | (with_reducible first | exact HB.out | apply below_alloc | apply pw_below_drewN | apply below_drew1 | refine below_set ?_ GE147.out | refine below_set ?_ GE151.out | refine below_set ?_ GE161.out) | exact HB.out)) hb)
                clear BK147
                clear BK151
                clear BK161
                clear HB
                have BK147 := n0_
                have BK151 := n1_
                have BK161 := n2_
                have HB := n3_
                clear n0_ n1_ n2_ n3_
                (try clear hb)
                (try clear hb2)
                (try clear hk)
                (try clear hi)
                refine hK.out _ _ ⟨(blk_cell BK151.out 0).trans rfl, (blk_cell BK151.out 1).trans rfl, (blk_cell BK151.out 2).trans rfl, (blk_cell BK151.out 3).trans rfl, (blk_cell BK151.out 4).trans rfl⟩ (fun hHeld => ?_)
                clear hK K
                refine norm_ (a' := ?_) ?_ ?_
                rotate_left
                ·
                 show Act.put _ (some 58) _ = _
                 simp only [Act.put, List.setIfInBounds_toArray, List.set_cons_zero, List.set_cons_succ, i64_w, i32_w]
                 rfl
                refine pure_ (i := 6) (N := some 52) (v := ?_) (a' := ?_) #[true, true, true, true, true, true, true, false, false, true, false, false] rfl rfl (any_of HT_.out (by kernel_rfl)) (fun _ _ _ h => h) (Or.inl ⟨by rfl, ?_⟩) ?_ ?_
                rotate_left
                ·
                 intro w'
                 go_simp
                 with_reducible rfl
                rotate_left
                ·
                 simp only [Act.put, List.setIfInBounds_toArray, List.set_cons_zero, List.set_cons_succ, i64_w, i32_w]
                 rfl
                refine pure_ (i := 7) (N := some 59) (v := ?_) (a' := ?_) #[true, true, true, true, true, true, true, true, false, true, false, false] rfl rfl (any_of HT_.out (by kernel_rfl)) (fun _ _ _ h => h) (Or.inl ⟨by rfl, ?_⟩) ?_ ?_
                rotate_left
                ·
                 intro w'
                 go_simp
                 with_reducible rfl
                rotate_left
                ·
                 simp only [Act.put, List.setIfInBounds_toArray, List.set_cons_zero, List.set_cons_succ, i64_w, i32_w]
                 rfl
                refine pure_ (i := 8) (N := some 60) (v := ?_) (a' := ?_) #[true, true, true, true, true, true, true, true, true, true, false, false] rfl rfl (any_of HT_.out (by kernel_rfl)) (fun _ _ _ h => h) (Or.inl ⟨by rfl, ?_⟩) ?_ ?_
                rotate_left
                ·
                 intro w'
                 go_simp
                 with_reducible rfl
                rotate_left
                ·
                 simp only [Act.put, List.setIfInBounds_toArray, List.set_cons_zero, List.set_cons_succ, i64_w, i32_w]
                 rfl
                exact norm_ (by simp only [putAll, Act.put, List.setIfInBounds_toArray, List.set_cons_zero, List.set_cons_succ]) (hCont (gb161) _ ⟨hHeld, (by (with_reducible repeat (first | refine blk_drewN ?_ _ | refine blk_drew ?_ | refine blk_alloc ?_ _)); exact BK147.out), (by (with_reducible repeat (first | refine blk_drewN ?_ _ | refine blk_drew ?_ | refine blk_alloc ?_ _)); exact BK151.out), (by (with_reducible repeat (first | refine blk_drewN ?_ _ | refine blk_drew ?_ | refine blk_alloc ?_ _)); exact BK161.out), GW161.out, GE161.out, NB147_161.out, NB161_147.out, NB151_161.out, NB161_151.out, (by repeat (first | (with_reducible first | exact HB.out | apply below_alloc | apply pw_below_drewN | apply below_drew1 | refine below_set ?_ GE147.out | refine below_set ?_ GE151.out | refine below_set ?_ GE161.out) | exact HB.out))⟩)
              rintro gb161 w51 ⟨hS_, h0_, h1_, h2_, h3_, h4_, h5_, h6_, h7_, h8_, h9_⟩
              have n0_ : Aside0 (w51.heap[gb147]? = some (.cells #[.int .u8 x148000_3, .int .u8 x148001_3, .int .u8 x148002_3, .int .u8 x148003_3, .int .i64 x148004_3] 39 (0, 0))) := ⟨h0_⟩
              have n1_ : Aside0 (w51.heap[gb151]? = some (.cells #[.int .u8 x152000_3, .int .u8 x152001_3, .int .u8 x152002_3, .int .u8 x152003_3, .int .i64 x152004_3] 39 (0, 0))) := ⟨h1_⟩
              have n2_ : Aside0 (w51.heap[gb161]? = some (.cells #[.int .u8 0, .int .u8 0, .int .u8 0, .int .u8 0, .int .i64 0] 39 (0, 0))) := ⟨h2_⟩
              have n3_ : Aside0 (w.heap.size ≤ gb161) := ⟨h3_⟩
              have n4_ : Aside0 (w.heap.size ≤ gb161) := ⟨h4_⟩
              have n5_ : Aside0 (gb147 ≠ gb161) := ⟨h5_⟩
              have n6_ : Aside0 (gb161 ≠ gb147) := ⟨h6_⟩
              have n7_ : Aside0 (gb151 ≠ gb161) := ⟨h7_⟩
              have n8_ : Aside0 (gb161 ≠ gb151) := ⟨h8_⟩
              have n9_ : Aside0 (Below w.heap.size w w51) := ⟨h9_⟩
              clear BK147
              clear BK151
              clear HB
              clear h0_ h1_ h2_ h3_ h4_ h5_ h6_ h7_ h8_ h9_
              have BK147 := n0_
              have BK151 := n1_
              have BK161 := n2_
              have GW161 := n3_
              have GE161 := n4_
              have NB147_161 := n5_
              have NB161_147 := n6_
              have NB151_161 := n7_
              have NB161_151 := n8_
              have HB := n9_
              clear n0_ n1_ n2_ n3_ n4_ n5_ n6_ n7_ n8_ n9_
              have hHeld : w51.cell? ⟨gb151, 0, none⟩ = some (.int .u8 x152000_3) ∧ w51.cell? ⟨gb151, 1, none⟩ = some (.int .u8 x152001_3) ∧ w51.cell? ⟨gb151, 2, none⟩ = some (.int .u8 x152002_3) ∧ w51.cell? ⟨gb151, 3, none⟩ = some (.int .u8 x152003_3) ∧ w51.cell? ⟨gb151, 4, none⟩ = some (.int .i64 x152004_3) := hS_
              refine norm_ (a' := ?_) ?_ ?_
              rotate_left
              ·
               simp only [putAll, Act.put, List.setIfInBounds_toArray, List.set_cons_zero, List.set_cons_succ]
               rfl
              refine one_ (i := 10) (N := none) #[true, true, true, true, true, true, true, true, true, true, true, false] rfl rfl (one_of HT_.out (by kernel_rfl)) (by decide) (fun K hK => ?_)
              have hs52 : w51.cell? ⟨gb161, 0, none⟩ = some (.int .u8 0) := (blk_cell BK161.out 0).trans rfl
              have hfs52 := blk_frozen BK161.out 0
              have hns52_0 := NB147_161.out
              have hns52_1 := NB151_161.out
              have hms52_0 := NB161_147.out
              have hms52_1 := NB161_151.out
              have hs53 : w51.cell? ⟨gb161, 1, none⟩ = some (.int .u8 0) := (blk_cell BK161.out 1).trans rfl
              have hfs53 := blk_frozen BK161.out 1
              have hns53_0 := NB147_161.out
              have hns53_1 := NB151_161.out
              have hms53_0 := NB161_147.out
              have hms53_1 := NB161_151.out
              have hs54 : w51.cell? ⟨gb161, 2, none⟩ = some (.int .u8 0) := (blk_cell BK161.out 2).trans rfl
              have hfs54 := blk_frozen BK161.out 2
              have hns54_0 := NB147_161.out
              have hns54_1 := NB151_161.out
              have hms54_0 := NB161_147.out
              have hms54_1 := NB161_151.out
              have hs55 : w51.cell? ⟨gb161, 3, none⟩ = some (.int .u8 0) := (blk_cell BK161.out 3).trans rfl
              have hfs55 := blk_frozen BK161.out 3
              have hns55_0 := NB147_161.out
              have hns55_1 := NB151_161.out
              have hms55_0 := NB161_147.out
              have hms55_1 := NB161_151.out
              have hs56 : w51.cell? ⟨gb161, 4, none⟩ = some (.int .i64 0) := (blk_cell BK161.out 4).trans rfl
              have hfs56 := blk_frozen BK161.out 4
              have hns56_0 := NB147_161.out
              have hns56_1 := NB151_161.out
              have hms56_0 := NB161_147.out
              have hms56_1 := NB161_151.out
              refine skip_ (w1 := ?_) (by rfl) rfl ?_ ?_
              rotate_left
              ·
               go_simp
               rfl
              refine hK.out _ _ ⟨((cell_far (p := ⟨gb161, _, none⟩) NB151_161.out _).trans (((cell_far (p := ⟨gb161, _, none⟩) NB151_161.out _).trans (((cell_far (p := ⟨gb161, _, none⟩) NB151_161.out _).trans (((cell_far (p := ⟨gb161, _, none⟩) NB151_161.out _).trans (((cell_far (p := ⟨gb161, _, none⟩) NB151_161.out _).trans (hHeld.1)))))))))), ((cell_far (p := ⟨gb161, _, none⟩) NB151_161.out _).trans (((cell_far (p := ⟨gb161, _, none⟩) NB151_161.out _).trans (((cell_far (p := ⟨gb161, _, none⟩) NB151_161.out _).trans (((cell_far (p := ⟨gb161, _, none⟩) NB151_161.out _).trans (((cell_far (p := ⟨gb161, _, none⟩) NB151_161.out _).trans (hHeld.2.1)))))))))), ((cell_far (p := ⟨gb161, _, none⟩) NB151_161.out _).trans (((cell_far (p := ⟨gb161, _, none⟩) NB151_161.out _).trans (((cell_far (p := ⟨gb161, _, none⟩) NB151_161.out _).trans (((cell_far (p := ⟨gb161, _, none⟩) NB151_161.out _).trans (((cell_far (p := ⟨gb161, _, none⟩) NB151_161.out _).trans (hHeld.2.2.1)))))))))), ((cell_far (p := ⟨gb161, _, none⟩) NB151_161.out _).trans (((cell_far (p := ⟨gb161, _, none⟩) NB151_161.out _).trans (((cell_far (p := ⟨gb161, _, none⟩) NB151_161.out _).trans (((cell_far (p := ⟨gb161, _, none⟩) NB151_161.out _).trans (((cell_far (p := ⟨gb161, _, none⟩) NB151_161.out _).trans (hHeld.2.2.2.1)))))))))), ((cell_far (p := ⟨gb161, _, none⟩) NB151_161.out _).trans (((cell_far (p := ⟨gb161, _, none⟩) NB151_161.out _).trans (((cell_far (p := ⟨gb161, _, none⟩) NB151_161.out _).trans (((cell_far (p := ⟨gb161, _, none⟩) NB151_161.out _).trans (((cell_far (p := ⟨gb161, _, none⟩) NB151_161.out _).trans (hHeld.2.2.2.2))))))))))⟩ (fun hHeld => ?_)
              clear hK K
              refine pure_ (i := 11) (N := some 12) (v := ?_) (a' := ?_) #[true, true, true, true, true, true, true, true, true, true, true, true] rfl rfl (any_of HT_.out (by kernel_rfl)) (fun _ _ _ h => h) (Or.inl ⟨by rfl, ?_⟩) ?_ ?_
              rotate_left
              ·
               intro w'
               go_simp
               with_reducible rfl
              rotate_left
              ·
               simp only [Act.put, List.setIfInBounds_toArray, List.set_cons_zero, List.set_cons_succ, i64_w, i32_w]
               rfl
              refine done_ (done_of HT_.out (by kernel_rfl)) ?_
              have hnb57 := NB147_151.out
              have hnc57 := NB151_147.out
              have hnb58 := NB147_161.out
              have hnc58 := NB161_147.out
              have hcz59_0 : w51.cell? ⟨gb147, 0, none⟩ = some (.int .u8 x148000_3) := (blk_cell BK147.out 0).trans rfl
              have hcz59_1 : w51.cell? ⟨gb147, 1, none⟩ = some (.int .u8 x148001_3) := (blk_cell BK147.out 1).trans rfl
              have hcz59_2 : w51.cell? ⟨gb147, 2, none⟩ = some (.int .u8 x148002_3) := (blk_cell BK147.out 2).trans rfl
              have hcz59_3 : w51.cell? ⟨gb147, 3, none⟩ = some (.int .u8 x148003_3) := (blk_cell BK147.out 3).trans rfl
              have hcz59_4 : w51.cell? ⟨gb147, 4, none⟩ = some (.int .i64 x148004_3) := (blk_cell BK147.out 4).trans rfl
              have hfz59_0 := blk_frozen BK147.out 0
              have hfz59_1 := blk_frozen BK147.out 1
              have hfz59_2 := blk_frozen BK147.out 2
              have hfz59_3 := blk_frozen BK147.out 3
              have hfz59_4 := blk_frozen BK147.out 4
              try go_wp2
              refine bodyPost_ret (results_ct rfl _ _ gb147 39 #[.int .u8 0, .int .u8 0, .int .u8 0, .int .u8 0, .int .i64 0] (0, 0) _ rfl (by (with_reducible repeat (first | refine blk_drewN ?_ _ | refine blk_drew ?_ | refine blk_alloc ?_ _)); refine blk_put (cs := #[.int .u8 0, .int .u8 0, .int .u8 0, .int .u8 0, .int .i64 x148004_3]) ?_ 4 _ rfl; (with_reducible repeat (first | refine blk_drewN ?_ _ | refine blk_drew ?_ | refine blk_alloc ?_ _)); refine blk_put (cs := #[.int .u8 0, .int .u8 0, .int .u8 0, .int .u8 x148003_3, .int .i64 x148004_3]) ?_ 3 _ rfl; (with_reducible repeat (first | refine blk_drewN ?_ _ | refine blk_drew ?_ | refine blk_alloc ?_ _)); refine blk_put (cs := #[.int .u8 0, .int .u8 0, .int .u8 x148002_3, .int .u8 x148003_3, .int .i64 x148004_3]) ?_ 2 _ rfl; (with_reducible repeat (first | refine blk_drewN ?_ _ | refine blk_drew ?_ | refine blk_alloc ?_ _)); refine blk_put (cs := #[.int .u8 0, .int .u8 x148001_3, .int .u8 x148002_3, .int .u8 x148003_3, .int .i64 x148004_3]) ?_ 1 _ rfl; (with_reducible repeat (first | refine blk_drewN ?_ _ | refine blk_drew ?_ | refine blk_alloc ?_ _)); refine blk_put (cs := #[.int .u8 x148000_3, .int .u8 x148001_3, .int .u8 x148002_3, .int .u8 x148003_3, .int .i64 x148004_3]) ?_ 0 _ rfl; (with_reducible repeat (first | refine blk_drewN ?_ _ | refine blk_drew ?_ | refine blk_alloc ?_ _)); refine blk_far ?_ NB147_161.out _; (with_reducible repeat (first | refine blk_drewN ?_ _ | refine blk_drew ?_ | refine blk_alloc ?_ _)); refine blk_far ?_ NB147_161.out _; (with_reducible repeat (first | refine blk_drewN ?_ _ | refine blk_drew ?_ | refine blk_alloc ?_ _)); refine blk_far ?_ NB147_161.out _; (with_reducible repeat (first | refine blk_drewN ?_ _ | refine blk_drew ?_ | refine blk_alloc ?_ _)); refine blk_far ?_ NB147_161.out _; (with_reducible repeat (first | refine blk_drewN ?_ _ | refine blk_drew ?_ | refine blk_alloc ?_ _)); refine blk_far ?_ NB147_161.out _; (with_reducible repeat (first | refine blk_drewN ?_ _ | refine blk_drew ?_ | refine blk_alloc ?_ _)); exact BK147.out) Tryd.underlying39 rfl (by kernel_rfl)) rfl ?_
              exact ⟨by first | rfl | (simp [errW_none, errW_some] <;> rfl) | (simp only [← hji13]; first | rfl | (simp [errW_none, errW_some] <;> rfl)) | (simp [*, errW_none, errW_some] <;> rfl), by repeat (first | (with_reducible first | exact HB.out | apply below_alloc | apply pw_below_drewN | apply below_drew1 | refine below_set ?_ GE147.out | refine below_set ?_ GE151.out | refine below_set ?_ GE161.out) | exact HB.out)⟩
            ·
             rw [if_neg c17] at H
             exact absurd H (by simp)
           ·
            rw [if_neg c15] at H
            exact absurd H (by simp)
          ·
           rw [if_neg c14] at H
           exact absurd H (by simp)
         ·
          rw [if_neg c12] at H
          have c12b0 : decide (x8_3 < (t149.size : Int)) = false := decide_eq_false c12
          clear c12
          simp only [Option.some.injEq, Prod.mk.injEq] at H
          obtain ⟨rfl, rfl, rfl, rfl, rfl, rfl⟩ := H
          have hnb60 := NB151_147.out
          have hnc60 := NB147_151.out
          have hcz61_0 : wr.cell? ⟨gb151, 0, none⟩ = some (.int .u8 x152000_3) := (blk_cell BK151.out 0).trans rfl
          have hcz61_1 : wr.cell? ⟨gb151, 1, none⟩ = some (.int .u8 x152001_3) := (blk_cell BK151.out 1).trans rfl
          have hcz61_2 : wr.cell? ⟨gb151, 2, none⟩ = some (.int .u8 x152002_3) := (blk_cell BK151.out 2).trans rfl
          have hcz61_3 : wr.cell? ⟨gb151, 3, none⟩ = some (.int .u8 x152003_3) := (blk_cell BK151.out 3).trans rfl
          have hcz61_4 : wr.cell? ⟨gb151, 4, none⟩ = some (.int .i64 x152004_3) := (blk_cell BK151.out 4).trans rfl
          have hfz61_0 := blk_frozen BK151.out 0
          have hfz61_1 := blk_frozen BK151.out 1
          have hfz61_2 := blk_frozen BK151.out 2
          have hfz61_3 := blk_frozen BK151.out 3
          have hfz61_4 := blk_frozen BK151.out 4
          have hcz62_0 : wr.cell? ⟨gb147, 0, none⟩ = some (.int .u8 x148000_3) := (blk_cell BK147.out 0).trans rfl
          have hcz62_1 : wr.cell? ⟨gb147, 1, none⟩ = some (.int .u8 x148001_3) := (blk_cell BK147.out 1).trans rfl
          have hcz62_2 : wr.cell? ⟨gb147, 2, none⟩ = some (.int .u8 x148002_3) := (blk_cell BK147.out 2).trans rfl
          have hcz62_3 : wr.cell? ⟨gb147, 3, none⟩ = some (.int .u8 x148003_3) := (blk_cell BK147.out 3).trans rfl
          have hcz62_4 : wr.cell? ⟨gb147, 4, none⟩ = some (.int .i64 x148004_3) := (blk_cell BK147.out 4).trans rfl
          have hfz62_0 := blk_frozen BK147.out 0
          have hfz62_1 := blk_frozen BK147.out 1
          have hfz62_2 := blk_frozen BK147.out 2
          have hfz62_3 := blk_frozen BK147.out 3
          have hfz62_4 := blk_frozen BK147.out 4
          go_wp2
          refine bodyPost_ret (results_ct rfl _ _ gb147 39 #[.int .u8 x152000_3, .int .u8 x152001_3, .int .u8 x152002_3, .int .u8 x152003_3, .int .i64 x152004_3] (0, 0) _ rfl (by (with_reducible repeat (first | refine blk_drewN ?_ _ | refine blk_drew ?_ | refine blk_alloc ?_ _)); refine blk_put (cs := #[.int .u8 x152000_3, .int .u8 x152001_3, .int .u8 x152002_3, .int .u8 x152003_3, .int .i64 x148004_3]) ?_ 4 _ rfl; (with_reducible repeat (first | refine blk_drewN ?_ _ | refine blk_drew ?_ | refine blk_alloc ?_ _)); refine blk_put (cs := #[.int .u8 x152000_3, .int .u8 x152001_3, .int .u8 x152002_3, .int .u8 x148003_3, .int .i64 x148004_3]) ?_ 3 _ rfl; (with_reducible repeat (first | refine blk_drewN ?_ _ | refine blk_drew ?_ | refine blk_alloc ?_ _)); refine blk_put (cs := #[.int .u8 x152000_3, .int .u8 x152001_3, .int .u8 x148002_3, .int .u8 x148003_3, .int .i64 x148004_3]) ?_ 2 _ rfl; (with_reducible repeat (first | refine blk_drewN ?_ _ | refine blk_drew ?_ | refine blk_alloc ?_ _)); refine blk_put (cs := #[.int .u8 x152000_3, .int .u8 x148001_3, .int .u8 x148002_3, .int .u8 x148003_3, .int .i64 x148004_3]) ?_ 1 _ rfl; (with_reducible repeat (first | refine blk_drewN ?_ _ | refine blk_drew ?_ | refine blk_alloc ?_ _)); refine blk_put (cs := #[.int .u8 x148000_3, .int .u8 x148001_3, .int .u8 x148002_3, .int .u8 x148003_3, .int .i64 x148004_3]) ?_ 0 _ rfl; (with_reducible repeat (first | refine blk_drewN ?_ _ | refine blk_drew ?_ | refine blk_alloc ?_ _)); exact BK147.out) Tryd.underlying39 rfl (by kernel_rfl)) rfl ?_
          exact ⟨by first | rfl | (simp [errW_none, errW_some] <;> rfl) | (simp [*, errW_none, errW_some] <;> rfl), by repeat (first | (with_reducible first | exact HB.out | apply below_alloc | apply pw_below_drewN | apply below_drew1 | refine below_set ?_ GE147.out | refine below_set ?_ GE151.out) | exact HB.out)⟩
   ·
    rw [if_neg c3] at H
    have c3b0 : decide (x4_1 ≤ 15) = false := decide_eq_false c3
    clear c3
    simp only [Option.some.injEq, Prod.mk.injEq] at H
    obtain ⟨rfl, rfl, rfl, rfl, rfl, rfl⟩ := H
    have hcz63_0 : wr.cell? ⟨gb147, 0, none⟩ = some (.int .u8 x148000_1) := (blk_cell BK147.out 0).trans rfl
    have hcz63_1 : wr.cell? ⟨gb147, 1, none⟩ = some (.int .u8 x148001_1) := (blk_cell BK147.out 1).trans rfl
    have hcz63_2 : wr.cell? ⟨gb147, 2, none⟩ = some (.int .u8 x148002_1) := (blk_cell BK147.out 2).trans rfl
    have hcz63_3 : wr.cell? ⟨gb147, 3, none⟩ = some (.int .u8 x148003_1) := (blk_cell BK147.out 3).trans rfl
    have hcz63_4 : wr.cell? ⟨gb147, 4, none⟩ = some (.int .i64 x148004_1) := (blk_cell BK147.out 4).trans rfl
    have hfz63_0 := blk_frozen BK147.out 0
    have hfz63_1 := blk_frozen BK147.out 1
    have hfz63_2 := blk_frozen BK147.out 2
    have hfz63_3 := blk_frozen BK147.out 3
    have hfz63_4 := blk_frozen BK147.out 4
    go_wp2
    refine bodyPost_ret (results_ct rfl _ _ gb147 39 #[.int .u8 0, .int .u8 0, .int .u8 0, .int .u8 0, .int .i64 0] (0, 0) _ rfl (by (with_reducible repeat (first | refine blk_drewN ?_ _ | refine blk_drew ?_ | refine blk_alloc ?_ _)); refine blk_put (cs := #[.int .u8 0, .int .u8 0, .int .u8 0, .int .u8 0, .int .i64 x148004_1]) ?_ 4 _ rfl; (with_reducible repeat (first | refine blk_drewN ?_ _ | refine blk_drew ?_ | refine blk_alloc ?_ _)); refine blk_put (cs := #[.int .u8 0, .int .u8 0, .int .u8 0, .int .u8 x148003_1, .int .i64 x148004_1]) ?_ 3 _ rfl; (with_reducible repeat (first | refine blk_drewN ?_ _ | refine blk_drew ?_ | refine blk_alloc ?_ _)); refine blk_put (cs := #[.int .u8 0, .int .u8 0, .int .u8 x148002_1, .int .u8 x148003_1, .int .i64 x148004_1]) ?_ 2 _ rfl; (with_reducible repeat (first | refine blk_drewN ?_ _ | refine blk_drew ?_ | refine blk_alloc ?_ _)); refine blk_put (cs := #[.int .u8 0, .int .u8 x148001_1, .int .u8 x148002_1, .int .u8 x148003_1, .int .i64 x148004_1]) ?_ 1 _ rfl; (with_reducible repeat (first | refine blk_drewN ?_ _ | refine blk_drew ?_ | refine blk_alloc ?_ _)); refine blk_put (cs := #[.int .u8 x148000_1, .int .u8 x148001_1, .int .u8 x148002_1, .int .u8 x148003_1, .int .i64 x148004_1]) ?_ 0 _ rfl; (with_reducible repeat (first | refine blk_drewN ?_ _ | refine blk_drew ?_ | refine blk_alloc ?_ _)); exact BK147.out) Tryd.underlying39 rfl (by kernel_rfl)) rfl ?_
    exact ⟨by first | rfl | (simp [errW_none, errW_some] <;> rfl) | (simp [*, errW_none, errW_some] <;> rfl), by repeat (first | (with_reducible first | exact HB.out | apply below_alloc | apply pw_below_drewN | apply below_drew1 | refine below_set ?_ GE147.out) | exact HB.out)⟩

end Go.Proofs.YtbmhmlgfpijmhaaDoor.P
