/- FUNCTIONS OF THE PROGRAM AS LEAN FUNCTIONS, AND THAT THE PROGRAM's CALLS ANSWER AS THEY DO: written by a program of this session. -/
import Derived.Test.YtgfnpdfhdgenbaaDoorPx0
import Derived.Test.YtgfnpdfhdgenbaaDoorPx2
import Derived.Test.YtgfnpdfhdgenbaaDoorPx4
namespace Go.Proofs.YtgfnpdfhdgenbaaDoor.P
open Go.RowKit Go.Proofs.YtgfnpdfhdgenbaaDoorW.PrintWords Go.Proofs.YtgfnpdfhdgenbaaDoorW.PrintLast Go.Proofs.YtgfnpdfhdgenbaaDoorW.PrintMore
attribute [local go_sem] max2_int min2_int max_two min_two max_three min_three max_four min_four   -- for this text's walks alone
set_option linter.unusedVariables false
set_option linter.unusedSimpArgs false

/-! ### lockstitchref04_read: function 31 -/
mutual
def lockstitchref04_read.l0 : Nat → List ByteArray → Int → Option (Int × Int × Int × Int × Int × Bool)
 | 0, _, _ => none
 | k + 1, x0, x4 => if x4 ≤ 15 then ((lockstitchref04_shape.f x4).bind fun bt113 => (if 0 < (x0.length : Int) then (if (rdOf ByteArray.empty x0 0).toList = bt113.1.toList then (lockstitchref04_read.j1 k x0 x4 bt113.2 ((x0.length : Int) != (wrap64 ((bt113.2.size : Int) + 1)))) else (lockstitchref04_read.j1 k x0 x4 bt113.2 true)) else (none))) else (some (0, 0, 0, 0, 0, false))
def lockstitchref04_read.j1 : Nat → List ByteArray → Int → ByteArray → Bool → Option (Int × Int × Int × Int × Int × Bool)
 | 0, _, _, _, _ => none
 | k + 1, x0, x4, x6, x34 => if x34 = true then (lockstitchref04_read.l0 k x0 ((x4 + 1) % 256)) else (lockstitchref04_read.l1 k x0 x6 0 x4 0 0 0 0)
def lockstitchref04_read.l1 : Nat → List ByteArray → ByteArray → Int → Int → Int → Int → Int → Int → Option (Int × Int × Int × Int × Int × Bool)
 | 0, _, _, _, _, _, _, _, _ => none
 | k + 1, x0, x6, x8, x117000, x117001, x117002, x117003, x117004 => if x8 < (x6.size : Int) then (if 0 ≤ (wrap64 (x8 + 1)) then (if (wrap64 (x8 + 1)) < (x0.length : Int) then ((lockstitchref02_Number.f k (rdOf ByteArray.empty x0 (wrap64 (x8 + 1)))).bind fun bt118 => (if 0 ≤ x8 then ((lockstitchref04_with.f k x117000 x117001 x117002 x117003 x117004 (bt x6 x8) bt118.1).bind fun bt120 => (if bt118.2 = 0 then (if bt120.2.2.2.2.2 = true then (lockstitchref04_read.l1 k x0 x6 (wrap64 (x8 + 1)) bt120.1 bt120.2.1 bt120.2.2.1 bt120.2.2.2.1 bt120.2.2.2.2.1) else (some (0, 0, 0, 0, 0, false))) else (some (0, 0, 0, 0, 0, false)))) else (none))) else (none)) else (none)) else (some (x117000, x117001, x117002, x117003, x117004, true))
end
def lockstitchref04_read.f (k : Nat) (l0 : List ByteArray) : Option (Int × Int × Int × Int × Int × Bool) := lockstitchref04_read.l0 k l0 1
theorem lockstitchref04_read.mono_l : ∀ k, (∀ y0 y1, LeO (lockstitchref04_read.l0 k y0 y1) (lockstitchref04_read.l0 (k + 1) y0 y1)) ∧ (∀ y0 y1 y2 y3, LeO (lockstitchref04_read.j1 k y0 y1 y2 y3) (lockstitchref04_read.j1 (k + 1) y0 y1 y2 y3)) ∧ (∀ y0 y1 y2 y3 y4 y5 y6 y7, LeO (lockstitchref04_read.l1 k y0 y1 y2 y3 y4 y5 y6 y7) (lockstitchref04_read.l1 (k + 1) y0 y1 y2 y3 y4 y5 y6 y7))
 | 0 => ⟨fun _ _ r h => by simp [lockstitchref04_read.l0] at h, fun _ _ _ _ r h => by simp [lockstitchref04_read.j1] at h, fun _ _ _ _ _ _ _ _ r h => by simp [lockstitchref04_read.l1] at h⟩
 | k + 1 => by
  obtain ⟨ih0, ih1, ih2⟩ := lockstitchref04_read.mono_l k
  refine ⟨?_, ?_, ?_⟩
  ·
   intro y0 y1
   unfold lockstitchref04_read.l0
   repeat' with_reducible first | apply ih0 | apply ih1 | apply ih2 | apply lockstitchref02_Number.mono | apply lockstitchref04_with.mono | exact LeO.refl _ | exact LeO.none _ | refine LeO.ite ?_ ?_ | refine LeO.bind ?_ (fun _ => ?_)
  ·
   intro y0 y1 y2 y3
   unfold lockstitchref04_read.j1
   repeat' with_reducible first | apply ih0 | apply ih1 | apply ih2 | apply lockstitchref02_Number.mono | apply lockstitchref04_with.mono | exact LeO.refl _ | exact LeO.none _ | refine LeO.ite ?_ ?_ | refine LeO.bind ?_ (fun _ => ?_)
  ·
   intro y0 y1 y2 y3 y4 y5 y6 y7
   unfold lockstitchref04_read.l1
   repeat' with_reducible first | apply ih0 | apply ih1 | apply ih2 | apply lockstitchref02_Number.mono | apply lockstitchref04_with.mono | exact LeO.refl _ | exact LeO.none _ | refine LeO.ite ?_ ?_ | refine LeO.bind ?_ (fun _ => ?_)
theorem lockstitchref04_read.mono : ∀ a0 k, LeO (lockstitchref04_read.f k a0) (lockstitchref04_read.f (k + 1) a0) := by
 intro a0 k
 obtain ⟨ih0, ih1, ih2⟩ := lockstitchref04_read.mono_l k
 unfold lockstitchref04_read.f
 repeat' with_reducible first | apply ih0 | apply ih1 | apply ih2 | apply lockstitchref02_Number.mono | apply lockstitchref04_with.mono | exact LeO.refl _ | exact LeO.none _ | refine LeO.ite ?_ ?_ | refine LeO.bind ?_ (fun _ => ?_)
def lockstitchref04_read.T11 : Bool × List (List Nat × List Nat) := (true, [([], []), ([], []), ([], []), ([1, 2], [1, 2]), ([], []), ([0, 3, 4], [0, 3, 4]), ([5], [5]), ([6], [6]), ([6], [6]), ([], []), ([9, 7, 5, 0, 1, 2, 3, 4, 5, 6, 7, 9], [7, 9]), ([8, 10, 0, 1, 2, 3, 4, 5, 6, 7, 8, 9, 10], [8])])
def lockstitchref04_read.B11 : List Nat := [0, 0, 0, 6, 0, 31, 63, 127, 127, 0, 767, 2047]
theorem lockstitchref04_read.tab11 : rtab .any (opsOf Tryd.f31 11) = lockstitchref04_read.T11 := by kernel_rfl
theorem lockstitchref04_read.bits11 : waitsOk lockstitchref04_read.T11.2 lockstitchref04_read.B11 = true := by kernel_rfl
set_option maxHeartbeats 8000000 in
set_option maxRecDepth 100000 in
theorem lockstitchref04_read.calls (k : Nat) (A0 : Option Addr) (c0 : Nat) (l0 : List ByteArray) (r1 : Int) (r2 : Int) (r3 : Int) (r4 : Int) (r5 : Int) (r6 : Bool) (w : World) (hr0 : Kd.C Kd.string w A0 l0.length l0) (hc0 : l0.length ≤ c0) (h : lockstitchref04_read.f k l0 = some (r1, r2, r3, r4, r5, r6)) :
  Calls Tryd.prog 31 #[.slice A0 l0.length c0] w fun e w' => e = .returned (.tuple #[.agg #[.int .u8 r1, .int .u8 r2, .int .u8 r3, .int .u8 r4, .int .i64 r5], .bool r6]) ∧ Below w.heap.size w w' := by
 have hu45 := Tryd.underlying45
 have HR0 := Aside0.mk hr0
 have HC0 := Aside0.mk hc0
 clear hr0 hc0
 have HB := Aside0.mk (Below.refl w.heap.size w)
 have H : (lockstitchref04_read.l0 k l0 1) = some (r1, r2, r3, r4, r5, r6) := h
 clear h
 have H' := Aside0.mk H
 clear H
 go_enter Tryd.func31, Tryd.ntmps31
 go_wp2_with (first | ((with_reducible refine gate_dst (N := 2) rfl ?_); (try (refine gate_guard (by rfl) ?_; dsimp only)); refine box_event ?hg (N := 2) ?hd (cs := #[.int .u8 0, .int .u8 0, .int .u8 0, .int .u8 0, .int .i64 0]) (t := 45) ?hr ?_; (case hd => rfl); (case hg => rfl); (case hr => first | (go_simp; done) | (go_simp; rfl)); intro gb112 hg w2 hbox hb; have n0_ := Aside0.mk (below_step (by repeat (first | (with_reducible first | exact HB.out | apply below_alloc | apply pw_below_drewN | apply below_drew1) | exact HB.out)) hb); have n1_ := Aside0.mk (hbox); have n2_ := Aside0.mk ((by rw [hg]; exact (below_size (by repeat (first | (with_reducible first | exact HB.out | apply below_alloc | apply pw_below_drewN | apply below_drew1) | exact HB.out))) : w.heap.size ≤ gb112)); have n3_ := n2_; clear HB; have HB := n0_; have BK112 := n1_; have GW112 := n2_; have GE112 := n3_; clear n0_ n1_ n2_ n3_; clear hb hbox hg))
 go_loopg [4] k (fun kq v4 w' => ∃ (x4_1 : Int) (x113000_1 : Int) (x113001_1 : Int) (x113002_1 : Int) (x113003_1 : Int) (x113004_1 : Int), v4 = .int .u8 x4_1 ∧ Aside0 (lockstitchref04_read.l0 kq l0 x4_1 = some (r1, r2, r3, r4, r5, r6)) ∧ Aside0 (kq ≤ k) ∧ Aside0 (w'.heap[gb112]? = some (.cells #[.int .u8 x113000_1, .int .u8 x113001_1, .int .u8 x113002_1, .int .u8 x113003_1, .int .i64 x113004_1] 45 (0, 0))) ∧ Aside0 (Below w.heap.size w w'))
 case atStart => exact ⟨(1), (0), (0), (0), (0), (0), (by first | rfl | (simp; done) | (simp [*]; done)), H', ⟨Nat.le_refl _⟩, ⟨by (with_reducible repeat (first | refine blk_drewN ?_ _ | refine blk_drew ?_ | refine blk_alloc ?_ _)); exact BK112.out⟩, ⟨by repeat (first | (with_reducible first | exact HB.out | apply below_alloc | apply pw_below_drewN | apply below_drew1 | refine below_set ?_ GE112.out) | exact HB.out)⟩⟩
 case round =>
  clear H'
  obtain ⟨x4_1, x113000_1, x113001_1, x113002_1, x113003_1, x113004_1, rfl, HA, HK1, BK112, HB⟩ := hrel
  cases gk with
  | zero => exact absurd HA.out (by simp [lockstitchref04_read.l0])
  | succ k1 =>
   have H := HA.out
   clear HA
   simp only [lockstitchref04_read.l0] at H
   by_cases c3 : x4_1 ≤ 15
   ·
    rw [if_pos c3] at H
    have c3b0 : decide (x4_1 ≤ 15) = true := decide_eq_true c3
    clear c3
    replace H := Option.bind_eq_some_iff.mp H
    obtain ⟨⟨t113, t114⟩, A40, H⟩ := H
    replace H : (if 0 < (l0.length : Int) then (if (rdOf ByteArray.empty l0 0).toList = t113.toList then (lockstitchref04_read.j1 k1 l0 x4_1 t114 ((l0.length : Int) != (wrap64 ((t114.size : Int) + 1)))) else (lockstitchref04_read.j1 k1 l0 x4_1 t114 true)) else (none)) = some (r1, r2, r3, r4, r5, r6) := H
    have A4 := Aside0.mk A40
    clear A40
    have HC5 := Aside0.mk H
    clear H
    go_upto_region 5 with (first | ((with_reducible refine gate_callee (f := 30) rfl ?_); refine goesL_ (some 19) rfl rfl Tryd.func30 (by kernel_rfl) rfl #[.int .u8 x4_1] rfl (by (try simp only [List.map_toArray, List.map_cons, List.map_nil]); first | done | rfl | (simp only [List.length_drop, List.length_take]; rfl)) ?_; (with_reducible refine (lockstitchref04_shape.calls x4_1 t113 t114 _ A4.out).mono ?_); rintro e w' ⟨rfl, ⟨nd, rfl⟩⟩; refine ⟨_, rfl, ?_⟩))
    (try simp only [Act.put, List.setIfInBounds_toArray, List.set_cons_zero, List.set_cons_succ])
    go_cut [34] (fun v34 wc => ∃ (kq : Nat) (x34_4 : Bool), v34 = .bool x34_4 ∧ Aside0 (lockstitchref04_read.j1 kq l0 x4_1 t114 x34_4 = some (r1, r2, r3, r4, r5, r6)) ∧ Aside0 (kq ≤ k1) ∧ Aside0 (wc.heap[gb112]? = some (.cells #[.int .u8 x113000_1, .int .u8 x113001_1, .int .u8 x113002_1, .int .u8 x113003_1, .int .i64 x113004_1] 45 (0, 0))) ∧ Aside0 (Below w.heap.size w wc))
    case first =>
     have H := HC5.out
     clear HC5
     by_cases c6 : 0 < (l0.length : Int)
     ·
      rw [if_pos c6] at H
      have c6b0 : decide (0 < (l0.length : Int)) = true := decide_eq_true c6
      have c6b1 : decide (0 < l0.length) = true := decide_eq_true (by omega)
      clear c6
      (first | rw [c6b0] | (simp only [i64_w, i32_w]; rw [c6b0]) | skip)
      by_cases c7 : (rdOf ByteArray.empty l0 0).toList = t113.toList
      ·
       rw [if_pos c7] at H
       have c7b0 : ((rdOf ByteArray.empty l0 0).toList == t113.toList) = true := beq_iff_eq.mpr c7
       have c7b1 : ((rdOf ByteArray.empty l0 0).toList != t113.toList) = false := bne_eq_false_iff_eq.mpr c7
       clear c7
       have H' := Aside0.mk H
       clear H
       have p115 : 0 ≤ (0 : Int) := (by omega)
       have q115 : 0 < (l0.length : Int) := of_decide_eq_true (by first | (with_reducible assumption) | assumption)
       obtain ⟨ad115, e115, hx115_0⟩ := Kd.at_string HR0.out 0 p115 q115
       cases e115
       have qi115 : (0 < l0.length) = True := eq_true (by omega)
       (try rw [show ((0 : Int)).toNat = 0 from rfl] at hx115_0)
       (try rw [Addr.add_zero'] at hx115_0)
       replace hx115_0 := (HB.out.cell (World.block_lt_of_cell? w _ hx115_0)).trans hx115_0
       replace p115 := eq_true p115
       replace q115 := eq_true q115
       go_wp2
       go_meet
       case rel => exact ⟨_, (((l0.length : Int) != (wrap64 ((t114.size : Int) + 1)))), (by first | rfl | (simp; done) | (simp [*]; done)), H', ⟨by have := HK1.out; first | omega | exact Nat.le_refl _⟩, ⟨by (with_reducible repeat (first | refine blk_drewN ?_ _ | refine blk_drew ?_ | refine blk_alloc ?_ _)); exact BK112.out⟩, ⟨by repeat (first | (with_reducible first | exact HB.out | apply below_alloc | apply pw_below_drewN | apply below_drew1 | refine below_set ?_ GE112.out) | exact HB.out)⟩⟩
      ·
       rw [if_neg c7] at H
       have c7b0 : ((rdOf ByteArray.empty l0 0).toList == t113.toList) = false := beq_eq_false_iff_ne.mpr c7
       have c7b1 : ((rdOf ByteArray.empty l0 0).toList != t113.toList) = true := bne_iff_ne.mpr c7
       have H' := Aside0.mk H
       clear H
       have p115 : 0 ≤ (0 : Int) := (by omega)
       have q115 : 0 < (l0.length : Int) := of_decide_eq_true (by first | (with_reducible assumption) | assumption)
       obtain ⟨ad115, e115, hx115_0⟩ := Kd.at_string HR0.out 0 p115 q115
       cases e115
       have qi115 : (0 < l0.length) = True := eq_true (by omega)
       (try rw [show ((0 : Int)).toNat = 0 from rfl] at hx115_0)
       (try rw [Addr.add_zero'] at hx115_0)
       replace hx115_0 := (HB.out.cell (World.block_lt_of_cell? w _ hx115_0)).trans hx115_0
       replace p115 := eq_true p115
       replace q115 := eq_true q115
       go_wp2
       go_meet
       case rel => exact ⟨_, (true), (by first | rfl | (simp; done) | (simp [*]; done)), H', ⟨by have := HK1.out; first | omega | exact Nat.le_refl _⟩, ⟨by (with_reducible repeat (first | refine blk_drewN ?_ _ | refine blk_drew ?_ | refine blk_alloc ?_ _)); exact BK112.out⟩, ⟨by repeat (first | (with_reducible first | exact HB.out | apply below_alloc | apply pw_below_drewN | apply below_drew1 | refine below_set ?_ GE112.out) | exact HB.out)⟩⟩
     ·
      rw [if_neg c6] at H
      exact absurd H (by simp)
    case rest =>
     clear HC5
     obtain ⟨kq, x34_4, rfl, HA, HJ4, BK112, HB⟩ := hcut
     cases kq with
     | zero => exact absurd HA.out (by simp [lockstitchref04_read.j1])
     | succ kj4 =>
      have H := HA.out
      clear HA
      simp only [lockstitchref04_read.j1] at H
      by_cases c8 : x34_4 = true
      ·
       subst c8
       have H1 : (lockstitchref04_read.l0 kj4 l0 ((x4_1 + 1) % 256)) = some (r1, r2, r3, r4, r5, r6) := by rw [if_pos rfl] at H; exact H
       clear H
       have H := H1
       clear H1
       have H' := Aside0.mk H
       clear H
       go_wp2
       go_roundg kj4
       case measure => have := HK1.out; have := HJ4.out; omega
       case rel => exact ⟨((x4_1 + 1) % 256), (x113000_1), (x113001_1), (x113002_1), (x113003_1), (x113004_1), (by first | rfl | (simp; done) | (simp [*]; done)), H', ⟨by have := HK1.out; have := HJ4.out; omega⟩, ⟨by (with_reducible repeat (first | refine blk_drewN ?_ _ | refine blk_drew ?_ | refine blk_alloc ?_ _)); exact BK112.out⟩, ⟨by repeat (first | (with_reducible first | exact HB.out | apply below_alloc | apply pw_below_drewN | apply below_drew1 | refine below_set ?_ GE112.out) | exact HB.out)⟩⟩
      ·
       replace c8 := Bool.eq_false_iff.mpr c8
       subst c8
       have H1 : (lockstitchref04_read.l1 kj4 l0 t114 0 x4_1 0 0 0 0) = some (r1, r2, r3, r4, r5, r6) := by rw [if_neg (show ¬ (false = true) by decide)] at H; exact H
       clear H
       have H := H1
       clear H1
       have H' := Aside0.mk H
       clear H
       go_wp2_with (first | ((with_reducible refine gate_dst (N := 7) rfl ?_); (try (refine gate_guard (by rfl) ?_; dsimp only)); refine box_event ?hg (N := 7) ?hd (cs := #[.int .u8 0, .int .u8 0, .int .u8 0, .int .u8 0, .int .i64 0]) (t := 45) ?hr ?_; (case hd => rfl); (case hg => rfl); (case hr => first | (go_simp; done) | (go_simp; rfl)); intro gb116 hg w9 hbox hb; have n0_ := Aside0.mk (blk_below (g := gb112) (o := .cells #[.int .u8 x113000_1, .int .u8 x113001_1, .int .u8 x113002_1, .int .u8 x113003_1, .int .i64 x113004_1] 45 (0, 0)) (by (with_reducible repeat (first | refine blk_drewN ?_ _ | refine blk_drew ?_ | refine blk_alloc ?_ _)); exact BK112.out) hb); have n1_ := Aside0.mk (below_step (by repeat (first | (with_reducible first | exact HB.out | apply below_alloc | apply pw_below_drewN | apply below_drew1 | refine below_set ?_ GE112.out) | exact HB.out)) hb); have n2_ := Aside0.mk (hbox); have n3_ := Aside0.mk ((by rw [hg]; exact (below_size (by repeat (first | (with_reducible first | exact HB.out | apply below_alloc | apply pw_below_drewN | apply below_drew1 | refine below_set ?_ GE112.out) | exact HB.out))) : w.heap.size ≤ gb116)); have n4_ := n3_; have n5_ := Aside0.mk ((by rw [hg]; exact Nat.ne_of_lt (blk_lt (g := gb112) (o := .cells #[.int .u8 x113000_1, .int .u8 x113001_1, .int .u8 x113002_1, .int .u8 x113003_1, .int .i64 x113004_1] 45 (0, 0)) (by (with_reducible repeat (first | refine blk_drewN ?_ _ | refine blk_drew ?_ | refine blk_alloc ?_ _)); exact BK112.out)) : gb112 ≠ gb116)); have n6_ := Aside0.mk n5_.out.symm; clear BK112; clear HB; have BK112 := n0_; have HB := n1_; have BK116 := n2_; have GW116 := n3_; have GE116 := n4_; have NB112_116 := n5_; have NB116_112 := n6_; clear n0_ n1_ n2_ n3_ n4_ n5_ n6_; clear hb hbox hg; have hnb10 := NB116_112.out; have hnc10 := NB112_116.out; obtain ⟨hcz11_0, hcz11_1, hcz11_2, hcz11_3, hcz11_4, hfz11_0, hfz11_1, hfz11_2, hfz11_3, hfz11_4⟩ := all5 BK116.out))
       go_loopg [8] kj4 (fun kq v8 w' => ∃ (x8_3 : Int) (x113000_3 : Int) (x113001_3 : Int) (x113002_3 : Int) (x113003_3 : Int) (x113004_3 : Int) (x117000_3 : Int) (x117001_3 : Int) (x117002_3 : Int) (x117003_3 : Int) (x117004_3 : Int), v8 = .int .i64 x8_3 ∧ Aside0 (lockstitchref04_read.l1 kq l0 t114 x8_3 x117000_3 x117001_3 x117002_3 x117003_3 x117004_3 = some (r1, r2, r3, r4, r5, r6)) ∧ Aside0 (kq ≤ kj4) ∧ Aside0 (w'.heap[gb112]? = some (.cells #[.int .u8 x113000_3, .int .u8 x113001_3, .int .u8 x113002_3, .int .u8 x113003_3, .int .i64 x113004_3] 45 (0, 0))) ∧ Aside0 (w'.heap[gb116]? = some (.cells #[.int .u8 x117000_3, .int .u8 x117001_3, .int .u8 x117002_3, .int .u8 x117003_3, .int .i64 x117004_3] 45 (0, 0))) ∧ Aside0 (Below w.heap.size w w'))
       case atStart => exact ⟨(0), (x113000_1), (x113001_1), (x113002_1), (x113003_1), (x113004_1), (x4_1), (0), (0), (0), (0), (by first | rfl | (simp; done) | (simp [*]; done)), H', ⟨Nat.le_refl _⟩, ⟨by (with_reducible repeat (first | refine blk_drewN ?_ _ | refine blk_drew ?_ | refine blk_alloc ?_ _)); refine blk_far ?_ NB112_116.out _; (with_reducible repeat (first | refine blk_drewN ?_ _ | refine blk_drew ?_ | refine blk_alloc ?_ _)); refine blk_far ?_ NB112_116.out _; (with_reducible repeat (first | refine blk_drewN ?_ _ | refine blk_drew ?_ | refine blk_alloc ?_ _)); refine blk_far ?_ NB112_116.out _; (with_reducible repeat (first | refine blk_drewN ?_ _ | refine blk_drew ?_ | refine blk_alloc ?_ _)); refine blk_far ?_ NB112_116.out _; (with_reducible repeat (first | refine blk_drewN ?_ _ | refine blk_drew ?_ | refine blk_alloc ?_ _)); refine blk_far ?_ NB112_116.out _; (with_reducible repeat (first | refine blk_drewN ?_ _ | refine blk_drew ?_ | refine blk_alloc ?_ _)); exact BK112.out⟩, ⟨by (with_reducible repeat (first | refine blk_drewN ?_ _ | refine blk_drew ?_ | refine blk_alloc ?_ _)); refine blk_put (cs := #[.int .u8 x4_1, .int .u8 0, .int .u8 0, .int .u8 0, .int .i64 0]) ?_ 4 _ rfl; (with_reducible repeat (first | refine blk_drewN ?_ _ | refine blk_drew ?_ | refine blk_alloc ?_ _)); refine blk_put (cs := #[.int .u8 x4_1, .int .u8 0, .int .u8 0, .int .u8 0, .int .i64 0]) ?_ 3 _ rfl; (with_reducible repeat (first | refine blk_drewN ?_ _ | refine blk_drew ?_ | refine blk_alloc ?_ _)); refine blk_put (cs := #[.int .u8 x4_1, .int .u8 0, .int .u8 0, .int .u8 0, .int .i64 0]) ?_ 2 _ rfl; (with_reducible repeat (first | refine blk_drewN ?_ _ | refine blk_drew ?_ | refine blk_alloc ?_ _)); refine blk_put (cs := #[.int .u8 x4_1, .int .u8 0, .int .u8 0, .int .u8 0, .int .i64 0]) ?_ 1 _ rfl; (with_reducible repeat (first | refine blk_drewN ?_ _ | refine blk_drew ?_ | refine blk_alloc ?_ _)); refine blk_put (cs := #[.int .u8 0, .int .u8 0, .int .u8 0, .int .u8 0, .int .i64 0]) ?_ 0 _ rfl; (with_reducible repeat (first | refine blk_drewN ?_ _ | refine blk_drew ?_ | refine blk_alloc ?_ _)); exact BK116.out⟩, ⟨by repeat (first | (with_reducible first | exact HB.out | apply below_alloc | apply pw_below_drewN | apply below_drew1 | refine below_set ?_ GE112.out | refine below_set ?_ GE116.out) | exact HB.out)⟩⟩
       case round =>
        clear H'
        obtain ⟨x8_3, x113000_3, x113001_3, x113002_3, x113003_3, x113004_3, x117000_3, x117001_3, x117002_3, x117003_3, x117004_3, rfl, HA, HK3, BK112, BK116, HB⟩ := hrel
        cases gk with
        | zero => exact absurd HA.out (by simp [lockstitchref04_read.l1])
        | succ k3 =>
         have H := HA.out
         clear HA
         simp only [lockstitchref04_read.l1] at H
         by_cases c12 : x8_3 < (t114.size : Int)
         ·
          rw [if_pos c12] at H
          have c12b0 : decide (x8_3 < (t114.size : Int)) = true := decide_eq_true c12
          clear c12
          obtain ⟨ji13, hji13⟩ : ∃ j_ : Int, (wrap64 (x8_3 + 1)) = j_ := ⟨_, rfl⟩
          replace H : (if 0 ≤ (ji13) then (if (ji13) < (l0.length : Int) then ((lockstitchref02_Number.f k3 (rdOf ByteArray.empty l0 (ji13))).bind fun bt118 => (if 0 ≤ x8_3 then ((lockstitchref04_with.f k3 x117000_3 x117001_3 x117002_3 x117003_3 x117004_3 (bt t114 x8_3) bt118.1).bind fun bt120 => (if bt118.2 = 0 then (if bt120.2.2.2.2.2 = true then (lockstitchref04_read.l1 k3 l0 t114 ji13 bt120.1 bt120.2.1 bt120.2.2.1 bt120.2.2.2.1 bt120.2.2.2.2.1) else (some (0, 0, 0, 0, 0, false))) else (some (0, 0, 0, 0, 0, false)))) else (none))) else (none)) else (none)) = some (r1, r2, r3, r4, r5, r6) := by first | (rw [hji13] at H; exact H) | (simp only [hji13] at H ⊢; exact H)
          have hji13w : (IntKind.i64.wrap (x8_3 + 1)) = ji13 := (i64_w _).trans hji13
          by_cases c14 : 0 ≤ (ji13)
          ·
           rw [if_pos c14] at H
           have c14b0 : decide (0 ≤ (ji13)) = true := decide_eq_true c14
           clear c14
           by_cases c15 : (ji13) < (l0.length : Int)
           ·
            rw [if_pos c15] at H
            have c15b0 : decide ((ji13) < (l0.length : Int)) = true := decide_eq_true c15
            clear c15
            replace H := Option.bind_eq_some_iff.mp H
            obtain ⟨⟨t118, t119⟩, A160, H⟩ := H
            replace H : (if 0 ≤ x8_3 then ((lockstitchref04_with.f k3 x117000_3 x117001_3 x117002_3 x117003_3 x117004_3 (bt t114 x8_3) t118).bind fun bt120 => (if t119 = 0 then (if bt120.2.2.2.2.2 = true then (lockstitchref04_read.l1 k3 l0 t114 ji13 bt120.1 bt120.2.1 bt120.2.2.1 bt120.2.2.2.1 bt120.2.2.2.2.1) else (some (0, 0, 0, 0, 0, false))) else (some (0, 0, 0, 0, 0, false)))) else (none)) = some (r1, r2, r3, r4, r5, r6) := H
            have A16 := Aside0.mk A160
            clear A160
            by_cases c17 : 0 ≤ x8_3
            ·
             rw [if_pos c17] at H
             have c17b0 : decide (0 ≤ x8_3) = true := decide_eq_true c17
             clear c17
             replace H := Option.bind_eq_some_iff.mp H
             obtain ⟨⟨t120, t121, t122, t123, t124, t125⟩, A190, H⟩ := H
             replace H : (if t119 = 0 then (if t125 = true then (lockstitchref04_read.l1 k3 l0 t114 ji13 t120 t121 t122 t123 t124) else (some (0, 0, 0, 0, 0, false))) else (some (0, 0, 0, 0, 0, false))) = some (r1, r2, r3, r4, r5, r6) := H
             have A19 := Aside0.mk A190
             clear A190
             by_cases c20 : t119 = 0
             ·
              rw [if_pos c20] at H
              have c20b0 : (t119 == 0) = true := beq_iff_eq.mpr c20
              have c20b1 : (t119 != 0) = false := bne_eq_false_iff_eq.mpr c20
              clear c20
              by_cases c21 : t125 = true
              ·
               subst c21
               have H1 : (lockstitchref04_read.l1 k3 l0 t114 ji13 t120 t121 t122 t123 t124) = some (r1, r2, r3, r4, r5, r6) := by rw [if_pos rfl] at H; exact H
               clear H
               have H := H1
               clear H1
               have H' := Aside0.mk H
               clear H
               have p117 : 0 ≤ ((ji13) : Int) := of_decide_eq_true (by first | (with_reducible assumption) | assumption)
               have q117 : (ji13) < (l0.length : Int) := of_decide_eq_true (by first | (with_reducible assumption) | assumption)
               obtain ⟨ad117, e117, hx117_0⟩ := Kd.at_string HR0.out (ji13) p117 q117
               cases e117
               replace hx117_0 := (HB.out.cell (World.block_lt_of_cell? w _ hx117_0)).trans hx117_0
               replace p117 := eq_true p117
               replace q117 := eq_true q117
               try go_wp2_with (first | ((with_reducible refine gate_callee (f := 39) rfl ?_); refine goesL_ (some 49) rfl rfl Tryd.func39 (by kernel_rfl) rfl #[.string (rdOf ByteArray.empty l0 (ji13))] rfl (by (try simp only [List.map_toArray, List.map_cons, List.map_nil]); first | done | (simp only [hji13]; rfl) | rfl | (simp only [List.length_drop, List.length_take]; rfl)) ?_; (with_reducible refine (lockstitchref02_Number.calls k3 (rdOf ByteArray.empty l0 (ji13)) t118 t119 _ A16.out).mono ?_); rintro e w' ⟨rfl, ⟨nd, rfl⟩⟩; refine ⟨_, rfl, ?_⟩; (try (rw [drewN_self wr]; generalize hq_ : World.drewN wr _ = wr; have n0_ : Aside0 (wr.heap[gb112]? = some (.cells #[.int .u8 x113000_3, .int .u8 x113001_3, .int .u8 x113002_3, .int .u8 x113003_3, .int .i64 x113004_3] 45 (0, 0))) := ⟨by rw [← hq_]; exact (by (with_reducible repeat (first | refine blk_drewN ?_ _ | refine blk_drew ?_ | refine blk_alloc ?_ _)); exact BK112.out)⟩; have n1_ : Aside0 (wr.heap[gb116]? = some (.cells #[.int .u8 x117000_3, .int .u8 x117001_3, .int .u8 x117002_3, .int .u8 x117003_3, .int .i64 x117004_3] 45 (0, 0))) := ⟨by rw [← hq_]; exact (by (with_reducible repeat (first | refine blk_drewN ?_ _ | refine blk_drew ?_ | refine blk_alloc ?_ _)); exact BK116.out)⟩; have n2_ : Aside0 (Below w.heap.size w wr) := ⟨by rw [← hq_]; exact (by repeat (first | (with_reducible first | exact HB.out | apply below_alloc | apply pw_below_drewN | apply below_drew1 | refine below_set ?_ GE112.out | refine below_set ?_ GE116.out) | exact HB.out))⟩; clear BK112 BK116 HB hq_; have BK112 := n0_; have BK116 := n1_; have HB := n2_; clear n0_ n1_ n2_))))
               have n0_ := Aside0.mk (blk_drew BK112.out)
               have n1_ := Aside0.mk (blk_drew BK116.out)
               have n2_ := Aside0.mk (below_drew1 HB.out)
               clear BK112
               clear BK116
               clear HB
               have BK112 := n0_
               have BK116 := n1_
               have HB := n2_
               clear n0_ n1_ n2_
               have p18 : 0 ≤ (x8_3 : Int) := of_decide_eq_true (by first | (with_reducible assumption) | assumption)
               have q18 : x8_3 < (t114.size : Int) := of_decide_eq_true (by first | (with_reducible assumption) | assumption)
               have hx18 := bt_at t114 x8_3
               replace p18 := eq_true p18
               replace q18 := eq_true q18
               refine start_ (n := 12) (S := fun w' => w'.cell? ⟨gb116, 0, none⟩ = some (.int .u8 x117000_3) ∧ w'.cell? ⟨gb116, 1, none⟩ = some (.int .u8 x117001_3) ∧ w'.cell? ⟨gb116, 2, none⟩ = some (.int .u8 x117002_3) ∧ w'.cell? ⟨gb116, 3, none⟩ = some (.int .u8 x117003_3) ∧ w'.cell? ⟨gb116, 4, none⟩ = some (.int .i64 x117004_3)) (ds := []) #[false, false, false, false, false, false, false, false, false, false, false, false] (by kernel_rfl) rfl rfl ⟨(blk_cell BK116.out 0).trans rfl, (blk_cell BK116.out 1).trans rfl, (blk_cell BK116.out 2).trans rfl, (blk_cell BK116.out 3).trans rfl, (blk_cell BK116.out 4).trans rfl⟩ (fun hHeld => ?_); refine with_tabW lockstitchref04_read.tab11 lockstitchref04_read.bits11 (fun HT_ HW_ => ?_)
               generalize wr.drew = w22 at BK112 BK116 HB hHeld ⊢
               refine pure_ (i := 1) (N := some 54) (v := ?_) (a' := ?_) #[false, true, false, false, false, false, false, false, false, false, false, false] rfl rfl (any_of HT_.out (by kernel_rfl)) (fun _ _ _ h => h) (Or.inl ⟨by rfl, ?_⟩) ?_ ?_
               rotate_left
               ·
                intro w'
                go_simp
                with_reducible rfl
               rotate_left
               ·
                simp only [Act.put, List.setIfInBounds_toArray, List.set_cons_zero, List.set_cons_succ, i64_w, i32_w]
                rfl
               refine pure_ (i := 2) (N := some 55) (v := ?_) (a' := ?_) #[false, true, true, false, false, false, false, false, false, false, false, false] rfl rfl (any_of HT_.out (by kernel_rfl)) (fun _ _ _ h => h) (Or.inl ⟨by rfl, ?_⟩) ?_ ?_
               rotate_left
               ·
                intro w'
                go_simp
                with_reducible rfl
               rotate_left
               ·
                simp only [Act.put, List.setIfInBounds_toArray, List.set_cons_zero, List.set_cons_succ, i64_w, i32_w]
                rfl
               refine pure_ (i := 4) (N := some 57) (v := ?_) (a' := ?_) #[false, true, true, false, true, false, false, false, false, false, false, false] rfl rfl (any_of HT_.out (by kernel_rfl)) (fun _ _ _ h => h) (Or.inl ⟨by rfl, ?_⟩) ?_ ?_
               rotate_left
               ·
                intro w'
                go_simp
                with_reducible rfl
               rotate_left
               ·
                simp only [Act.put, List.setIfInBounds_toArray, List.set_cons_zero, List.set_cons_succ, i64_w, i32_w]
                rfl
               refine take_ (i := 0) (N := some 53) (v := ?_) (a' := ?_) #[true, true, true, false, true, false, false, false, false, false, false, false] rfl rfl (take_ofW HT_.out HW_.out (by kernel_rfl)) (fun _ _ _ h => h) (Or.inl ⟨by rfl, ?_⟩) hHeld ?_ ?_
               rotate_left
               ·
                rintro w' ⟨s0, s1, s2, s3, s4⟩
                go_simp
                with_reducible rfl
               rotate_left
               ·
                simp only [Act.put, List.setIfInBounds_toArray, List.set_cons_zero, List.set_cons_succ, i64_w, i32_w]
                rfl
               refine take_ (i := 3) (N := some 56) (v := ?_) (a' := ?_) #[true, true, true, true, true, false, false, false, false, false, false, false] rfl rfl (take_ofW HT_.out HW_.out (by kernel_rfl)) (fun _ _ _ h => h) (Or.inl ⟨by rfl, ?_⟩) hHeld ?_ ?_
               rotate_left
               ·
                rintro w' ⟨s0, s1, s2, s3, s4⟩
                go_simp
                with_reducible rfl
               rotate_left
               ·
                simp only [Act.put, List.setIfInBounds_toArray, List.set_cons_zero, List.set_cons_succ, i64_w, i32_w]
                rfl
               refine join_ (σ := Nat) 2 #[true, true, true, true, true, true, true, true, true, true, false, false] (fun s_ => [(58, .tuple #[.agg #[.int .u8 t120, .int .u8 t121, .int .u8 t122, .int .u8 t123, .int .i64 t124], .bool true]), (11, .pointer (some ⟨s_, 0, none⟩)), (52, .tuple #[.agg #[.int .u8 t120, .int .u8 t121, .int .u8 t122, .int .u8 t123, .int .i64 t124], .bool true]), (59, .agg #[.int .u8 t120, .int .u8 t121, .int .u8 t122, .int .u8 t123, .int .i64 t124]), (60, .bool true)]) (fun s_ w' => (w'.cell? ⟨gb116, 0, none⟩ = some (.int .u8 x117000_3) ∧ w'.cell? ⟨gb116, 1, none⟩ = some (.int .u8 x117001_3) ∧ w'.cell? ⟨gb116, 2, none⟩ = some (.int .u8 x117002_3) ∧ w'.cell? ⟨gb116, 3, none⟩ = some (.int .u8 x117003_3) ∧ w'.cell? ⟨gb116, 4, none⟩ = some (.int .i64 x117004_3)) ∧ (w'.heap[gb112]? = some (.cells #[.int .u8 x113000_3, .int .u8 x113001_3, .int .u8 x113002_3, .int .u8 x113003_3, .int .i64 x113004_3] 45 (0, 0))) ∧ (w'.heap[gb116]? = some (.cells #[.int .u8 x117000_3, .int .u8 x117001_3, .int .u8 x117002_3, .int .u8 x117003_3, .int .i64 x117004_3] 45 (0, 0))) ∧ (w'.heap[s_]? = some (.cells #[.int .u8 0, .int .u8 0, .int .u8 0, .int .u8 0, .int .i64 0] 45 (0, 0))) ∧ (w.heap.size ≤ s_) ∧ (w.heap.size ≤ s_) ∧ (gb112 ≠ s_) ∧ (s_ ≠ gb112) ∧ (gb116 ≠ s_) ∧ (s_ ≠ gb116) ∧ (Below w.heap.size w w')) ?_ ?_
               rotate_left
               ·
                intro hCont
                refine two_ (i := 5) (j := 9) (Ni := some 58) (Nj := some 11) #[true, true, true, true, true, true, false, false, false, false, false, false] #[true, true, true, true, true, false, false, false, false, true, false, false] rfl rfl rfl rfl (two_of HT_.out (by kernel_rfl)) (by decide) (by decide) (fun K hK => ?_) (fun K hK => ?_)
                ·
                 skip
                 refine goes_ Tryd.func40 (by kernel_rfl) rfl #[.agg #[.int .u8 x117000_3, .int .u8 x117001_3, .int .u8 x117002_3, .int .u8 x117003_3, .int .i64 x117004_3], .int .u8 (bt t114 x8_3), .int .i64 t118] (by rfl) rfl rfl (by (try simp only [List.map_toArray, List.map_cons, List.map_nil]); first | done | rfl | (simp only [List.length_drop, List.length_take]; rfl)) ?_
                 with_reducible refine (lockstitchref04_with.calls k3 x117000_3 x117001_3 x117002_3 x117003_3 x117004_3 (bt t114 x8_3) t118 t120 t121 t122 t123 t124 true _ A19.out).mono ?_
                 rintro e w23 ⟨rfl, hb⟩
                 refine ⟨_, rfl, ?_⟩
                 have n0_ := Aside0.mk (blk_below (g := gb112) (o := .cells #[.int .u8 x113000_3, .int .u8 x113001_3, .int .u8 x113002_3, .int .u8 x113003_3, .int .i64 x113004_3] 45 (0, 0)) (by (with_reducible repeat (first | refine blk_drewN ?_ _ | refine blk_drew ?_ | refine blk_alloc ?_ _)); exact BK112.out) hb)
                 have n1_ := Aside0.mk (blk_below (g := gb116) (o := .cells #[.int .u8 x117000_3, .int .u8 x117001_3, .int .u8 x117002_3, .int .u8 x117003_3, .int .i64 x117004_3] 45 (0, 0)) (by (with_reducible repeat (first | refine blk_drewN ?_ _ | refine blk_drew ?_ | refine blk_alloc ?_ _)); exact BK116.out) hb)
                 have n2_ := Aside0.mk (below_step (by repeat (first | (with_reducible first | exact HB.out | apply below_alloc | apply pw_below_drewN | apply below_drew1 | refine below_set ?_ GE112.out | refine below_set ?_ GE116.out) | exact HB.out)) hb)
                 clear BK112
                 clear BK116
                 clear HB
                 have BK112 := n0_
                 have BK116 := n1_
                 have HB := n2_
                 clear n0_ n1_ n2_
                 (try clear hb)
                 (try clear hb2)
                 (try clear hk)
                 (try clear hi)
                 refine hK.out _ _ ⟨(blk_cell BK116.out 0).trans rfl, (blk_cell BK116.out 1).trans rfl, (blk_cell BK116.out 2).trans rfl, (blk_cell BK116.out 3).trans rfl, (blk_cell BK116.out 4).trans rfl⟩ (fun hHeld => ?_)
                 clear hK K
                 refine norm_ (a' := ?_) ?_ ?_
                 rotate_left
                 ·
                  show Act.put _ (some 58) _ = _
                  simp only [Act.put, List.setIfInBounds_toArray, List.set_cons_zero, List.set_cons_succ, i64_w, i32_w]
                  rfl
                 refine pure_ (i := 6) (N := some 52) (v := ?_) (a' := ?_) #[true, true, true, true, true, true, true, false, false, false, false, false] rfl rfl (any_of HT_.out (by kernel_rfl)) (fun _ _ _ h => h) (Or.inl ⟨by rfl, ?_⟩) ?_ ?_
                 rotate_left
                 ·
                  intro w'
                  go_simp
                  with_reducible rfl
                 rotate_left
                 ·
                  simp only [Act.put, List.setIfInBounds_toArray, List.set_cons_zero, List.set_cons_succ, i64_w, i32_w]
                  rfl
                 refine pure_ (i := 7) (N := some 59) (v := ?_) (a' := ?_) #[true, true, true, true, true, true, true, true, false, false, false, false] rfl rfl (any_of HT_.out (by kernel_rfl)) (fun _ _ _ h => h) (Or.inl ⟨by rfl, ?_⟩) ?_ ?_
                 rotate_left
                 ·
                  intro w'
                  go_simp
                  with_reducible rfl
                 rotate_left
                 ·
                  simp only [Act.put, List.setIfInBounds_toArray, List.set_cons_zero, List.set_cons_succ, i64_w, i32_w]
                  rfl
                 refine pure_ (i := 8) (N := some 60) (v := ?_) (a' := ?_) #[true, true, true, true, true, true, true, true, true, false, false, false] rfl rfl (any_of HT_.out (by kernel_rfl)) (fun _ _ _ h => h) (Or.inl ⟨by rfl, ?_⟩) ?_ ?_
                 rotate_left
                 ·
                  intro w'
                  go_simp
                  with_reducible rfl
                 rotate_left
                 ·
                  simp only [Act.put, List.setIfInBounds_toArray, List.set_cons_zero, List.set_cons_succ, i64_w, i32_w]
                  rfl
                 refine one_ (i := 9) (N := some 11) #[true, true, true, true, true, true, true, true, true, true, false, false] rfl rfl (one_of HT_.out (by kernel_rfl)) (by decide) (fun K hK => ?_)
                 refine box_step ?hg (N := 11) ?hd (cs := #[.int .u8 0, .int .u8 0, .int .u8 0, .int .u8 0, .int .i64 0]) (t := 45) ?hr ?_; (case hd => rfl); (case hg => rfl); (case hr => first | (go_simp; done) | (go_simp; rfl))
                 intro gb126 hg w24 hbox hb
                 have n0_ := Aside0.mk (blk_below (g := gb112) (o := .cells #[.int .u8 x113000_3, .int .u8 x113001_3, .int .u8 x113002_3, .int .u8 x113003_3, .int .i64 x113004_3] 45 (0, 0)) (by (with_reducible repeat (first | refine blk_drewN ?_ _ | refine blk_drew ?_ | refine blk_alloc ?_ _)); exact BK112.out) hb)
                 have n1_ := Aside0.mk (blk_below (g := gb116) (o := .cells #[.int .u8 x117000_3, .int .u8 x117001_3, .int .u8 x117002_3, .int .u8 x117003_3, .int .i64 x117004_3] 45 (0, 0)) (by (with_reducible repeat (first | refine blk_drewN ?_ _ | refine blk_drew ?_ | refine blk_alloc ?_ _)); exact BK116.out) hb)
                 have n2_ := Aside0.mk (below_step (by repeat (first | (with_reducible first | exact HB.out | apply below_alloc | apply pw_below_drewN | apply below_drew1 | refine below_set ?_ GE112.out | refine below_set ?_ GE116.out) | exact HB.out)) hb)
                 have n3_ := Aside0.mk (hbox)
                 have n4_ := Aside0.mk ((by rw [hg]; exact (below_size (by repeat (first | (with_reducible first | exact HB.out | apply below_alloc | apply pw_below_drewN | apply below_drew1 | refine below_set ?_ GE112.out | refine below_set ?_ GE116.out) | exact HB.out))) : w.heap.size ≤ gb126))
                 have n5_ := n4_
                 have n6_ := Aside0.mk ((by rw [hg]; exact Nat.ne_of_lt (blk_lt (g := gb112) (o := .cells #[.int .u8 x113000_3, .int .u8 x113001_3, .int .u8 x113002_3, .int .u8 x113003_3, .int .i64 x113004_3] 45 (0, 0)) (by (with_reducible repeat (first | refine blk_drewN ?_ _ | refine blk_drew ?_ | refine blk_alloc ?_ _)); exact BK112.out)) : gb112 ≠ gb126))
                 have n7_ := Aside0.mk n6_.out.symm
                 have n8_ := Aside0.mk ((by rw [hg]; exact Nat.ne_of_lt (blk_lt (g := gb116) (o := .cells #[.int .u8 x117000_3, .int .u8 x117001_3, .int .u8 x117002_3, .int .u8 x117003_3, .int .i64 x117004_3] 45 (0, 0)) (by (with_reducible repeat (first | refine blk_drewN ?_ _ | refine blk_drew ?_ | refine blk_alloc ?_ _)); exact BK116.out)) : gb116 ≠ gb126))
                 have n9_ := Aside0.mk n8_.out.symm
                 clear BK112
                 clear BK116
                 clear HB
                 have BK112 := n0_
                 have BK116 := n1_
                 have HB := n2_
                 have BK126 := n3_
                 have GW126 := n4_
                 have GE126 := n5_
                 have NB112_126 := n6_
                 have NB126_112 := n7_
                 have NB116_126 := n8_
                 have NB126_116 := n9_
                 clear n0_ n1_ n2_ n3_ n4_ n5_ n6_ n7_ n8_ n9_
                 clear hb hbox hg
                 refine hK.out _ _ ⟨(blk_cell BK116.out 0).trans rfl, (blk_cell BK116.out 1).trans rfl, (blk_cell BK116.out 2).trans rfl, (blk_cell BK116.out 3).trans rfl, (blk_cell BK116.out 4).trans rfl⟩ (fun hHeld => ?_)
                 clear hK K
                 refine norm_ (a' := ?_) ?_ ?_
                 rotate_left
                 ·
                  show Act.put _ (some 11) _ = _
                  simp only [Act.put, List.setIfInBounds_toArray, List.set_cons_zero, List.set_cons_succ, i64_w, i32_w]
                  rfl
                 exact norm_ (by simp only [putAll, Act.put, List.setIfInBounds_toArray, List.set_cons_zero, List.set_cons_succ]) (hCont (gb126) _ ⟨hHeld, (by (with_reducible repeat (first | refine blk_drewN ?_ _ | refine blk_drew ?_ | refine blk_alloc ?_ _)); exact BK112.out), (by (with_reducible repeat (first | refine blk_drewN ?_ _ | refine blk_drew ?_ | refine blk_alloc ?_ _)); exact BK116.out), (by (with_reducible repeat (first | refine blk_drewN ?_ _ | refine blk_drew ?_ | refine blk_alloc ?_ _)); exact BK126.out), GW126.out, GE126.out, NB112_126.out, NB126_112.out, NB116_126.out, NB126_116.out, (by repeat (first | (with_reducible first | exact HB.out | apply below_alloc | apply pw_below_drewN | apply below_drew1 | refine below_set ?_ GE112.out | refine below_set ?_ GE116.out | refine below_set ?_ GE126.out) | exact HB.out))⟩)
                ·
                 skip
                 refine box_step ?hg (N := 11) ?hd (cs := #[.int .u8 0, .int .u8 0, .int .u8 0, .int .u8 0, .int .i64 0]) (t := 45) ?hr ?_; (case hd => rfl); (case hg => rfl); (case hr => first | (go_simp; done) | (go_simp; rfl))
                 intro gb126 hg w23 hbox hb
                 have n0_ := Aside0.mk (blk_below (g := gb112) (o := .cells #[.int .u8 x113000_3, .int .u8 x113001_3, .int .u8 x113002_3, .int .u8 x113003_3, .int .i64 x113004_3] 45 (0, 0)) (by (with_reducible repeat (first | refine blk_drewN ?_ _ | refine blk_drew ?_ | refine blk_alloc ?_ _)); exact BK112.out) hb)
                 have n1_ := Aside0.mk (blk_below (g := gb116) (o := .cells #[.int .u8 x117000_3, .int .u8 x117001_3, .int .u8 x117002_3, .int .u8 x117003_3, .int .i64 x117004_3] 45 (0, 0)) (by (with_reducible repeat (first | refine blk_drewN ?_ _ | refine blk_drew ?_ | refine blk_alloc ?_ _)); exact BK116.out) hb)
                 have n2_ := Aside0.mk (below_step (by repeat (first | (with_reducible first | exact HB.out | apply below_alloc | apply pw_below_drewN | apply below_drew1 | refine below_set ?_ GE112.out | refine below_set ?_ GE116.out) | exact HB.out)) hb)
                 have n3_ := Aside0.mk (hbox)
                 have n4_ := Aside0.mk ((by rw [hg]; exact (below_size (by repeat (first | (with_reducible first | exact HB.out | apply below_alloc | apply pw_below_drewN | apply below_drew1 | refine below_set ?_ GE112.out | refine below_set ?_ GE116.out) | exact HB.out))) : w.heap.size ≤ gb126))
                 have n5_ := n4_
                 have n6_ := Aside0.mk ((by rw [hg]; exact Nat.ne_of_lt (blk_lt (g := gb112) (o := .cells #[.int .u8 x113000_3, .int .u8 x113001_3, .int .u8 x113002_3, .int .u8 x113003_3, .int .i64 x113004_3] 45 (0, 0)) (by (with_reducible repeat (first | refine blk_drewN ?_ _ | refine blk_drew ?_ | refine blk_alloc ?_ _)); exact BK112.out)) : gb112 ≠ gb126))
                 have n7_ := Aside0.mk n6_.out.symm
                 have n8_ := Aside0.mk ((by rw [hg]; exact Nat.ne_of_lt (blk_lt (g := gb116) (o := .cells #[.int .u8 x117000_3, .int .u8 x117001_3, .int .u8 x117002_3, .int .u8 x117003_3, .int .i64 x117004_3] 45 (0, 0)) (by (with_reducible repeat (first | refine blk_drewN ?_ _ | refine blk_drew ?_ | refine blk_alloc ?_ _)); exact BK116.out)) : gb116 ≠ gb126))
                 have n9_ := Aside0.mk n8_.out.symm
                 clear BK112
                 clear BK116
                 clear HB
                 have BK112 := n0_
                 have BK116 := n1_
                 have HB := n2_
                 have BK126 := n3_
                 have GW126 := n4_
                 have GE126 := n5_
                 have NB112_126 := n6_
                 have NB126_112 := n7_
                 have NB116_126 := n8_
                 have NB126_116 := n9_
                 clear n0_ n1_ n2_ n3_ n4_ n5_ n6_ n7_ n8_ n9_
                 clear hb hbox hg
                 refine hK.out _ _ ⟨(blk_cell BK116.out 0).trans rfl, (blk_cell BK116.out 1).trans rfl, (blk_cell BK116.out 2).trans rfl, (blk_cell BK116.out 3).trans rfl, (blk_cell BK116.out 4).trans rfl⟩ (fun hHeld => ?_)
                 clear hK K
                 refine norm_ (a' := ?_) ?_ ?_
                 rotate_left
                 ·
                  show Act.put _ (some 11) _ = _
                  simp only [Act.put, List.setIfInBounds_toArray, List.set_cons_zero, List.set_cons_succ, i64_w, i32_w]
                  rfl
                 refine one_ (i := 5) (N := some 58) #[true, true, true, true, true, true, false, false, false, true, false, false] rfl rfl (one_of HT_.out (by kernel_rfl)) (by decide) (fun K hK => ?_)
                 refine goes_ Tryd.func40 (by kernel_rfl) rfl #[.agg #[.int .u8 x117000_3, .int .u8 x117001_3, .int .u8 x117002_3, .int .u8 x117003_3, .int .i64 x117004_3], .int .u8 (bt t114 x8_3), .int .i64 t118] (by rfl) rfl rfl (by (try simp only [List.map_toArray, List.map_cons, List.map_nil]); first | done | rfl | (simp only [List.length_drop, List.length_take]; rfl)) ?_
                 with_reducible refine (lockstitchref04_with.calls k3 x117000_3 x117001_3 x117002_3 x117003_3 x117004_3 (bt t114 x8_3) t118 t120 t121 t122 t123 t124 true _ A19.out).mono ?_
                 rintro e w24 ⟨rfl, hb⟩
                 refine ⟨_, rfl, ?_⟩
                 have n0_ := Aside0.mk (blk_below (g := gb112) (o := .cells #[.int .u8 x113000_3, .int .u8 x113001_3, .int .u8 x113002_3, .int .u8 x113003_3, .int .i64 x113004_3] 45 (0, 0)) (by (with_reducible repeat (first | refine blk_drewN ?_ _ | refine blk_drew ?_ | refine blk_alloc ?_ _)); exact BK112.out) hb)
                 have n1_ := Aside0.mk (blk_below (g := gb116) (o := .cells #[.int .u8 x117000_3, .int .u8 x117001_3, .int .u8 x117002_3, .int .u8 x117003_3, .int .i64 x117004_3] 45 (0, 0)) (by (with_reducible repeat (first | refine blk_drewN ?_ _ | refine blk_drew ?_ | refine blk_alloc ?_ _)); exact BK116.out) hb)
                 have n2_ := Aside0.mk (blk_below (g := gb126) (o := .cells #[.int .u8 0, .int .u8 0, .int .u8 0, .int .u8 0, .int .i64 0] 45 (0, 0)) (by (with_reducible repeat (first | refine blk_drewN ?_ _ | refine blk_drew ?_ | refine blk_alloc ?_ _)); exact BK126.out) hb)
                 have n3_ := Aside0.mk (below_step (by repeat (first | (with_reducible first | exact HB.out | apply below_alloc | apply pw_below_drewN | apply below_drew1 | refine below_set ?_ GE112.out | refine below_set ?_ GE116.out | refine below_set ?_ GE126.out) | exact HB.out)) hb)
                 clear BK112
                 clear BK116
                 clear BK126
                 clear HB
                 have BK112 := n0_
                 have BK116 := n1_
                 have BK126 := n2_
                 have HB := n3_
                 clear n0_ n1_ n2_ n3_
                 (try clear hb)
                 (try clear hb2)
                 (try clear hk)
                 (try clear hi)
                 refine hK.out _ _ ⟨(blk_cell BK116.out 0).trans rfl, (blk_cell BK116.out 1).trans rfl, (blk_cell BK116.out 2).trans rfl, (blk_cell BK116.out 3).trans rfl, (blk_cell BK116.out 4).trans rfl⟩ (fun hHeld => ?_)
                 clear hK K
                 refine norm_ (a' := ?_) ?_ ?_
                 rotate_left
                 ·
                  show Act.put _ (some 58) _ = _
                  simp only [Act.put, List.setIfInBounds_toArray, List.set_cons_zero, List.set_cons_succ, i64_w, i32_w]
                  rfl
                 refine pure_ (i := 6) (N := some 52) (v := ?_) (a' := ?_) #[true, true, true, true, true, true, true, false, false, true, false, false] rfl rfl (any_of HT_.out (by kernel_rfl)) (fun _ _ _ h => h) (Or.inl ⟨by rfl, ?_⟩) ?_ ?_
                 rotate_left
                 ·
                  intro w'
                  go_simp
                  with_reducible rfl
                 rotate_left
                 ·
                  simp only [Act.put, List.setIfInBounds_toArray, List.set_cons_zero, List.set_cons_succ, i64_w, i32_w]
                  rfl
                 refine pure_ (i := 7) (N := some 59) (v := ?_) (a' := ?_) #[true, true, true, true, true, true, true, true, false, true, false, false] rfl rfl (any_of HT_.out (by kernel_rfl)) (fun _ _ _ h => h) (Or.inl ⟨by rfl, ?_⟩) ?_ ?_
                 rotate_left
                 ·
                  intro w'
                  go_simp
                  with_reducible rfl
                 rotate_left
                 ·
                  simp only [Act.put, List.setIfInBounds_toArray, List.set_cons_zero, List.set_cons_succ, i64_w, i32_w]
                  rfl
                 refine pure_ (i := 8) (N := some 60) (v := ?_) (a' := ?_) #[true, true, true, true, true, true, true, true, true, true, false, false] rfl rfl (any_of HT_.out (by kernel_rfl)) (fun _ _ _ h => h) (Or.inl ⟨by rfl, ?_⟩) ?_ ?_
                 rotate_left
                 ·
                  intro w'
                  go_simp
                  with_reducible rfl
                 rotate_left
                 ·
                  simp only [Act.put, List.setIfInBounds_toArray, List.set_cons_zero, List.set_cons_succ, i64_w, i32_w]
                  rfl
                 exact norm_ (by simp only [putAll, Act.put, List.setIfInBounds_toArray, List.set_cons_zero, List.set_cons_succ]) (hCont (gb126) _ ⟨hHeld, (by (with_reducible repeat (first | refine blk_drewN ?_ _ | refine blk_drew ?_ | refine blk_alloc ?_ _)); exact BK112.out), (by (with_reducible repeat (first | refine blk_drewN ?_ _ | refine blk_drew ?_ | refine blk_alloc ?_ _)); exact BK116.out), (by (with_reducible repeat (first | refine blk_drewN ?_ _ | refine blk_drew ?_ | refine blk_alloc ?_ _)); exact BK126.out), GW126.out, GE126.out, NB112_126.out, NB126_112.out, NB116_126.out, NB126_116.out, (by repeat (first | (with_reducible first | exact HB.out | apply below_alloc | apply pw_below_drewN | apply below_drew1 | refine below_set ?_ GE112.out | refine below_set ?_ GE116.out | refine below_set ?_ GE126.out) | exact HB.out))⟩)
               rintro gb126 w25 ⟨hS_, h0_, h1_, h2_, h3_, h4_, h5_, h6_, h7_, h8_, h9_⟩
               have n0_ : Aside0 (w25.heap[gb112]? = some (.cells #[.int .u8 x113000_3, .int .u8 x113001_3, .int .u8 x113002_3, .int .u8 x113003_3, .int .i64 x113004_3] 45 (0, 0))) := ⟨h0_⟩
               have n1_ : Aside0 (w25.heap[gb116]? = some (.cells #[.int .u8 x117000_3, .int .u8 x117001_3, .int .u8 x117002_3, .int .u8 x117003_3, .int .i64 x117004_3] 45 (0, 0))) := ⟨h1_⟩
               have n2_ : Aside0 (w25.heap[gb126]? = some (.cells #[.int .u8 0, .int .u8 0, .int .u8 0, .int .u8 0, .int .i64 0] 45 (0, 0))) := ⟨h2_⟩
               have n3_ : Aside0 (w.heap.size ≤ gb126) := ⟨h3_⟩
               have n4_ : Aside0 (w.heap.size ≤ gb126) := ⟨h4_⟩
               have n5_ : Aside0 (gb112 ≠ gb126) := ⟨h5_⟩
               have n6_ : Aside0 (gb126 ≠ gb112) := ⟨h6_⟩
               have n7_ : Aside0 (gb116 ≠ gb126) := ⟨h7_⟩
               have n8_ : Aside0 (gb126 ≠ gb116) := ⟨h8_⟩
               have n9_ : Aside0 (Below w.heap.size w w25) := ⟨h9_⟩
               clear BK112
               clear BK116
               clear HB
               clear h0_ h1_ h2_ h3_ h4_ h5_ h6_ h7_ h8_ h9_
               have BK112 := n0_
               have BK116 := n1_
               have BK126 := n2_
               have GW126 := n3_
               have GE126 := n4_
               have NB112_126 := n5_
               have NB126_112 := n6_
               have NB116_126 := n7_
               have NB126_116 := n8_
               have HB := n9_
               clear n0_ n1_ n2_ n3_ n4_ n5_ n6_ n7_ n8_ n9_
               have hHeld : w25.cell? ⟨gb116, 0, none⟩ = some (.int .u8 x117000_3) ∧ w25.cell? ⟨gb116, 1, none⟩ = some (.int .u8 x117001_3) ∧ w25.cell? ⟨gb116, 2, none⟩ = some (.int .u8 x117002_3) ∧ w25.cell? ⟨gb116, 3, none⟩ = some (.int .u8 x117003_3) ∧ w25.cell? ⟨gb116, 4, none⟩ = some (.int .i64 x117004_3) := hS_
               refine norm_ (a' := ?_) ?_ ?_
               rotate_left
               ·
                simp only [putAll, Act.put, List.setIfInBounds_toArray, List.set_cons_zero, List.set_cons_succ]
                rfl
               refine one_ (i := 10) (N := none) #[true, true, true, true, true, true, true, true, true, true, true, false] rfl rfl (one_of HT_.out (by kernel_rfl)) (by decide) (fun K hK => ?_)
               have hs26 : w25.cell? ⟨gb126, 0, none⟩ = some (.int .u8 0) := (blk_cell BK126.out 0).trans rfl
               have hfs26 := blk_frozen BK126.out 0
               have hns26_0 := NB112_126.out
               have hns26_1 := NB116_126.out
               have hms26_0 := NB126_112.out
               have hms26_1 := NB126_116.out
               have hs27 : w25.cell? ⟨gb126, 1, none⟩ = some (.int .u8 0) := (blk_cell BK126.out 1).trans rfl
               have hfs27 := blk_frozen BK126.out 1
               have hns27_0 := NB112_126.out
               have hns27_1 := NB116_126.out
               have hms27_0 := NB126_112.out
               have hms27_1 := NB126_116.out
               have hs28 : w25.cell? ⟨gb126, 2, none⟩ = some (.int .u8 0) := (blk_cell BK126.out 2).trans rfl
               have hfs28 := blk_frozen BK126.out 2
               have hns28_0 := NB112_126.out
               have hns28_1 := NB116_126.out
               have hms28_0 := NB126_112.out
               have hms28_1 := NB126_116.out
               have hs29 : w25.cell? ⟨gb126, 3, none⟩ = some (.int .u8 0) := (blk_cell BK126.out 3).trans rfl
               have hfs29 := blk_frozen BK126.out 3
               have hns29_0 := NB112_126.out
               have hns29_1 := NB116_126.out
               have hms29_0 := NB126_112.out
               have hms29_1 := NB126_116.out
               have hs30 : w25.cell? ⟨gb126, 4, none⟩ = some (.int .i64 0) := (blk_cell BK126.out 4).trans rfl
               have hfs30 := blk_frozen BK126.out 4
               have hns30_0 := NB112_126.out
               have hns30_1 := NB116_126.out
               have hms30_0 := NB126_112.out
               have hms30_1 := NB126_116.out
               refine skip_ (w1 := ?_) (by rfl) rfl ?_ ?_
               rotate_left
               ·
                go_simp
                rfl
               refine hK.out _ _ ⟨((cell_far (p := ⟨gb126, _, none⟩) NB116_126.out _).trans (((cell_far (p := ⟨gb126, _, none⟩) NB116_126.out _).trans (((cell_far (p := ⟨gb126, _, none⟩) NB116_126.out _).trans (((cell_far (p := ⟨gb126, _, none⟩) NB116_126.out _).trans (((cell_far (p := ⟨gb126, _, none⟩) NB116_126.out _).trans (hHeld.1)))))))))), ((cell_far (p := ⟨gb126, _, none⟩) NB116_126.out _).trans (((cell_far (p := ⟨gb126, _, none⟩) NB116_126.out _).trans (((cell_far (p := ⟨gb126, _, none⟩) NB116_126.out _).trans (((cell_far (p := ⟨gb126, _, none⟩) NB116_126.out _).trans (((cell_far (p := ⟨gb126, _, none⟩) NB116_126.out _).trans (hHeld.2.1)))))))))), ((cell_far (p := ⟨gb126, _, none⟩) NB116_126.out _).trans (((cell_far (p := ⟨gb126, _, none⟩) NB116_126.out _).trans (((cell_far (p := ⟨gb126, _, none⟩) NB116_126.out _).trans (((cell_far (p := ⟨gb126, _, none⟩) NB116_126.out _).trans (((cell_far (p := ⟨gb126, _, none⟩) NB116_126.out _).trans (hHeld.2.2.1)))))))))), ((cell_far (p := ⟨gb126, _, none⟩) NB116_126.out _).trans (((cell_far (p := ⟨gb126, _, none⟩) NB116_126.out _).trans (((cell_far (p := ⟨gb126, _, none⟩) NB116_126.out _).trans (((cell_far (p := ⟨gb126, _, none⟩) NB116_126.out _).trans (((cell_far (p := ⟨gb126, _, none⟩) NB116_126.out _).trans (hHeld.2.2.2.1)))))))))), ((cell_far (p := ⟨gb126, _, none⟩) NB116_126.out _).trans (((cell_far (p := ⟨gb126, _, none⟩) NB116_126.out _).trans (((cell_far (p := ⟨gb126, _, none⟩) NB116_126.out _).trans (((cell_far (p := ⟨gb126, _, none⟩) NB116_126.out _).trans (((cell_far (p := ⟨gb126, _, none⟩) NB116_126.out _).trans (hHeld.2.2.2.2))))))))))⟩ (fun hHeld => ?_)
               clear hK K
               refine pure_ (i := 11) (N := some 12) (v := ?_) (a' := ?_) #[true, true, true, true, true, true, true, true, true, true, true, true] rfl rfl (any_of HT_.out (by kernel_rfl)) (fun _ _ _ h => h) (Or.inl ⟨by rfl, ?_⟩) ?_ ?_
               rotate_left
               ·
                intro w'
                go_simp
                with_reducible rfl
               rotate_left
               ·
                simp only [Act.put, List.setIfInBounds_toArray, List.set_cons_zero, List.set_cons_succ, i64_w, i32_w]
                rfl
               refine done_ (done_of HT_.out (by kernel_rfl)) ?_
               have hnb31 := NB126_112.out
               have hnc31 := NB112_126.out
               have hnb32 := NB126_116.out
               have hnc32 := NB116_126.out
               obtain ⟨hcz33_0, hcz33_1, hcz33_2, hcz33_3, hcz33_4, hfz33_0, hfz33_1, hfz33_2, hfz33_3, hfz33_4⟩ := all5 BK126.out
               have hnb34 := NB116_112.out
               have hnc34 := NB112_116.out
               obtain ⟨hcz35_0, hcz35_1, hcz35_2, hcz35_3, hcz35_4, hfz35_0, hfz35_1, hfz35_2, hfz35_3, hfz35_4⟩ := all5 BK116.out
               try go_wp2
               go_roundg k3
               case measure => have := HK1.out; have := HJ4.out; have := HK3.out; omega
               case rel => exact ⟨(ji13), (x113000_3), (x113001_3), (x113002_3), (x113003_3), (x113004_3), (t120), (t121), (t122), (t123), (t124), (by first | rfl | (simp; done) | (simp only [← hji13] <;> (first | rfl | simp)) | (simp [*]; done)), H', ⟨by have := HK1.out; have := HJ4.out; have := HK3.out; omega⟩, ⟨by (with_reducible repeat (first | refine blk_drewN ?_ _ | refine blk_drew ?_ | refine blk_alloc ?_ _)); refine blk_far ?_ NB112_116.out _; (with_reducible repeat (first | refine blk_drewN ?_ _ | refine blk_drew ?_ | refine blk_alloc ?_ _)); refine blk_far ?_ NB112_116.out _; (with_reducible repeat (first | refine blk_drewN ?_ _ | refine blk_drew ?_ | refine blk_alloc ?_ _)); refine blk_far ?_ NB112_116.out _; (with_reducible repeat (first | refine blk_drewN ?_ _ | refine blk_drew ?_ | refine blk_alloc ?_ _)); refine blk_far ?_ NB112_116.out _; (with_reducible repeat (first | refine blk_drewN ?_ _ | refine blk_drew ?_ | refine blk_alloc ?_ _)); refine blk_far ?_ NB112_116.out _; (with_reducible repeat (first | refine blk_drewN ?_ _ | refine blk_drew ?_ | refine blk_alloc ?_ _)); refine blk_far ?_ NB112_126.out _; (with_reducible repeat (first | refine blk_drewN ?_ _ | refine blk_drew ?_ | refine blk_alloc ?_ _)); refine blk_far ?_ NB112_126.out _; (with_reducible repeat (first | refine blk_drewN ?_ _ | refine blk_drew ?_ | refine blk_alloc ?_ _)); refine blk_far ?_ NB112_126.out _; (with_reducible repeat (first | refine blk_drewN ?_ _ | refine blk_drew ?_ | refine blk_alloc ?_ _)); refine blk_far ?_ NB112_126.out _; (with_reducible repeat (first | refine blk_drewN ?_ _ | refine blk_drew ?_ | refine blk_alloc ?_ _)); refine blk_far ?_ NB112_126.out _; (with_reducible repeat (first | refine blk_drewN ?_ _ | refine blk_drew ?_ | refine blk_alloc ?_ _)); exact BK112.out⟩, ⟨by (with_reducible repeat (first | refine blk_drewN ?_ _ | refine blk_drew ?_ | refine blk_alloc ?_ _)); refine blk_put (cs := #[.int .u8 t120, .int .u8 t121, .int .u8 t122, .int .u8 t123, .int .i64 x117004_3]) ?_ 4 _ rfl; (with_reducible repeat (first | refine blk_drewN ?_ _ | refine blk_drew ?_ | refine blk_alloc ?_ _)); refine blk_put (cs := #[.int .u8 t120, .int .u8 t121, .int .u8 t122, .int .u8 x117003_3, .int .i64 x117004_3]) ?_ 3 _ rfl; (with_reducible repeat (first | refine blk_drewN ?_ _ | refine blk_drew ?_ | refine blk_alloc ?_ _)); refine blk_put (cs := #[.int .u8 t120, .int .u8 t121, .int .u8 x117002_3, .int .u8 x117003_3, .int .i64 x117004_3]) ?_ 2 _ rfl; (with_reducible repeat (first | refine blk_drewN ?_ _ | refine blk_drew ?_ | refine blk_alloc ?_ _)); refine blk_put (cs := #[.int .u8 t120, .int .u8 x117001_3, .int .u8 x117002_3, .int .u8 x117003_3, .int .i64 x117004_3]) ?_ 1 _ rfl; (with_reducible repeat (first | refine blk_drewN ?_ _ | refine blk_drew ?_ | refine blk_alloc ?_ _)); refine blk_put (cs := #[.int .u8 x117000_3, .int .u8 x117001_3, .int .u8 x117002_3, .int .u8 x117003_3, .int .i64 x117004_3]) ?_ 0 _ rfl; (with_reducible repeat (first | refine blk_drewN ?_ _ | refine blk_drew ?_ | refine blk_alloc ?_ _)); refine blk_far ?_ NB116_126.out _; (with_reducible repeat (first | refine blk_drewN ?_ _ | refine blk_drew ?_ | refine blk_alloc ?_ _)); refine blk_far ?_ NB116_126.out _; (with_reducible repeat (first | refine blk_drewN ?_ _ | refine blk_drew ?_ | refine blk_alloc ?_ _)); refine blk_far ?_ NB116_126.out _; (with_reducible repeat (first | refine blk_drewN ?_ _ | refine blk_drew ?_ | refine blk_alloc ?_ _)); refine blk_far ?_ NB116_126.out _; (with_reducible repeat (first | refine blk_drewN ?_ _ | refine blk_drew ?_ | refine blk_alloc ?_ _)); refine blk_far ?_ NB116_126.out _; (with_reducible repeat (first | refine blk_drewN ?_ _ | refine blk_drew ?_ | refine blk_alloc ?_ _)); exact BK116.out⟩, ⟨by repeat (first | (with_reducible first | exact HB.out | apply below_alloc | apply pw_below_drewN | apply below_drew1 | refine below_set ?_ GE112.out | refine below_set ?_ GE116.out | refine below_set ?_ GE126.out) | exact HB.out)⟩⟩
              ·
               replace c21 := Bool.eq_false_iff.mpr c21
               subst c21
               have H1 : (some (0, 0, 0, 0, 0, false)) = some (r1, r2, r3, r4, r5, r6) := by rw [if_neg (show ¬ (false = true) by decide)] at H; exact H
               clear H
               have H := H1
               clear H1
               simp only [Option.some.injEq, Prod.mk.injEq] at H
               obtain ⟨rfl, rfl, rfl, rfl, rfl, rfl⟩ := H
               have p117 : 0 ≤ ((ji13) : Int) := of_decide_eq_true (by first | (with_reducible assumption) | assumption)
               have q117 : (ji13) < (l0.length : Int) := of_decide_eq_true (by first | (with_reducible assumption) | assumption)
               obtain ⟨ad117, e117, hx117_0⟩ := Kd.at_string HR0.out (ji13) p117 q117
               cases e117
               replace hx117_0 := (HB.out.cell (World.block_lt_of_cell? w _ hx117_0)).trans hx117_0
               replace p117 := eq_true p117
               replace q117 := eq_true q117
               try go_wp2_with (first | ((with_reducible refine gate_callee (f := 39) rfl ?_); refine goesL_ (some 49) rfl rfl Tryd.func39 (by kernel_rfl) rfl #[.string (rdOf ByteArray.empty l0 (ji13))] rfl (by (try simp only [List.map_toArray, List.map_cons, List.map_nil]); first | done | (simp only [hji13]; rfl) | rfl | (simp only [List.length_drop, List.length_take]; rfl)) ?_; (with_reducible refine (lockstitchref02_Number.calls k3 (rdOf ByteArray.empty l0 (ji13)) t118 t119 _ A16.out).mono ?_); rintro e w' ⟨rfl, ⟨nd, rfl⟩⟩; refine ⟨_, rfl, ?_⟩; (try (rw [drewN_self wr]; generalize hq_ : World.drewN wr _ = wr; have n0_ : Aside0 (wr.heap[gb112]? = some (.cells #[.int .u8 x113000_3, .int .u8 x113001_3, .int .u8 x113002_3, .int .u8 x113003_3, .int .i64 x113004_3] 45 (0, 0))) := ⟨by rw [← hq_]; exact (by (with_reducible repeat (first | refine blk_drewN ?_ _ | refine blk_drew ?_ | refine blk_alloc ?_ _)); exact BK112.out)⟩; have n1_ : Aside0 (wr.heap[gb116]? = some (.cells #[.int .u8 x117000_3, .int .u8 x117001_3, .int .u8 x117002_3, .int .u8 x117003_3, .int .i64 x117004_3] 45 (0, 0))) := ⟨by rw [← hq_]; exact (by (with_reducible repeat (first | refine blk_drewN ?_ _ | refine blk_drew ?_ | refine blk_alloc ?_ _)); exact BK116.out)⟩; have n2_ : Aside0 (Below w.heap.size w wr) := ⟨by rw [← hq_]; exact (by repeat (first | (with_reducible first | exact HB.out | apply below_alloc | apply pw_below_drewN | apply below_drew1 | refine below_set ?_ GE112.out | refine below_set ?_ GE116.out) | exact HB.out))⟩; clear BK112 BK116 HB hq_; have BK112 := n0_; have BK116 := n1_; have HB := n2_; clear n0_ n1_ n2_))))
               have n0_ := Aside0.mk (blk_drew BK112.out)
               have n1_ := Aside0.mk (blk_drew BK116.out)
               have n2_ := Aside0.mk (below_drew1 HB.out)
               clear BK112
               clear BK116
               clear HB
               have BK112 := n0_
               have BK116 := n1_
               have HB := n2_
               clear n0_ n1_ n2_
               have p18 : 0 ≤ (x8_3 : Int) := of_decide_eq_true (by first | (with_reducible assumption) | assumption)
               have q18 : x8_3 < (t114.size : Int) := of_decide_eq_true (by first | (with_reducible assumption) | assumption)
               have hx18 := bt_at t114 x8_3
               replace p18 := eq_true p18
               replace q18 := eq_true q18
               refine start_ (n := 12) (S := fun w' => w'.cell? ⟨gb116, 0, none⟩ = some (.int .u8 x117000_3) ∧ w'.cell? ⟨gb116, 1, none⟩ = some (.int .u8 x117001_3) ∧ w'.cell? ⟨gb116, 2, none⟩ = some (.int .u8 x117002_3) ∧ w'.cell? ⟨gb116, 3, none⟩ = some (.int .u8 x117003_3) ∧ w'.cell? ⟨gb116, 4, none⟩ = some (.int .i64 x117004_3)) (ds := []) #[false, false, false, false, false, false, false, false, false, false, false, false] (by kernel_rfl) rfl rfl ⟨(blk_cell BK116.out 0).trans rfl, (blk_cell BK116.out 1).trans rfl, (blk_cell BK116.out 2).trans rfl, (blk_cell BK116.out 3).trans rfl, (blk_cell BK116.out 4).trans rfl⟩ (fun hHeld => ?_); refine with_tabW lockstitchref04_read.tab11 lockstitchref04_read.bits11 (fun HT_ HW_ => ?_)
               generalize wr.drew = w36 at BK112 BK116 HB hHeld ⊢
               refine pure_ (i := 1) (N := some 54) (v := ?_) (a' := ?_) #[false, true, false, false, false, false, false, false, false, false, false, false] rfl rfl (any_of HT_.out (by kernel_rfl)) (fun _ _ _ h => h) (Or.inl ⟨by rfl, ?_⟩) ?_ ?_
               rotate_left
               ·
                intro w'
                go_simp
                with_reducible rfl
               rotate_left
               ·
                simp only [Act.put, List.setIfInBounds_toArray, List.set_cons_zero, List.set_cons_succ, i64_w, i32_w]
                rfl
               refine pure_ (i := 2) (N := some 55) (v := ?_) (a' := ?_) #[false, true, true, false, false, false, false, false, false, false, false, false] rfl rfl (any_of HT_.out (by kernel_rfl)) (fun _ _ _ h => h) (Or.inl ⟨by rfl, ?_⟩) ?_ ?_
               rotate_left
               ·
                intro w'
                go_simp
                with_reducible rfl
               rotate_left
               ·
                simp only [Act.put, List.setIfInBounds_toArray, List.set_cons_zero, List.set_cons_succ, i64_w, i32_w]
                rfl
               refine pure_ (i := 4) (N := some 57) (v := ?_) (a' := ?_) #[false, true, true, false, true, false, false, false, false, false, false, false] rfl rfl (any_of HT_.out (by kernel_rfl)) (fun _ _ _ h => h) (Or.inl ⟨by rfl, ?_⟩) ?_ ?_
               rotate_left
               ·
                intro w'
                go_simp
                with_reducible rfl
               rotate_left
               ·
                simp only [Act.put, List.setIfInBounds_toArray, List.set_cons_zero, List.set_cons_succ, i64_w, i32_w]
                rfl
               refine take_ (i := 0) (N := some 53) (v := ?_) (a' := ?_) #[true, true, true, false, true, false, false, false, false, false, false, false] rfl rfl (take_ofW HT_.out HW_.out (by kernel_rfl)) (fun _ _ _ h => h) (Or.inl ⟨by rfl, ?_⟩) hHeld ?_ ?_
               rotate_left
               ·
                rintro w' ⟨s0, s1, s2, s3, s4⟩
                go_simp
                with_reducible rfl
               rotate_left
               ·
                simp only [Act.put, List.setIfInBounds_toArray, List.set_cons_zero, List.set_cons_succ, i64_w, i32_w]
                rfl
               refine take_ (i := 3) (N := some 56) (v := ?_) (a' := ?_) #[true, true, true, true, true, false, false, false, false, false, false, false] rfl rfl (take_ofW HT_.out HW_.out (by kernel_rfl)) (fun _ _ _ h => h) (Or.inl ⟨by rfl, ?_⟩) hHeld ?_ ?_
               rotate_left
               ·
                rintro w' ⟨s0, s1, s2, s3, s4⟩
                go_simp
                with_reducible rfl
               rotate_left
               ·
                simp only [Act.put, List.setIfInBounds_toArray, List.set_cons_zero, List.set_cons_succ, i64_w, i32_w]
                rfl
               refine join_ (σ := Nat) 2 #[true, true, true, true, true, true, true, true, true, true, false, false] (fun s_ => [(58, .tuple #[.agg #[.int .u8 t120, .int .u8 t121, .int .u8 t122, .int .u8 t123, .int .i64 t124], .bool false]), (11, .pointer (some ⟨s_, 0, none⟩)), (52, .tuple #[.agg #[.int .u8 t120, .int .u8 t121, .int .u8 t122, .int .u8 t123, .int .i64 t124], .bool false]), (59, .agg #[.int .u8 t120, .int .u8 t121, .int .u8 t122, .int .u8 t123, .int .i64 t124]), (60, .bool false)]) (fun s_ w' => (w'.cell? ⟨gb116, 0, none⟩ = some (.int .u8 x117000_3) ∧ w'.cell? ⟨gb116, 1, none⟩ = some (.int .u8 x117001_3) ∧ w'.cell? ⟨gb116, 2, none⟩ = some (.int .u8 x117002_3) ∧ w'.cell? ⟨gb116, 3, none⟩ = some (.int .u8 x117003_3) ∧ w'.cell? ⟨gb116, 4, none⟩ = some (.int .i64 x117004_3)) ∧ (w'.heap[gb112]? = some (.cells #[.int .u8 x113000_3, .int .u8 x113001_3, .int .u8 x113002_3, .int .u8 x113003_3, .int .i64 x113004_3] 45 (0, 0))) ∧ (w'.heap[gb116]? = some (.cells #[.int .u8 x117000_3, .int .u8 x117001_3, .int .u8 x117002_3, .int .u8 x117003_3, .int .i64 x117004_3] 45 (0, 0))) ∧ (w'.heap[s_]? = some (.cells #[.int .u8 0, .int .u8 0, .int .u8 0, .int .u8 0, .int .i64 0] 45 (0, 0))) ∧ (w.heap.size ≤ s_) ∧ (w.heap.size ≤ s_) ∧ (gb112 ≠ s_) ∧ (s_ ≠ gb112) ∧ (gb116 ≠ s_) ∧ (s_ ≠ gb116) ∧ (Below w.heap.size w w')) ?_ ?_
               rotate_left
               ·
                intro hCont
                refine two_ (i := 5) (j := 9) (Ni := some 58) (Nj := some 11) #[true, true, true, true, true, true, false, false, false, false, false, false] #[true, true, true, true, true, false, false, false, false, true, false, false] rfl rfl rfl rfl (two_of HT_.out (by kernel_rfl)) (by decide) (by decide) (fun K hK => ?_) (fun K hK => ?_)
                ·
                 skip
                 refine goes_ Tryd.func40 (by kernel_rfl) rfl #[.agg #[.int .u8 x117000_3, .int .u8 x117001_3, .int .u8 x117002_3, .int .u8 x117003_3, .int .i64 x117004_3], .int .u8 (bt t114 x8_3), .int .i64 t118] (by rfl) rfl rfl (by (try simp only [List.map_toArray, List.map_cons, List.map_nil]); first | done | rfl | (simp only [List.length_drop, List.length_take]; rfl)) ?_
                 with_reducible refine (lockstitchref04_with.calls k3 x117000_3 x117001_3 x117002_3 x117003_3 x117004_3 (bt t114 x8_3) t118 t120 t121 t122 t123 t124 false _ A19.out).mono ?_
                 rintro e w37 ⟨rfl, hb⟩
                 refine ⟨_, rfl, ?_⟩
                 have n0_ := Aside0.mk (blk_below (g := gb112) (o := .cells #[.int .u8 x113000_3, .int .u8 x113001_3, .int .u8 x113002_3, .int .u8 x113003_3, .int .i64 x113004_3] 45 (0, 0)) (by (with_reducible repeat (first | refine blk_drewN ?_ _ | refine blk_drew ?_ | refine blk_alloc ?_ _)); exact BK112.out) hb)
                 have n1_ := Aside0.mk (blk_below (g := gb116) (o := .cells #[.int .u8 x117000_3, .int .u8 x117001_3, .int .u8 x117002_3, .int .u8 x117003_3, .int .i64 x117004_3] 45 (0, 0)) (by (with_reducible repeat (first | refine blk_drewN ?_ _ | refine blk_drew ?_ | refine blk_alloc ?_ _)); exact BK116.out) hb)
                 have n2_ := Aside0.mk (below_step (by repeat (first | (with_reducible first | exact HB.out | apply below_alloc | apply pw_below_drewN | apply below_drew1 | refine below_set ?_ GE112.out | refine below_set ?_ GE116.out) | exact HB.out)) hb)
                 clear BK112
                 clear BK116
                 clear HB
                 have BK112 := n0_
                 have BK116 := n1_
                 have HB := n2_
                 clear n0_ n1_ n2_
                 (try clear hb)
                 (try clear hb2)
                 (try clear hk)
                 (try clear hi)
                 refine hK.out _ _ ⟨(blk_cell BK116.out 0).trans rfl, (blk_cell BK116.out 1).trans rfl, (blk_cell BK116.out 2).trans rfl, (blk_cell BK116.out 3).trans rfl, (blk_cell BK116.out 4).trans rfl⟩ (fun hHeld => ?_)
                 clear hK K
                 refine norm_ (a' := ?_) ?_ ?_
                 rotate_left
                 ·
                  show Act.put _ (some 58) _ = _
                  simp only [Act.put, List.setIfInBounds_toArray, List.set_cons_zero, List.set_cons_succ, i64_w, i32_w]
                  rfl
                 refine pure_ (i := 6) (N := some 52) (v := ?_) (a' := ?_) #[true, true, true, true, true, true, true, false, false, false, false, false] rfl rfl (any_of HT_.out (by kernel_rfl)) (fun _ _ _ h => h) (Or.inl ⟨by rfl, ?_⟩) ?_ ?_
                 rotate_left
                 ·
                  intro w'
                  go_simp
                  with_reducible rfl
                 rotate_left
                 ·
                  simp only [Act.put, List.setIfInBounds_toArray, List.set_cons_zero, List.set_cons_succ, i64_w, i32_w]
                  rfl
                 refine pure_ (i := 7) (N := some 59) (v := ?_) (a' := ?_) #[true, true, true, true, true, true, true, true, false, false, false, false] rfl rfl (any_of HT_.out (by kernel_rfl)) (fun _ _ _ h => h) (Or.inl ⟨by rfl, ?_⟩) ?_ ?_
                 rotate_left
                 ·
                  intro w'
                  go_simp
                  with_reducible rfl
                 rotate_left
                 ·
                  simp only [Act.put, List.setIfInBounds_toArray, List.set_cons_zero, List.set_cons_succ, i64_w, i32_w]
                  rfl
                 refine pure_ (i := 8) (N := some 60) (v := ?_) (a' := ?_) #[true, true, true, true, true, true, true, true, true, false, false, false] rfl rfl (any_of HT_.out (by kernel_rfl)) (fun _ _ _ h => h) (Or.inl ⟨by rfl, ?_⟩) ?_ ?_
                 rotate_left
                 ·
                  intro w'
                  go_simp
                  with_reducible rfl
                 rotate_left
                 ·
                  simp only [Act.put, List.setIfInBounds_toArray, List.set_cons_zero, List.set_cons_succ, i64_w, i32_w]
                  rfl
                 refine one_ (i := 9) (N := some 11) #[true, true, true, true, true, true, true, true, true, true, false, false] rfl rfl (one_of HT_.out (by kernel_rfl)) (by decide) (fun K hK => ?_)
                 refine box_step ?hg (N := 11) ?hd (cs := #[.int .u8 0, .int .u8 0, .int .u8 0, .int .u8 0, .int .i64 0]) (t := 45) ?hr ?_; (case hd => rfl); (case hg => rfl); (case hr => first | (go_simp; done) | (go_simp; rfl))
                 intro gb126 hg w38 hbox hb
                 have n0_ := Aside0.mk (blk_below (g := gb112) (o := .cells #[.int .u8 x113000_3, .int .u8 x113001_3, .int .u8 x113002_3, .int .u8 x113003_3, .int .i64 x113004_3] 45 (0, 0)) (by (with_reducible repeat (first | refine blk_drewN ?_ _ | refine blk_drew ?_ | refine blk_alloc ?_ _)); exact BK112.out) hb)
                 have n1_ := Aside0.mk (blk_below (g := gb116) (o := .cells #[.int .u8 x117000_3, .int .u8 x117001_3, .int .u8 x117002_3, .int .u8 x117003_3, .int .i64 x117004_3] 45 (0, 0)) (by (with_reducible repeat (first | refine blk_drewN ?_ _ | refine blk_drew ?_ | refine blk_alloc ?_ _)); exact BK116.out) hb)
                 have n2_ := Aside0.mk (below_step (by repeat (first | (with_reducible first | exact HB.out | apply below_alloc | apply pw_below_drewN | apply below_drew1 | refine below_set ?_ GE112.out | refine below_set ?_ GE116.out) | exact HB.out)) hb)
                 have n3_ := Aside0.mk (hbox)
                 have n4_ := Aside0.mk ((by rw [hg]; exact (below_size (by repeat (first | (with_reducible first | exact HB.out | apply below_alloc | apply pw_below_drewN | apply below_drew1 | refine below_set ?_ GE112.out | refine below_set ?_ GE116.out) | exact HB.out))) : w.heap.size ≤ gb126))
                 have n5_ := n4_
                 have n6_ := Aside0.mk ((by rw [hg]; exact Nat.ne_of_lt (blk_lt (g := gb112) (o := .cells #[.int .u8 x113000_3, .int .u8 x113001_3, .int .u8 x113002_3, .int .u8 x113003_3, .int .i64 x113004_3] 45 (0, 0)) (by (with_reducible repeat (first | refine blk_drewN ?_ _ | refine blk_drew ?_ | refine blk_alloc ?_ _)); exact BK112.out)) : gb112 ≠ gb126))
                 have n7_ := Aside0.mk n6_.out.symm
                 have n8_ := Aside0.mk ((by rw [hg]; exact Nat.ne_of_lt (blk_lt (g := gb116) (o := .cells #[.int .u8 x117000_3, .int .u8 x117001_3, .int .u8 x117002_3, .int .u8 x117003_3, .int .i64 x117004_3] 45 (0, 0)) (by (with_reducible repeat (first | refine blk_drewN ?_ _ | refine blk_drew ?_ | refine blk_alloc ?_ _)); exact BK116.out)) : gb116 ≠ gb126))
                 have n9_ := Aside0.mk n8_.out.symm
                 clear BK112
                 clear BK116
                 clear HB
                 have BK112 := n0_
                 have BK116 := n1_
                 have HB := n2_
                 have BK126 := n3_
                 have GW126 := n4_
                 have GE126 := n5_
                 have NB112_126 := n6_
                 have NB126_112 := n7_
                 have NB116_126 := n8_
                 have NB126_116 := n9_
                 clear n0_ n1_ n2_ n3_ n4_ n5_ n6_ n7_ n8_ n9_
                 clear hb hbox hg
                 refine hK.out _ _ ⟨(blk_cell BK116.out 0).trans rfl, (blk_cell BK116.out 1).trans rfl, (blk_cell BK116.out 2).trans rfl, (blk_cell BK116.out 3).trans rfl, (blk_cell BK116.out 4).trans rfl⟩ (fun hHeld => ?_)
                 clear hK K
                 refine norm_ (a' := ?_) ?_ ?_
                 rotate_left
                 ·
                  show Act.put _ (some 11) _ = _
                  simp only [Act.put, List.setIfInBounds_toArray, List.set_cons_zero, List.set_cons_succ, i64_w, i32_w]
                  rfl
                 exact norm_ (by simp only [putAll, Act.put, List.setIfInBounds_toArray, List.set_cons_zero, List.set_cons_succ]) (hCont (gb126) _ ⟨hHeld, (by (with_reducible repeat (first | refine blk_drewN ?_ _ | refine blk_drew ?_ | refine blk_alloc ?_ _)); exact BK112.out), (by (with_reducible repeat (first | refine blk_drewN ?_ _ | refine blk_drew ?_ | refine blk_alloc ?_ _)); exact BK116.out), (by (with_reducible repeat (first | refine blk_drewN ?_ _ | refine blk_drew ?_ | refine blk_alloc ?_ _)); exact BK126.out), GW126.out, GE126.out, NB112_126.out, NB126_112.out, NB116_126.out, NB126_116.out, (by repeat (first | (with_reducible first | exact HB.out | apply below_alloc | apply pw_below_drewN | apply below_drew1 | refine below_set ?_ GE112.out | refine below_set ?_ GE116.out | refine below_set ?_ GE126.out) | exact HB.out))⟩)
                ·
                 skip
                 refine box_step ?hg (N := 11) ?hd (cs := #[.int .u8 0, .int .u8 0, .int .u8 0, .int .u8 0, .int .i64 0]) (t := 45) ?hr ?_; (case hd => rfl); (case hg => rfl); (case hr => first | (go_simp; done) | (go_simp; rfl))
                 intro gb126 hg w37 hbox hb
                 have n0_ := Aside0.mk (blk_below (g := gb112) (o := .cells #[.int .u8 x113000_3, .int .u8 x113001_3, .int .u8 x113002_3, .int .u8 x113003_3, .int .i64 x113004_3] 45 (0, 0)) (by (with_reducible repeat (first | refine blk_drewN ?_ _ | refine blk_drew ?_ | refine blk_alloc ?_ _)); exact BK112.out) hb)
                 have n1_ := Aside0.mk (blk_below (g := gb116) (o := .cells #[.int .u8 x117000_3, .int .u8 x117001_3, .int .u8 x117002_3, .int .u8 x117003_3, .int .i64 x117004_3] 45 (0, 0)) (by (with_reducible repeat (first | refine blk_drewN ?_ _ | refine blk_drew ?_ | refine blk_alloc ?_ _)); exact BK116.out) hb)
                 have n2_ := Aside0.mk (below_step (by repeat (first | (with_reducible first | exact HB.out | apply below_alloc | apply pw_below_drewN | apply below_drew1 | refine below_set ?_ GE112.out | refine below_set ?_ GE116.out) | exact HB.out)) hb)
                 have n3_ := Aside0.mk (hbox)
                 have n4_ := Aside0.mk ((by rw [hg]; exact (below_size (by repeat (first | (with_reducible first | exact HB.out | apply below_alloc | apply pw_below_drewN | apply below_drew1 | refine below_set ?_ GE112.out | refine below_set ?_ GE116.out) | exact HB.out))) : w.heap.size ≤ gb126))
                 have n5_ := n4_
                 have n6_ := Aside0.mk ((by rw [hg]; exact Nat.ne_of_lt (blk_lt (g := gb112) (o := .cells #[.int .u8 x113000_3, .int .u8 x113001_3, .int .u8 x113002_3, .int .u8 x113003_3, .int .i64 x113004_3] 45 (0, 0)) (by (with_reducible repeat (first | refine blk_drewN ?_ _ | refine blk_drew ?_ | refine blk_alloc ?_ _)); exact BK112.out)) : gb112 ≠ gb126))
                 have n7_ := Aside0.mk n6_.out.symm
                 have n8_ := Aside0.mk ((by rw [hg]; exact Nat.ne_of_lt (blk_lt (g := gb116) (o := .cells #[.int .u8 x117000_3, .int .u8 x117001_3, .int .u8 x117002_3, .int .u8 x117003_3, .int .i64 x117004_3] 45 (0, 0)) (by (with_reducible repeat (first | refine blk_drewN ?_ _ | refine blk_drew ?_ | refine blk_alloc ?_ _)); exact BK116.out)) : gb116 ≠ gb126))
                 have n9_ := Aside0.mk n8_.out.symm
                 clear BK112
                 clear BK116
                 clear HB
                 have BK112 := n0_
                 have BK116 := n1_
                 have HB := n2_
                 have BK126 := n3_
                 have GW126 := n4_
                 have GE126 := n5_
                 have NB112_126 := n6_
                 have NB126_112 := n7_
                 have NB116_126 := n8_
                 have NB126_116 := n9_
                 clear n0_ n1_ n2_ n3_ n4_ n5_ n6_ n7_ n8_ n9_
                 clear hb hbox hg
                 refine hK.out _ _ ⟨(blk_cell BK116.out 0).trans rfl, (blk_cell BK116.out 1).trans rfl, (blk_cell BK116.out 2).trans rfl, (blk_cell BK116.out 3).trans rfl, (blk_cell BK116.out 4).trans rfl⟩ (fun hHeld => ?_)
                 clear hK K
                 refine norm_ (a' := ?_) ?_ ?_
                 rotate_left
                 ·
                  show Act.put _ (some 11) _ = _
                  simp only [Act.put, List.setIfInBounds_toArray, List.set_cons_zero, List.set_cons_succ, i64_w, i32_w]
                  rfl
                 refine one_ (i := 5) (N := some 58) #[true, true, true, true, true, true, false, false, false, true, false, false] rfl rfl (one_of HT_.out (by kernel_rfl)) (by decide) (fun K hK => ?_)
                 refine goes_ Tryd.func40 (by kernel_rfl) rfl #[.agg #[.int .u8 x117000_3, .int .u8 x117001_3, .int .u8 x117002_3, .int .u8 x117003_3, .int .i64 x117004_3], .int .u8 (bt t114 x8_3), .int .i64 t118] (by rfl) rfl rfl (by (try simp only [List.map_toArray, List.map_cons, List.map_nil]); first | done | rfl | (simp only [List.length_drop, List.length_take]; rfl)) ?_
                 with_reducible refine (lockstitchref04_with.calls k3 x117000_3 x117001_3 x117002_3 x117003_3 x117004_3 (bt t114 x8_3) t118 t120 t121 t122 t123 t124 false _ A19.out).mono ?_
                 rintro e w38 ⟨rfl, hb⟩
                 refine ⟨_, rfl, ?_⟩
                 have n0_ := Aside0.mk (blk_below (g := gb112) (o := .cells #[.int .u8 x113000_3, .int .u8 x113001_3, .int .u8 x113002_3, .int .u8 x113003_3, .int .i64 x113004_3] 45 (0, 0)) (by (with_reducible repeat (first | refine blk_drewN ?_ _ | refine blk_drew ?_ | refine blk_alloc ?_ _)); exact BK112.out) hb)
                 have n1_ := Aside0.mk (blk_below (g := gb116) (o := .cells #[.int .u8 x117000_3, .int .u8 x117001_3, .int .u8 x117002_3, .int .u8 x117003_3, .int .i64 x117004_3] 45 (0, 0)) (by (with_reducible repeat (first | refine blk_drewN ?_ _ | refine blk_drew ?_ | refine blk_alloc ?_ _)); exact BK116.out) hb)
                 have n2_ := Aside0.mk (blk_below (g := gb126) (o := .cells #[.int .u8 0, .int .u8 0, .int .u8 0, .int .u8 0, .int .i64 0] 45 (0, 0)) (by (with_reducible repeat (first | refine blk_drewN ?_ _ | refine blk_drew ?_ | refine blk_alloc ?_ _)); exact BK126.out) hb)
                 have n3_ := Aside0.mk (below_step (by repeat (first | (with_reducible first | exact HB.out | apply below_alloc | apply pw_below_drewN | apply below_drew1 | refine below_set ?_ GE112.out | refine below_set ?_ GE116.out | refine below_set ?_ GE126.out) | exact HB.out)) hb)
                 clear BK112
                 clear BK116
                 clear BK126
                 clear HB
                 have BK112 := n0_
                 have BK116 := n1_
                 have BK126 := n2_
                 have HB := n3_
                 clear n0_ n1_ n2_ n3_
                 (try clear hb)
                 (try clear hb2)
                 (try clear hk)
                 (try clear hi)
                 refine hK.out _ _ ⟨(blk_cell BK116.out 0).trans rfl, (blk_cell BK116.out 1).trans rfl, (blk_cell BK116.out 2).trans rfl, (blk_cell BK116.out 3).trans rfl, (blk_cell BK116.out 4).trans rfl⟩ (fun hHeld => ?_)
                 clear hK K
                 refine norm_ (a' := ?_) ?_ ?_
                 rotate_left
                 ·
                  show Act.put _ (some 58) _ = _
                  simp only [Act.put, List.setIfInBounds_toArray, List.set_cons_zero, List.set_cons_succ, i64_w, i32_w]
                  rfl
                 refine pure_ (i := 6) (N := some 52) (v := ?_) (a' := ?_) #[true, true, true, true, true, true, true, false, false, true, false, false] rfl rfl (any_of HT_.out (by kernel_rfl)) (fun _ _ _ h => h) (Or.inl ⟨by rfl, ?_⟩) ?_ ?_
                 rotate_left
                 ·
                  intro w'
                  go_simp
                  with_reducible rfl
                 rotate_left
                 ·
                  simp only [Act.put, List.setIfInBounds_toArray, List.set_cons_zero, List.set_cons_succ, i64_w, i32_w]
                  rfl
                 refine pure_ (i := 7) (N := some 59) (v := ?_) (a' := ?_) #[true, true, true, true, true, true, true, true, false, true, false, false] rfl rfl (any_of HT_.out (by kernel_rfl)) (fun _ _ _ h => h) (Or.inl ⟨by rfl, ?_⟩) ?_ ?_
                 rotate_left
                 ·
                  intro w'
                  go_simp
                  with_reducible rfl
                 rotate_left
                 ·
                  simp only [Act.put, List.setIfInBounds_toArray, List.set_cons_zero, List.set_cons_succ, i64_w, i32_w]
                  rfl
                 refine pure_ (i := 8) (N := some 60) (v := ?_) (a' := ?_) #[true, true, true, true, true, true, true, true, true, true, false, false] rfl rfl (any_of HT_.out (by kernel_rfl)) (fun _ _ _ h => h) (Or.inl ⟨by rfl, ?_⟩) ?_ ?_
                 rotate_left
                 ·
                  intro w'
                  go_simp
                  with_reducible rfl
                 rotate_left
                 ·
                  simp only [Act.put, List.setIfInBounds_toArray, List.set_cons_zero, List.set_cons_succ, i64_w, i32_w]
                  rfl
                 exact norm_ (by simp only [putAll, Act.put, List.setIfInBounds_toArray, List.set_cons_zero, List.set_cons_succ]) (hCont (gb126) _ ⟨hHeld, (by (with_reducible repeat (first | refine blk_drewN ?_ _ | refine blk_drew ?_ | refine blk_alloc ?_ _)); exact BK112.out), (by (with_reducible repeat (first | refine blk_drewN ?_ _ | refine blk_drew ?_ | refine blk_alloc ?_ _)); exact BK116.out), (by (with_reducible repeat (first | refine blk_drewN ?_ _ | refine blk_drew ?_ | refine blk_alloc ?_ _)); exact BK126.out), GW126.out, GE126.out, NB112_126.out, NB126_112.out, NB116_126.out, NB126_116.out, (by repeat (first | (with_reducible first | exact HB.out | apply below_alloc | apply pw_below_drewN | apply below_drew1 | refine below_set ?_ GE112.out | refine below_set ?_ GE116.out | refine below_set ?_ GE126.out) | exact HB.out))⟩)
               rintro gb126 w39 ⟨hS_, h0_, h1_, h2_, h3_, h4_, h5_, h6_, h7_, h8_, h9_⟩
               have n0_ : Aside0 (w39.heap[gb112]? = some (.cells #[.int .u8 x113000_3, .int .u8 x113001_3, .int .u8 x113002_3, .int .u8 x113003_3, .int .i64 x113004_3] 45 (0, 0))) := ⟨h0_⟩
               have n1_ : Aside0 (w39.heap[gb116]? = some (.cells #[.int .u8 x117000_3, .int .u8 x117001_3, .int .u8 x117002_3, .int .u8 x117003_3, .int .i64 x117004_3] 45 (0, 0))) := ⟨h1_⟩
               have n2_ : Aside0 (w39.heap[gb126]? = some (.cells #[.int .u8 0, .int .u8 0, .int .u8 0, .int .u8 0, .int .i64 0] 45 (0, 0))) := ⟨h2_⟩
               have n3_ : Aside0 (w.heap.size ≤ gb126) := ⟨h3_⟩
               have n4_ : Aside0 (w.heap.size ≤ gb126) := ⟨h4_⟩
               have n5_ : Aside0 (gb112 ≠ gb126) := ⟨h5_⟩
               have n6_ : Aside0 (gb126 ≠ gb112) := ⟨h6_⟩
               have n7_ : Aside0 (gb116 ≠ gb126) := ⟨h7_⟩
               have n8_ : Aside0 (gb126 ≠ gb116) := ⟨h8_⟩
               have n9_ : Aside0 (Below w.heap.size w w39) := ⟨h9_⟩
               clear BK112
               clear BK116
               clear HB
               clear h0_ h1_ h2_ h3_ h4_ h5_ h6_ h7_ h8_ h9_
               have BK112 := n0_
               have BK116 := n1_
               have BK126 := n2_
               have GW126 := n3_
               have GE126 := n4_
               have NB112_126 := n5_
               have NB126_112 := n6_
               have NB116_126 := n7_
               have NB126_116 := n8_
               have HB := n9_
               clear n0_ n1_ n2_ n3_ n4_ n5_ n6_ n7_ n8_ n9_
               have hHeld : w39.cell? ⟨gb116, 0, none⟩ = some (.int .u8 x117000_3) ∧ w39.cell? ⟨gb116, 1, none⟩ = some (.int .u8 x117001_3) ∧ w39.cell? ⟨gb116, 2, none⟩ = some (.int .u8 x117002_3) ∧ w39.cell? ⟨gb116, 3, none⟩ = some (.int .u8 x117003_3) ∧ w39.cell? ⟨gb116, 4, none⟩ = some (.int .i64 x117004_3) := hS_
               refine norm_ (a' := ?_) ?_ ?_
               rotate_left
               ·
                simp only [putAll, Act.put, List.setIfInBounds_toArray, List.set_cons_zero, List.set_cons_succ]
                rfl
               refine one_ (i := 10) (N := none) #[true, true, true, true, true, true, true, true, true, true, true, false] rfl rfl (one_of HT_.out (by kernel_rfl)) (by decide) (fun K hK => ?_)
               have hs40 : w39.cell? ⟨gb126, 0, none⟩ = some (.int .u8 0) := (blk_cell BK126.out 0).trans rfl
               have hfs40 := blk_frozen BK126.out 0
               have hns40_0 := NB112_126.out
               have hns40_1 := NB116_126.out
               have hms40_0 := NB126_112.out
               have hms40_1 := NB126_116.out
               have hs41 : w39.cell? ⟨gb126, 1, none⟩ = some (.int .u8 0) := (blk_cell BK126.out 1).trans rfl
               have hfs41 := blk_frozen BK126.out 1
               have hns41_0 := NB112_126.out
               have hns41_1 := NB116_126.out
               have hms41_0 := NB126_112.out
               have hms41_1 := NB126_116.out
               have hs42 : w39.cell? ⟨gb126, 2, none⟩ = some (.int .u8 0) := (blk_cell BK126.out 2).trans rfl
               have hfs42 := blk_frozen BK126.out 2
               have hns42_0 := NB112_126.out
               have hns42_1 := NB116_126.out
               have hms42_0 := NB126_112.out
               have hms42_1 := NB126_116.out
               have hs43 : w39.cell? ⟨gb126, 3, none⟩ = some (.int .u8 0) := (blk_cell BK126.out 3).trans rfl
               have hfs43 := blk_frozen BK126.out 3
               have hns43_0 := NB112_126.out
               have hns43_1 := NB116_126.out
               have hms43_0 := NB126_112.out
               have hms43_1 := NB126_116.out
               have hs44 : w39.cell? ⟨gb126, 4, none⟩ = some (.int .i64 0) := (blk_cell BK126.out 4).trans rfl
               have hfs44 := blk_frozen BK126.out 4
               have hns44_0 := NB112_126.out
               have hns44_1 := NB116_126.out
               have hms44_0 := NB126_112.out
               have hms44_1 := NB126_116.out
               refine skip_ (w1 := ?_) (by rfl) rfl ?_ ?_
               rotate_left
               ·
                go_simp
                rfl
               refine hK.out _ _ ⟨((cell_far (p := ⟨gb126, _, none⟩) NB116_126.out _).trans (((cell_far (p := ⟨gb126, _, none⟩) NB116_126.out _).trans (((cell_far (p := ⟨gb126, _, none⟩) NB116_126.out _).trans (((cell_far (p := ⟨gb126, _, none⟩) NB116_126.out _).trans (((cell_far (p := ⟨gb126, _, none⟩) NB116_126.out _).trans (hHeld.1)))))))))), ((cell_far (p := ⟨gb126, _, none⟩) NB116_126.out _).trans (((cell_far (p := ⟨gb126, _, none⟩) NB116_126.out _).trans (((cell_far (p := ⟨gb126, _, none⟩) NB116_126.out _).trans (((cell_far (p := ⟨gb126, _, none⟩) NB116_126.out _).trans (((cell_far (p := ⟨gb126, _, none⟩) NB116_126.out _).trans (hHeld.2.1)))))))))), ((cell_far (p := ⟨gb126, _, none⟩) NB116_126.out _).trans (((cell_far (p := ⟨gb126, _, none⟩) NB116_126.out _).trans (((cell_far (p := ⟨gb126, _, none⟩) NB116_126.out _).trans (((cell_far (p := ⟨gb126, _, none⟩) NB116_126.out _).trans (((cell_far (p := ⟨gb126, _, none⟩) NB116_126.out _).trans (hHeld.2.2.1)))))))))), ((cell_far (p := ⟨gb126, _, none⟩) NB116_126.out _).trans (((cell_far (p := ⟨gb126, _, none⟩) NB116_126.out _).trans (((cell_far (p := ⟨gb126, _, none⟩) NB116_126.out _).trans (((cell_far (p := ⟨gb126, _, none⟩) NB116_126.out _).trans (((cell_far (p := ⟨gb126, _, none⟩) NB116_126.out _).trans (hHeld.2.2.2.1)))))))))), ((cell_far (p := ⟨gb126, _, none⟩) NB116_126.out _).trans (((cell_far (p := ⟨gb126, _, none⟩) NB116_126.out _).trans (((cell_far (p := ⟨gb126, _, none⟩) NB116_126.out _).trans (((cell_far (p := ⟨gb126, _, none⟩) NB116_126.out _).trans (((cell_far (p := ⟨gb126, _, none⟩) NB116_126.out _).trans (hHeld.2.2.2.2))))))))))⟩ (fun hHeld => ?_)
               clear hK K
               refine pure_ (i := 11) (N := some 12) (v := ?_) (a' := ?_) #[true, true, true, true, true, true, true, true, true, true, true, true] rfl rfl (any_of HT_.out (by kernel_rfl)) (fun _ _ _ h => h) (Or.inl ⟨by rfl, ?_⟩) ?_ ?_
               rotate_left
               ·
                intro w'
                go_simp
                with_reducible rfl
               rotate_left
               ·
                simp only [Act.put, List.setIfInBounds_toArray, List.set_cons_zero, List.set_cons_succ, i64_w, i32_w]
                rfl
               refine done_ (done_of HT_.out (by kernel_rfl)) ?_
               have hnb45 := NB112_116.out
               have hnc45 := NB116_112.out
               have hnb46 := NB112_126.out
               have hnc46 := NB126_112.out
               obtain ⟨hcz47_0, hcz47_1, hcz47_2, hcz47_3, hcz47_4, hfz47_0, hfz47_1, hfz47_2, hfz47_3, hfz47_4⟩ := all5 BK112.out
               try go_wp2
               refine bodyPost_ret (results_ct rfl _ _ gb112 45 #[.int .u8 0, .int .u8 0, .int .u8 0, .int .u8 0, .int .i64 0] (0, 0) _ rfl (by (with_reducible repeat (first | refine blk_drewN ?_ _ | refine blk_drew ?_ | refine blk_alloc ?_ _)); refine blk_put (cs := #[.int .u8 0, .int .u8 0, .int .u8 0, .int .u8 0, .int .i64 x113004_3]) ?_ 4 _ rfl; (with_reducible repeat (first | refine blk_drewN ?_ _ | refine blk_drew ?_ | refine blk_alloc ?_ _)); refine blk_put (cs := #[.int .u8 0, .int .u8 0, .int .u8 0, .int .u8 x113003_3, .int .i64 x113004_3]) ?_ 3 _ rfl; (with_reducible repeat (first | refine blk_drewN ?_ _ | refine blk_drew ?_ | refine blk_alloc ?_ _)); refine blk_put (cs := #[.int .u8 0, .int .u8 0, .int .u8 x113002_3, .int .u8 x113003_3, .int .i64 x113004_3]) ?_ 2 _ rfl; (with_reducible repeat (first | refine blk_drewN ?_ _ | refine blk_drew ?_ | refine blk_alloc ?_ _)); refine blk_put (cs := #[.int .u8 0, .int .u8 x113001_3, .int .u8 x113002_3, .int .u8 x113003_3, .int .i64 x113004_3]) ?_ 1 _ rfl; (with_reducible repeat (first | refine blk_drewN ?_ _ | refine blk_drew ?_ | refine blk_alloc ?_ _)); refine blk_put (cs := #[.int .u8 x113000_3, .int .u8 x113001_3, .int .u8 x113002_3, .int .u8 x113003_3, .int .i64 x113004_3]) ?_ 0 _ rfl; (with_reducible repeat (first | refine blk_drewN ?_ _ | refine blk_drew ?_ | refine blk_alloc ?_ _)); refine blk_far ?_ NB112_126.out _; (with_reducible repeat (first | refine blk_drewN ?_ _ | refine blk_drew ?_ | refine blk_alloc ?_ _)); refine blk_far ?_ NB112_126.out _; (with_reducible repeat (first | refine blk_drewN ?_ _ | refine blk_drew ?_ | refine blk_alloc ?_ _)); refine blk_far ?_ NB112_126.out _; (with_reducible repeat (first | refine blk_drewN ?_ _ | refine blk_drew ?_ | refine blk_alloc ?_ _)); refine blk_far ?_ NB112_126.out _; (with_reducible repeat (first | refine blk_drewN ?_ _ | refine blk_drew ?_ | refine blk_alloc ?_ _)); refine blk_far ?_ NB112_126.out _; (with_reducible repeat (first | refine blk_drewN ?_ _ | refine blk_drew ?_ | refine blk_alloc ?_ _)); exact BK112.out) Tryd.underlying45 rfl (by kernel_rfl)) rfl ?_
               exact ⟨by first | rfl | (simp [errW_none, errW_some] <;> rfl) | (simp only [← hji13]; first | rfl | (simp [errW_none, errW_some] <;> rfl)) | (simp [*, errW_none, errW_some] <;> rfl), by repeat (first | (with_reducible first | exact HB.out | apply below_alloc | apply pw_below_drewN | apply below_drew1 | refine below_set ?_ GE112.out | refine below_set ?_ GE116.out | refine below_set ?_ GE126.out) | exact HB.out)⟩
             ·
              rw [if_neg c20] at H
              have c20b0 : (t119 == 0) = false := beq_eq_false_iff_ne.mpr c20
              have c20b1 : (t119 != 0) = true := bne_iff_ne.mpr c20
              simp only [Option.some.injEq, Prod.mk.injEq] at H
              obtain ⟨rfl, rfl, rfl, rfl, rfl, rfl⟩ := H
              have p117 : 0 ≤ ((ji13) : Int) := of_decide_eq_true (by first | (with_reducible assumption) | assumption)
              have q117 : (ji13) < (l0.length : Int) := of_decide_eq_true (by first | (with_reducible assumption) | assumption)
              obtain ⟨ad117, e117, hx117_0⟩ := Kd.at_string HR0.out (ji13) p117 q117
              cases e117
              replace hx117_0 := (HB.out.cell (World.block_lt_of_cell? w _ hx117_0)).trans hx117_0
              replace p117 := eq_true p117
              replace q117 := eq_true q117
              try go_wp2_with (first | ((with_reducible refine gate_callee (f := 39) rfl ?_); refine goesL_ (some 49) rfl rfl Tryd.func39 (by kernel_rfl) rfl #[.string (rdOf ByteArray.empty l0 (ji13))] rfl (by (try simp only [List.map_toArray, List.map_cons, List.map_nil]); first | done | (simp only [hji13]; rfl) | rfl | (simp only [List.length_drop, List.length_take]; rfl)) ?_; (with_reducible refine (lockstitchref02_Number.calls k3 (rdOf ByteArray.empty l0 (ji13)) t118 t119 _ A16.out).mono ?_); rintro e w' ⟨rfl, ⟨nd, rfl⟩⟩; refine ⟨_, rfl, ?_⟩; (try (rw [drewN_self wr]; generalize hq_ : World.drewN wr _ = wr; have n0_ : Aside0 (wr.heap[gb112]? = some (.cells #[.int .u8 x113000_3, .int .u8 x113001_3, .int .u8 x113002_3, .int .u8 x113003_3, .int .i64 x113004_3] 45 (0, 0))) := ⟨by rw [← hq_]; exact (by (with_reducible repeat (first | refine blk_drewN ?_ _ | refine blk_drew ?_ | refine blk_alloc ?_ _)); exact BK112.out)⟩; have n1_ : Aside0 (wr.heap[gb116]? = some (.cells #[.int .u8 x117000_3, .int .u8 x117001_3, .int .u8 x117002_3, .int .u8 x117003_3, .int .i64 x117004_3] 45 (0, 0))) := ⟨by rw [← hq_]; exact (by (with_reducible repeat (first | refine blk_drewN ?_ _ | refine blk_drew ?_ | refine blk_alloc ?_ _)); exact BK116.out)⟩; have n2_ : Aside0 (Below w.heap.size w wr) := ⟨by rw [← hq_]; exact (by repeat (first | (with_reducible first | exact HB.out | apply below_alloc | apply pw_below_drewN | apply below_drew1 | refine below_set ?_ GE112.out | refine below_set ?_ GE116.out) | exact HB.out))⟩; clear BK112 BK116 HB hq_; have BK112 := n0_; have BK116 := n1_; have HB := n2_; clear n0_ n1_ n2_))))
              have n0_ := Aside0.mk (blk_drew BK112.out)
              have n1_ := Aside0.mk (blk_drew BK116.out)
              have n2_ := Aside0.mk (below_drew1 HB.out)
              clear BK112
              clear BK116
              clear HB
              have BK112 := n0_
              have BK116 := n1_
              have HB := n2_
              clear n0_ n1_ n2_
              have p18 : 0 ≤ (x8_3 : Int) := of_decide_eq_true (by first | (with_reducible assumption) | assumption)
              have q18 : x8_3 < (t114.size : Int) := of_decide_eq_true (by first | (with_reducible assumption) | assumption)
              have hx18 := bt_at t114 x8_3
              replace p18 := eq_true p18
              replace q18 := eq_true q18
              refine start_ (n := 12) (S := fun w' => w'.cell? ⟨gb116, 0, none⟩ = some (.int .u8 x117000_3) ∧ w'.cell? ⟨gb116, 1, none⟩ = some (.int .u8 x117001_3) ∧ w'.cell? ⟨gb116, 2, none⟩ = some (.int .u8 x117002_3) ∧ w'.cell? ⟨gb116, 3, none⟩ = some (.int .u8 x117003_3) ∧ w'.cell? ⟨gb116, 4, none⟩ = some (.int .i64 x117004_3)) (ds := []) #[false, false, false, false, false, false, false, false, false, false, false, false] (by kernel_rfl) rfl rfl ⟨(blk_cell BK116.out 0).trans rfl, (blk_cell BK116.out 1).trans rfl, (blk_cell BK116.out 2).trans rfl, (blk_cell BK116.out 3).trans rfl, (blk_cell BK116.out 4).trans rfl⟩ (fun hHeld => ?_); refine with_tabW lockstitchref04_read.tab11 lockstitchref04_read.bits11 (fun HT_ HW_ => ?_)
              generalize wr.drew = w48 at BK112 BK116 HB hHeld ⊢
              refine pure_ (i := 1) (N := some 54) (v := ?_) (a' := ?_) #[false, true, false, false, false, false, false, false, false, false, false, false] rfl rfl (any_of HT_.out (by kernel_rfl)) (fun _ _ _ h => h) (Or.inl ⟨by rfl, ?_⟩) ?_ ?_
              rotate_left
              ·
               intro w'
               go_simp
               with_reducible rfl
              rotate_left
              ·
               simp only [Act.put, List.setIfInBounds_toArray, List.set_cons_zero, List.set_cons_succ, i64_w, i32_w]
               rfl
              refine pure_ (i := 2) (N := some 55) (v := ?_) (a' := ?_) #[false, true, true, false, false, false, false, false, false, false, false, false] rfl rfl (any_of HT_.out (by kernel_rfl)) (fun _ _ _ h => h) (Or.inl ⟨by rfl, ?_⟩) ?_ ?_
              rotate_left
              ·
               intro w'
               go_simp
               with_reducible rfl
              rotate_left
              ·
               simp only [Act.put, List.setIfInBounds_toArray, List.set_cons_zero, List.set_cons_succ, i64_w, i32_w]
               rfl
              refine pure_ (i := 4) (N := some 57) (v := ?_) (a' := ?_) #[false, true, true, false, true, false, false, false, false, false, false, false] rfl rfl (any_of HT_.out (by kernel_rfl)) (fun _ _ _ h => h) (Or.inl ⟨by rfl, ?_⟩) ?_ ?_
              rotate_left
              ·
               intro w'
               go_simp
               with_reducible rfl
              rotate_left
              ·
               simp only [Act.put, List.setIfInBounds_toArray, List.set_cons_zero, List.set_cons_succ, i64_w, i32_w]
               rfl
              refine take_ (i := 0) (N := some 53) (v := ?_) (a' := ?_) #[true, true, true, false, true, false, false, false, false, false, false, false] rfl rfl (take_ofW HT_.out HW_.out (by kernel_rfl)) (fun _ _ _ h => h) (Or.inl ⟨by rfl, ?_⟩) hHeld ?_ ?_
              rotate_left
              ·
               rintro w' ⟨s0, s1, s2, s3, s4⟩
               go_simp
               with_reducible rfl
              rotate_left
              ·
               simp only [Act.put, List.setIfInBounds_toArray, List.set_cons_zero, List.set_cons_succ, i64_w, i32_w]
               rfl
              refine take_ (i := 3) (N := some 56) (v := ?_) (a' := ?_) #[true, true, true, true, true, false, false, false, false, false, false, false] rfl rfl (take_ofW HT_.out HW_.out (by kernel_rfl)) (fun _ _ _ h => h) (Or.inl ⟨by rfl, ?_⟩) hHeld ?_ ?_
              rotate_left
              ·
               rintro w' ⟨s0, s1, s2, s3, s4⟩
               go_simp
               with_reducible rfl
              rotate_left
              ·
               simp only [Act.put, List.setIfInBounds_toArray, List.set_cons_zero, List.set_cons_succ, i64_w, i32_w]
               rfl
              refine join_ (σ := Nat) 2 #[true, true, true, true, true, true, true, true, true, true, false, false] (fun s_ => [(58, .tuple #[.agg #[.int .u8 t120, .int .u8 t121, .int .u8 t122, .int .u8 t123, .int .i64 t124], .bool t125]), (11, .pointer (some ⟨s_, 0, none⟩)), (52, .tuple #[.agg #[.int .u8 t120, .int .u8 t121, .int .u8 t122, .int .u8 t123, .int .i64 t124], .bool t125]), (59, .agg #[.int .u8 t120, .int .u8 t121, .int .u8 t122, .int .u8 t123, .int .i64 t124]), (60, .bool t125)]) (fun s_ w' => (w'.cell? ⟨gb116, 0, none⟩ = some (.int .u8 x117000_3) ∧ w'.cell? ⟨gb116, 1, none⟩ = some (.int .u8 x117001_3) ∧ w'.cell? ⟨gb116, 2, none⟩ = some (.int .u8 x117002_3) ∧ w'.cell? ⟨gb116, 3, none⟩ = some (.int .u8 x117003_3) ∧ w'.cell? ⟨gb116, 4, none⟩ = some (.int .i64 x117004_3)) ∧ (w'.heap[gb112]? = some (.cells #[.int .u8 x113000_3, .int .u8 x113001_3, .int .u8 x113002_3, .int .u8 x113003_3, .int .i64 x113004_3] 45 (0, 0))) ∧ (w'.heap[gb116]? = some (.cells #[.int .u8 x117000_3, .int .u8 x117001_3, .int .u8 x117002_3, .int .u8 x117003_3, .int .i64 x117004_3] 45 (0, 0))) ∧ (w'.heap[s_]? = some (.cells #[.int .u8 0, .int .u8 0, .int .u8 0, .int .u8 0, .int .i64 0] 45 (0, 0))) ∧ (w.heap.size ≤ s_) ∧ (w.heap.size ≤ s_) ∧ (gb112 ≠ s_) ∧ (s_ ≠ gb112) ∧ (gb116 ≠ s_) ∧ (s_ ≠ gb116) ∧ (Below w.heap.size w w')) ?_ ?_
              rotate_left
              ·
               intro hCont
               refine two_ (i := 5) (j := 9) (Ni := some 58) (Nj := some 11) #[true, true, true, true, true, true, false, false, false, false, false, false] #[true, true, true, true, true, false, false, false, false, true, false, false] rfl rfl rfl rfl (two_of HT_.out (by kernel_rfl)) (by decide) (by decide) (fun K hK => ?_) (fun K hK => ?_)
               ·
                skip
                refine goes_ Tryd.func40 (by kernel_rfl) rfl #[.agg #[.int .u8 x117000_3, .int .u8 x117001_3, .int .u8 x117002_3, .int .u8 x117003_3, .int .i64 x117004_3], .int .u8 (bt t114 x8_3), .int .i64 t118] (by rfl) rfl rfl (by (try simp only [List.map_toArray, List.map_cons, List.map_nil]); first | done | rfl | (simp only [List.length_drop, List.length_take]; rfl)) ?_
                with_reducible refine (lockstitchref04_with.calls k3 x117000_3 x117001_3 x117002_3 x117003_3 x117004_3 (bt t114 x8_3) t118 t120 t121 t122 t123 t124 t125 _ A19.out).mono ?_
                rintro e w49 ⟨rfl, hb⟩
                refine ⟨_, rfl, ?_⟩
                have n0_ := Aside0.mk (blk_below (g := gb112) (o := .cells #[.int .u8 x113000_3, .int .u8 x113001_3, .int .u8 x113002_3, .int .u8 x113003_3, .int .i64 x113004_3] 45 (0, 0)) (by (with_reducible repeat (first | refine blk_drewN ?_ _ | refine blk_drew ?_ | refine blk_alloc ?_ _)); exact BK112.out) hb)
                have n1_ := Aside0.mk (blk_below (g := gb116) (o := .cells #[.int .u8 x117000_3, .int .u8 x117001_3, .int .u8 x117002_3, .int .u8 x117003_3, .int .i64 x117004_3] 45 (0, 0)) (by (with_reducible repeat (first | refine blk_drewN ?_ _ | refine blk_drew ?_ | refine blk_alloc ?_ _)); exact BK116.out) hb)
                have n2_ := Aside0.mk (below_step (by repeat (first | (with_reducible first | exact HB.out | apply below_alloc | apply pw_below_drewN | apply below_drew1 | refine below_set ?_ GE112.out | refine below_set ?_ GE116.out) | exact HB.out)) hb)
                clear BK112
                clear BK116
                clear HB
                have BK112 := n0_
                have BK116 := n1_
                have HB := n2_
                clear n0_ n1_ n2_
                (try clear hb)
                (try clear hb2)
                (try clear hk)
                (try clear hi)
                refine hK.out _ _ ⟨(blk_cell BK116.out 0).trans rfl, (blk_cell BK116.out 1).trans rfl, (blk_cell BK116.out 2).trans rfl, (blk_cell BK116.out 3).trans rfl, (blk_cell BK116.out 4).trans rfl⟩ (fun hHeld => ?_)
                clear hK K
                refine norm_ (a' := ?_) ?_ ?_
                rotate_left
                ·
                 show Act.put _ (some 58) _ = _
                 simp only [Act.put, List.setIfInBounds_toArray, List.set_cons_zero, List.set_cons_succ, i64_w, i32_w]
                 rfl
                refine pure_ (i := 6) (N := some 52) (v := ?_) (a' := ?_) #[true, true, true, true, true, true, true, false, false, false, false, false] rfl rfl (any_of HT_.out (by kernel_rfl)) (fun _ _ _ h => h) (Or.inl ⟨by rfl, ?_⟩) ?_ ?_
                rotate_left
                ·
                 intro w'
                 go_simp
                 with_reducible rfl
                rotate_left
                ·
                 simp only [Act.put, List.setIfInBounds_toArray, List.set_cons_zero, List.set_cons_succ, i64_w, i32_w]
                 rfl
                refine pure_ (i := 7) (N := some 59) (v := ?_) (a' := ?_) #[true, true, true, true, true, true, true, true, false, false, false, false] rfl rfl (any_of HT_.out (by kernel_rfl)) (fun _ _ _ h => h) (Or.inl ⟨by rfl, ?_⟩) ?_ ?_
                rotate_left
                ·
                 intro w'
                 go_simp
                 with_reducible rfl
                rotate_left
                ·
                 simp only [Act.put, List.setIfInBounds_toArray, List.set_cons_zero, List.set_cons_succ, i64_w, i32_w]
                 rfl
                refine pure_ (i := 8) (N := some 60) (v := ?_) (a' := ?_) #[true, true, true, true, true, true, true, true, true, false, false, false] rfl rfl (any_of HT_.out (by kernel_rfl)) (fun _ _ _ h => h) (Or.inl ⟨by rfl, ?_⟩) ?_ ?_
                rotate_left
                ·
                 intro w'
                 go_simp
                 with_reducible rfl
                rotate_left
                ·
                 simp only [Act.put, List.setIfInBounds_toArray, List.set_cons_zero, List.set_cons_succ, i64_w, i32_w]
                 rfl
                refine one_ (i := 9) (N := some 11) #[true, true, true, true, true, true, true, true, true, true, false, false] rfl rfl (one_of HT_.out (by kernel_rfl)) (by decide) (fun K hK => ?_)
                refine box_step ?hg (N := 11) ?hd (cs := #[.int .u8 0, .int .u8 0, .int .u8 0, .int .u8 0, .int .i64 0]) (t := 45) ?hr ?_; (case hd => rfl); (case hg => rfl); (case hr => first | (go_simp; done) | (go_simp; rfl))
                intro gb126 hg w50 hbox hb
                have n0_ := Aside0.mk (blk_below (g := gb112) (o := .cells #[.int .u8 x113000_3, .int .u8 x113001_3, .int .u8 x113002_3, .int .u8 x113003_3, .int .i64 x113004_3] 45 (0, 0)) (by (with_reducible repeat (first | refine blk_drewN ?_ _ | refine blk_drew ?_ | refine blk_alloc ?_ _)); exact BK112.out) hb)
                have n1_ := Aside0.mk (blk_below (g := gb116) (o := .cells #[.int .u8 x117000_3, .int .u8 x117001_3, .int .u8 x117002_3, .int .u8 x117003_3, .int .i64 x117004_3] 45 (0, 0)) (by (with_reducible repeat (first | refine blk_drewN ?_ _ | refine blk_drew ?_ | refine blk_alloc ?_ _)); exact BK116.out) hb)
                have n2_ := Aside0.mk (below_step (by repeat (first | (with_reducible first | exact HB.out | apply below_alloc | apply pw_below_drewN | apply below_drew1 | refine below_set ?_ GE112.out | refine below_set ?_ GE116.out) | exact HB.out)) hb)
                have n3_ := Aside0.mk (hbox)
                have n4_ := Aside0.mk ((by rw [hg]; exact (below_size (by repeat (first | (with_reducible first | exact HB.out | apply below_alloc | apply pw_below_drewN | apply below_drew1 | refine below_set ?_ GE112.out | refine below_set ?_ GE116.out) | exact HB.out))) : w.heap.size ≤ gb126))
                have n5_ := n4_
                have n6_ := Aside0.mk ((by rw [hg]; exact Nat.ne_of_lt (blk_lt (g := gb112) (o := .cells #[.int .u8 x113000_3, .int .u8 x113001_3, .int .u8 x113002_3, .int .u8 x113003_3, .int .i64 x113004_3] 45 (0, 0)) (by (with_reducible repeat (first | refine blk_drewN ?_ _ | refine blk_drew ?_ | refine blk_alloc ?_ _)); exact BK112.out)) : gb112 ≠ gb126))
                have n7_ := Aside0.mk n6_.out.symm
                have n8_ := Aside0.mk ((by rw [hg]; exact Nat.ne_of_lt (blk_lt (g := gb116) (o := .cells #[.int .u8 x117000_3, .int .u8 x117001_3, .int .u8 x117002_3, .int .u8 x117003_3, .int .i64 x117004_3] 45 (0, 0)) (by (with_reducible repeat (first | refine blk_drewN ?_ _ | refine blk_drew ?_ | refine blk_alloc ?_ _)); exact BK116.out)) : gb116 ≠ gb126))
                have n9_ := Aside0.mk n8_.out.symm
                clear BK112
                clear BK116
                clear HB
                have BK112 := n0_
                have BK116 := n1_
                have HB := n2_
                have BK126 := n3_
                have GW126 := n4_
                have GE126 := n5_
                have NB112_126 := n6_
                have NB126_112 := n7_
                have NB116_126 := n8_
                have NB126_116 := n9_
                clear n0_ n1_ n2_ n3_ n4_ n5_ n6_ n7_ n8_ n9_
                clear hb hbox hg
                refine hK.out _ _ ⟨(blk_cell BK116.out 0).trans rfl, (blk_cell BK116.out 1).trans rfl, (blk_cell BK116.out 2).trans rfl, (blk_cell BK116.out 3).trans rfl, (blk_cell BK116.out 4).trans rfl⟩ (fun hHeld => ?_)
                clear hK K
                refine norm_ (a' := ?_) ?_ ?_
                rotate_left
                ·
                 show Act.put _ (some 11) _ = _
                 simp only [Act.put, List.setIfInBounds_toArray, List.set_cons_zero, List.set_cons_succ, i64_w, i32_w]
                 rfl
                exact norm_ (by simp only [putAll, Act.put, List.setIfInBounds_toArray, List.set_cons_zero, List.set_cons_succ]) (hCont (gb126) _ ⟨hHeld, (by (with_reducible repeat (first | refine blk_drewN ?_ _ | refine blk_drew ?_ | refine blk_alloc ?_ _)); exact BK112.out), (by (with_reducible repeat (first | refine blk_drewN ?_ _ | refine blk_drew ?_ | refine blk_alloc ?_ _)); exact BK116.out), (by (with_reducible repeat (first | refine blk_drewN ?_ _ | refine blk_drew ?_ | refine blk_alloc ?_ _)); exact BK126.out), GW126.out, GE126.out, NB112_126.out, NB126_112.out, NB116_126.out, NB126_116.out, (by repeat (first | (with_reducible first | exact HB.out | apply below_alloc | apply pw_below_drewN | apply below_drew1 | refine below_set ?_ GE112.out | refine below_set ?_ GE116.out | refine below_set ?_ GE126.out) | exact HB.out))⟩)
               ·
                skip
                refine box_step ?hg (N := 11) ?hd (cs := #[.int .u8 0, .int .u8 0, .int .u8 0, .int .u8 0, .int .i64 0]) (t := 45) ?hr ?_; (case hd => rfl); (case hg => rfl); (case hr => first | (go_simp; done) | (go_simp; rfl))
                intro gb126 hg w49 hbox hb
                have n0_ := Aside0.mk (blk_below (g := gb112) (o := .cells #[.int .u8 x113000_3, .int .u8 x113001_3, .int .u8 x113002_3, .int .u8 x113003_3, .int .i64 x113004_3] 45 (0, 0)) (by (with_reducible repeat (first | refine blk_drewN ?_ _ | refine blk_drew ?_ | refine blk_alloc ?_ _)); exact BK112.out) hb)
                have n1_ := Aside0.mk (blk_below (g := gb116) (o := .cells #[.int .u8 x117000_3, .int .u8 x117001_3, .int .u8 x117002_3, .int .u8 x117003_3, .int .i64 x117004_3] 45 (0, 0)) (by (with_reducible repeat (first | refine blk_drewN ?_ _ | refine blk_drew ?_ | refine blk_alloc ?_ _)); exact BK116.out) hb)
                have n2_ := Aside0.mk (below_step (by repeat (first | (with_reducible first | exact HB.out | apply below_alloc | apply pw_below_drewN | apply below_drew1 | refine below_set ?_ GE112.out | refine below_set ?_ GE116.out) | exact HB.out)) hb)
                have n3_ := Aside0.mk (hbox)
                have n4_ := Aside0.mk ((by rw [hg]; exact (below_size (by repeat (first | (with_reducible first | exact HB.out | apply below_alloc | apply pw_below_drewN | apply below_drew1 | refine below_set ?_ GE112.out | refine below_set ?_ GE116.out) | exact HB.out))) : w.heap.size ≤ gb126))
                have n5_ := n4_
                have n6_ := Aside0.mk ((by rw [hg]; exact Nat.ne_of_lt (blk_lt (g := gb112) (o := .cells #[.int .u8 x113000_3, .int .u8 x113001_3, .int .u8 x113002_3, .int .u8 x113003_3, .int .i64 x113004_3] 45 (0, 0)) (by (with_reducible repeat (first | refine blk_drewN ?_ _ | refine blk_drew ?_ | refine blk_alloc ?_ _)); exact BK112.out)) : gb112 ≠ gb126))
                have n7_ := Aside0.mk n6_.out.symm
                have n8_ := Aside0.mk ((by rw [hg]; exact Nat.ne_of_lt (blk_lt (g := gb116) (o := .cells #[.int .u8 x117000_3, .int .u8 x117001_3, .int .u8 x117002_3, .int .u8 x117003_3, .int .i64 x117004_3] 45 (0, 0)) (by (with_reducible repeat (first | refine blk_drewN ?_ _ | refine blk_drew ?_ | refine blk_alloc ?_ _)); exact BK116.out)) : gb116 ≠ gb126))
                have n9_ := Aside0.mk n8_.out.symm
                clear BK112
                clear BK116
                clear HB
                have BK112 := n0_
                have BK116 := n1_
                have HB := n2_
                have BK126 := n3_
                have GW126 := n4_
                have GE126 := n5_
                have NB112_126 := n6_
                have NB126_112 := n7_
                have NB116_126 := n8_
                have NB126_116 := n9_
                clear n0_ n1_ n2_ n3_ n4_ n5_ n6_ n7_ n8_ n9_
                clear hb hbox hg
                refine hK.out _ _ ⟨(blk_cell BK116.out 0).trans rfl, (blk_cell BK116.out 1).trans rfl, (blk_cell BK116.out 2).trans rfl, (blk_cell BK116.out 3).trans rfl, (blk_cell BK116.out 4).trans rfl⟩ (fun hHeld => ?_)
                clear hK K
                refine norm_ (a' := ?_) ?_ ?_
                rotate_left
                ·
                 show Act.put _ (some 11) _ = _
                 simp only [Act.put, List.setIfInBounds_toArray, List.set_cons_zero, List.set_cons_succ, i64_w, i32_w]
                 rfl
                refine one_ (i := 5) (N := some 58) #[true, true, true, true, true, true, false, false, false, true, false, false] rfl rfl (one_of HT_.out (by kernel_rfl)) (by decide) (fun K hK => ?_)
                refine goes_ Tryd.func40 (by kernel_rfl) rfl #[.agg #[.int .u8 x117000_3, .int .u8 x117001_3, .int .u8 x117002_3, .int .u8 x117003_3, .int .i64 x117004_3], .int .u8 (bt t114 x8_3), .int .i64 t118] (by rfl) rfl rfl (by (try simp only [List.map_toArray, List.map_cons, List.map_nil]); first | done | rfl | (simp only [List.length_drop, List.length_take]; rfl)) ?_
                with_reducible refine (lockstitchref04_with.calls k3 x117000_3 x117001_3 x117002_3 x117003_3 x117004_3 (bt t114 x8_3) t118 t120 t121 t122 t123 t124 t125 _ A19.out).mono ?_
                rintro e w50 ⟨rfl, hb⟩
                refine ⟨_, rfl, ?_⟩
                have n0_ := Aside0.mk (blk_below (g := gb112) (o := .cells #[.int .u8 x113000_3, .int .u8 x113001_3, .int .u8 x113002_3, .int .u8 x113003_3, .int .i64 x113004_3] 45 (0, 0)) (by (with_reducible repeat (first | refine blk_drewN ?_ _ | refine blk_drew ?_ | refine blk_alloc ?_ _)); exact BK112.out) hb)
                have n1_ := Aside0.mk (blk_below (g := gb116) (o := .cells #[.int .u8 x117000_3, .int .u8 x117001_3, .int .u8 x117002_3, .int .u8 x117003_3, .int .i64 x117004_3] 45 (0, 0)) (by (with_reducible repeat (first | refine blk_drewN ?_ _ | refine blk_drew ?_ | refine blk_alloc ?_ _)); exact BK116.out) hb)
                have n2_ := Aside0.mk (blk_below (g := gb126) (o := .cells #[.int .u8 0, .int .u8 0, .int .u8 0, .int .u8 0, .int .i64 0] 45 (0, 0)) (by (with_reducible repeat (first | refine blk_drewN ?_ _ | refine blk_drew ?_ | refine blk_alloc ?_ _)); exact BK126.out) hb)
                have n3_ := Aside0.mk (below_step (by repeat (first | (with_reducible first | exact HB.out | apply below_alloc | apply pw_below_drewN | apply below_drew1 | refine below_set ?_ GE112.out | refine below_set ?_ GE116.out | refine below_set ?_ GE126.out) | exact HB.out)) hb)
                clear BK112
                clear BK116
                clear BK126
                clear HB
                have BK112 := n0_
                have BK116 := n1_
                have BK126 := n2_
                have HB := n3_
                clear n0_ n1_ n2_ n3_
                (try clear hb)
                (try clear hb2)
                (try clear hk)
                (try clear hi)
                refine hK.out _ _ ⟨(blk_cell BK116.out 0).trans rfl, (blk_cell BK116.out 1).trans rfl, (blk_cell BK116.out 2).trans rfl, (blk_cell BK116.out 3).trans rfl, (blk_cell BK116.out 4).trans rfl⟩ (fun hHeld => ?_)
                clear hK K
                refine norm_ (a' := ?_) ?_ ?_
                rotate_left
                ·
                 show Act.put _ (some 58) _ = _
                 simp only [Act.put, List.setIfInBounds_toArray, List.set_cons_zero, List.set_cons_succ, i64_w, i32_w]
                 rfl
                refine pure_ (i := 6) (N := some 52) (v := ?_) (a' := ?_) #[true, true, true, true, true, true, true, false, false, true, false, false] rfl rfl (any_of HT_.out (by kernel_rfl)) (fun _ _ _ h => h) (Or.inl ⟨by rfl, ?_⟩) ?_ ?_
                rotate_left
                ·
                 intro w'
                 go_simp
                 with_reducible rfl
                rotate_left
                ·
                 simp only [Act.put, List.setIfInBounds_toArray, List.set_cons_zero, List.set_cons_succ, i64_w, i32_w]
                 rfl
                refine pure_ (i := 7) (N := some 59) (v := ?_) (a' := ?_) #[true, true, true, true, true, true, true, true, false, true, false, false] rfl rfl (any_of HT_.out (by kernel_rfl)) (fun _ _ _ h => h) (Or.inl ⟨by rfl, ?_⟩) ?_ ?_
                rotate_left
                ·
                 intro w'
                 go_simp
                 with_reducible rfl
                rotate_left
                ·
                 simp only [Act.put, List.setIfInBounds_toArray, List.set_cons_zero, List.set_cons_succ, i64_w, i32_w]
                 rfl
                refine pure_ (i := 8) (N := some 60) (v := ?_) (a' := ?_) #[true, true, true, true, true, true, true, true, true, true, false, false] rfl rfl (any_of HT_.out (by kernel_rfl)) (fun _ _ _ h => h) (Or.inl ⟨by rfl, ?_⟩) ?_ ?_
                rotate_left
                ·
                 intro w'
                 go_simp
                 with_reducible rfl
                rotate_left
                ·
                 simp only [Act.put, List.setIfInBounds_toArray, List.set_cons_zero, List.set_cons_succ, i64_w, i32_w]
                 rfl
                exact norm_ (by simp only [putAll, Act.put, List.setIfInBounds_toArray, List.set_cons_zero, List.set_cons_succ]) (hCont (gb126) _ ⟨hHeld, (by (with_reducible repeat (first | refine blk_drewN ?_ _ | refine blk_drew ?_ | refine blk_alloc ?_ _)); exact BK112.out), (by (with_reducible repeat (first | refine blk_drewN ?_ _ | refine blk_drew ?_ | refine blk_alloc ?_ _)); exact BK116.out), (by (with_reducible repeat (first | refine blk_drewN ?_ _ | refine blk_drew ?_ | refine blk_alloc ?_ _)); exact BK126.out), GW126.out, GE126.out, NB112_126.out, NB126_112.out, NB116_126.out, NB126_116.out, (by repeat (first | (with_reducible first | exact HB.out | apply below_alloc | apply pw_below_drewN | apply below_drew1 | refine below_set ?_ GE112.out | refine below_set ?_ GE116.out | refine below_set ?_ GE126.out) | exact HB.out))⟩)
              rintro gb126 w51 ⟨hS_, h0_, h1_, h2_, h3_, h4_, h5_, h6_, h7_, h8_, h9_⟩
              have n0_ : Aside0 (w51.heap[gb112]? = some (.cells #[.int .u8 x113000_3, .int .u8 x113001_3, .int .u8 x113002_3, .int .u8 x113003_3, .int .i64 x113004_3] 45 (0, 0))) := ⟨h0_⟩
              have n1_ : Aside0 (w51.heap[gb116]? = some (.cells #[.int .u8 x117000_3, .int .u8 x117001_3, .int .u8 x117002_3, .int .u8 x117003_3, .int .i64 x117004_3] 45 (0, 0))) := ⟨h1_⟩
              have n2_ : Aside0 (w51.heap[gb126]? = some (.cells #[.int .u8 0, .int .u8 0, .int .u8 0, .int .u8 0, .int .i64 0] 45 (0, 0))) := ⟨h2_⟩
              have n3_ : Aside0 (w.heap.size ≤ gb126) := ⟨h3_⟩
              have n4_ : Aside0 (w.heap.size ≤ gb126) := ⟨h4_⟩
              have n5_ : Aside0 (gb112 ≠ gb126) := ⟨h5_⟩
              have n6_ : Aside0 (gb126 ≠ gb112) := ⟨h6_⟩
              have n7_ : Aside0 (gb116 ≠ gb126) := ⟨h7_⟩
              have n8_ : Aside0 (gb126 ≠ gb116) := ⟨h8_⟩
              have n9_ : Aside0 (Below w.heap.size w w51) := ⟨h9_⟩
              clear BK112
              clear BK116
              clear HB
              clear h0_ h1_ h2_ h3_ h4_ h5_ h6_ h7_ h8_ h9_
              have BK112 := n0_
              have BK116 := n1_
              have BK126 := n2_
              have GW126 := n3_
              have GE126 := n4_
              have NB112_126 := n5_
              have NB126_112 := n6_
              have NB116_126 := n7_
              have NB126_116 := n8_
              have HB := n9_
              clear n0_ n1_ n2_ n3_ n4_ n5_ n6_ n7_ n8_ n9_
              have hHeld : w51.cell? ⟨gb116, 0, none⟩ = some (.int .u8 x117000_3) ∧ w51.cell? ⟨gb116, 1, none⟩ = some (.int .u8 x117001_3) ∧ w51.cell? ⟨gb116, 2, none⟩ = some (.int .u8 x117002_3) ∧ w51.cell? ⟨gb116, 3, none⟩ = some (.int .u8 x117003_3) ∧ w51.cell? ⟨gb116, 4, none⟩ = some (.int .i64 x117004_3) := hS_
              refine norm_ (a' := ?_) ?_ ?_
              rotate_left
              ·
               simp only [putAll, Act.put, List.setIfInBounds_toArray, List.set_cons_zero, List.set_cons_succ]
               rfl
              refine one_ (i := 10) (N := none) #[true, true, true, true, true, true, true, true, true, true, true, false] rfl rfl (one_of HT_.out (by kernel_rfl)) (by decide) (fun K hK => ?_)
              have hs52 : w51.cell? ⟨gb126, 0, none⟩ = some (.int .u8 0) := (blk_cell BK126.out 0).trans rfl
              have hfs52 := blk_frozen BK126.out 0
              have hns52_0 := NB112_126.out
              have hns52_1 := NB116_126.out
              have hms52_0 := NB126_112.out
              have hms52_1 := NB126_116.out
              have hs53 : w51.cell? ⟨gb126, 1, none⟩ = some (.int .u8 0) := (blk_cell BK126.out 1).trans rfl
              have hfs53 := blk_frozen BK126.out 1
              have hns53_0 := NB112_126.out
              have hns53_1 := NB116_126.out
              have hms53_0 := NB126_112.out
              have hms53_1 := NB126_116.out
              have hs54 : w51.cell? ⟨gb126, 2, none⟩ = some (.int .u8 0) := (blk_cell BK126.out 2).trans rfl
              have hfs54 := blk_frozen BK126.out 2
              have hns54_0 := NB112_126.out
              have hns54_1 := NB116_126.out
              have hms54_0 := NB126_112.out
              have hms54_1 := NB126_116.out
              have hs55 : w51.cell? ⟨gb126, 3, none⟩ = some (.int .u8 0) := (blk_cell BK126.out 3).trans rfl
              have hfs55 := blk_frozen BK126.out 3
              have hns55_0 := NB112_126.out
              have hns55_1 := NB116_126.out
              have hms55_0 := NB126_112.out
              have hms55_1 := NB126_116.out
              have hs56 : w51.cell? ⟨gb126, 4, none⟩ = some (.int .i64 0) := (blk_cell BK126.out 4).trans rfl
              have hfs56 := blk_frozen BK126.out 4
              have hns56_0 := NB112_126.out
              have hns56_1 := NB116_126.out
              have hms56_0 := NB126_112.out
              have hms56_1 := NB126_116.out
              refine skip_ (w1 := ?_) (by rfl) rfl ?_ ?_
              rotate_left
              ·
               go_simp
               rfl
              refine hK.out _ _ ⟨((cell_far (p := ⟨gb126, _, none⟩) NB116_126.out _).trans (((cell_far (p := ⟨gb126, _, none⟩) NB116_126.out _).trans (((cell_far (p := ⟨gb126, _, none⟩) NB116_126.out _).trans (((cell_far (p := ⟨gb126, _, none⟩) NB116_126.out _).trans (((cell_far (p := ⟨gb126, _, none⟩) NB116_126.out _).trans (hHeld.1)))))))))), ((cell_far (p := ⟨gb126, _, none⟩) NB116_126.out _).trans (((cell_far (p := ⟨gb126, _, none⟩) NB116_126.out _).trans (((cell_far (p := ⟨gb126, _, none⟩) NB116_126.out _).trans (((cell_far (p := ⟨gb126, _, none⟩) NB116_126.out _).trans (((cell_far (p := ⟨gb126, _, none⟩) NB116_126.out _).trans (hHeld.2.1)))))))))), ((cell_far (p := ⟨gb126, _, none⟩) NB116_126.out _).trans (((cell_far (p := ⟨gb126, _, none⟩) NB116_126.out _).trans (((cell_far (p := ⟨gb126, _, none⟩) NB116_126.out _).trans (((cell_far (p := ⟨gb126, _, none⟩) NB116_126.out _).trans (((cell_far (p := ⟨gb126, _, none⟩) NB116_126.out _).trans (hHeld.2.2.1)))))))))), ((cell_far (p := ⟨gb126, _, none⟩) NB116_126.out _).trans (((cell_far (p := ⟨gb126, _, none⟩) NB116_126.out _).trans (((cell_far (p := ⟨gb126, _, none⟩) NB116_126.out _).trans (((cell_far (p := ⟨gb126, _, none⟩) NB116_126.out _).trans (((cell_far (p := ⟨gb126, _, none⟩) NB116_126.out _).trans (hHeld.2.2.2.1)))))))))), ((cell_far (p := ⟨gb126, _, none⟩) NB116_126.out _).trans (((cell_far (p := ⟨gb126, _, none⟩) NB116_126.out _).trans (((cell_far (p := ⟨gb126, _, none⟩) NB116_126.out _).trans (((cell_far (p := ⟨gb126, _, none⟩) NB116_126.out _).trans (((cell_far (p := ⟨gb126, _, none⟩) NB116_126.out _).trans (hHeld.2.2.2.2))))))))))⟩ (fun hHeld => ?_)
              clear hK K
              refine pure_ (i := 11) (N := some 12) (v := ?_) (a' := ?_) #[true, true, true, true, true, true, true, true, true, true, true, true] rfl rfl (any_of HT_.out (by kernel_rfl)) (fun _ _ _ h => h) (Or.inl ⟨by rfl, ?_⟩) ?_ ?_
              rotate_left
              ·
               intro w'
               go_simp
               with_reducible rfl
              rotate_left
              ·
               simp only [Act.put, List.setIfInBounds_toArray, List.set_cons_zero, List.set_cons_succ, i64_w, i32_w]
               rfl
              refine done_ (done_of HT_.out (by kernel_rfl)) ?_
              have hnb57 := NB112_116.out
              have hnc57 := NB116_112.out
              have hnb58 := NB112_126.out
              have hnc58 := NB126_112.out
              obtain ⟨hcz59_0, hcz59_1, hcz59_2, hcz59_3, hcz59_4, hfz59_0, hfz59_1, hfz59_2, hfz59_3, hfz59_4⟩ := all5 BK112.out
              try go_wp2
              refine bodyPost_ret (results_ct rfl _ _ gb112 45 #[.int .u8 0, .int .u8 0, .int .u8 0, .int .u8 0, .int .i64 0] (0, 0) _ rfl (by (with_reducible repeat (first | refine blk_drewN ?_ _ | refine blk_drew ?_ | refine blk_alloc ?_ _)); refine blk_put (cs := #[.int .u8 0, .int .u8 0, .int .u8 0, .int .u8 0, .int .i64 x113004_3]) ?_ 4 _ rfl; (with_reducible repeat (first | refine blk_drewN ?_ _ | refine blk_drew ?_ | refine blk_alloc ?_ _)); refine blk_put (cs := #[.int .u8 0, .int .u8 0, .int .u8 0, .int .u8 x113003_3, .int .i64 x113004_3]) ?_ 3 _ rfl; (with_reducible repeat (first | refine blk_drewN ?_ _ | refine blk_drew ?_ | refine blk_alloc ?_ _)); refine blk_put (cs := #[.int .u8 0, .int .u8 0, .int .u8 x113002_3, .int .u8 x113003_3, .int .i64 x113004_3]) ?_ 2 _ rfl; (with_reducible repeat (first | refine blk_drewN ?_ _ | refine blk_drew ?_ | refine blk_alloc ?_ _)); refine blk_put (cs := #[.int .u8 0, .int .u8 x113001_3, .int .u8 x113002_3, .int .u8 x113003_3, .int .i64 x113004_3]) ?_ 1 _ rfl; (with_reducible repeat (first | refine blk_drewN ?_ _ | refine blk_drew ?_ | refine blk_alloc ?_ _)); refine blk_put (cs := #[.int .u8 x113000_3, .int .u8 x113001_3, .int .u8 x113002_3, .int .u8 x113003_3, .int .i64 x113004_3]) ?_ 0 _ rfl; (with_reducible repeat (first | refine blk_drewN ?_ _ | refine blk_drew ?_ | refine blk_alloc ?_ _)); refine blk_far ?_ NB112_126.out _; (with_reducible repeat (first | refine blk_drewN ?_ _ | refine blk_drew ?_ | refine blk_alloc ?_ _)); refine blk_far ?_ NB112_126.out _; (with_reducible repeat (first | refine blk_drewN ?_ _ | refine blk_drew ?_ | refine blk_alloc ?_ _)); refine blk_far ?_ NB112_126.out _; (with_reducible repeat (first | refine blk_drewN ?_ _ | refine blk_drew ?_ | refine blk_alloc ?_ _)); refine blk_far ?_ NB112_126.out _; (with_reducible repeat (first | refine blk_drewN ?_ _ | refine blk_drew ?_ | refine blk_alloc ?_ _)); refine blk_far ?_ NB112_126.out _; (with_reducible repeat (first | refine blk_drewN ?_ _ | refine blk_drew ?_ | refine blk_alloc ?_ _)); exact BK112.out) Tryd.underlying45 rfl (by kernel_rfl)) rfl ?_
              exact ⟨by first | rfl | (simp [errW_none, errW_some] <;> rfl) | (simp only [← hji13]; first | rfl | (simp [errW_none, errW_some] <;> rfl)) | (simp [*, errW_none, errW_some] <;> rfl), by repeat (first | (with_reducible first | exact HB.out | apply below_alloc | apply pw_below_drewN | apply below_drew1 | refine below_set ?_ GE112.out | refine below_set ?_ GE116.out | refine below_set ?_ GE126.out) | exact HB.out)⟩
            ·
             rw [if_neg c17] at H
             exact absurd H (by simp)
           ·
            rw [if_neg c15] at H
            exact absurd H (by simp)
          ·
           rw [if_neg c14] at H
           exact absurd H (by simp)
         ·
          rw [if_neg c12] at H
          have c12b0 : decide (x8_3 < (t114.size : Int)) = false := decide_eq_false c12
          clear c12
          simp only [Option.some.injEq, Prod.mk.injEq] at H
          obtain ⟨rfl, rfl, rfl, rfl, rfl, rfl⟩ := H
          have hnb60 := NB116_112.out
          have hnc60 := NB112_116.out
          obtain ⟨hcz61_0, hcz61_1, hcz61_2, hcz61_3, hcz61_4, hfz61_0, hfz61_1, hfz61_2, hfz61_3, hfz61_4⟩ := all5 BK116.out
          obtain ⟨hcz62_0, hcz62_1, hcz62_2, hcz62_3, hcz62_4, hfz62_0, hfz62_1, hfz62_2, hfz62_3, hfz62_4⟩ := all5 BK112.out
          go_wp2
          refine bodyPost_ret (results_ct rfl _ _ gb112 45 #[.int .u8 x117000_3, .int .u8 x117001_3, .int .u8 x117002_3, .int .u8 x117003_3, .int .i64 x117004_3] (0, 0) _ rfl (by (with_reducible repeat (first | refine blk_drewN ?_ _ | refine blk_drew ?_ | refine blk_alloc ?_ _)); refine blk_put (cs := #[.int .u8 x117000_3, .int .u8 x117001_3, .int .u8 x117002_3, .int .u8 x117003_3, .int .i64 x113004_3]) ?_ 4 _ rfl; (with_reducible repeat (first | refine blk_drewN ?_ _ | refine blk_drew ?_ | refine blk_alloc ?_ _)); refine blk_put (cs := #[.int .u8 x117000_3, .int .u8 x117001_3, .int .u8 x117002_3, .int .u8 x113003_3, .int .i64 x113004_3]) ?_ 3 _ rfl; (with_reducible repeat (first | refine blk_drewN ?_ _ | refine blk_drew ?_ | refine blk_alloc ?_ _)); refine blk_put (cs := #[.int .u8 x117000_3, .int .u8 x117001_3, .int .u8 x113002_3, .int .u8 x113003_3, .int .i64 x113004_3]) ?_ 2 _ rfl; (with_reducible repeat (first | refine blk_drewN ?_ _ | refine blk_drew ?_ | refine blk_alloc ?_ _)); refine blk_put (cs := #[.int .u8 x117000_3, .int .u8 x113001_3, .int .u8 x113002_3, .int .u8 x113003_3, .int .i64 x113004_3]) ?_ 1 _ rfl; (with_reducible repeat (first | refine blk_drewN ?_ _ | refine blk_drew ?_ | refine blk_alloc ?_ _)); refine blk_put (cs := #[.int .u8 x113000_3, .int .u8 x113001_3, .int .u8 x113002_3, .int .u8 x113003_3, .int .i64 x113004_3]) ?_ 0 _ rfl; (with_reducible repeat (first | refine blk_drewN ?_ _ | refine blk_drew ?_ | refine blk_alloc ?_ _)); exact BK112.out) Tryd.underlying45 rfl (by kernel_rfl)) rfl ?_
          exact ⟨by first | rfl | (simp [errW_none, errW_some] <;> rfl) | (simp [*, errW_none, errW_some] <;> rfl), by repeat (first | (with_reducible first | exact HB.out | apply below_alloc | apply pw_below_drewN | apply below_drew1 | refine below_set ?_ GE112.out | refine below_set ?_ GE116.out) | exact HB.out)⟩
   ·
    rw [if_neg c3] at H
    have c3b0 : decide (x4_1 ≤ 15) = false := decide_eq_false c3
    clear c3
    simp only [Option.some.injEq, Prod.mk.injEq] at H
    obtain ⟨rfl, rfl, rfl, rfl, rfl, rfl⟩ := H
    obtain ⟨hcz63_0, hcz63_1, hcz63_2, hcz63_3, hcz63_4, hfz63_0, hfz63_1, hfz63_2, hfz63_3, hfz63_4⟩ := all5 BK112.out
    go_wp2
    refine bodyPost_ret (results_ct rfl _ _ gb112 45 #[.int .u8 0, .int .u8 0, .int .u8 0, .int .u8 0, .int .i64 0] (0, 0) _ rfl (by (with_reducible repeat (first | refine blk_drewN ?_ _ | refine blk_drew ?_ | refine blk_alloc ?_ _)); refine blk_put (cs := #[.int .u8 0, .int .u8 0, .int .u8 0, .int .u8 0, .int .i64 x113004_1]) ?_ 4 _ rfl; (with_reducible repeat (first | refine blk_drewN ?_ _ | refine blk_drew ?_ | refine blk_alloc ?_ _)); refine blk_put (cs := #[.int .u8 0, .int .u8 0, .int .u8 0, .int .u8 x113003_1, .int .i64 x113004_1]) ?_ 3 _ rfl; (with_reducible repeat (first | refine blk_drewN ?_ _ | refine blk_drew ?_ | refine blk_alloc ?_ _)); refine blk_put (cs := #[.int .u8 0, .int .u8 0, .int .u8 x113002_1, .int .u8 x113003_1, .int .i64 x113004_1]) ?_ 2 _ rfl; (with_reducible repeat (first | refine blk_drewN ?_ _ | refine blk_drew ?_ | refine blk_alloc ?_ _)); refine blk_put (cs := #[.int .u8 0, .int .u8 x113001_1, .int .u8 x113002_1, .int .u8 x113003_1, .int .i64 x113004_1]) ?_ 1 _ rfl; (with_reducible repeat (first | refine blk_drewN ?_ _ | refine blk_drew ?_ | refine blk_alloc ?_ _)); refine blk_put (cs := #[.int .u8 x113000_1, .int .u8 x113001_1, .int .u8 x113002_1, .int .u8 x113003_1, .int .i64 x113004_1]) ?_ 0 _ rfl; (with_reducible repeat (first | refine blk_drewN ?_ _ | refine blk_drew ?_ | refine blk_alloc ?_ _)); exact BK112.out) Tryd.underlying45 rfl (by kernel_rfl)) rfl ?_
    exact ⟨by first | rfl | (simp [errW_none, errW_some] <;> rfl) | (simp [*, errW_none, errW_some] <;> rfl), by repeat (first | (with_reducible first | exact HB.out | apply below_alloc | apply pw_below_drewN | apply below_drew1 | refine below_set ?_ GE112.out) | exact HB.out)⟩

end Go.Proofs.YtgfnpdfhdgenbaaDoor.P
