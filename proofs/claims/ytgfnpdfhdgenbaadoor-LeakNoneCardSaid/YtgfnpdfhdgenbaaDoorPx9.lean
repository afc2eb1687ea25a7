/- FUNCTIONS OF THE PROGRAM AS LEAN FUNCTIONS, AND THAT THE PROGRAM's CALLS ANSWER AS THEY DO: written by a program of this session. -/
import Derived.Test.YtgfnpdfhdgenbaaDoorPx0
import Derived.Test.YtgfnpdfhdgenbaaDoorPx2
import Derived.Test.YtgfnpdfhdgenbaaDoorPx6
import Derived.Test.YtgfnpdfhdgenbaaDoorPx8
import Derived.Test.YtgfnpdfhdgenbaaDoorGiven
namespace Go.Proofs.YtgfnpdfhdgenbaaDoor.P
open Go.RowKit Go.Proofs.YtgfnpdfhdgenbaaDoorW.PrintWords Go.Proofs.YtgfnpdfhdgenbaaDoorW.PrintLast Go.Proofs.YtgfnpdfhdgenbaaDoorW.PrintMore
attribute [local go_sem] max2_int min2_int max_two min_two max_three min_three max_four min_four   -- for this text's walks alone
set_option linter.unusedVariables false
set_option linter.unusedSimpArgs false

/-! ### lockstitchref05_Check: function 14 -/
mutual
def lockstitchref05_Check.j0 : Nat → Bool → List ByteArray → ByteArray → ByteArray → List (S45) → Option (Int × Int)
 | 0, _, _, _, _, _ => none
 | k + 1, x32, x188000, x188001, x188002, x188003 => if x32 = true then (some ((-1), 5)) else (if (x188003.length : Int) < 1 then (lockstitchref05_Check.j1 k true x188000 x188001 x188002 x188003) else (lockstitchref05_Check.j1 k (decide ((x188003.length : Int) > 200)) x188000 x188001 x188002 x188003))
def lockstitchref05_Check.j1 : Nat → Bool → List ByteArray → ByteArray → ByteArray → List (S45) → Option (Int × Int)
 | 0, _, _, _, _, _ => none
 | k + 1, x42, x188000, x188001, x188002, x188003 => if x42 = true then (some ((-1), 3)) else (lockstitchref05_Check.l0 k 0 x188000 x188001 x188002 x188003)
def lockstitchref05_Check.l0 : Nat → Int → List ByteArray → ByteArray → ByteArray → List (S45) → Option (Int × Int)
 | 0, _, _, _, _, _ => none
 | k + 1, x4, x188000, x188001, x188002, x188003 => if x4 < (x188003.length : Int) then (if 0 ≤ x4 then (if ((rd_T45 x188003 x4).f0) = 3 then (lockstitchref05_Check.j3 k x4 true x188000 x188001 x188002 x188003 ((rd_T45 x188003 x4).f0) ((rd_T45 x188003 x4).f1) ((rd_T45 x188003 x4).f2) ((rd_T45 x188003 x4).f3) ((rd_T45 x188003 x4).f4)) else (lockstitchref05_Check.j3 k x4 (((rd_T45 x188003 x4).f0) == 4) x188000 x188001 x188002 x188003 ((rd_T45 x188003 x4).f0) ((rd_T45 x188003 x4).f1) ((rd_T45 x188003 x4).f2) ((rd_T45 x188003 x4).f3) ((rd_T45 x188003 x4).f4))) else (none)) else (some ((-1), 0))
def lockstitchref05_Check.j3 : Nat → Int → Bool → List ByteArray → ByteArray → ByteArray → List (S45) → Int → Int → Int → Int → Int → Option (Int × Int)
 | 0, _, _, _, _, _, _, _, _, _, _, _ => none
 | k + 1, x4, x6, x188000, x188001, x188002, x188003, x192000, x192001, x192002, x192003, x192004 => (lockstitchref04_Right.f k x192000 x192001 x192002 x192003 x192004).bind fun t192 => (if t192 = true then (if x6 = true then (if x192004 < 0 then (lockstitchref05_Check.j4 k x4 true x188000 x188001 x188002 x188003 x192000 x192001 x192002 x192003 x192004) else (lockstitchref05_Check.j4 k x4 (decide (x192004 > (x188003.length : Int))) x188000 x188001 x188002 x188003 x192000 x192001 x192002 x192003 x192004)) else (lockstitchref05_Check.j4 k x4 false x188000 x188001 x188002 x188003 x192000 x192001 x192002 x192003 x192004)) else (some (x4, 4)))
def lockstitchref05_Check.j4 : Nat → Int → Bool → List ByteArray → ByteArray → ByteArray → List (S45) → Int → Int → Int → Int → Int → Option (Int × Int)
 | 0, _, _, _, _, _, _, _, _, _, _, _ => none
 | k + 1, x4, x68, x188000, x188001, x188002, x188003, x192000, x192001, x192002, x192003, x192004 => if x68 = true then (some (x4, 12)) else ((lockstitchref05_ints.f k x192000 x192001 x192002 x192003 x192004).bind fun t193 => (if t193 = true then ((lockstitchref05_kinds.f k x188000 x188001 x188002 x188003 x192000 x192001 x192002 x192003 x192004).bind fun t194 => (if t194 = true then (lockstitchref05_Check.l0 k (wrap64 (x4 + 1)) x188000 x188001 x188002 x188003) else (some (x4, 5)))) else (some (x4, 5))))
end
def lockstitchref05_Check.f (k : Nat) (l0_0 : List ByteArray) (a0_1 : ByteArray) (a0_2 : ByteArray) (l0_3 : List (S45)) : Option (Int × Int) := (lockstitchref03_Refs.f k l0_0 a0_1).bind fun t188 => (if t188 = true then ((lockstitchref03_Refs.f k l0_0 a0_2).bind fun t189 => (if t189 = true then (if (a0_1.size : Int) > 8 then (lockstitchref05_Check.j0 k true l0_0 a0_1 a0_2 l0_3) else (lockstitchref05_Check.j0 k (decide ((a0_2.size : Int) > 4)) l0_0 a0_1 a0_2 l0_3)) else (lockstitchref05_Check.j0 k true l0_0 a0_1 a0_2 l0_3))) else (lockstitchref05_Check.j0 k true l0_0 a0_1 a0_2 l0_3))
theorem lockstitchref05_Check.mono_l : ∀ k, (∀ y0 y1 y2 y3 y4, LeO (lockstitchref05_Check.j0 k y0 y1 y2 y3 y4) (lockstitchref05_Check.j0 (k + 1) y0 y1 y2 y3 y4)) ∧ (∀ y0 y1 y2 y3 y4, LeO (lockstitchref05_Check.j1 k y0 y1 y2 y3 y4) (lockstitchref05_Check.j1 (k + 1) y0 y1 y2 y3 y4)) ∧ (∀ y0 y1 y2 y3 y4, LeO (lockstitchref05_Check.l0 k y0 y1 y2 y3 y4) (lockstitchref05_Check.l0 (k + 1) y0 y1 y2 y3 y4)) ∧ (∀ y0 y1 y2 y3 y4 y5 y6 y7 y8 y9 y10, LeO (lockstitchref05_Check.j3 k y0 y1 y2 y3 y4 y5 y6 y7 y8 y9 y10) (lockstitchref05_Check.j3 (k + 1) y0 y1 y2 y3 y4 y5 y6 y7 y8 y9 y10)) ∧ (∀ y0 y1 y2 y3 y4 y5 y6 y7 y8 y9 y10, LeO (lockstitchref05_Check.j4 k y0 y1 y2 y3 y4 y5 y6 y7 y8 y9 y10) (lockstitchref05_Check.j4 (k + 1) y0 y1 y2 y3 y4 y5 y6 y7 y8 y9 y10))
 | 0 => ⟨fun _ _ _ _ _ r h => by simp [lockstitchref05_Check.j0] at h, fun _ _ _ _ _ r h => by simp [lockstitchref05_Check.j1] at h, fun _ _ _ _ _ r h => by simp [lockstitchref05_Check.l0] at h, fun _ _ _ _ _ _ _ _ _ _ _ r h => by simp [lockstitchref05_Check.j3] at h, fun _ _ _ _ _ _ _ _ _ _ _ r h => by simp [lockstitchref05_Check.j4] at h⟩
 | k + 1 => by
  obtain ⟨ih0, ih1, ih2, ih3, ih4⟩ := lockstitchref05_Check.mono_l k
  refine ⟨?_, ?_, ?_, ?_, ?_⟩
  ·
   intro y0 y1 y2 y3 y4
   unfold lockstitchref05_Check.j0
   repeat' with_reducible first | apply ih0 | apply ih1 | apply ih2 | apply ih3 | apply ih4 | apply lockstitchref03_Refs.mono | apply lockstitchref04_Right.mono | apply lockstitchref05_ints.mono | apply lockstitchref05_kinds.mono | exact LeO.refl _ | exact LeO.none _ | refine LeO.ite ?_ ?_ | refine LeO.bind ?_ (fun _ => ?_)
  ·
   intro y0 y1 y2 y3 y4
   unfold lockstitchref05_Check.j1
   repeat' with_reducible first | apply ih0 | apply ih1 | apply ih2 | apply ih3 | apply ih4 | apply lockstitchref03_Refs.mono | apply lockstitchref04_Right.mono | apply lockstitchref05_ints.mono | apply lockstitchref05_kinds.mono | exact LeO.refl _ | exact LeO.none _ | refine LeO.ite ?_ ?_ | refine LeO.bind ?_ (fun _ => ?_)
  ·
   intro y0 y1 y2 y3 y4
   unfold lockstitchref05_Check.l0
   repeat' with_reducible first | apply ih0 | apply ih1 | apply ih2 | apply ih3 | apply ih4 | apply lockstitchref03_Refs.mono | apply lockstitchref04_Right.mono | apply lockstitchref05_ints.mono | apply lockstitchref05_kinds.mono | exact LeO.refl _ | exact LeO.none _ | refine LeO.ite ?_ ?_ | refine LeO.bind ?_ (fun _ => ?_)
  ·
   intro y0 y1 y2 y3 y4 y5 y6 y7 y8 y9 y10
   unfold lockstitchref05_Check.j3
   repeat' with_reducible first | apply ih0 | apply ih1 | apply ih2 | apply ih3 | apply ih4 | apply lockstitchref03_Refs.mono | apply lockstitchref04_Right.mono | apply lockstitchref05_ints.mono | apply lockstitchref05_kinds.mono | exact LeO.refl _ | exact LeO.none _ | refine LeO.ite ?_ ?_ | refine LeO.bind ?_ (fun _ => ?_)
  ·
   intro y0 y1 y2 y3 y4 y5 y6 y7 y8 y9 y10
   unfold lockstitchref05_Check.j4
   repeat' with_reducible first | apply ih0 | apply ih1 | apply ih2 | apply ih3 | apply ih4 | apply lockstitchref03_Refs.mono | apply lockstitchref04_Right.mono | apply lockstitchref05_ints.mono | apply lockstitchref05_kinds.mono | exact LeO.refl _ | exact LeO.none _ | refine LeO.ite ?_ ?_ | refine LeO.bind ?_ (fun _ => ?_)
theorem lockstitchref05_Check.mono : ∀ a0 a1 a2 a3 k, LeO (lockstitchref05_Check.f k a0 a1 a2 a3) (lockstitchref05_Check.f (k + 1) a0 a1 a2 a3) := by
 intro a0 a1 a2 a3 k
 obtain ⟨ih0, ih1, ih2, ih3, ih4⟩ := lockstitchref05_Check.mono_l k
 unfold lockstitchref05_Check.f
 repeat' with_reducible first | apply ih0 | apply ih1 | apply ih2 | apply ih3 | apply ih4 | apply lockstitchref03_Refs.mono | apply lockstitchref04_Right.mono | apply lockstitchref05_ints.mono | apply lockstitchref05_kinds.mono | exact LeO.refl _ | exact LeO.none _ | refine LeO.ite ?_ ?_ | refine LeO.bind ?_ (fun _ => ?_)
set_option maxHeartbeats 8000000 in
set_option maxRecDepth 100000 in
theorem lockstitchref05_Check.calls (k : Nat) (A0_0 : Option Addr) (c0_0 : Nat) (l0_0 : List ByteArray) (a0_1 : ByteArray) (a0_2 : ByteArray) (A0_3 : Option Addr) (c0_3 : Nat) (l0_3 : List (S45)) (r1 : Int) (r2 : Int) (w : World) (hr0_0 : Kd.C Kd.string w A0_0 l0_0.length l0_0) (hc0_0 : l0_0.length ≤ c0_0) (hr0_3 : Kd.C k45 w A0_3 l0_3.length l0_3) (hc0_3 : l0_3.length ≤ c0_3) (hrT : Kd.C tabK w tabA tabL.length tabL) (h : lockstitchref05_Check.f k l0_0 a0_1 a0_2 l0_3 = some (r1, r2)) :
  Calls Tryd.prog 14 #[.agg #[.slice A0_0 l0_0.length c0_0, .string a0_1, .string a0_2, .slice A0_3 l0_3.length c0_3]] w fun e w' => e = .returned (.tuple #[.int .i64 r1, .int .i64 r2]) ∧ Below w.heap.size w w' := by
 have hu25 := Tryd.underlying25
 have hu45 := Tryd.underlying45
 have HR0_0 := Aside0.mk hr0_0
 have HC0_0 := Aside0.mk hc0_0
 clear hr0_0 hc0_0
 have HR0_3 := Aside0.mk hr0_3
 have HC0_3 := Aside0.mk hc0_3
 clear hr0_3 hc0_3
 have HRT := Aside0.mk hrT
 clear hrT
 have HB := Aside0.mk (Below.refl w.heap.size w)
 have H : ((lockstitchref03_Refs.f k l0_0 a0_1).bind fun t188 => (if t188 = true then ((lockstitchref03_Refs.f k l0_0 a0_2).bind fun t189 => (if t189 = true then (if (a0_1.size : Int) > 8 then (lockstitchref05_Check.j0 k true l0_0 a0_1 a0_2 l0_3) else (lockstitchref05_Check.j0 k (decide ((a0_2.size : Int) > 4)) l0_0 a0_1 a0_2 l0_3)) else (lockstitchref05_Check.j0 k true l0_0 a0_1 a0_2 l0_3))) else (lockstitchref05_Check.j0 k true l0_0 a0_1 a0_2 l0_3))) = some (r1, r2) := h
 clear h
 have HC2 := Aside0.mk H
 clear H
 go_enter Tryd.func14, Tryd.ntmps14
 go_upto_region 1 with (first | ((with_reducible refine gate_dst (N := 1) rfl ?_); (try (refine gate_guard (by rfl) ?_; dsimp only)); refine box_event ?hg (N := 1) ?hd (cs := #[.slice A0_0 l0_0.length c0_0, .string a0_1, .string a0_2, .slice A0_3 l0_3.length c0_3]) (t := 25) ?hr ?_; (case hd => rfl); (case hg => rfl); (case hr => first | (go_simp; done) | (go_simp; rfl)); intro gb187 hg w3 hbox hb; have n0_ := Aside0.mk (below_step (by repeat (first | (with_reducible first | exact HB.out | apply below_alloc | apply pw_below_drewN | apply below_drew1) | exact HB.out)) hb); have n1_ := Aside0.mk (hbox); have n2_ := Aside0.mk ((by rw [hg]; exact (below_size (by repeat (first | (with_reducible first | exact HB.out | apply below_alloc | apply pw_below_drewN | apply below_drew1) | exact HB.out))) : w.heap.size ≤ gb187)); have n3_ := n2_; clear HB; have HB := n0_; have BK187 := n1_; have GW187 := n2_; have GE187 := n3_; clear n0_ n1_ n2_ n3_; clear hb hbox hg))
 (try simp only [Act.put, List.setIfInBounds_toArray, List.set_cons_zero, List.set_cons_succ])
 go_cut [32] (fun v32 wc => ∃ (kq : Nat) (x32_1 : Bool), v32 = .bool x32_1 ∧ Aside0 (lockstitchref05_Check.j0 kq x32_1 l0_0 a0_1 a0_2 l0_3 = some (r1, r2)) ∧ Aside0 (kq ≤ k) ∧ Aside0 (wc.heap[gb187]? = some (.cells #[(.slice A0_0 l0_0.length c0_0), .string a0_1, .string a0_2, (.slice A0_3 l0_3.length c0_3)] 25 (0, 0))) ∧ Aside0 (Below w.heap.size w wc))
 case first =>
  have H := HC2.out
  clear HC2
  replace H := Option.bind_eq_some_iff.mp H
  obtain ⟨t188, A40, H⟩ := H
  replace H : (if t188 = true then ((lockstitchref03_Refs.f k l0_0 a0_2).bind fun t189 => (if t189 = true then (if (a0_1.size : Int) > 8 then (lockstitchref05_Check.j0 k true l0_0 a0_1 a0_2 l0_3) else (lockstitchref05_Check.j0 k (decide ((a0_2.size : Int) > 4)) l0_0 a0_1 a0_2 l0_3)) else (lockstitchref05_Check.j0 k true l0_0 a0_1 a0_2 l0_3))) else (lockstitchref05_Check.j0 k true l0_0 a0_1 a0_2 l0_3)) = some (r1, r2) := H
  have A4 := Aside0.mk A40
  clear A40
  by_cases c5 : t188 = true
  ·
   subst c5
   have H1 : ((lockstitchref03_Refs.f k l0_0 a0_2).bind fun t189 => (if t189 = true then (if (a0_1.size : Int) > 8 then (lockstitchref05_Check.j0 k true l0_0 a0_1 a0_2 l0_3) else (lockstitchref05_Check.j0 k (decide ((a0_2.size : Int) > 4)) l0_0 a0_1 a0_2 l0_3)) else (lockstitchref05_Check.j0 k true l0_0 a0_1 a0_2 l0_3))) = some (r1, r2) := by rw [if_pos rfl] at H; exact H
   clear H
   have H := H1
   clear H1
   replace H := Option.bind_eq_some_iff.mp H
   obtain ⟨t189, A60, H⟩ := H
   replace H : (if t189 = true then (if (a0_1.size : Int) > 8 then (lockstitchref05_Check.j0 k true l0_0 a0_1 a0_2 l0_3) else (lockstitchref05_Check.j0 k (decide ((a0_2.size : Int) > 4)) l0_0 a0_1 a0_2 l0_3)) else (lockstitchref05_Check.j0 k true l0_0 a0_1 a0_2 l0_3)) = some (r1, r2) := H
   have A6 := Aside0.mk A60
   clear A60
   by_cases c7 : t189 = true
   ·
    subst c7
    have H1 : (if (a0_1.size : Int) > 8 then (lockstitchref05_Check.j0 k true l0_0 a0_1 a0_2 l0_3) else (lockstitchref05_Check.j0 k (decide ((a0_2.size : Int) > 4)) l0_0 a0_1 a0_2 l0_3)) = some (r1, r2) := by rw [if_pos rfl] at H; exact H
    clear H
    have H := H1
    clear H1
    by_cases c8 : (a0_1.size : Int) > 8
    ·
     rw [if_pos c8] at H
     have c8b0 : decide (8 < (a0_1.size : Int)) = true := decide_eq_true c8
     have c8b1 : decide (8 < a0_1.size) = true := decide_eq_true (by omega)
     clear c8
     (first | rw [c8b0] | (simp only [i64_w, i32_w]; rw [c8b0]) | skip)
     have H' := Aside0.mk H
     clear H
     obtain ⟨hcz9_0, hcz9_1, hcz9_2, hcz9_3, hfz9_0, hfz9_1, hfz9_2, hfz9_3⟩ := all4 BK187.out
     go_wp2_with (first | ((with_reducible refine gate_callee (f := 22) rfl ?_); refine goesL_ (some 11) rfl rfl Tryd.func22 (by kernel_rfl) rfl #[.slice A0_0 l0_0.length c0_0, .string a0_1] rfl (by (try simp only [List.map_toArray, List.map_cons, List.map_nil]); first | done | rfl | (simp only [List.length_drop, List.length_take]; rfl)) ?_; (with_reducible refine (lockstitchref03_Refs.calls k _ _ l0_0 a0_1 true _ ?side1 ?side2 A4.out).mono ?_); (case side1 => repeat (first | exact (Kd.C_below HR0_0.out HB.out) | (with_reducible refine Kd.C_alloc ?_ _) | (with_reducible refine Kd.C_drewN ?_ _) | (with_reducible refine Kd.C_drew ?_))); (case side2 => exact HC0_0.out); rintro e w' ⟨rfl, ⟨nd, rfl⟩⟩; refine ⟨_, rfl, ?_⟩) | (go_at_call 22; (with_reducible refine (lockstitchref03_Refs.calls k _ _ l0_0 a0_2 true _ ?side1 ?side2 A6.out).mono ?_); (case side1 => repeat (first | exact (Kd.C_below HR0_0.out (by repeat (first | (with_reducible first | exact HB.out | apply below_alloc | apply pw_below_drewN | apply below_drew1 | refine below_set ?_ GE187.out) | exact HB.out))) | (with_reducible refine Kd.C_alloc ?_ _) | (with_reducible refine Kd.C_drewN ?_ _) | (with_reducible refine Kd.C_drew ?_))); (case side2 => exact HC0_0.out); rintro e w' ⟨rfl, ⟨nd, rfl⟩⟩))
     go_meet
     case rel => exact ⟨_, (true), (by first | rfl | (simp; done) | (simp [*]; done)), H', ⟨by first | omega | exact Nat.le_refl _⟩, ⟨by (with_reducible repeat (first | refine blk_drewN ?_ _ | refine blk_drew ?_ | refine blk_alloc ?_ _)); exact BK187.out⟩, ⟨by repeat (first | (with_reducible first | exact HB.out | apply below_alloc | apply pw_below_drewN | apply below_drew1 | refine below_set ?_ GE187.out) | exact HB.out)⟩⟩
    ·
     rw [if_neg c8] at H
     have c8b0 : decide (8 < (a0_1.size : Int)) = false := decide_eq_false c8
     have c8b1 : decide (8 < a0_1.size) = false := decide_eq_false (by omega)
     clear c8
     (first | rw [c8b0] | (simp only [i64_w, i32_w]; rw [c8b0]) | skip)
     have H' := Aside0.mk H
     clear H
     obtain ⟨hcz10_0, hcz10_1, hcz10_2, hcz10_3, hfz10_0, hfz10_1, hfz10_2, hfz10_3⟩ := all4 BK187.out
     go_wp2_with (first | ((with_reducible refine gate_callee (f := 22) rfl ?_); refine goesL_ (some 11) rfl rfl Tryd.func22 (by kernel_rfl) rfl #[.slice A0_0 l0_0.length c0_0, .string a0_1] rfl (by (try simp only [List.map_toArray, List.map_cons, List.map_nil]); first | done | rfl | (simp only [List.length_drop, List.length_take]; rfl)) ?_; (with_reducible refine (lockstitchref03_Refs.calls k _ _ l0_0 a0_1 true _ ?side1 ?side2 A4.out).mono ?_); (case side1 => repeat (first | exact (Kd.C_below HR0_0.out HB.out) | (with_reducible refine Kd.C_alloc ?_ _) | (with_reducible refine Kd.C_drewN ?_ _) | (with_reducible refine Kd.C_drew ?_))); (case side2 => exact HC0_0.out); rintro e w' ⟨rfl, ⟨nd, rfl⟩⟩; refine ⟨_, rfl, ?_⟩) | (go_at_call 22; (with_reducible refine (lockstitchref03_Refs.calls k _ _ l0_0 a0_2 true _ ?side1 ?side2 A6.out).mono ?_); (case side1 => repeat (first | exact (Kd.C_below HR0_0.out (by repeat (first | (with_reducible first | exact HB.out | apply below_alloc | apply pw_below_drewN | apply below_drew1 | refine below_set ?_ GE187.out) | exact HB.out))) | (with_reducible refine Kd.C_alloc ?_ _) | (with_reducible refine Kd.C_drewN ?_ _) | (with_reducible refine Kd.C_drew ?_))); (case side2 => exact HC0_0.out); rintro e w' ⟨rfl, ⟨nd, rfl⟩⟩))
     go_meet
     case rel => exact ⟨_, (decide ((a0_2.size : Int) > 4)), (by first | rfl | (simp; done) | (simp [*]; done)), H', ⟨by first | omega | exact Nat.le_refl _⟩, ⟨by (with_reducible repeat (first | refine blk_drewN ?_ _ | refine blk_drew ?_ | refine blk_alloc ?_ _)); exact BK187.out⟩, ⟨by repeat (first | (with_reducible first | exact HB.out | apply below_alloc | apply pw_below_drewN | apply below_drew1 | refine below_set ?_ GE187.out) | exact HB.out)⟩⟩
   ·
    replace c7 := Bool.eq_false_iff.mpr c7
    subst c7
    have H1 : (lockstitchref05_Check.j0 k true l0_0 a0_1 a0_2 l0_3) = some (r1, r2) := by rw [if_neg (show ¬ (false = true) by decide)] at H; exact H
    clear H
    have H := H1
    clear H1
    have H' := Aside0.mk H
    clear H
    obtain ⟨hcz11_0, hcz11_1, hcz11_2, hcz11_3, hfz11_0, hfz11_1, hfz11_2, hfz11_3⟩ := all4 BK187.out
    go_wp2_with (first | ((with_reducible refine gate_callee (f := 22) rfl ?_); refine goesL_ (some 11) rfl rfl Tryd.func22 (by kernel_rfl) rfl #[.slice A0_0 l0_0.length c0_0, .string a0_1] rfl (by (try simp only [List.map_toArray, List.map_cons, List.map_nil]); first | done | rfl | (simp only [List.length_drop, List.length_take]; rfl)) ?_; (with_reducible refine (lockstitchref03_Refs.calls k _ _ l0_0 a0_1 true _ ?side1 ?side2 A4.out).mono ?_); (case side1 => repeat (first | exact (Kd.C_below HR0_0.out HB.out) | (with_reducible refine Kd.C_alloc ?_ _) | (with_reducible refine Kd.C_drewN ?_ _) | (with_reducible refine Kd.C_drew ?_))); (case side2 => exact HC0_0.out); rintro e w' ⟨rfl, ⟨nd, rfl⟩⟩; refine ⟨_, rfl, ?_⟩) | (go_at_call 22; (with_reducible refine (lockstitchref03_Refs.calls k _ _ l0_0 a0_2 false _ ?side1 ?side2 A6.out).mono ?_); (case side1 => repeat (first | exact (Kd.C_below HR0_0.out (by repeat (first | (with_reducible first | exact HB.out | apply below_alloc | apply pw_below_drewN | apply below_drew1 | refine below_set ?_ GE187.out) | exact HB.out))) | (with_reducible refine Kd.C_alloc ?_ _) | (with_reducible refine Kd.C_drewN ?_ _) | (with_reducible refine Kd.C_drew ?_))); (case side2 => exact HC0_0.out); rintro e w' ⟨rfl, ⟨nd, rfl⟩⟩))
    go_meet
    case rel => exact ⟨_, (true), (by first | rfl | (simp; done) | (simp [*]; done)), H', ⟨by first | omega | exact Nat.le_refl _⟩, ⟨by (with_reducible repeat (first | refine blk_drewN ?_ _ | refine blk_drew ?_ | refine blk_alloc ?_ _)); exact BK187.out⟩, ⟨by repeat (first | (with_reducible first | exact HB.out | apply below_alloc | apply pw_below_drewN | apply below_drew1 | refine below_set ?_ GE187.out) | exact HB.out)⟩⟩
  ·
   replace c5 := Bool.eq_false_iff.mpr c5
   subst c5
   have H1 : (lockstitchref05_Check.j0 k true l0_0 a0_1 a0_2 l0_3) = some (r1, r2) := by rw [if_neg (show ¬ (false = true) by decide)] at H; exact H
   clear H
   have H := H1
   clear H1
   have H' := Aside0.mk H
   clear H
   obtain ⟨hcz12_0, hcz12_1, hcz12_2, hcz12_3, hfz12_0, hfz12_1, hfz12_2, hfz12_3⟩ := all4 BK187.out
   go_wp2_with (first | ((with_reducible refine gate_callee (f := 22) rfl ?_); refine goesL_ (some 11) rfl rfl Tryd.func22 (by kernel_rfl) rfl #[.slice A0_0 l0_0.length c0_0, .string a0_1] rfl (by (try simp only [List.map_toArray, List.map_cons, List.map_nil]); first | done | rfl | (simp only [List.length_drop, List.length_take]; rfl)) ?_; (with_reducible refine (lockstitchref03_Refs.calls k _ _ l0_0 a0_1 false _ ?side1 ?side2 A4.out).mono ?_); (case side1 => repeat (first | exact (Kd.C_below HR0_0.out HB.out) | (with_reducible refine Kd.C_alloc ?_ _) | (with_reducible refine Kd.C_drewN ?_ _) | (with_reducible refine Kd.C_drew ?_))); (case side2 => exact HC0_0.out); rintro e w' ⟨rfl, ⟨nd, rfl⟩⟩; refine ⟨_, rfl, ?_⟩))
   go_meet
   case rel => exact ⟨_, (true), (by first | rfl | (simp; done) | (simp [*]; done)), H', ⟨by first | omega | exact Nat.le_refl _⟩, ⟨by (with_reducible repeat (first | refine blk_drewN ?_ _ | refine blk_drew ?_ | refine blk_alloc ?_ _)); exact BK187.out⟩, ⟨by repeat (first | (with_reducible first | exact HB.out | apply below_alloc | apply pw_below_drewN | apply below_drew1 | refine below_set ?_ GE187.out) | exact HB.out)⟩⟩
 case rest =>
  clear HC2
  obtain ⟨kq, x32_1, rfl, HA, HJ1, BK187, HB⟩ := hcut
  cases kq with
  | zero => exact absurd HA.out (by simp [lockstitchref05_Check.j0])
  | succ kj1 =>
   have H := HA.out
   clear HA
   simp only [lockstitchref05_Check.j0] at H
   by_cases c13 : x32_1 = true
   ·
    subst c13
    have H1 : (some ((-1), 5)) = some (r1, r2) := by rw [if_pos rfl] at H; exact H
    clear H
    have H := H1
    clear H1
    simp only [Option.some.injEq, Prod.mk.injEq] at H
    obtain ⟨rfl, rfl⟩ := H
    go_wp2
    go_ret2
    exact ⟨by first | rfl | (simp [errW_none, errW_some] <;> rfl) | (simp [*, errW_none, errW_some] <;> rfl), by repeat (first | (with_reducible first | exact HB.out | apply below_alloc | apply pw_below_drewN | apply below_drew1 | refine below_set ?_ GE187.out) | exact HB.out)⟩
   ·
    replace c13 := Bool.eq_false_iff.mpr c13
    subst c13
    have H1 : (if (l0_3.length : Int) < 1 then (lockstitchref05_Check.j1 kj1 true l0_0 a0_1 a0_2 l0_3) else (lockstitchref05_Check.j1 kj1 (decide ((l0_3.length : Int) > 200)) l0_0 a0_1 a0_2 l0_3)) = some (r1, r2) := by rw [if_neg (show ¬ (false = true) by decide)] at H; exact H
    clear H
    have H := H1
    clear H1
    have HC14 := Aside0.mk H
    clear H
    go_upto_region 3 with (fail)
    go_cut [42] (fun v42 wc => ∃ (kq : Nat) (x42_13 : Bool), v42 = .bool x42_13 ∧ Aside0 (lockstitchref05_Check.j1 kq x42_13 l0_0 a0_1 a0_2 l0_3 = some (r1, r2)) ∧ Aside0 (kq ≤ kj1) ∧ Aside0 (wc.heap[gb187]? = some (.cells #[(.slice A0_0 l0_0.length c0_0), .string a0_1, .string a0_2, (.slice A0_3 l0_3.length c0_3)] 25 (0, 0))) ∧ Aside0 (Below w.heap.size w wc))
    case first =>
     have H := HC14.out
     clear HC14
     by_cases c15 : (l0_3.length : Int) < 1
     ·
      rw [if_pos c15] at H
      have c15b0 : decide ((l0_3.length : Int) < 1) = true := decide_eq_true c15
      have c15b1 : decide (l0_3.length < 1) = true := decide_eq_true (by omega)
      clear c15
      (first | rw [c15b0] | (simp only [i64_w, i32_w]; rw [c15b0]) | skip)
      have H' := Aside0.mk H
      clear H
      obtain ⟨hcz16_0, hcz16_1, hcz16_2, hcz16_3, hfz16_0, hfz16_1, hfz16_2, hfz16_3⟩ := all4 BK187.out
      go_wp2
      go_meet
      case rel => exact ⟨_, (true), (by first | rfl | (simp; done) | (simp [*]; done)), H', ⟨by have := HJ1.out; first | omega | exact Nat.le_refl _⟩, ⟨by (with_reducible repeat (first | refine blk_drewN ?_ _ | refine blk_drew ?_ | refine blk_alloc ?_ _)); exact BK187.out⟩, ⟨by repeat (first | (with_reducible first | exact HB.out | apply below_alloc | apply pw_below_drewN | apply below_drew1 | refine below_set ?_ GE187.out) | exact HB.out)⟩⟩
     ·
      rw [if_neg c15] at H
      have c15b0 : decide ((l0_3.length : Int) < 1) = false := decide_eq_false c15
      have c15b1 : decide (l0_3.length < 1) = false := decide_eq_false (by omega)
      clear c15
      (first | rw [c15b0] | (simp only [i64_w, i32_w]; rw [c15b0]) | skip)
      have H' := Aside0.mk H
      clear H
      obtain ⟨hcz17_0, hcz17_1, hcz17_2, hcz17_3, hfz17_0, hfz17_1, hfz17_2, hfz17_3⟩ := all4 BK187.out
      go_wp2
      go_meet
      case rel => exact ⟨_, (decide ((l0_3.length : Int) > 200)), (by first | rfl | (simp; done) | (simp [*]; done)), H', ⟨by have := HJ1.out; first | omega | exact Nat.le_refl _⟩, ⟨by (with_reducible repeat (first | refine blk_drewN ?_ _ | refine blk_drew ?_ | refine blk_alloc ?_ _)); exact BK187.out⟩, ⟨by repeat (first | (with_reducible first | exact HB.out | apply below_alloc | apply pw_below_drewN | apply below_drew1 | refine below_set ?_ GE187.out) | exact HB.out)⟩⟩
    case rest =>
     clear HC14
     obtain ⟨kq, x42_13, rfl, HA, HJ13, BK187, HB⟩ := hcut
     cases kq with
     | zero => exact absurd HA.out (by simp [lockstitchref05_Check.j1])
     | succ kj13 =>
      have H := HA.out
      clear HA
      simp only [lockstitchref05_Check.j1] at H
      by_cases c18 : x42_13 = true
      ·
       subst c18
       have H1 : (some ((-1), 3)) = some (r1, r2) := by rw [if_pos rfl] at H; exact H
       clear H
       have H := H1
       clear H1
       simp only [Option.some.injEq, Prod.mk.injEq] at H
       obtain ⟨rfl, rfl⟩ := H
       go_wp2
       go_ret2
       exact ⟨by first | rfl | (simp [errW_none, errW_some] <;> rfl) | (simp [*, errW_none, errW_some] <;> rfl), by repeat (first | (with_reducible first | exact HB.out | apply below_alloc | apply pw_below_drewN | apply below_drew1 | refine below_set ?_ GE187.out) | exact HB.out)⟩
      ·
       replace c18 := Bool.eq_false_iff.mpr c18
       subst c18
       have H1 : (lockstitchref05_Check.l0 kj13 0 l0_0 a0_1 a0_2 l0_3) = some (r1, r2) := by rw [if_neg (show ¬ (false = true) by decide)] at H; exact H
       clear H
       have H := H1
       clear H1
       have H' := Aside0.mk H
       clear H
       go_wp2
       go_loopg [4] kj13 (fun kq v4 w' => ∃ (x4_3 : Int), v4 = .int .i64 x4_3 ∧ Aside0 (lockstitchref05_Check.l0 kq x4_3 l0_0 a0_1 a0_2 l0_3 = some (r1, r2)) ∧ Aside0 (kq ≤ kj13) ∧ Aside0 (w'.heap[gb187]? = some (.cells #[(.slice A0_0 l0_0.length c0_0), .string a0_1, .string a0_2, (.slice A0_3 l0_3.length c0_3)] 25 (0, 0))) ∧ Aside0 (Below w.heap.size w w'))
       case atStart => exact ⟨(0), (by first | rfl | (simp; done) | (simp [*]; done)), H', ⟨Nat.le_refl _⟩, ⟨by (with_reducible repeat (first | refine blk_drewN ?_ _ | refine blk_drew ?_ | refine blk_alloc ?_ _)); exact BK187.out⟩, ⟨by repeat (first | (with_reducible first | exact HB.out | apply below_alloc | apply pw_below_drewN | apply below_drew1 | refine below_set ?_ GE187.out) | exact HB.out)⟩⟩
       case round =>
        clear H'
        obtain ⟨x4_3, rfl, HA, HK3, BK187, HB⟩ := hrel
        cases gk with
        | zero => exact absurd HA.out (by simp [lockstitchref05_Check.l0])
        | succ k3 =>
         have H := HA.out
         clear HA
         simp only [lockstitchref05_Check.l0] at H
         by_cases c19 : x4_3 < (l0_3.length : Int)
         ·
          rw [if_pos c19] at H
          have c19b0 : decide (x4_3 < (l0_3.length : Int)) = true := decide_eq_true c19
          clear c19
          by_cases c20 : 0 ≤ x4_3
          ·
           rw [if_pos c20] at H
           have c20b0 : decide (0 ≤ x4_3) = true := decide_eq_true c20
           clear c20
           have HC21 := Aside0.mk H
           clear H
           obtain ⟨hcz22_0, hcz22_1, hcz22_2, hcz22_3, hfz22_0, hfz22_1, hfz22_2, hfz22_3⟩ := all4 BK187.out
           have p190 : 0 ≤ (x4_3 : Int) := of_decide_eq_true (by first | (with_reducible assumption) | assumption)
           have q190 : x4_3 < (l0_3.length : Int) := of_decide_eq_true (by first | (with_reducible assumption) | assumption)
           obtain ⟨ad190, e190, hx190_0, hx190_1, hx190_2, hx190_3, hx190_4⟩ := at_T45 HR0_3.out x4_3 p190 q190
           cases e190
           replace hx190_0 := (HB.out.cell (World.block_lt_of_cell? w _ hx190_0)).trans hx190_0
           replace hx190_1 := (HB.out.cell (World.block_lt_of_cell? w _ hx190_1)).trans hx190_1
           replace hx190_2 := (HB.out.cell (World.block_lt_of_cell? w _ hx190_2)).trans hx190_2
           replace hx190_3 := (HB.out.cell (World.block_lt_of_cell? w _ hx190_3)).trans hx190_3
           replace hx190_4 := (HB.out.cell (World.block_lt_of_cell? w _ hx190_4)).trans hx190_4
           replace p190 := eq_true p190
           replace q190 := eq_true q190
           go_upto_region 9 with (first | ((with_reducible refine gate_dst (N := 5) rfl ?_); (try (refine gate_guard (by rfl) ?_; dsimp only)); refine box_event ?hg (N := 5) ?hd (cs := #[.int .u8 0, .int .u8 0, .int .u8 0, .int .u8 0, .int .i64 0]) (t := 45) ?hr ?_; (case hd => rfl); (case hg => rfl); (case hr => first | (go_simp; done) | (go_simp; rfl)); intro gb191 hg w23 hbox hb; have n0_ := Aside0.mk (blk_below (g := gb187) (o := .cells #[.slice A0_0 l0_0.length c0_0, .string a0_1, .string a0_2, .slice (some ad190) l0_3.length c0_3] 25 (0, 0)) (by (with_reducible repeat (first | refine blk_drewN ?_ _ | refine blk_drew ?_ | refine blk_alloc ?_ _)); exact BK187.out) hb); have n1_ := Aside0.mk (below_step (by repeat (first | (with_reducible first | exact HB.out | apply below_alloc | apply pw_below_drewN | apply below_drew1 | refine below_set ?_ GE187.out) | exact HB.out)) hb); have n2_ := Aside0.mk (hbox); have n3_ := Aside0.mk ((by rw [hg]; exact (below_size (by repeat (first | (with_reducible first | exact HB.out | apply below_alloc | apply pw_below_drewN | apply below_drew1 | refine below_set ?_ GE187.out) | exact HB.out))) : w.heap.size ≤ gb191)); have n4_ := n3_; have n5_ := Aside0.mk ((by rw [hg]; exact Nat.ne_of_lt (blk_lt (g := gb187) (o := .cells #[.slice A0_0 l0_0.length c0_0, .string a0_1, .string a0_2, .slice (some ad190) l0_3.length c0_3] 25 (0, 0)) (by (with_reducible repeat (first | refine blk_drewN ?_ _ | refine blk_drew ?_ | refine blk_alloc ?_ _)); exact BK187.out)) : gb187 ≠ gb191)); have n6_ := Aside0.mk n5_.out.symm; clear BK187; clear HB; have BK187 := n0_; have HB := n1_; have BK191 := n2_; have GW191 := n3_; have GE191 := n4_; have NB187_191 := n5_; have NB191_187 := n6_; clear n0_ n1_ n2_ n3_ n4_ n5_ n6_; clear hb hbox hg; have hnb24 := NB191_187.out; have hnc24 := NB187_191.out; obtain ⟨hcz25_0, hcz25_1, hcz25_2, hcz25_3, hcz25_4, hfz25_0, hfz25_1, hfz25_2, hfz25_3, hfz25_4⟩ := all5 BK191.out))
           (try simp only [Act.put, List.setIfInBounds_toArray, List.set_cons_zero, List.set_cons_succ])
           go_cut [6] (fun v6 wc => ∃ (kq : Nat) (x6_20 : Bool), v6 = .bool x6_20 ∧ Aside0 (lockstitchref05_Check.j3 kq x4_3 x6_20 l0_0 a0_1 a0_2 l0_3 ((rd_T45 l0_3 x4_3).f0) ((rd_T45 l0_3 x4_3).f1) ((rd_T45 l0_3 x4_3).f2) ((rd_T45 l0_3 x4_3).f3) ((rd_T45 l0_3 x4_3).f4) = some (r1, r2)) ∧ Aside0 (kq ≤ k3) ∧ Aside0 (wc.heap[gb187]? = some (.cells #[(.slice A0_0 l0_0.length c0_0), .string a0_1, .string a0_2, (.slice (some ad190) l0_3.length c0_3)] 25 (0, 0))) ∧ Aside0 (wc.heap[gb191]? = some (.cells #[.int .u8 ((rd_T45 l0_3 x4_3).f0), .int .u8 ((rd_T45 l0_3 x4_3).f1), .int .u8 ((rd_T45 l0_3 x4_3).f2), .int .u8 ((rd_T45 l0_3 x4_3).f3), .int .i64 ((rd_T45 l0_3 x4_3).f4)] 45 (0, 0))) ∧ Aside0 (Below w.heap.size w wc))
           case first =>
            have H := HC21.out
            clear HC21
            by_cases c26 : ((rd_T45 l0_3 x4_3).f0) = 3
            ·
             rw [if_pos c26] at H
             have c26b0 : (((rd_T45 l0_3 x4_3).f0) == 3) = true := beq_iff_eq.mpr c26
             have c26b1 : (((rd_T45 l0_3 x4_3).f0) != 3) = false := bne_eq_false_iff_eq.mpr c26
             clear c26
             (first | rw [c26b0] | (simp only [i64_w, i32_w]; rw [c26b0]) | skip)
             have H' := Aside0.mk H
             clear H
             have hnb27 := NB191_187.out
             have hnc27 := NB187_191.out
             obtain ⟨hcz28_0, hcz28_1, hcz28_2, hcz28_3, hcz28_4, hfz28_0, hfz28_1, hfz28_2, hfz28_3, hfz28_4⟩ := all5 BK191.out
             go_wp2
             go_meet
             case rel => exact ⟨_, (true), (by first | rfl | (simp; done) | (simp [*]; done)), H', ⟨by have := HJ1.out; have := HJ13.out; have := HK3.out; first | omega | exact Nat.le_refl _⟩, ⟨by (with_reducible repeat (first | refine blk_drewN ?_ _ | refine blk_drew ?_ | refine blk_alloc ?_ _)); refine blk_far ?_ NB187_191.out _; (with_reducible repeat (first | refine blk_drewN ?_ _ | refine blk_drew ?_ | refine blk_alloc ?_ _)); refine blk_far ?_ NB187_191.out _; (with_reducible repeat (first | refine blk_drewN ?_ _ | refine blk_drew ?_ | refine blk_alloc ?_ _)); refine blk_far ?_ NB187_191.out _; (with_reducible repeat (first | refine blk_drewN ?_ _ | refine blk_drew ?_ | refine blk_alloc ?_ _)); refine blk_far ?_ NB187_191.out _; (with_reducible repeat (first | refine blk_drewN ?_ _ | refine blk_drew ?_ | refine blk_alloc ?_ _)); refine blk_far ?_ NB187_191.out _; (with_reducible repeat (first | refine blk_drewN ?_ _ | refine blk_drew ?_ | refine blk_alloc ?_ _)); exact BK187.out⟩, ⟨by (with_reducible repeat (first | refine blk_drewN ?_ _ | refine blk_drew ?_ | refine blk_alloc ?_ _)); refine blk_put (cs := #[.int .u8 ((rd_T45 l0_3 x4_3).f0), .int .u8 ((rd_T45 l0_3 x4_3).f1), .int .u8 ((rd_T45 l0_3 x4_3).f2), .int .u8 ((rd_T45 l0_3 x4_3).f3), .int .i64 0]) ?_ 4 _ rfl; (with_reducible repeat (first | refine blk_drewN ?_ _ | refine blk_drew ?_ | refine blk_alloc ?_ _)); refine blk_put (cs := #[.int .u8 ((rd_T45 l0_3 x4_3).f0), .int .u8 ((rd_T45 l0_3 x4_3).f1), .int .u8 ((rd_T45 l0_3 x4_3).f2), .int .u8 0, .int .i64 0]) ?_ 3 _ rfl; (with_reducible repeat (first | refine blk_drewN ?_ _ | refine blk_drew ?_ | refine blk_alloc ?_ _)); refine blk_put (cs := #[.int .u8 ((rd_T45 l0_3 x4_3).f0), .int .u8 ((rd_T45 l0_3 x4_3).f1), .int .u8 0, .int .u8 0, .int .i64 0]) ?_ 2 _ rfl; (with_reducible repeat (first | refine blk_drewN ?_ _ | refine blk_drew ?_ | refine blk_alloc ?_ _)); refine blk_put (cs := #[.int .u8 ((rd_T45 l0_3 x4_3).f0), .int .u8 0, .int .u8 0, .int .u8 0, .int .i64 0]) ?_ 1 _ rfl; (with_reducible repeat (first | refine blk_drewN ?_ _ | refine blk_drew ?_ | refine blk_alloc ?_ _)); refine blk_put (cs := #[.int .u8 0, .int .u8 0, .int .u8 0, .int .u8 0, .int .i64 0]) ?_ 0 _ rfl; (with_reducible repeat (first | refine blk_drewN ?_ _ | refine blk_drew ?_ | refine blk_alloc ?_ _)); exact BK191.out⟩, ⟨by repeat (first | (with_reducible first | exact HB.out | apply below_alloc | apply pw_below_drewN | apply below_drew1 | refine below_set ?_ GE187.out | refine below_set ?_ GE191.out) | exact HB.out)⟩⟩
            ·
             rw [if_neg c26] at H
             have c26b0 : (((rd_T45 l0_3 x4_3).f0) == 3) = false := beq_eq_false_iff_ne.mpr c26
             have c26b1 : (((rd_T45 l0_3 x4_3).f0) != 3) = true := bne_iff_ne.mpr c26
             (first | rw [c26b0] | (simp only [i64_w, i32_w]; rw [c26b0]) | skip)
             have H' := Aside0.mk H
             clear H
             have hnb29 := NB191_187.out
             have hnc29 := NB187_191.out
             obtain ⟨hcz30_0, hcz30_1, hcz30_2, hcz30_3, hcz30_4, hfz30_0, hfz30_1, hfz30_2, hfz30_3, hfz30_4⟩ := all5 BK191.out
             go_wp2
             go_meet
             case rel => exact ⟨_, ((((rd_T45 l0_3 x4_3).f0) == 4)), (by first | rfl | (simp; done) | (simp [*]; done)), H', ⟨by have := HJ1.out; have := HJ13.out; have := HK3.out; first | omega | exact Nat.le_refl _⟩, ⟨by (with_reducible repeat (first | refine blk_drewN ?_ _ | refine blk_drew ?_ | refine blk_alloc ?_ _)); refine blk_far ?_ NB187_191.out _; (with_reducible repeat (first | refine blk_drewN ?_ _ | refine blk_drew ?_ | refine blk_alloc ?_ _)); refine blk_far ?_ NB187_191.out _; (with_reducible repeat (first | refine blk_drewN ?_ _ | refine blk_drew ?_ | refine blk_alloc ?_ _)); refine blk_far ?_ NB187_191.out _; (with_reducible repeat (first | refine blk_drewN ?_ _ | refine blk_drew ?_ | refine blk_alloc ?_ _)); refine blk_far ?_ NB187_191.out _; (with_reducible repeat (first | refine blk_drewN ?_ _ | refine blk_drew ?_ | refine blk_alloc ?_ _)); refine blk_far ?_ NB187_191.out _; (with_reducible repeat (first | refine blk_drewN ?_ _ | refine blk_drew ?_ | refine blk_alloc ?_ _)); exact BK187.out⟩, ⟨by (with_reducible repeat (first | refine blk_drewN ?_ _ | refine blk_drew ?_ | refine blk_alloc ?_ _)); refine blk_put (cs := #[.int .u8 ((rd_T45 l0_3 x4_3).f0), .int .u8 ((rd_T45 l0_3 x4_3).f1), .int .u8 ((rd_T45 l0_3 x4_3).f2), .int .u8 ((rd_T45 l0_3 x4_3).f3), .int .i64 0]) ?_ 4 _ rfl; (with_reducible repeat (first | refine blk_drewN ?_ _ | refine blk_drew ?_ | refine blk_alloc ?_ _)); refine blk_put (cs := #[.int .u8 ((rd_T45 l0_3 x4_3).f0), .int .u8 ((rd_T45 l0_3 x4_3).f1), .int .u8 ((rd_T45 l0_3 x4_3).f2), .int .u8 0, .int .i64 0]) ?_ 3 _ rfl; (with_reducible repeat (first | refine blk_drewN ?_ _ | refine blk_drew ?_ | refine blk_alloc ?_ _)); refine blk_put (cs := #[.int .u8 ((rd_T45 l0_3 x4_3).f0), .int .u8 ((rd_T45 l0_3 x4_3).f1), .int .u8 0, .int .u8 0, .int .i64 0]) ?_ 2 _ rfl; (with_reducible repeat (first | refine blk_drewN ?_ _ | refine blk_drew ?_ | refine blk_alloc ?_ _)); refine blk_put (cs := #[.int .u8 ((rd_T45 l0_3 x4_3).f0), .int .u8 0, .int .u8 0, .int .u8 0, .int .i64 0]) ?_ 1 _ rfl; (with_reducible repeat (first | refine blk_drewN ?_ _ | refine blk_drew ?_ | refine blk_alloc ?_ _)); refine blk_put (cs := #[.int .u8 0, .int .u8 0, .int .u8 0, .int .u8 0, .int .i64 0]) ?_ 0 _ rfl; (with_reducible repeat (first | refine blk_drewN ?_ _ | refine blk_drew ?_ | refine blk_alloc ?_ _)); exact BK191.out⟩, ⟨by repeat (first | (with_reducible first | exact HB.out | apply below_alloc | apply pw_below_drewN | apply below_drew1 | refine below_set ?_ GE187.out | refine below_set ?_ GE191.out) | exact HB.out)⟩⟩
           case rest =>
            clear HC21
            obtain ⟨kq, x6_20, rfl, HA, HJ20, BK187, BK191, HB⟩ := hcut
            cases kq with
            | zero => exact absurd HA.out (by simp [lockstitchref05_Check.j3])
            | succ kj20 =>
             have H := HA.out
             clear HA
             simp only [lockstitchref05_Check.j3] at H
             replace H := Option.bind_eq_some_iff.mp H
             obtain ⟨t192, A310, H⟩ := H
             replace H : (if t192 = true then (if x6_20 = true then (if ((rd_T45 l0_3 x4_3).f4) < 0 then (lockstitchref05_Check.j4 kj20 x4_3 true l0_0 a0_1 a0_2 l0_3 ((rd_T45 l0_3 x4_3).f0) ((rd_T45 l0_3 x4_3).f1) ((rd_T45 l0_3 x4_3).f2) ((rd_T45 l0_3 x4_3).f3) ((rd_T45 l0_3 x4_3).f4)) else (lockstitchref05_Check.j4 kj20 x4_3 (decide (((rd_T45 l0_3 x4_3).f4) > (l0_3.length : Int))) l0_0 a0_1 a0_2 l0_3 ((rd_T45 l0_3 x4_3).f0) ((rd_T45 l0_3 x4_3).f1) ((rd_T45 l0_3 x4_3).f2) ((rd_T45 l0_3 x4_3).f3) ((rd_T45 l0_3 x4_3).f4))) else (lockstitchref05_Check.j4 kj20 x4_3 false l0_0 a0_1 a0_2 l0_3 ((rd_T45 l0_3 x4_3).f0) ((rd_T45 l0_3 x4_3).f1) ((rd_T45 l0_3 x4_3).f2) ((rd_T45 l0_3 x4_3).f3) ((rd_T45 l0_3 x4_3).f4))) else (some (x4_3, 4))) = some (r1, r2) := H
             have A31 := Aside0.mk A310
             clear A310
             by_cases c32 : t192 = true
             ·
              subst c32
              have H1 : (if x6_20 = true then (if ((rd_T45 l0_3 x4_3).f4) < 0 then (lockstitchref05_Check.j4 kj20 x4_3 true l0_0 a0_1 a0_2 l0_3 ((rd_T45 l0_3 x4_3).f0) ((rd_T45 l0_3 x4_3).f1) ((rd_T45 l0_3 x4_3).f2) ((rd_T45 l0_3 x4_3).f3) ((rd_T45 l0_3 x4_3).f4)) else (lockstitchref05_Check.j4 kj20 x4_3 (decide (((rd_T45 l0_3 x4_3).f4) > (l0_3.length : Int))) l0_0 a0_1 a0_2 l0_3 ((rd_T45 l0_3 x4_3).f0) ((rd_T45 l0_3 x4_3).f1) ((rd_T45 l0_3 x4_3).f2) ((rd_T45 l0_3 x4_3).f3) ((rd_T45 l0_3 x4_3).f4))) else (lockstitchref05_Check.j4 kj20 x4_3 false l0_0 a0_1 a0_2 l0_3 ((rd_T45 l0_3 x4_3).f0) ((rd_T45 l0_3 x4_3).f1) ((rd_T45 l0_3 x4_3).f2) ((rd_T45 l0_3 x4_3).f3) ((rd_T45 l0_3 x4_3).f4))) = some (r1, r2) := by rw [if_pos rfl] at H; exact H
              clear H
              have H := H1
              clear H1
              have HC33 := Aside0.mk H
              clear H
              have hnb34 := NB191_187.out
              have hnc34 := NB187_191.out
              obtain ⟨hcz35_0, hcz35_1, hcz35_2, hcz35_3, hcz35_4, hfz35_0, hfz35_1, hfz35_2, hfz35_3, hfz35_4⟩ := all5 BK191.out
              go_upto_region 12 with (first | ((with_reducible refine gate_callee (f := 23) rfl ?_); refine goesL_ (some 65) rfl rfl Tryd.func23 (by kernel_rfl) rfl #[.agg #[.int .u8 ((rd_T45 l0_3 x4_3).f0), .int .u8 ((rd_T45 l0_3 x4_3).f1), .int .u8 ((rd_T45 l0_3 x4_3).f2), .int .u8 ((rd_T45 l0_3 x4_3).f3), .int .i64 ((rd_T45 l0_3 x4_3).f4)]] rfl (by (try simp only [List.map_toArray, List.map_cons, List.map_nil]); first | done | rfl | (simp only [List.length_drop, List.length_take]; rfl)) ?_; (with_reducible refine (lockstitchref04_Right.calls kj20 ((rd_T45 l0_3 x4_3).f0) ((rd_T45 l0_3 x4_3).f1) ((rd_T45 l0_3 x4_3).f2) ((rd_T45 l0_3 x4_3).f3) ((rd_T45 l0_3 x4_3).f4) true _ ?side1 A31.out).mono ?_); (case side1 => repeat (first | exact (Kd.C_below HRT.out HB.out) | (with_reducible refine Kd.C_alloc ?_ _) | (with_reducible refine Kd.C_drewN ?_ _) | (with_reducible refine Kd.C_drew ?_))); rintro e w36 ⟨rfl, hb⟩; refine ⟨_, rfl, ?_⟩; have n0_ := Aside0.mk (blk_below (g := gb187) (o := .cells #[.slice A0_0 l0_0.length c0_0, .string a0_1, .string a0_2, .slice (some ad190) l0_3.length c0_3] 25 (0, 0)) (by (with_reducible repeat (first | refine blk_drewN ?_ _ | refine blk_drew ?_ | refine blk_alloc ?_ _)); exact BK187.out) hb); have n1_ := Aside0.mk (blk_below (g := gb191) (o := .cells #[.int .u8 ((rd_T45 l0_3 x4_3).f0), .int .u8 ((rd_T45 l0_3 x4_3).f1), .int .u8 ((rd_T45 l0_3 x4_3).f2), .int .u8 ((rd_T45 l0_3 x4_3).f3), .int .i64 ((rd_T45 l0_3 x4_3).f4)] 45 (0, 0)) (by (with_reducible repeat (first | refine blk_drewN ?_ _ | refine blk_drew ?_ | refine blk_alloc ?_ _)); exact BK191.out) hb); have n2_ := Aside0.mk (below_step (by repeat (first | (with_reducible first | exact HB.out | apply below_alloc | apply pw_below_drewN | apply below_drew1 | refine below_set ?_ GE187.out | refine below_set ?_ GE191.out) | exact HB.out)) hb); clear BK187; clear BK191; clear HB; have BK187 := n0_; have BK191 := n1_; have HB := n2_; clear n0_ n1_ n2_; (try clear hb); (try clear hb2); (try clear hk); (try clear hi)))
              (try simp only [Act.put, List.setIfInBounds_toArray, List.set_cons_zero, List.set_cons_succ])
              go_cut [68] (fun v68 wc => ∃ (kq : Nat) (x68_32 : Bool), v68 = .bool x68_32 ∧ Aside0 (lockstitchref05_Check.j4 kq x4_3 x68_32 l0_0 a0_1 a0_2 l0_3 ((rd_T45 l0_3 x4_3).f0) ((rd_T45 l0_3 x4_3).f1) ((rd_T45 l0_3 x4_3).f2) ((rd_T45 l0_3 x4_3).f3) ((rd_T45 l0_3 x4_3).f4) = some (r1, r2)) ∧ Aside0 (kq ≤ kj20) ∧ Aside0 (wc.heap[gb187]? = some (.cells #[(.slice A0_0 l0_0.length c0_0), .string a0_1, .string a0_2, (.slice (some ad190) l0_3.length c0_3)] 25 (0, 0))) ∧ Aside0 (wc.heap[gb191]? = some (.cells #[.int .u8 ((rd_T45 l0_3 x4_3).f0), .int .u8 ((rd_T45 l0_3 x4_3).f1), .int .u8 ((rd_T45 l0_3 x4_3).f2), .int .u8 ((rd_T45 l0_3 x4_3).f3), .int .i64 ((rd_T45 l0_3 x4_3).f4)] 45 (0, 0))) ∧ Aside0 (Below w.heap.size w wc))
              case first =>
               have H := HC33.out
               clear HC33
               by_cases c37 : x6_20 = true
               ·
                subst c37
                have H1 : (if ((rd_T45 l0_3 x4_3).f4) < 0 then (lockstitchref05_Check.j4 kj20 x4_3 true l0_0 a0_1 a0_2 l0_3 ((rd_T45 l0_3 x4_3).f0) ((rd_T45 l0_3 x4_3).f1) ((rd_T45 l0_3 x4_3).f2) ((rd_T45 l0_3 x4_3).f3) ((rd_T45 l0_3 x4_3).f4)) else (lockstitchref05_Check.j4 kj20 x4_3 (decide (((rd_T45 l0_3 x4_3).f4) > (l0_3.length : Int))) l0_0 a0_1 a0_2 l0_3 ((rd_T45 l0_3 x4_3).f0) ((rd_T45 l0_3 x4_3).f1) ((rd_T45 l0_3 x4_3).f2) ((rd_T45 l0_3 x4_3).f3) ((rd_T45 l0_3 x4_3).f4))) = some (r1, r2) := by rw [if_pos rfl] at H; exact H
                clear H
                have H := H1
                clear H1
                by_cases c38 : ((rd_T45 l0_3 x4_3).f4) < 0
                ·
                 rw [if_pos c38] at H
                 have c38b0 : decide (((rd_T45 l0_3 x4_3).f4) < 0) = true := decide_eq_true c38
                 clear c38
                 (first | rw [c38b0] | (simp only [i64_w, i32_w]; rw [c38b0]) | skip)
                 have H' := Aside0.mk H
                 clear H
                 have hnb39 := NB191_187.out
                 have hnc39 := NB187_191.out
                 obtain ⟨hcz40_0, hcz40_1, hcz40_2, hcz40_3, hcz40_4, hfz40_0, hfz40_1, hfz40_2, hfz40_3, hfz40_4⟩ := all5 BK191.out
                 go_wp2
                 go_meet
                 case rel => exact ⟨_, (true), (by first | rfl | (simp; done) | (simp [*]; done)), H', ⟨by have := HJ1.out; have := HJ13.out; have := HK3.out; have := HJ20.out; first | omega | exact Nat.le_refl _⟩, ⟨by (with_reducible repeat (first | refine blk_drewN ?_ _ | refine blk_drew ?_ | refine blk_alloc ?_ _)); exact BK187.out⟩, ⟨by (with_reducible repeat (first | refine blk_drewN ?_ _ | refine blk_drew ?_ | refine blk_alloc ?_ _)); exact BK191.out⟩, ⟨by repeat (first | (with_reducible first | exact HB.out | apply below_alloc | apply pw_below_drewN | apply below_drew1 | refine below_set ?_ GE187.out | refine below_set ?_ GE191.out) | exact HB.out)⟩⟩
                ·
                 rw [if_neg c38] at H
                 have c38b0 : decide (((rd_T45 l0_3 x4_3).f4) < 0) = false := decide_eq_false c38
                 clear c38
                 (first | rw [c38b0] | (simp only [i64_w, i32_w]; rw [c38b0]) | skip)
                 have H' := Aside0.mk H
                 clear H
                 have hnb41 := NB191_187.out
                 have hnc41 := NB187_191.out
                 obtain ⟨hcz42_0, hcz42_1, hcz42_2, hcz42_3, hcz42_4, hfz42_0, hfz42_1, hfz42_2, hfz42_3, hfz42_4⟩ := all5 BK191.out
                 obtain ⟨hcz43_0, hcz43_1, hcz43_2, hcz43_3, hfz43_0, hfz43_1, hfz43_2, hfz43_3⟩ := all4 BK187.out
                 go_wp2
                 go_meet
                 case rel => exact ⟨_, (decide (((rd_T45 l0_3 x4_3).f4) > (l0_3.length : Int))), (by first | rfl | (simp; done) | (simp [*]; done)), H', ⟨by have := HJ1.out; have := HJ13.out; have := HK3.out; have := HJ20.out; first | omega | exact Nat.le_refl _⟩, ⟨by (with_reducible repeat (first | refine blk_drewN ?_ _ | refine blk_drew ?_ | refine blk_alloc ?_ _)); exact BK187.out⟩, ⟨by (with_reducible repeat (first | refine blk_drewN ?_ _ | refine blk_drew ?_ | refine blk_alloc ?_ _)); exact BK191.out⟩, ⟨by repeat (first | (with_reducible first | exact HB.out | apply below_alloc | apply pw_below_drewN | apply below_drew1 | refine below_set ?_ GE187.out | refine below_set ?_ GE191.out) | exact HB.out)⟩⟩
               ·
                replace c37 := Bool.eq_false_iff.mpr c37
                subst c37
                have H1 : (lockstitchref05_Check.j4 kj20 x4_3 false l0_0 a0_1 a0_2 l0_3 ((rd_T45 l0_3 x4_3).f0) ((rd_T45 l0_3 x4_3).f1) ((rd_T45 l0_3 x4_3).f2) ((rd_T45 l0_3 x4_3).f3) ((rd_T45 l0_3 x4_3).f4)) = some (r1, r2) := by rw [if_neg (show ¬ (false = true) by decide)] at H; exact H
                clear H
                have H := H1
                clear H1
                have H' := Aside0.mk H
                clear H
                go_wp2
                go_meet
                case rel => exact ⟨_, (false), (by first | rfl | (simp; done) | (simp [*]; done)), H', ⟨by have := HJ1.out; have := HJ13.out; have := HK3.out; have := HJ20.out; first | omega | exact Nat.le_refl _⟩, ⟨by (with_reducible repeat (first | refine blk_drewN ?_ _ | refine blk_drew ?_ | refine blk_alloc ?_ _)); exact BK187.out⟩, ⟨by (with_reducible repeat (first | refine blk_drewN ?_ _ | refine blk_drew ?_ | refine blk_alloc ?_ _)); exact BK191.out⟩, ⟨by repeat (first | (with_reducible first | exact HB.out | apply below_alloc | apply pw_below_drewN | apply below_drew1 | refine below_set ?_ GE187.out | refine below_set ?_ GE191.out) | exact HB.out)⟩⟩
              case rest =>
               clear HC33
               obtain ⟨kq, x68_32, rfl, HA, HJ32, BK187, BK191, HB⟩ := hcut
               cases kq with
               | zero => exact absurd HA.out (by simp [lockstitchref05_Check.j4])
               | succ kj32 =>
                have H := HA.out
                clear HA
                simp only [lockstitchref05_Check.j4] at H
                by_cases c44 : x68_32 = true
                ·
                 subst c44
                 have H1 : (some (x4_3, 12)) = some (r1, r2) := by rw [if_pos rfl] at H; exact H
                 clear H
                 have H := H1
                 clear H1
                 simp only [Option.some.injEq, Prod.mk.injEq] at H
                 obtain ⟨rfl, rfl⟩ := H
                 go_wp2
                 go_ret2
                 exact ⟨by first | rfl | (simp [errW_none, errW_some] <;> rfl) | (simp [*, errW_none, errW_some] <;> rfl), by repeat (first | (with_reducible first | exact HB.out | apply below_alloc | apply pw_below_drewN | apply below_drew1 | refine below_set ?_ GE187.out | refine below_set ?_ GE191.out) | exact HB.out)⟩
                ·
                 replace c44 := Bool.eq_false_iff.mpr c44
                 subst c44
                 have H1 : ((lockstitchref05_ints.f kj32 ((rd_T45 l0_3 x4_3).f0) ((rd_T45 l0_3 x4_3).f1) ((rd_T45 l0_3 x4_3).f2) ((rd_T45 l0_3 x4_3).f3) ((rd_T45 l0_3 x4_3).f4)).bind fun t193 => (if t193 = true then ((lockstitchref05_kinds.f kj32 l0_0 a0_1 a0_2 l0_3 ((rd_T45 l0_3 x4_3).f0) ((rd_T45 l0_3 x4_3).f1) ((rd_T45 l0_3 x4_3).f2) ((rd_T45 l0_3 x4_3).f3) ((rd_T45 l0_3 x4_3).f4)).bind fun t194 => (if t194 = true then (lockstitchref05_Check.l0 kj32 (wrap64 (x4_3 + 1)) l0_0 a0_1 a0_2 l0_3) else (some (x4_3, 5)))) else (some (x4_3, 5)))) = some (r1, r2) := by rw [if_neg (show ¬ (false = true) by decide)] at H; exact H
                 clear H
                 have H := H1
                 clear H1
                 replace H := Option.bind_eq_some_iff.mp H
                 obtain ⟨t193, A450, H⟩ := H
                 replace H : (if t193 = true then ((lockstitchref05_kinds.f kj32 l0_0 a0_1 a0_2 l0_3 ((rd_T45 l0_3 x4_3).f0) ((rd_T45 l0_3 x4_3).f1) ((rd_T45 l0_3 x4_3).f2) ((rd_T45 l0_3 x4_3).f3) ((rd_T45 l0_3 x4_3).f4)).bind fun t194 => (if t194 = true then (lockstitchref05_Check.l0 kj32 (wrap64 (x4_3 + 1)) l0_0 a0_1 a0_2 l0_3) else (some (x4_3, 5)))) else (some (x4_3, 5))) = some (r1, r2) := H
                 have A45 := Aside0.mk A450
                 clear A450
                 by_cases c46 : t193 = true
                 ·
                  subst c46
                  have H1 : ((lockstitchref05_kinds.f kj32 l0_0 a0_1 a0_2 l0_3 ((rd_T45 l0_3 x4_3).f0) ((rd_T45 l0_3 x4_3).f1) ((rd_T45 l0_3 x4_3).f2) ((rd_T45 l0_3 x4_3).f3) ((rd_T45 l0_3 x4_3).f4)).bind fun t194 => (if t194 = true then (lockstitchref05_Check.l0 kj32 (wrap64 (x4_3 + 1)) l0_0 a0_1 a0_2 l0_3) else (some (x4_3, 5)))) = some (r1, r2) := by rw [if_pos rfl] at H; exact H
                  clear H
                  have H := H1
                  clear H1
                  replace H := Option.bind_eq_some_iff.mp H
                  obtain ⟨t194, A470, H⟩ := H
                  replace H : (if t194 = true then (lockstitchref05_Check.l0 kj32 (wrap64 (x4_3 + 1)) l0_0 a0_1 a0_2 l0_3) else (some (x4_3, 5))) = some (r1, r2) := H
                  have A47 := Aside0.mk A470
                  clear A470
                  by_cases c48 : t194 = true
                  ·
                   subst c48
                   have H1 : (lockstitchref05_Check.l0 kj32 (wrap64 (x4_3 + 1)) l0_0 a0_1 a0_2 l0_3) = some (r1, r2) := by rw [if_pos rfl] at H; exact H
                   clear H
                   have H := H1
                   clear H1
                   have H' := Aside0.mk H
                   clear H
                   have hnb49 := NB191_187.out
                   have hnc49 := NB187_191.out
                   obtain ⟨hcz50_0, hcz50_1, hcz50_2, hcz50_3, hcz50_4, hfz50_0, hfz50_1, hfz50_2, hfz50_3, hfz50_4⟩ := all5 BK191.out
                   go_wp2_with (first | ((with_reducible refine gate_callee (f := 24) rfl ?_); refine goesL_ (some 86) rfl rfl Tryd.func24 (by kernel_rfl) rfl #[.agg #[.int .u8 ((rd_T45 l0_3 x4_3).f0), .int .u8 ((rd_T45 l0_3 x4_3).f1), .int .u8 ((rd_T45 l0_3 x4_3).f2), .int .u8 ((rd_T45 l0_3 x4_3).f3), .int .i64 ((rd_T45 l0_3 x4_3).f4)]] rfl (by (try simp only [List.map_toArray, List.map_cons, List.map_nil]); first | done | rfl | (simp only [List.length_drop, List.length_take]; rfl)) ?_; (with_reducible refine (lockstitchref05_ints.calls kj32 ((rd_T45 l0_3 x4_3).f0) ((rd_T45 l0_3 x4_3).f1) ((rd_T45 l0_3 x4_3).f2) ((rd_T45 l0_3 x4_3).f3) ((rd_T45 l0_3 x4_3).f4) true _ A45.out).mono ?_); rintro e w51 ⟨rfl, hb⟩; refine ⟨_, rfl, ?_⟩; have n0_ := Aside0.mk (blk_below (g := gb187) (o := .cells #[.slice A0_0 l0_0.length c0_0, .string a0_1, .string a0_2, .slice (some ad190) l0_3.length c0_3] 25 (0, 0)) (by (with_reducible repeat (first | refine blk_drewN ?_ _ | refine blk_drew ?_ | refine blk_alloc ?_ _)); exact BK187.out) hb); have n1_ := Aside0.mk (blk_below (g := gb191) (o := .cells #[.int .u8 ((rd_T45 l0_3 x4_3).f0), .int .u8 ((rd_T45 l0_3 x4_3).f1), .int .u8 ((rd_T45 l0_3 x4_3).f2), .int .u8 ((rd_T45 l0_3 x4_3).f3), .int .i64 ((rd_T45 l0_3 x4_3).f4)] 45 (0, 0)) (by (with_reducible repeat (first | refine blk_drewN ?_ _ | refine blk_drew ?_ | refine blk_alloc ?_ _)); exact BK191.out) hb); have n2_ := Aside0.mk (below_step (by repeat (first | (with_reducible first | exact HB.out | apply below_alloc | apply pw_below_drewN | apply below_drew1 | refine below_set ?_ GE187.out | refine below_set ?_ GE191.out) | exact HB.out)) hb); clear BK187; clear BK191; clear HB; have BK187 := n0_; have BK191 := n1_; have HB := n2_; clear n0_ n1_ n2_; (try clear hb); (try clear hb2); (try clear hk); (try clear hi); obtain ⟨hcz52_0, hcz52_1, hcz52_2, hcz52_3, hfz52_0, hfz52_1, hfz52_2, hfz52_3⟩ := all4 BK187.out; obtain ⟨hcz53_0, hcz53_1, hcz53_2, hcz53_3, hcz53_4, hfz53_0, hfz53_1, hfz53_2, hfz53_3, hfz53_4⟩ := all5 BK191.out) | (go_at_call 25; (with_reducible refine (lockstitchref05_kinds.calls kj32 _ _ l0_0 a0_1 a0_2 _ _ l0_3 ((rd_T45 l0_3 x4_3).f0) ((rd_T45 l0_3 x4_3).f1) ((rd_T45 l0_3 x4_3).f2) ((rd_T45 l0_3 x4_3).f3) ((rd_T45 l0_3 x4_3).f4) true _ ?side1 ?side2 ?side3 ?side4 A47.out).mono ?_); (case side1 => repeat (first | exact (Kd.C_below HR0_0.out HB.out) | (with_reducible refine Kd.C_alloc ?_ _) | (with_reducible refine Kd.C_drewN ?_ _) | (with_reducible refine Kd.C_drew ?_))); (case side2 => exact HC0_0.out); (case side3 => repeat (first | exact (Kd.C_below HR0_3.out HB.out) | (with_reducible refine Kd.C_alloc ?_ _) | (with_reducible refine Kd.C_drewN ?_ _) | (with_reducible refine Kd.C_drew ?_))); (case side4 => exact HC0_3.out); rintro e w54 ⟨rfl, hb⟩; have n0_ := Aside0.mk (blk_below (g := gb187) (o := .cells #[.slice A0_0 l0_0.length c0_0, .string a0_1, .string a0_2, .slice (some ad190) l0_3.length c0_3] 25 (0, 0)) (by (with_reducible repeat (first | refine blk_drewN ?_ _ | refine blk_drew ?_ | refine blk_alloc ?_ _)); exact BK187.out) hb); have n1_ := Aside0.mk (blk_below (g := gb191) (o := .cells #[.int .u8 ((rd_T45 l0_3 x4_3).f0), .int .u8 ((rd_T45 l0_3 x4_3).f1), .int .u8 ((rd_T45 l0_3 x4_3).f2), .int .u8 ((rd_T45 l0_3 x4_3).f3), .int .i64 ((rd_T45 l0_3 x4_3).f4)] 45 (0, 0)) (by (with_reducible repeat (first | refine blk_drewN ?_ _ | refine blk_drew ?_ | refine blk_alloc ?_ _)); exact BK191.out) hb); have n2_ := Aside0.mk (below_step (by repeat (first | (with_reducible first | exact HB.out | apply below_alloc | apply pw_below_drewN | apply below_drew1 | refine below_set ?_ GE187.out | refine below_set ?_ GE191.out) | exact HB.out)) hb); clear BK187; clear BK191; clear HB; have BK187 := n0_; have BK191 := n1_; have HB := n2_; clear n0_ n1_ n2_; (try clear hb); (try clear hb2); (try clear hk); (try clear hi)))
                   go_roundg kj32
                   case measure => have := HJ1.out; have := HJ13.out; have := HK3.out; have := HJ20.out; have := HJ32.out; omega
                   case rel => exact ⟨(wrap64 (x4_3 + 1)), (by first | rfl | (simp; done) | (simp [*]; done)), H', ⟨by have := HJ1.out; have := HJ13.out; have := HK3.out; have := HJ20.out; have := HJ32.out; omega⟩, ⟨by (with_reducible repeat (first | refine blk_drewN ?_ _ | refine blk_drew ?_ | refine blk_alloc ?_ _)); exact BK187.out⟩, ⟨by repeat (first | (with_reducible first | exact HB.out | apply below_alloc | apply pw_below_drewN | apply below_drew1 | refine below_set ?_ GE187.out | refine below_set ?_ GE191.out) | exact HB.out)⟩⟩
                  ·
                   replace c48 := Bool.eq_false_iff.mpr c48
                   subst c48
                   have H1 : (some (x4_3, 5)) = some (r1, r2) := by rw [if_neg (show ¬ (false = true) by decide)] at H; exact H
                   clear H
                   have H := H1
                   clear H1
                   simp only [Option.some.injEq, Prod.mk.injEq] at H
                   obtain ⟨rfl, rfl⟩ := H
                   have hnb55 := NB191_187.out
                   have hnc55 := NB187_191.out
                   obtain ⟨hcz56_0, hcz56_1, hcz56_2, hcz56_3, hcz56_4, hfz56_0, hfz56_1, hfz56_2, hfz56_3, hfz56_4⟩ := all5 BK191.out
                   go_wp2_with (first | ((with_reducible refine gate_callee (f := 24) rfl ?_); refine goesL_ (some 86) rfl rfl Tryd.func24 (by kernel_rfl) rfl #[.agg #[.int .u8 ((rd_T45 l0_3 x4_3).f0), .int .u8 ((rd_T45 l0_3 x4_3).f1), .int .u8 ((rd_T45 l0_3 x4_3).f2), .int .u8 ((rd_T45 l0_3 x4_3).f3), .int .i64 ((rd_T45 l0_3 x4_3).f4)]] rfl (by (try simp only [List.map_toArray, List.map_cons, List.map_nil]); first | done | rfl | (simp only [List.length_drop, List.length_take]; rfl)) ?_; (with_reducible refine (lockstitchref05_ints.calls kj32 ((rd_T45 l0_3 x4_3).f0) ((rd_T45 l0_3 x4_3).f1) ((rd_T45 l0_3 x4_3).f2) ((rd_T45 l0_3 x4_3).f3) ((rd_T45 l0_3 x4_3).f4) true _ A45.out).mono ?_); rintro e w57 ⟨rfl, hb⟩; refine ⟨_, rfl, ?_⟩; have n0_ := Aside0.mk (blk_below (g := gb187) (o := .cells #[.slice A0_0 l0_0.length c0_0, .string a0_1, .string a0_2, .slice (some ad190) l0_3.length c0_3] 25 (0, 0)) (by (with_reducible repeat (first | refine blk_drewN ?_ _ | refine blk_drew ?_ | refine blk_alloc ?_ _)); exact BK187.out) hb); have n1_ := Aside0.mk (blk_below (g := gb191) (o := .cells #[.int .u8 ((rd_T45 l0_3 x4_3).f0), .int .u8 ((rd_T45 l0_3 x4_3).f1), .int .u8 ((rd_T45 l0_3 x4_3).f2), .int .u8 ((rd_T45 l0_3 x4_3).f3), .int .i64 ((rd_T45 l0_3 x4_3).f4)] 45 (0, 0)) (by (with_reducible repeat (first | refine blk_drewN ?_ _ | refine blk_drew ?_ | refine blk_alloc ?_ _)); exact BK191.out) hb); have n2_ := Aside0.mk (below_step (by repeat (first | (with_reducible first | exact HB.out | apply below_alloc | apply pw_below_drewN | apply below_drew1 | refine below_set ?_ GE187.out | refine below_set ?_ GE191.out) | exact HB.out)) hb); clear BK187; clear BK191; clear HB; have BK187 := n0_; have BK191 := n1_; have HB := n2_; clear n0_ n1_ n2_; (try clear hb); (try clear hb2); (try clear hk); (try clear hi); obtain ⟨hcz58_0, hcz58_1, hcz58_2, hcz58_3, hfz58_0, hfz58_1, hfz58_2, hfz58_3⟩ := all4 BK187.out; obtain ⟨hcz59_0, hcz59_1, hcz59_2, hcz59_3, hcz59_4, hfz59_0, hfz59_1, hfz59_2, hfz59_3, hfz59_4⟩ := all5 BK191.out) | (go_at_call 25; (with_reducible refine (lockstitchref05_kinds.calls kj32 _ _ l0_0 a0_1 a0_2 _ _ l0_3 ((rd_T45 l0_3 x4_3).f0) ((rd_T45 l0_3 x4_3).f1) ((rd_T45 l0_3 x4_3).f2) ((rd_T45 l0_3 x4_3).f3) ((rd_T45 l0_3 x4_3).f4) false _ ?side1 ?side2 ?side3 ?side4 A47.out).mono ?_); (case side1 => repeat (first | exact (Kd.C_below HR0_0.out HB.out) | (with_reducible refine Kd.C_alloc ?_ _) | (with_reducible refine Kd.C_drewN ?_ _) | (with_reducible refine Kd.C_drew ?_))); (case side2 => exact HC0_0.out); (case side3 => repeat (first | exact (Kd.C_below HR0_3.out HB.out) | (with_reducible refine Kd.C_alloc ?_ _) | (with_reducible refine Kd.C_drewN ?_ _) | (with_reducible refine Kd.C_drew ?_))); (case side4 => exact HC0_3.out); rintro e w60 ⟨rfl, hb⟩; have n0_ := Aside0.mk (blk_below (g := gb187) (o := .cells #[.slice A0_0 l0_0.length c0_0, .string a0_1, .string a0_2, .slice (some ad190) l0_3.length c0_3] 25 (0, 0)) (by (with_reducible repeat (first | refine blk_drewN ?_ _ | refine blk_drew ?_ | refine blk_alloc ?_ _)); exact BK187.out) hb); have n1_ := Aside0.mk (blk_below (g := gb191) (o := .cells #[.int .u8 ((rd_T45 l0_3 x4_3).f0), .int .u8 ((rd_T45 l0_3 x4_3).f1), .int .u8 ((rd_T45 l0_3 x4_3).f2), .int .u8 ((rd_T45 l0_3 x4_3).f3), .int .i64 ((rd_T45 l0_3 x4_3).f4)] 45 (0, 0)) (by (with_reducible repeat (first | refine blk_drewN ?_ _ | refine blk_drew ?_ | refine blk_alloc ?_ _)); exact BK191.out) hb); have n2_ := Aside0.mk (below_step (by repeat (first | (with_reducible first | exact HB.out | apply below_alloc | apply pw_below_drewN | apply below_drew1 | refine below_set ?_ GE187.out | refine below_set ?_ GE191.out) | exact HB.out)) hb); clear BK187; clear BK191; clear HB; have BK187 := n0_; have BK191 := n1_; have HB := n2_; clear n0_ n1_ n2_; (try clear hb); (try clear hb2); (try clear hk); (try clear hi)))
                   go_ret2
                   exact ⟨by first | rfl | (simp [errW_none, errW_some] <;> rfl) | (simp [*, errW_none, errW_some] <;> rfl), by repeat (first | (with_reducible first | exact HB.out | apply below_alloc | apply pw_below_drewN | apply below_drew1 | refine below_set ?_ GE187.out | refine below_set ?_ GE191.out) | exact HB.out)⟩
                 ·
                  replace c46 := Bool.eq_false_iff.mpr c46
                  subst c46
                  have H1 : (some (x4_3, 5)) = some (r1, r2) := by rw [if_neg (show ¬ (false = true) by decide)] at H; exact H
                  clear H
                  have H := H1
                  clear H1
                  simp only [Option.some.injEq, Prod.mk.injEq] at H
                  obtain ⟨rfl, rfl⟩ := H
                  have hnb61 := NB191_187.out
                  have hnc61 := NB187_191.out
                  obtain ⟨hcz62_0, hcz62_1, hcz62_2, hcz62_3, hcz62_4, hfz62_0, hfz62_1, hfz62_2, hfz62_3, hfz62_4⟩ := all5 BK191.out
                  go_wp2_with (first | ((with_reducible refine gate_callee (f := 24) rfl ?_); refine goesL_ (some 86) rfl rfl Tryd.func24 (by kernel_rfl) rfl #[.agg #[.int .u8 ((rd_T45 l0_3 x4_3).f0), .int .u8 ((rd_T45 l0_3 x4_3).f1), .int .u8 ((rd_T45 l0_3 x4_3).f2), .int .u8 ((rd_T45 l0_3 x4_3).f3), .int .i64 ((rd_T45 l0_3 x4_3).f4)]] rfl (by (try simp only [List.map_toArray, List.map_cons, List.map_nil]); first | done | rfl | (simp only [List.length_drop, List.length_take]; rfl)) ?_; (with_reducible refine (lockstitchref05_ints.calls kj32 ((rd_T45 l0_3 x4_3).f0) ((rd_T45 l0_3 x4_3).f1) ((rd_T45 l0_3 x4_3).f2) ((rd_T45 l0_3 x4_3).f3) ((rd_T45 l0_3 x4_3).f4) false _ A45.out).mono ?_); rintro e w63 ⟨rfl, hb⟩; refine ⟨_, rfl, ?_⟩; have n0_ := Aside0.mk (blk_below (g := gb187) (o := .cells #[.slice A0_0 l0_0.length c0_0, .string a0_1, .string a0_2, .slice (some ad190) l0_3.length c0_3] 25 (0, 0)) (by (with_reducible repeat (first | refine blk_drewN ?_ _ | refine blk_drew ?_ | refine blk_alloc ?_ _)); exact BK187.out) hb); have n1_ := Aside0.mk (blk_below (g := gb191) (o := .cells #[.int .u8 ((rd_T45 l0_3 x4_3).f0), .int .u8 ((rd_T45 l0_3 x4_3).f1), .int .u8 ((rd_T45 l0_3 x4_3).f2), .int .u8 ((rd_T45 l0_3 x4_3).f3), .int .i64 ((rd_T45 l0_3 x4_3).f4)] 45 (0, 0)) (by (with_reducible repeat (first | refine blk_drewN ?_ _ | refine blk_drew ?_ | refine blk_alloc ?_ _)); exact BK191.out) hb); have n2_ := Aside0.mk (below_step (by repeat (first | (with_reducible first | exact HB.out | apply below_alloc | apply pw_below_drewN | apply below_drew1 | refine below_set ?_ GE187.out | refine below_set ?_ GE191.out) | exact HB.out)) hb); clear BK187; clear BK191; clear HB; have BK187 := n0_; have BK191 := n1_; have HB := n2_; clear n0_ n1_ n2_; (try clear hb); (try clear hb2); (try clear hk); (try clear hi)))
                  go_ret2
                  exact ⟨by first | rfl | (simp [errW_none, errW_some] <;> rfl) | (simp [*, errW_none, errW_some] <;> rfl), by repeat (first | (with_reducible first | exact HB.out | apply below_alloc | apply pw_below_drewN | apply below_drew1 | refine below_set ?_ GE187.out | refine below_set ?_ GE191.out) | exact HB.out)⟩
             ·
              replace c32 := Bool.eq_false_iff.mpr c32
              subst c32
              have H1 : (some (x4_3, 4)) = some (r1, r2) := by rw [if_neg (show ¬ (false = true) by decide)] at H; exact H
              clear H
              have H := H1
              clear H1
              simp only [Option.some.injEq, Prod.mk.injEq] at H
              obtain ⟨rfl, rfl⟩ := H
              have hnb64 := NB191_187.out
              have hnc64 := NB187_191.out
              obtain ⟨hcz65_0, hcz65_1, hcz65_2, hcz65_3, hcz65_4, hfz65_0, hfz65_1, hfz65_2, hfz65_3, hfz65_4⟩ := all5 BK191.out
              go_wp2_with (first | ((with_reducible refine gate_callee (f := 23) rfl ?_); refine goesL_ (some 65) rfl rfl Tryd.func23 (by kernel_rfl) rfl #[.agg #[.int .u8 ((rd_T45 l0_3 x4_3).f0), .int .u8 ((rd_T45 l0_3 x4_3).f1), .int .u8 ((rd_T45 l0_3 x4_3).f2), .int .u8 ((rd_T45 l0_3 x4_3).f3), .int .i64 ((rd_T45 l0_3 x4_3).f4)]] rfl (by (try simp only [List.map_toArray, List.map_cons, List.map_nil]); first | done | rfl | (simp only [List.length_drop, List.length_take]; rfl)) ?_; (with_reducible refine (lockstitchref04_Right.calls kj20 ((rd_T45 l0_3 x4_3).f0) ((rd_T45 l0_3 x4_3).f1) ((rd_T45 l0_3 x4_3).f2) ((rd_T45 l0_3 x4_3).f3) ((rd_T45 l0_3 x4_3).f4) false _ ?side1 A31.out).mono ?_); (case side1 => repeat (first | exact (Kd.C_below HRT.out HB.out) | (with_reducible refine Kd.C_alloc ?_ _) | (with_reducible refine Kd.C_drewN ?_ _) | (with_reducible refine Kd.C_drew ?_))); rintro e w66 ⟨rfl, hb⟩; refine ⟨_, rfl, ?_⟩; have n0_ := Aside0.mk (blk_below (g := gb187) (o := .cells #[.slice A0_0 l0_0.length c0_0, .string a0_1, .string a0_2, .slice (some ad190) l0_3.length c0_3] 25 (0, 0)) (by (with_reducible repeat (first | refine blk_drewN ?_ _ | refine blk_drew ?_ | refine blk_alloc ?_ _)); exact BK187.out) hb); have n1_ := Aside0.mk (blk_below (g := gb191) (o := .cells #[.int .u8 ((rd_T45 l0_3 x4_3).f0), .int .u8 ((rd_T45 l0_3 x4_3).f1), .int .u8 ((rd_T45 l0_3 x4_3).f2), .int .u8 ((rd_T45 l0_3 x4_3).f3), .int .i64 ((rd_T45 l0_3 x4_3).f4)] 45 (0, 0)) (by (with_reducible repeat (first | refine blk_drewN ?_ _ | refine blk_drew ?_ | refine blk_alloc ?_ _)); exact BK191.out) hb); have n2_ := Aside0.mk (below_step (by repeat (first | (with_reducible first | exact HB.out | apply below_alloc | apply pw_below_drewN | apply below_drew1 | refine below_set ?_ GE187.out | refine below_set ?_ GE191.out) | exact HB.out)) hb); clear BK187; clear BK191; clear HB; have BK187 := n0_; have BK191 := n1_; have HB := n2_; clear n0_ n1_ n2_; (try clear hb); (try clear hb2); (try clear hk); (try clear hi)))
              go_ret2
              exact ⟨by first | rfl | (simp [errW_none, errW_some] <;> rfl) | (simp [*, errW_none, errW_some] <;> rfl), by repeat (first | (with_reducible first | exact HB.out | apply below_alloc | apply pw_below_drewN | apply below_drew1 | refine below_set ?_ GE187.out | refine below_set ?_ GE191.out) | exact HB.out)⟩
          ·
           rw [if_neg c20] at H
           exact absurd H (by simp)
         ·
          rw [if_neg c19] at H
          have c19b0 : decide (x4_3 < (l0_3.length : Int)) = false := decide_eq_false c19
          clear c19
          simp only [Option.some.injEq, Prod.mk.injEq] at H
          obtain ⟨rfl, rfl⟩ := H
          obtain ⟨hcz67_0, hcz67_1, hcz67_2, hcz67_3, hfz67_0, hfz67_1, hfz67_2, hfz67_3⟩ := all4 BK187.out
          go_wp2
          go_ret2
          exact ⟨by first | rfl | (simp [errW_none, errW_some] <;> rfl) | (simp [*, errW_none, errW_some] <;> rfl), by repeat (first | (with_reducible first | exact HB.out | apply below_alloc | apply pw_below_drewN | apply below_drew1 | refine below_set ?_ GE187.out) | exact HB.out)⟩

end Go.Proofs.YtgfnpdfhdgenbaaDoor.P
