/- FUNCTIONS OF THE PROGRAM AS LEAN FUNCTIONS, AND THAT THE PROGRAM's CALLS ANSWER AS THEY DO: written by a program of this session. -/
import Derived.Test.YtdkachialdabaaaDoorPx0
import Derived.Test.YtdkachialdabaaaDoorPx4
import Derived.Test.YtdkachialdabaaaDoorPx5
import Derived.Test.YtdkachialdabaaaDoorGiven
namespace Go.Proofs.YtdkachialdabaaaDoor.P
open Go.RowKit Go.Proofs.YtdkachialdabaaaDoorW.PrintWords Go.Proofs.YtdkachialdabaaaDoorW.PrintLast Go.Proofs.YtdkachialdabaaaDoorW.PrintMore
attribute [local go_sem] max2_int min2_int max_two min_two max_three min_three max_four min_four   -- for this text's walks alone
set_option linter.unusedVariables false
set_option linter.unusedSimpArgs false

/-! ### lockstitchlaw05_CheckEach: function 6 -/
mutual
def lockstitchlaw05_CheckEach.j0 : Nat → Bool → List ByteArray → ByteArray → ByteArray → List (S32) → Option (Bool)
  | 0, _, _, _, _, _ => none
  | k + 1, x27, x219000, x219001, x219002, x219003 => if x27 = true then (some true) else ((check_Check.f k x219000 x219001 x219002 x219003).bind fun bt221 => (lockstitchlaw05_CheckEach.l0 k bt221.1 bt221.2 (-1) x219003 (x219003.length : Int) 0 x219000 x219001 x219002 x219003))
def lockstitchlaw05_CheckEach.l0 : Nat → Int → Int → Int → List (S32) → Int → Int → List ByteArray → ByteArray → ByteArray → List (S32) → Option (Bool)
  | 0, _, _, _, _, _, _, _, _, _, _ => none
  | k + 1, x3, x4, x5, x34, x35, x36, x219000, x219001, x219002, x219003 => if x36 < x35 then (if 0 ≤ x36 then (if x36 < (x34.length : Int) then (lockstitchlaw05_CheckEach.l1 k x3 x4 x5 x36 x34 x35 x36 (x219003.length : Int) 0 x219000 x219001 x219002 x219003 ((rd_T32 x34 x36).f0) ((rd_T32 x34 x36).f1) ((rd_T32 x34 x36).f2) ((rd_T32 x34 x36).f3) ((rd_T32 x34 x36).f4) x219000 x219001 x219002 ([] : List (S32))) else (none)) else (none)) else (if ((decide (x5 ≥ 0)) == (x4 != 0)) = true then (if x3 < 0 then (some true) else (some (x3 == x5))) else (some false))
def lockstitchlaw05_CheckEach.l1 : Nat → Int → Int → Int → Int → List (S32) → Int → Int → Int → Int → List ByteArray → ByteArray → ByteArray → List (S32) → Int → Int → Int → Int → Int → List ByteArray → ByteArray → ByteArray → List (S32) → Option (Bool)
  | 0, _, _, _, _, _, _, _, _, _, _, _, _, _, _, _, _, _, _, _, _, _, _ => none
  | k + 1, x3, x4, x5, x6, x34, x35, x36, x45, x46, x219000, x219001, x219002, x219003, x225000, x225001, x225002, x225003, x225004, x226000, x226001, x226002, x226003 => if x46 < x45 then (if x226003.length < 8796093022208 then (lockstitchlaw05_CheckEach.l1 k x3 x4 x5 x6 x34 x35 x36 x45 (wrap64 (x46 + 1)) x219000 x219001 x219002 x219003 x225000 x225001 x225002 x225003 x225004 x226000 x226001 x226002 (x226003 ++ [(⟨14, 0, 0, 0, 0⟩ : S32)])) else (none)) else (if 0 ≤ x6 then (if x6 < (x226003.length : Int) then ((check_Check.f k x226000 x226001 x226002 (x226003.set (x6 : Int).toNat (⟨x225000, x225001, x225002, x225003, x225004⟩ : S32))).bind fun bt230 => (if bt230.2 = 0 then (lockstitchlaw05_CheckEach.j3 k x3 x4 x5 x6 bt230.1 bt230.2 x34 x35 x36 false x219000 x219001 x219002 x219003) else (lockstitchlaw05_CheckEach.j3 k x3 x4 x5 x6 bt230.1 bt230.2 x34 x35 x36 (decide (x5 < 0)) x219000 x219001 x219002 x219003))) else (none)) else (none))
def lockstitchlaw05_CheckEach.j3 : Nat → Int → Int → Int → Int → Int → Int → List (S32) → Int → Int → Bool → List ByteArray → ByteArray → ByteArray → List (S32) → Option (Bool)
  | 0, _, _, _, _, _, _, _, _, _, _, _, _, _, _ => none
  | k + 1, x3, x4, x5, x6, x9, x10, x34, x35, x36, x70, x219000, x219001, x219002, x219003 => if x70 = true then (if x10 = x4 then (if x3 ≥ 0 then (if x9 = x3 then (lockstitchlaw05_CheckEach.l0 k x3 x4 x6 x34 x35 (wrap64 (x36 + 1)) x219000 x219001 x219002 x219003) else (some false)) else (lockstitchlaw05_CheckEach.l0 k x3 x4 x6 x34 x35 (wrap64 (x36 + 1)) x219000 x219001 x219002 x219003)) else (some false)) else (lockstitchlaw05_CheckEach.l0 k x3 x4 x5 x34 x35 (wrap64 (x36 + 1)) x219000 x219001 x219002 x219003)
end
def lockstitchlaw05_CheckEach.f (k : Nat) (l0_0 : List ByteArray) (a0_1 : ByteArray) (a0_2 : ByteArray) (l0_3 : List (S32)) : Option (Bool) := (lockstitchlaw05_alive.f k).bind fun t219 => (if t219 = true then ((lockstitchlaw04_Few.f k l0_0 a0_1 a0_2 l0_3).bind fun t220 => (if t220 = true then (if (l0_3.length : Int) < 1 then (lockstitchlaw05_CheckEach.j0 k true l0_0 a0_1 a0_2 l0_3) else (lockstitchlaw05_CheckEach.j0 k (decide ((l0_3.length : Int) > 60)) l0_0 a0_1 a0_2 l0_3)) else (lockstitchlaw05_CheckEach.j0 k true l0_0 a0_1 a0_2 l0_3))) else (some false))
theorem lockstitchlaw05_CheckEach.mono_l : ∀ k, (∀ y0 y1 y2 y3 y4, LeO (lockstitchlaw05_CheckEach.j0 k y0 y1 y2 y3 y4) (lockstitchlaw05_CheckEach.j0 (k + 1) y0 y1 y2 y3 y4)) ∧ (∀ y0 y1 y2 y3 y4 y5 y6 y7 y8 y9, LeO (lockstitchlaw05_CheckEach.l0 k y0 y1 y2 y3 y4 y5 y6 y7 y8 y9) (lockstitchlaw05_CheckEach.l0 (k + 1) y0 y1 y2 y3 y4 y5 y6 y7 y8 y9)) ∧ (∀ y0 y1 y2 y3 y4 y5 y6 y7 y8 y9 y10 y11 y12 y13 y14 y15 y16 y17 y18 y19 y20 y21, LeO (lockstitchlaw05_CheckEach.l1 k y0 y1 y2 y3 y4 y5 y6 y7 y8 y9 y10 y11 y12 y13 y14 y15 y16 y17 y18 y19 y20 y21) (lockstitchlaw05_CheckEach.l1 (k + 1) y0 y1 y2 y3 y4 y5 y6 y7 y8 y9 y10 y11 y12 y13 y14 y15 y16 y17 y18 y19 y20 y21)) ∧ (∀ y0 y1 y2 y3 y4 y5 y6 y7 y8 y9 y10 y11 y12 y13, LeO (lockstitchlaw05_CheckEach.j3 k y0 y1 y2 y3 y4 y5 y6 y7 y8 y9 y10 y11 y12 y13) (lockstitchlaw05_CheckEach.j3 (k + 1) y0 y1 y2 y3 y4 y5 y6 y7 y8 y9 y10 y11 y12 y13))
  | 0 => ⟨fun _ _ _ _ _ r h => by simp [lockstitchlaw05_CheckEach.j0] at h, fun _ _ _ _ _ _ _ _ _ _ r h => by simp [lockstitchlaw05_CheckEach.l0] at h, fun _ _ _ _ _ _ _ _ _ _ _ _ _ _ _ _ _ _ _ _ _ _ r h => by simp [lockstitchlaw05_CheckEach.l1] at h, fun _ _ _ _ _ _ _ _ _ _ _ _ _ _ r h => by simp [lockstitchlaw05_CheckEach.j3] at h⟩
  | k + 1 => by
    obtain ⟨ih0, ih1, ih2, ih3⟩ := lockstitchlaw05_CheckEach.mono_l k
    refine ⟨?_, ?_, ?_, ?_⟩
    · intro y0 y1 y2 y3 y4
      unfold lockstitchlaw05_CheckEach.j0
      repeat' first
      | (with_reducible exact ih0 _ _ _ _ _)
      | (with_reducible exact ih1 _ _ _ _ _ _ _ _ _ _)
      | (with_reducible exact ih2 _ _ _ _ _ _ _ _ _ _ _ _ _ _ _ _ _ _ _ _ _ _)
      | (with_reducible exact ih3 _ _ _ _ _ _ _ _ _ _ _ _ _ _)
      | (with_reducible exact check_Check.mono _ _ _ _ _)
      | (with_reducible exact lockstitchlaw04_Few.mono _ _ _ _ _)
      | (with_reducible exact lockstitchlaw05_alive.mono _)
      | (with_reducible exact LeO.refl _)
      | (with_reducible exact LeO.none _)
      | (with_reducible refine LeO.ite ?_ ?_)
      | (with_reducible refine LeO.bind ?_ (fun _ => ?_))
      | exact ih0 _ _ _ _ _
      | exact ih1 _ _ _ _ _ _ _ _ _ _
      | exact ih2 _ _ _ _ _ _ _ _ _ _ _ _ _ _ _ _ _ _ _ _ _ _
      | exact ih3 _ _ _ _ _ _ _ _ _ _ _ _ _ _
      | exact check_Check.mono _ _ _ _ _
      | exact lockstitchlaw04_Few.mono _ _ _ _ _
      | exact lockstitchlaw05_alive.mono _
      | exact LeO.none _
      | refine LeO.ite ?_ ?_
      | refine LeO.bind ?_ (fun _ => ?_)
    · intro y0 y1 y2 y3 y4 y5 y6 y7 y8 y9
      unfold lockstitchlaw05_CheckEach.l0
      repeat' first
      | (with_reducible exact ih0 _ _ _ _ _)
      | (with_reducible exact ih1 _ _ _ _ _ _ _ _ _ _)
      | (with_reducible exact ih2 _ _ _ _ _ _ _ _ _ _ _ _ _ _ _ _ _ _ _ _ _ _)
      | (with_reducible exact ih3 _ _ _ _ _ _ _ _ _ _ _ _ _ _)
      | (with_reducible exact check_Check.mono _ _ _ _ _)
      | (with_reducible exact lockstitchlaw04_Few.mono _ _ _ _ _)
      | (with_reducible exact lockstitchlaw05_alive.mono _)
      | (with_reducible exact LeO.refl _)
      | (with_reducible exact LeO.none _)
      | (with_reducible refine LeO.ite ?_ ?_)
      | (with_reducible refine LeO.bind ?_ (fun _ => ?_))
      | exact ih0 _ _ _ _ _
      | exact ih1 _ _ _ _ _ _ _ _ _ _
      | exact ih2 _ _ _ _ _ _ _ _ _ _ _ _ _ _ _ _ _ _ _ _ _ _
      | exact ih3 _ _ _ _ _ _ _ _ _ _ _ _ _ _
      | exact check_Check.mono _ _ _ _ _
      | exact lockstitchlaw04_Few.mono _ _ _ _ _
      | exact lockstitchlaw05_alive.mono _
      | exact LeO.none _
      | refine LeO.ite ?_ ?_
      | refine LeO.bind ?_ (fun _ => ?_)
    · intro y0 y1 y2 y3 y4 y5 y6 y7 y8 y9 y10 y11 y12 y13 y14 y15 y16 y17 y18 y19 y20 y21
      unfold lockstitchlaw05_CheckEach.l1
      repeat' first
      | (with_reducible exact ih0 _ _ _ _ _)
      | (with_reducible exact ih1 _ _ _ _ _ _ _ _ _ _)
      | (with_reducible exact ih2 _ _ _ _ _ _ _ _ _ _ _ _ _ _ _ _ _ _ _ _ _ _)
      | (with_reducible exact ih3 _ _ _ _ _ _ _ _ _ _ _ _ _ _)
      | (with_reducible exact check_Check.mono _ _ _ _ _)
      | (with_reducible exact lockstitchlaw04_Few.mono _ _ _ _ _)
      | (with_reducible exact lockstitchlaw05_alive.mono _)
      | (with_reducible exact LeO.refl _)
      | (with_reducible exact LeO.none _)
      | (with_reducible refine LeO.ite ?_ ?_)
      | (with_reducible refine LeO.bind ?_ (fun _ => ?_))
      | exact ih0 _ _ _ _ _
      | exact ih1 _ _ _ _ _ _ _ _ _ _
      | exact ih2 _ _ _ _ _ _ _ _ _ _ _ _ _ _ _ _ _ _ _ _ _ _
      | exact ih3 _ _ _ _ _ _ _ _ _ _ _ _ _ _
      | exact check_Check.mono _ _ _ _ _
      | exact lockstitchlaw04_Few.mono _ _ _ _ _
      | exact lockstitchlaw05_alive.mono _
      | exact LeO.none _
      | refine LeO.ite ?_ ?_
      | refine LeO.bind ?_ (fun _ => ?_)
    · intro y0 y1 y2 y3 y4 y5 y6 y7 y8 y9 y10 y11 y12 y13
      unfold lockstitchlaw05_CheckEach.j3
      repeat' first
      | (with_reducible exact ih0 _ _ _ _ _)
      | (with_reducible exact ih1 _ _ _ _ _ _ _ _ _ _)
      | (with_reducible exact ih2 _ _ _ _ _ _ _ _ _ _ _ _ _ _ _ _ _ _ _ _ _ _)
      | (with_reducible exact ih3 _ _ _ _ _ _ _ _ _ _ _ _ _ _)
      | (with_reducible exact check_Check.mono _ _ _ _ _)
      | (with_reducible exact lockstitchlaw04_Few.mono _ _ _ _ _)
      | (with_reducible exact lockstitchlaw05_alive.mono _)
      | (with_reducible exact LeO.refl _)
      | (with_reducible exact LeO.none _)
      | (with_reducible refine LeO.ite ?_ ?_)
      | (with_reducible refine LeO.bind ?_ (fun _ => ?_))
      | exact ih0 _ _ _ _ _
      | exact ih1 _ _ _ _ _ _ _ _ _ _
      | exact ih2 _ _ _ _ _ _ _ _ _ _ _ _ _ _ _ _ _ _ _ _ _ _
      | exact ih3 _ _ _ _ _ _ _ _ _ _ _ _ _ _
      | exact check_Check.mono _ _ _ _ _
      | exact lockstitchlaw04_Few.mono _ _ _ _ _
      | exact lockstitchlaw05_alive.mono _
      | exact LeO.none _
      | refine LeO.ite ?_ ?_
      | refine LeO.bind ?_ (fun _ => ?_)
theorem lockstitchlaw05_CheckEach.mono : ∀ a0 a1 a2 a3 k, LeO (lockstitchlaw05_CheckEach.f k a0 a1 a2 a3) (lockstitchlaw05_CheckEach.f (k + 1) a0 a1 a2 a3) := by
  intro a0 a1 a2 a3 k
  obtain ⟨ih0, ih1, ih2, ih3⟩ := lockstitchlaw05_CheckEach.mono_l k
  unfold lockstitchlaw05_CheckEach.f
  repeat' first
      | (with_reducible exact ih0 _ _ _ _ _)
      | (with_reducible exact ih1 _ _ _ _ _ _ _ _ _ _)
      | (with_reducible exact ih2 _ _ _ _ _ _ _ _ _ _ _ _ _ _ _ _ _ _ _ _ _ _)
      | (with_reducible exact ih3 _ _ _ _ _ _ _ _ _ _ _ _ _ _)
      | (with_reducible exact check_Check.mono _ _ _ _ _)
      | (with_reducible exact lockstitchlaw04_Few.mono _ _ _ _ _)
      | (with_reducible exact lockstitchlaw05_alive.mono _)
      | (with_reducible exact LeO.refl _)
      | (with_reducible exact LeO.none _)
      | (with_reducible refine LeO.ite ?_ ?_)
      | (with_reducible refine LeO.bind ?_ (fun _ => ?_))
      | exact ih0 _ _ _ _ _
      | exact ih1 _ _ _ _ _ _ _ _ _ _
      | exact ih2 _ _ _ _ _ _ _ _ _ _ _ _ _ _ _ _ _ _ _ _ _ _
      | exact ih3 _ _ _ _ _ _ _ _ _ _ _ _ _ _
      | exact check_Check.mono _ _ _ _ _
      | exact lockstitchlaw04_Few.mono _ _ _ _ _
      | exact lockstitchlaw05_alive.mono _
      | exact LeO.none _
      | refine LeO.ite ?_ ?_
      | refine LeO.bind ?_ (fun _ => ?_)
set_option maxHeartbeats 8000000 in
set_option maxRecDepth 100000 in
theorem lockstitchlaw05_CheckEach.calls (k : Nat) (A0_0 : Option Addr) (c0_0 : Nat) (l0_0 : List ByteArray) (a0_1 : ByteArray) (a0_2 : ByteArray) (A0_3 : Option Addr) (c0_3 : Nat) (l0_3 : List (S32)) (r : Bool) (w : World) (hr0_0 : Kd.C Kd.string w A0_0 l0_0.length l0_0) (hc0_0 : l0_0.length ≤ c0_0) (hr0_3 : Kd.C k32 w A0_3 l0_3.length l0_3) (hc0_3 : l0_3.length ≤ c0_3) (hrT : Kd.C Kd.string w tabA tabL.length tabL) (h : lockstitchlaw05_CheckEach.f k l0_0 a0_1 a0_2 l0_3 = some r) :
    Calls Tryd.prog 6 #[.agg #[.slice A0_0 l0_0.length c0_0, .string a0_1, .string a0_2, .slice A0_3 l0_3.length c0_3]] w fun e w' => e = .returned (.bool r) ∧ Below w.heap.size w w' := by
  have hu25 := Tryd.underlying25
  have hu32 := Tryd.underlying32
  have HR0_0 := Aside0.mk hr0_0
  have HC0_0 := Aside0.mk hc0_0
  clear hr0_0 hc0_0
  have HR0_3 := Aside0.mk hr0_3
  have HC0_3 := Aside0.mk hc0_3
  clear hr0_3 hc0_3
  have HRT := Aside0.mk hrT
  clear hrT
  have HB := Aside0.mk (Below.refl w.heap.size w)
  have H : ((lockstitchlaw05_alive.f k).bind fun t219 => (if t219 = true then ((lockstitchlaw04_Few.f k l0_0 a0_1 a0_2 l0_3).bind fun t220 => (if t220 = true then (if (l0_3.length : Int) < 1 then (lockstitchlaw05_CheckEach.j0 k true l0_0 a0_1 a0_2 l0_3) else (lockstitchlaw05_CheckEach.j0 k (decide ((l0_3.length : Int) > 60)) l0_0 a0_1 a0_2 l0_3)) else (lockstitchlaw05_CheckEach.j0 k true l0_0 a0_1 a0_2 l0_3))) else (some false))) = some r := h
  clear h
  replace H := Option.bind_eq_some_iff.mp H
  obtain ⟨t219, A20, H⟩ := H
  replace H : (if t219 = true then ((lockstitchlaw04_Few.f k l0_0 a0_1 a0_2 l0_3).bind fun t220 => (if t220 = true then (if (l0_3.length : Int) < 1 then (lockstitchlaw05_CheckEach.j0 k true l0_0 a0_1 a0_2 l0_3) else (lockstitchlaw05_CheckEach.j0 k (decide ((l0_3.length : Int) > 60)) l0_0 a0_1 a0_2 l0_3)) else (lockstitchlaw05_CheckEach.j0 k true l0_0 a0_1 a0_2 l0_3))) else (some false)) = some r := H
  have A2 := Aside0.mk A20
  clear A20
  by_cases c3 : t219 = true
  · subst c3
    have H1 : ((lockstitchlaw04_Few.f k l0_0 a0_1 a0_2 l0_3).bind fun t220 => (if t220 = true then (if (l0_3.length : Int) < 1 then (lockstitchlaw05_CheckEach.j0 k true l0_0 a0_1 a0_2 l0_3) else (lockstitchlaw05_CheckEach.j0 k (decide ((l0_3.length : Int) > 60)) l0_0 a0_1 a0_2 l0_3)) else (lockstitchlaw05_CheckEach.j0 k true l0_0 a0_1 a0_2 l0_3))) = some r := by rw [if_pos rfl] at H; exact H
    clear H
    have H := H1
    clear H1
    have HC4 := Aside0.mk H
    clear H
    go_enter Tryd.func6, Tryd.ntmps6
    go_upto_region 3 with (first | ((with_reducible refine gate_dst (N := 1) rfl ?_); (try (refine gate_guard (by rfl) ?_; dsimp only)); refine box_event ?hg (N := 1) ?hd (cs := #[.slice A0_0 l0_0.length c0_0, .string a0_1, .string a0_2, .slice A0_3 l0_3.length c0_3]) (t := 25) ?hr ?_; (case hd => rfl); (case hg => rfl); (case hr => first | (go_simp; done) | (go_simp; rfl)); intro gb218 hg w5 hbox hb; have n0_ := Aside0.mk (below_step (by repeat (first | (with_reducible first | exact HB.out | apply below_alloc | apply pw_below_drewN | apply below_drew1) | exact HB.out)) hb); have n1_ := Aside0.mk (hbox); have n2_ := Aside0.mk ((by rw [hg]; exact (below_size (by repeat (first | (with_reducible first | exact HB.out | apply below_alloc | apply pw_below_drewN | apply below_drew1) | exact HB.out))) : w.heap.size ≤ gb218)); have n3_ := Aside0.mk ((by rw [hg]; exact (below_size (by repeat (first | (with_reducible first | exact HB.out | apply below_alloc | apply pw_below_drewN | apply below_drew1) | exact HB.out))) : w.heap.size ≤ gb218)); clear HB; have HB := n0_; have BK218 := n1_; have GW218 := n2_; have GE218 := n3_; clear n0_ n1_ n2_ n3_; clear hb hbox hg) | ((with_reducible refine gate_callee (f := 8) rfl ?_); refine goesL_ (some 11) rfl rfl Tryd.func8 (by kernel_rfl) rfl #[] rfl (by (try simp only [List.map_toArray, List.map_cons, List.map_nil]); first | done | rfl | (simp only [List.length_drop, List.length_take]; rfl)) ?_; (with_reducible refine (lockstitchlaw05_alive.calls k  true _ ?side1 A2.out).mono ?_); (case side1 => repeat (first | exact (Kd.C_below HRT.out HB.out) | (with_reducible refine Kd.C_alloc ?_ _) | (with_reducible refine Kd.C_drewN ?_ _) | (with_reducible refine Kd.C_drew ?_))); rintro e w6 ⟨rfl, hb⟩; refine ⟨_, rfl, ?_⟩; have n0_ := Aside0.mk (blk_below (g := gb218) (o := .cells #[.slice A0_0 l0_0.length c0_0, .string a0_1, .string a0_2, .slice A0_3 l0_3.length c0_3] 25 (0, 0)) (by (with_reducible repeat (first | refine blk_drewN ?_ _ | refine blk_drew ?_ | refine blk_alloc ?_ _)); exact BK218.out) hb); have n1_ := Aside0.mk (below_step (by repeat (first | (with_reducible first | exact HB.out | apply below_alloc | apply pw_below_drewN | apply below_drew1 | refine below_set ?_ GE218.out) | exact HB.out)) hb); clear BK218; clear HB; have BK218 := n0_; have HB := n1_; clear n0_ n1_; (try clear hb); (try clear hb2); (try clear hk); (try clear hi)))
    (try simp only [Act.put, List.setIfInBounds_toArray, List.set_cons_zero, List.set_cons_succ])
    go_cut [27] (fun v27 wc => ∃ (kq : Nat) (x27_3 : Bool), v27 = .bool x27_3 ∧ Aside0 (lockstitchlaw05_CheckEach.j0 kq x27_3 l0_0 a0_1 a0_2 l0_3 = some r) ∧ Aside0 (kq ≤ k) ∧ Aside0 (wc.heap[gb218]? = some (.cells #[(.slice A0_0 l0_0.length c0_0), .string a0_1, .string a0_2, (.slice A0_3 l0_3.length c0_3)] 25 (0, 0))) ∧ Aside0 (Below w.heap.size w wc))
    case first =>
      have H := HC4.out
      clear HC4
      replace H := Option.bind_eq_some_iff.mp H
      obtain ⟨t220, A70, H⟩ := H
      replace H : (if t220 = true then (if (l0_3.length : Int) < 1 then (lockstitchlaw05_CheckEach.j0 k true l0_0 a0_1 a0_2 l0_3) else (lockstitchlaw05_CheckEach.j0 k (decide ((l0_3.length : Int) > 60)) l0_0 a0_1 a0_2 l0_3)) else (lockstitchlaw05_CheckEach.j0 k true l0_0 a0_1 a0_2 l0_3)) = some r := H
      have A7 := Aside0.mk A70
      clear A70
      by_cases c8 : t220 = true
      · subst c8
        have H1 : (if (l0_3.length : Int) < 1 then (lockstitchlaw05_CheckEach.j0 k true l0_0 a0_1 a0_2 l0_3) else (lockstitchlaw05_CheckEach.j0 k (decide ((l0_3.length : Int) > 60)) l0_0 a0_1 a0_2 l0_3)) = some r := by rw [if_pos rfl] at H; exact H
        clear H
        have H := H1
        clear H1
        by_cases c9 : (l0_3.length : Int) < 1
        · rw [if_pos c9] at H
          have c9b0 : decide ((l0_3.length : Int) < 1) = true := decide_eq_true c9
          have c9b1 : decide (l0_3.length < 1) = true := decide_eq_true (by omega)
          clear c9
          (first | rw [c9b0] | (simp only [i64_w, i32_w]; rw [c9b0]) | skip)
          have H' := Aside0.mk H
          clear H
          have hcz10_0 : w6.cell? ⟨gb218, 0, none⟩ = some (.slice A0_0 l0_0.length c0_0) := (blk_cell BK218.out 0).trans rfl
          have hcz10_1 : w6.cell? ⟨gb218, 1, none⟩ = some (.string a0_1) := (blk_cell BK218.out 1).trans rfl
          have hcz10_2 : w6.cell? ⟨gb218, 2, none⟩ = some (.string a0_2) := (blk_cell BK218.out 2).trans rfl
          have hcz10_3 : w6.cell? ⟨gb218, 3, none⟩ = some (.slice A0_3 l0_3.length c0_3) := (blk_cell BK218.out 3).trans rfl
          have hfz10_0 := blk_frozen BK218.out 0
          have hfz10_1 := blk_frozen BK218.out 1
          have hfz10_2 := blk_frozen BK218.out 2
          have hfz10_3 := blk_frozen BK218.out 3
          go_wp2_with (first | ((with_reducible refine gate_callee (f := 9) rfl ?_); refine goesL_ (some 14) rfl rfl Tryd.func9 (by kernel_rfl) rfl #[.agg #[.slice A0_0 l0_0.length c0_0, .string a0_1, .string a0_2, .slice A0_3 l0_3.length c0_3]] rfl (by (try simp only [List.map_toArray, List.map_cons, List.map_nil]); first | done | rfl | (simp only [List.length_drop, List.length_take]; rfl)) ?_; (with_reducible refine (lockstitchlaw04_Few.calls k _ _ l0_0 a0_1 a0_2 _ _ l0_3 true _ ?side1 ?side2 ?side3 ?side4 A7.out).mono ?_); (case side1 => repeat (first | exact (Kd.C_below HR0_0.out HB.out) | (with_reducible refine Kd.C_alloc ?_ _) | (with_reducible refine Kd.C_drewN ?_ _) | (with_reducible refine Kd.C_drew ?_))); (case side2 => exact HC0_0.out); (case side3 => repeat (first | exact (Kd.C_below HR0_3.out HB.out) | (with_reducible refine Kd.C_alloc ?_ _) | (with_reducible refine Kd.C_drewN ?_ _) | (with_reducible refine Kd.C_drew ?_))); (case side4 => exact HC0_3.out); rintro e w11 ⟨rfl, hb⟩; refine ⟨_, rfl, ?_⟩; have n0_ := Aside0.mk (blk_below (g := gb218) (o := .cells #[.slice A0_0 l0_0.length c0_0, .string a0_1, .string a0_2, .slice A0_3 l0_3.length c0_3] 25 (0, 0)) (by (with_reducible repeat (first | refine blk_drewN ?_ _ | refine blk_drew ?_ | refine blk_alloc ?_ _)); exact BK218.out) hb); have n1_ := Aside0.mk (below_step (by repeat (first | (with_reducible first | exact HB.out | apply below_alloc | apply pw_below_drewN | apply below_drew1 | refine below_set ?_ GE218.out) | exact HB.out)) hb); clear BK218; clear HB; have BK218 := n0_; have HB := n1_; clear n0_ n1_; (try clear hb); (try clear hb2); (try clear hk); (try clear hi); have hcz12_0 : w11.cell? ⟨gb218, 0, none⟩ = some (.slice A0_0 l0_0.length c0_0) := (blk_cell BK218.out 0).trans rfl; have hcz12_1 : w11.cell? ⟨gb218, 1, none⟩ = some (.string a0_1) := (blk_cell BK218.out 1).trans rfl; have hcz12_2 : w11.cell? ⟨gb218, 2, none⟩ = some (.string a0_2) := (blk_cell BK218.out 2).trans rfl; have hcz12_3 : w11.cell? ⟨gb218, 3, none⟩ = some (.slice A0_3 l0_3.length c0_3) := (blk_cell BK218.out 3).trans rfl; have hfz12_0 := blk_frozen BK218.out 0; have hfz12_1 := blk_frozen BK218.out 1; have hfz12_2 := blk_frozen BK218.out 2; have hfz12_3 := blk_frozen BK218.out 3))
          go_meet
          case rel => exact ⟨_, (true), (by first | rfl | (simp; done) | (simp [*]; done)), H', ⟨by first | omega | exact Nat.le_refl _⟩, ⟨by (with_reducible repeat (first | refine blk_drewN ?_ _ | refine blk_drew ?_ | refine blk_alloc ?_ _)); exact BK218.out⟩, ⟨by repeat (first | (with_reducible first | exact HB.out | apply below_alloc | apply pw_below_drewN | apply below_drew1 | refine below_set ?_ GE218.out) | exact HB.out)⟩⟩
        · rw [if_neg c9] at H
          have c9b0 : decide ((l0_3.length : Int) < 1) = false := decide_eq_false c9
          have c9b1 : decide (l0_3.length < 1) = false := decide_eq_false (by omega)
          clear c9
          (first | rw [c9b0] | (simp only [i64_w, i32_w]; rw [c9b0]) | skip)
          have H' := Aside0.mk H
          clear H
          have hcz13_0 : w6.cell? ⟨gb218, 0, none⟩ = some (.slice A0_0 l0_0.length c0_0) := (blk_cell BK218.out 0).trans rfl
          have hcz13_1 : w6.cell? ⟨gb218, 1, none⟩ = some (.string a0_1) := (blk_cell BK218.out 1).trans rfl
          have hcz13_2 : w6.cell? ⟨gb218, 2, none⟩ = some (.string a0_2) := (blk_cell BK218.out 2).trans rfl
          have hcz13_3 : w6.cell? ⟨gb218, 3, none⟩ = some (.slice A0_3 l0_3.length c0_3) := (blk_cell BK218.out 3).trans rfl
          have hfz13_0 := blk_frozen BK218.out 0
          have hfz13_1 := blk_frozen BK218.out 1
          have hfz13_2 := blk_frozen BK218.out 2
          have hfz13_3 := blk_frozen BK218.out 3
          go_wp2_with (first | ((with_reducible refine gate_callee (f := 9) rfl ?_); refine goesL_ (some 14) rfl rfl Tryd.func9 (by kernel_rfl) rfl #[.agg #[.slice A0_0 l0_0.length c0_0, .string a0_1, .string a0_2, .slice A0_3 l0_3.length c0_3]] rfl (by (try simp only [List.map_toArray, List.map_cons, List.map_nil]); first | done | rfl | (simp only [List.length_drop, List.length_take]; rfl)) ?_; (with_reducible refine (lockstitchlaw04_Few.calls k _ _ l0_0 a0_1 a0_2 _ _ l0_3 true _ ?side1 ?side2 ?side3 ?side4 A7.out).mono ?_); (case side1 => repeat (first | exact (Kd.C_below HR0_0.out HB.out) | (with_reducible refine Kd.C_alloc ?_ _) | (with_reducible refine Kd.C_drewN ?_ _) | (with_reducible refine Kd.C_drew ?_))); (case side2 => exact HC0_0.out); (case side3 => repeat (first | exact (Kd.C_below HR0_3.out HB.out) | (with_reducible refine Kd.C_alloc ?_ _) | (with_reducible refine Kd.C_drewN ?_ _) | (with_reducible refine Kd.C_drew ?_))); (case side4 => exact HC0_3.out); rintro e w14 ⟨rfl, hb⟩; refine ⟨_, rfl, ?_⟩; have n0_ := Aside0.mk (blk_below (g := gb218) (o := .cells #[.slice A0_0 l0_0.length c0_0, .string a0_1, .string a0_2, .slice A0_3 l0_3.length c0_3] 25 (0, 0)) (by (with_reducible repeat (first | refine blk_drewN ?_ _ | refine blk_drew ?_ | refine blk_alloc ?_ _)); exact BK218.out) hb); have n1_ := Aside0.mk (below_step (by repeat (first | (with_reducible first | exact HB.out | apply below_alloc | apply pw_below_drewN | apply below_drew1 | refine below_set ?_ GE218.out) | exact HB.out)) hb); clear BK218; clear HB; have BK218 := n0_; have HB := n1_; clear n0_ n1_; (try clear hb); (try clear hb2); (try clear hk); (try clear hi); have hcz15_0 : w14.cell? ⟨gb218, 0, none⟩ = some (.slice A0_0 l0_0.length c0_0) := (blk_cell BK218.out 0).trans rfl; have hcz15_1 : w14.cell? ⟨gb218, 1, none⟩ = some (.string a0_1) := (blk_cell BK218.out 1).trans rfl; have hcz15_2 : w14.cell? ⟨gb218, 2, none⟩ = some (.string a0_2) := (blk_cell BK218.out 2).trans rfl; have hcz15_3 : w14.cell? ⟨gb218, 3, none⟩ = some (.slice A0_3 l0_3.length c0_3) := (blk_cell BK218.out 3).trans rfl; have hfz15_0 := blk_frozen BK218.out 0; have hfz15_1 := blk_frozen BK218.out 1; have hfz15_2 := blk_frozen BK218.out 2; have hfz15_3 := blk_frozen BK218.out 3))
          go_meet
          case rel => exact ⟨_, (decide ((l0_3.length : Int) > 60)), (by first | rfl | (simp; done) | (simp [*]; done)), H', ⟨by first | omega | exact Nat.le_refl _⟩, ⟨by (with_reducible repeat (first | refine blk_drewN ?_ _ | refine blk_drew ?_ | refine blk_alloc ?_ _)); exact BK218.out⟩, ⟨by repeat (first | (with_reducible first | exact HB.out | apply below_alloc | apply pw_below_drewN | apply below_drew1 | refine below_set ?_ GE218.out) | exact HB.out)⟩⟩
      · replace c8 := Bool.eq_false_iff.mpr c8
        subst c8
        have H1 : (lockstitchlaw05_CheckEach.j0 k true l0_0 a0_1 a0_2 l0_3) = some r := by rw [if_neg (show ¬ (false = true) by decide)] at H; exact H
        clear H
        have H := H1
        clear H1
        have H' := Aside0.mk H
        clear H
        have hcz16_0 : w6.cell? ⟨gb218, 0, none⟩ = some (.slice A0_0 l0_0.length c0_0) := (blk_cell BK218.out 0).trans rfl
        have hcz16_1 : w6.cell? ⟨gb218, 1, none⟩ = some (.string a0_1) := (blk_cell BK218.out 1).trans rfl
        have hcz16_2 : w6.cell? ⟨gb218, 2, none⟩ = some (.string a0_2) := (blk_cell BK218.out 2).trans rfl
        have hcz16_3 : w6.cell? ⟨gb218, 3, none⟩ = some (.slice A0_3 l0_3.length c0_3) := (blk_cell BK218.out 3).trans rfl
        have hfz16_0 := blk_frozen BK218.out 0
        have hfz16_1 := blk_frozen BK218.out 1
        have hfz16_2 := blk_frozen BK218.out 2
        have hfz16_3 := blk_frozen BK218.out 3
        go_wp2_with (first | ((with_reducible refine gate_callee (f := 9) rfl ?_); refine goesL_ (some 14) rfl rfl Tryd.func9 (by kernel_rfl) rfl #[.agg #[.slice A0_0 l0_0.length c0_0, .string a0_1, .string a0_2, .slice A0_3 l0_3.length c0_3]] rfl (by (try simp only [List.map_toArray, List.map_cons, List.map_nil]); first | done | rfl | (simp only [List.length_drop, List.length_take]; rfl)) ?_; (with_reducible refine (lockstitchlaw04_Few.calls k _ _ l0_0 a0_1 a0_2 _ _ l0_3 false _ ?side1 ?side2 ?side3 ?side4 A7.out).mono ?_); (case side1 => repeat (first | exact (Kd.C_below HR0_0.out HB.out) | (with_reducible refine Kd.C_alloc ?_ _) | (with_reducible refine Kd.C_drewN ?_ _) | (with_reducible refine Kd.C_drew ?_))); (case side2 => exact HC0_0.out); (case side3 => repeat (first | exact (Kd.C_below HR0_3.out HB.out) | (with_reducible refine Kd.C_alloc ?_ _) | (with_reducible refine Kd.C_drewN ?_ _) | (with_reducible refine Kd.C_drew ?_))); (case side4 => exact HC0_3.out); rintro e w17 ⟨rfl, hb⟩; refine ⟨_, rfl, ?_⟩; have n0_ := Aside0.mk (blk_below (g := gb218) (o := .cells #[.slice A0_0 l0_0.length c0_0, .string a0_1, .string a0_2, .slice A0_3 l0_3.length c0_3] 25 (0, 0)) (by (with_reducible repeat (first | refine blk_drewN ?_ _ | refine blk_drew ?_ | refine blk_alloc ?_ _)); exact BK218.out) hb); have n1_ := Aside0.mk (below_step (by repeat (first | (with_reducible first | exact HB.out | apply below_alloc | apply pw_below_drewN | apply below_drew1 | refine below_set ?_ GE218.out) | exact HB.out)) hb); clear BK218; clear HB; have BK218 := n0_; have HB := n1_; clear n0_ n1_; (try clear hb); (try clear hb2); (try clear hk); (try clear hi)))
        go_meet
        case rel => exact ⟨_, (true), (by first | rfl | (simp; done) | (simp [*]; done)), H', ⟨by first | omega | exact Nat.le_refl _⟩, ⟨by (with_reducible repeat (first | refine blk_drewN ?_ _ | refine blk_drew ?_ | refine blk_alloc ?_ _)); exact BK218.out⟩, ⟨by repeat (first | (with_reducible first | exact HB.out | apply below_alloc | apply pw_below_drewN | apply below_drew1 | refine below_set ?_ GE218.out) | exact HB.out)⟩⟩
    case rest =>
      clear HC4
      try clear p2
      try clear c3
      try clear c6
      try clear c8
      try clear c9
      try clear c9b0
      try clear c9b1
      try clear hcz10_0
      try clear hcz10_1
      try clear hcz10_2
      try clear hcz10_3
      try clear hcz12_0
      try clear hcz12_1
      try clear hcz12_2
      try clear hcz12_3
      try clear hcz13_0
      try clear hcz13_1
      try clear hcz13_2
      try clear hcz13_3
      try clear hcz15_0
      try clear hcz15_1
      try clear hcz15_2
      try clear hcz15_3
      try clear hcz16_0
      try clear hcz16_1
      try clear hcz16_2
      try clear hcz16_3
      try clear hfz10_0
      try clear hfz10_1
      try clear hfz10_2
      try clear hfz10_3
      try clear hfz12_0
      try clear hfz12_1
      try clear hfz12_2
      try clear hfz12_3
      try clear hfz13_0
      try clear hfz13_1
      try clear hfz13_2
      try clear hfz13_3
      try clear hfz15_0
      try clear hfz15_1
      try clear hfz15_2
      try clear hfz15_3
      try clear hfz16_0
      try clear hfz16_1
      try clear hfz16_2
      try clear hfz16_3
      obtain ⟨kq, x27_3, rfl, HA, HJ3, BK218, HB⟩ := hcut
      cases kq with
      | zero => exact absurd HA.out (by simp [lockstitchlaw05_CheckEach.j0])
      | succ kj3 =>
        have H := HA.out
        clear HA
        simp only [lockstitchlaw05_CheckEach.j0] at H
        by_cases c18 : x27_3 = true
        · subst c18
          have H1 : (some true) = some r := by rw [if_pos rfl] at H; exact H
          clear H
          have H := H1
          clear H1
          obtain rfl := Option.some.inj H
          go_wp2
          go_ret
          exact ⟨by first | rfl | (simp [errW_none, errW_some] <;> rfl) | (simp [*, errW_none, errW_some] <;> rfl), by repeat (first | (with_reducible first | exact HB.out | apply below_alloc | apply pw_below_drewN | apply below_drew1 | refine below_set ?_ GE218.out) | exact HB.out)⟩
        · replace c18 := Bool.eq_false_iff.mpr c18
          subst c18
          have H1 : ((check_Check.f kj3 l0_0 a0_1 a0_2 l0_3).bind fun bt221 => (lockstitchlaw05_CheckEach.l0 kj3 bt221.1 bt221.2 (-1) l0_3 (l0_3.length : Int) 0 l0_0 a0_1 a0_2 l0_3)) = some r := by rw [if_neg (show ¬ (false = true) by decide)] at H; exact H
          clear H
          have H := H1
          clear H1
          replace H := Option.bind_eq_some_iff.mp H
          obtain ⟨⟨t221, t222⟩, A190, H⟩ := H
          replace H : (lockstitchlaw05_CheckEach.l0 kj3 t221 t222 (-1) l0_3 (l0_3.length : Int) 0 l0_0 a0_1 a0_2 l0_3) = some r := H
          have A19 := Aside0.mk A190
          clear A190
          have H' := Aside0.mk H
          clear H
          have hcz20_0 : wc.cell? ⟨gb218, 0, none⟩ = some (.slice A0_0 l0_0.length c0_0) := (blk_cell BK218.out 0).trans rfl
          have hcz20_1 : wc.cell? ⟨gb218, 1, none⟩ = some (.string a0_1) := (blk_cell BK218.out 1).trans rfl
          have hcz20_2 : wc.cell? ⟨gb218, 2, none⟩ = some (.string a0_2) := (blk_cell BK218.out 2).trans rfl
          have hcz20_3 : wc.cell? ⟨gb218, 3, none⟩ = some (.slice A0_3 l0_3.length c0_3) := (blk_cell BK218.out 3).trans rfl
          have hfz20_0 := blk_frozen BK218.out 0
          have hfz20_1 := blk_frozen BK218.out 1
          have hfz20_2 := blk_frozen BK218.out 2
          have hfz20_3 := blk_frozen BK218.out 3
          go_wp2_with (first | ((with_reducible refine gate_callee (f := 10) rfl ?_); refine goesL_ (some 30) rfl rfl Tryd.func10 (by kernel_rfl) rfl #[.agg #[.slice A0_0 l0_0.length c0_0, .string a0_1, .string a0_2, .slice A0_3 l0_3.length c0_3]] rfl (by (try simp only [List.map_toArray, List.map_cons, List.map_nil]); first | done | rfl | (simp only [List.length_drop, List.length_take]; rfl)) ?_; (with_reducible refine (check_Check.calls kj3 _ _ l0_0 a0_1 a0_2 _ _ l0_3 t221 t222 _ ?side1 ?side2 ?side3 ?side4 ?side5 A19.out).mono ?_); (case side1 => repeat (first | exact (Kd.C_below HR0_0.out HB.out) | (with_reducible refine Kd.C_alloc ?_ _) | (with_reducible refine Kd.C_drewN ?_ _) | (with_reducible refine Kd.C_drew ?_))); (case side2 => exact HC0_0.out); (case side3 => repeat (first | exact (Kd.C_below HR0_3.out HB.out) | (with_reducible refine Kd.C_alloc ?_ _) | (with_reducible refine Kd.C_drewN ?_ _) | (with_reducible refine Kd.C_drew ?_))); (case side4 => exact HC0_3.out); (case side5 => repeat (first | exact (Kd.C_below HRT.out HB.out) | (with_reducible refine Kd.C_alloc ?_ _) | (with_reducible refine Kd.C_drewN ?_ _) | (with_reducible refine Kd.C_drew ?_))); rintro e w21 ⟨rfl, hb⟩; refine ⟨_, rfl, ?_⟩; have n0_ := Aside0.mk (blk_below (g := gb218) (o := .cells #[.slice A0_0 l0_0.length c0_0, .string a0_1, .string a0_2, .slice A0_3 l0_3.length c0_3] 25 (0, 0)) (by (with_reducible repeat (first | refine blk_drewN ?_ _ | refine blk_drew ?_ | refine blk_alloc ?_ _)); exact BK218.out) hb); have n1_ := Aside0.mk (below_step (by repeat (first | (with_reducible first | exact HB.out | apply below_alloc | apply pw_below_drewN | apply below_drew1 | refine below_set ?_ GE218.out) | exact HB.out)) hb); clear BK218; clear HB; have BK218 := n0_; have HB := n1_; clear n0_ n1_; (try clear hb); (try clear hb2); (try clear hk); (try clear hi); have hcz22_0 : w21.cell? ⟨gb218, 0, none⟩ = some (.slice A0_0 l0_0.length c0_0) := (blk_cell BK218.out 0).trans rfl; have hcz22_1 : w21.cell? ⟨gb218, 1, none⟩ = some (.string a0_1) := (blk_cell BK218.out 1).trans rfl; have hcz22_2 : w21.cell? ⟨gb218, 2, none⟩ = some (.string a0_2) := (blk_cell BK218.out 2).trans rfl; have hcz22_3 : w21.cell? ⟨gb218, 3, none⟩ = some (.slice A0_3 l0_3.length c0_3) := (blk_cell BK218.out 3).trans rfl; have hfz22_0 := blk_frozen BK218.out 0; have hfz22_1 := blk_frozen BK218.out 1; have hfz22_2 := blk_frozen BK218.out 2; have hfz22_3 := blk_frozen BK218.out 3))
          go_loopg [5, 36] kj3 (fun kq v5 v36 w' => ∃ (x5_2 : Int) (x36_2 : Int), v5 = .int .i64 x5_2 ∧ v36 = .int .i64 x36_2 ∧ Aside0 (lockstitchlaw05_CheckEach.l0 kq t221 t222 x5_2 l0_3 (l0_3.length : Int) x36_2 l0_0 a0_1 a0_2 l0_3 = some r) ∧ Aside0 (kq ≤ kj3) ∧ Aside0 (w'.heap[gb218]? = some (.cells #[(.slice A0_0 l0_0.length c0_0), .string a0_1, .string a0_2, (.slice A0_3 l0_3.length c0_3)] 25 (0, 0))) ∧ Aside0 (Below w.heap.size w w'))
          case atStart => exact ⟨((-1)), (0), (by first | rfl | (simp; done) | (simp [*]; done)), (by first | rfl | (simp; done) | (simp [*]; done)), H', ⟨Nat.le_refl _⟩, ⟨by (with_reducible repeat (first | refine blk_drewN ?_ _ | refine blk_drew ?_ | refine blk_alloc ?_ _)); exact BK218.out⟩, ⟨by repeat (first | (with_reducible first | exact HB.out | apply below_alloc | apply pw_below_drewN | apply below_drew1 | refine below_set ?_ GE218.out) | exact HB.out)⟩⟩
          case round =>
            clear H'
            try clear c1
            try clear p2
            try clear c3
            try clear c6
            try clear c8
            try clear c9
            try clear c9b0
            try clear c9b1
            try clear c10
            try clear c18
            try clear hcz10_0
            try clear hcz10_1
            try clear hcz10_2
            try clear hcz10_3
            try clear hcz12_0
            try clear hcz12_1
            try clear hcz12_2
            try clear hcz12_3
            try clear hcz13_0
            try clear hcz13_1
            try clear hcz13_2
            try clear hcz13_3
            try clear hcz15_0
            try clear hcz15_1
            try clear hcz15_2
            try clear hcz15_3
            try clear hcz16_0
            try clear hcz16_1
            try clear hcz16_2
            try clear hcz16_3
            try clear hcz20_0
            try clear hcz20_1
            try clear hcz20_2
            try clear hcz20_3
            try clear hcz22_0
            try clear hcz22_1
            try clear hcz22_2
            try clear hcz22_3
            try clear hfz10_0
            try clear hfz10_1
            try clear hfz10_2
            try clear hfz10_3
            try clear hfz12_0
            try clear hfz12_1
            try clear hfz12_2
            try clear hfz12_3
            try clear hfz13_0
            try clear hfz13_1
            try clear hfz13_2
            try clear hfz13_3
            try clear hfz15_0
            try clear hfz15_1
            try clear hfz15_2
            try clear hfz15_3
            try clear hfz16_0
            try clear hfz16_1
            try clear hfz16_2
            try clear hfz16_3
            try clear hfz20_0
            try clear hfz20_1
            try clear hfz20_2
            try clear hfz20_3
            try clear hfz22_0
            try clear hfz22_1
            try clear hfz22_2
            try clear hfz22_3
            try clear p2
            obtain ⟨x5_2, x36_2, rfl, rfl, HA, HK2, BK218, HB⟩ := hrel
            cases gk with
            | zero => exact absurd HA.out (by simp [lockstitchlaw05_CheckEach.l0])
            | succ k2 =>
              have H := HA.out
              clear HA
              simp only [lockstitchlaw05_CheckEach.l0] at H
              by_cases c23 : x36_2 < (l0_3.length : Int)
              · rw [if_pos c23] at H
                have c23b0 : decide (x36_2 < (l0_3.length : Int)) = true := decide_eq_true c23
                clear c23
                by_cases c24 : 0 ≤ x36_2
                · rw [if_pos c24] at H
                  have c24b0 : decide (0 ≤ x36_2) = true := decide_eq_true c24
                  clear c24
                  by_cases c25 : x36_2 < (l0_3.length : Int)
                  · rw [if_pos c25] at H
                    have c25b0 : decide (x36_2 < (l0_3.length : Int)) = true := decide_eq_true c25
                    clear c25
                    have H' := Aside0.mk H
                    clear H
                    have p223 : 0 ≤ (x36_2 : Int) := of_decide_eq_true (by first | (with_reducible assumption) | assumption)
                    have q223 : x36_2 < (l0_3.length : Int) := of_decide_eq_true (by first | (with_reducible assumption) | assumption)
                    obtain ⟨ad223, e223, hx223_0, hx223_1, hx223_2, hx223_3, hx223_4⟩ := at_T32 HR0_3.out x36_2 p223 q223
                    cases e223
                    replace hx223_0 := (HB.out.cell (World.block_lt_of_cell? w _ hx223_0)).trans hx223_0
                    replace hx223_1 := (HB.out.cell (World.block_lt_of_cell? w _ hx223_1)).trans hx223_1
                    replace hx223_2 := (HB.out.cell (World.block_lt_of_cell? w _ hx223_2)).trans hx223_2
                    replace hx223_3 := (HB.out.cell (World.block_lt_of_cell? w _ hx223_3)).trans hx223_3
                    replace hx223_4 := (HB.out.cell (World.block_lt_of_cell? w _ hx223_4)).trans hx223_4
                    replace p223 := eq_true p223
                    replace q223 := eq_true q223
                    go_wp2_with (first | ((with_reducible refine gate_dst (N := 7) rfl ?_); (try (refine gate_guard (by rfl) ?_; dsimp only)); refine box_event ?hg (N := 7) ?hd (cs := #[.int .u8 0, .int .u8 0, .int .u8 0, .int .u8 0, .int .i64 0]) (t := 32) ?hr ?_; (case hd => rfl); (case hg => rfl); (case hr => first | (go_simp; done) | (go_simp; rfl)); intro gb224 hg w26 hbox hb; have n0_ := Aside0.mk (blk_below (g := gb218) (o := .cells #[.slice A0_0 l0_0.length c0_0, .string a0_1, .string a0_2, .slice (some ad223) l0_3.length c0_3] 25 (0, 0)) (by (with_reducible repeat (first | refine blk_drewN ?_ _ | refine blk_drew ?_ | refine blk_alloc ?_ _)); exact BK218.out) hb); have n1_ := Aside0.mk (below_step (by repeat (first | (with_reducible first | exact HB.out | apply below_alloc | apply pw_below_drewN | apply below_drew1 | refine below_set ?_ GE218.out) | exact HB.out)) hb); have n2_ := Aside0.mk (hbox); have n3_ := Aside0.mk ((by rw [hg]; exact (below_size (by repeat (first | (with_reducible first | exact HB.out | apply below_alloc | apply pw_below_drewN | apply below_drew1 | refine below_set ?_ GE218.out) | exact HB.out))) : w.heap.size ≤ gb224)); have n4_ := Aside0.mk ((by rw [hg]; exact (below_size (by repeat (first | (with_reducible first | exact HB.out | apply below_alloc | apply pw_below_drewN | apply below_drew1 | refine below_set ?_ GE218.out) | exact HB.out))) : w.heap.size ≤ gb224)); have n5_ := Aside0.mk ((by rw [hg]; exact Nat.ne_of_lt (blk_lt (g := gb218) (o := .cells #[.slice A0_0 l0_0.length c0_0, .string a0_1, .string a0_2, .slice (some ad223) l0_3.length c0_3] 25 (0, 0)) (by (with_reducible repeat (first | refine blk_drewN ?_ _ | refine blk_drew ?_ | refine blk_alloc ?_ _)); exact BK218.out)) : gb218 ≠ gb224)); have n6_ := Aside0.mk ((by rw [hg]; exact Nat.ne_of_gt (blk_lt (g := gb218) (o := .cells #[.slice A0_0 l0_0.length c0_0, .string a0_1, .string a0_2, .slice (some ad223) l0_3.length c0_3] 25 (0, 0)) (by (with_reducible repeat (first | refine blk_drewN ?_ _ | refine blk_drew ?_ | refine blk_alloc ?_ _)); exact BK218.out)) : gb224 ≠ gb218)); clear BK218; clear HB; have BK218 := n0_; have HB := n1_; have BK224 := n2_; have GW224 := n3_; have GE224 := n4_; have NB218_224 := n5_; have NB224_218 := n6_; clear n0_ n1_ n2_ n3_ n4_ n5_ n6_; clear hb hbox hg; have hnb27 := NB224_218.out; have hnc27 := NB218_224.out; have hcz28_0 : w26.cell? ⟨gb224, 0, none⟩ = some (.int .u8 0) := (blk_cell BK224.out 0).trans rfl; have hcz28_1 : w26.cell? ⟨gb224, 1, none⟩ = some (.int .u8 0) := (blk_cell BK224.out 1).trans rfl; have hcz28_2 : w26.cell? ⟨gb224, 2, none⟩ = some (.int .u8 0) := (blk_cell BK224.out 2).trans rfl; have hcz28_3 : w26.cell? ⟨gb224, 3, none⟩ = some (.int .u8 0) := (blk_cell BK224.out 3).trans rfl; have hcz28_4 : w26.cell? ⟨gb224, 4, none⟩ = some (.int .i64 0) := (blk_cell BK224.out 4).trans rfl; have hfz28_0 := blk_frozen BK224.out 0; have hfz28_1 := blk_frozen BK224.out 1; have hfz28_2 := blk_frozen BK224.out 2; have hfz28_3 := blk_frozen BK224.out 3; have hfz28_4 := blk_frozen BK224.out 4; have hcz29_0 : w26.cell? ⟨gb218, 0, none⟩ = some (.slice A0_0 l0_0.length c0_0) := (blk_cell BK218.out 0).trans rfl; have hcz29_1 : w26.cell? ⟨gb218, 1, none⟩ = some (.string a0_1) := (blk_cell BK218.out 1).trans rfl; have hcz29_2 : w26.cell? ⟨gb218, 2, none⟩ = some (.string a0_2) := (blk_cell BK218.out 2).trans rfl; have hcz29_3 : w26.cell? ⟨gb218, 3, none⟩ = some (.slice (some ad223) l0_3.length c0_3) := (blk_cell BK218.out 3).trans rfl; have hfz29_0 := blk_frozen BK218.out 0; have hfz29_1 := blk_frozen BK218.out 1; have hfz29_2 := blk_frozen BK218.out 2; have hfz29_3 := blk_frozen BK218.out 3) | ((with_reducible refine gate_dst (N := 8) rfl ?_); (try (refine gate_guard (by rfl) ?_; dsimp only)); refine box_event ?hg (N := 8) ?hd (cs := #[.slice none 0 0, .string (⟨#[]⟩ : ByteArray), .string (⟨#[]⟩ : ByteArray), .slice none 0 0]) (t := 25) ?hr ?_; (case hd => rfl); (case hg => rfl); (case hr => first | (go_simp; done) | (go_simp; rfl)); intro gb225 hg w30 hbox hb; have n0_ := Aside0.mk (blk_below (g := gb218) (o := .cells #[.slice A0_0 l0_0.length c0_0, .string a0_1, .string a0_2, .slice (some ad223) l0_3.length c0_3] 25 (0, 0)) (by (with_reducible repeat (first | refine blk_drewN ?_ _ | refine blk_drew ?_ | refine blk_alloc ?_ _)); refine blk_far ?_ NB218_224.out _; (with_reducible repeat (first | refine blk_drewN ?_ _ | refine blk_drew ?_ | refine blk_alloc ?_ _)); refine blk_far ?_ NB218_224.out _; (with_reducible repeat (first | refine blk_drewN ?_ _ | refine blk_drew ?_ | refine blk_alloc ?_ _)); refine blk_far ?_ NB218_224.out _; (with_reducible repeat (first | refine blk_drewN ?_ _ | refine blk_drew ?_ | refine blk_alloc ?_ _)); refine blk_far ?_ NB218_224.out _; (with_reducible repeat (first | refine blk_drewN ?_ _ | refine blk_drew ?_ | refine blk_alloc ?_ _)); refine blk_far ?_ NB218_224.out _; (with_reducible repeat (first | refine blk_drewN ?_ _ | refine blk_drew ?_ | refine blk_alloc ?_ _)); exact BK218.out) hb); have n1_ := Aside0.mk (blk_below (g := gb224) (o := .cells #[.int .u8 ((rd_T32 l0_3 x36_2).f0), .int .u8 ((rd_T32 l0_3 x36_2).f1), .int .u8 ((rd_T32 l0_3 x36_2).f2), .int .u8 ((rd_T32 l0_3 x36_2).f3), .int .i64 ((rd_T32 l0_3 x36_2).f4)] 32 (0, 0)) (by (with_reducible repeat (first | refine blk_drewN ?_ _ | refine blk_drew ?_ | refine blk_alloc ?_ _)); refine blk_put (cs := #[.int .u8 ((rd_T32 l0_3 x36_2).f0), .int .u8 ((rd_T32 l0_3 x36_2).f1), .int .u8 ((rd_T32 l0_3 x36_2).f2), .int .u8 ((rd_T32 l0_3 x36_2).f3), .int .i64 0]) ?_ 4 _ rfl; (with_reducible repeat (first | refine blk_drewN ?_ _ | refine blk_drew ?_ | refine blk_alloc ?_ _)); refine blk_put (cs := #[.int .u8 ((rd_T32 l0_3 x36_2).f0), .int .u8 ((rd_T32 l0_3 x36_2).f1), .int .u8 ((rd_T32 l0_3 x36_2).f2), .int .u8 0, .int .i64 0]) ?_ 3 _ rfl; (with_reducible repeat (first | refine blk_drewN ?_ _ | refine blk_drew ?_ | refine blk_alloc ?_ _)); refine blk_put (cs := #[.int .u8 ((rd_T32 l0_3 x36_2).f0), .int .u8 ((rd_T32 l0_3 x36_2).f1), .int .u8 0, .int .u8 0, .int .i64 0]) ?_ 2 _ rfl; (with_reducible repeat (first | refine blk_drewN ?_ _ | refine blk_drew ?_ | refine blk_alloc ?_ _)); refine blk_put (cs := #[.int .u8 ((rd_T32 l0_3 x36_2).f0), .int .u8 0, .int .u8 0, .int .u8 0, .int .i64 0]) ?_ 1 _ rfl; (with_reducible repeat (first | refine blk_drewN ?_ _ | refine blk_drew ?_ | refine blk_alloc ?_ _)); refine blk_put (cs := #[.int .u8 0, .int .u8 0, .int .u8 0, .int .u8 0, .int .i64 0]) ?_ 0 _ rfl; (with_reducible repeat (first | refine blk_drewN ?_ _ | refine blk_drew ?_ | refine blk_alloc ?_ _)); exact BK224.out) hb); have n2_ := Aside0.mk (below_step (by repeat (first | (with_reducible first | exact HB.out | apply below_alloc | apply pw_below_drewN | apply below_drew1 | refine below_set ?_ GE218.out | refine below_set ?_ GE224.out) | exact HB.out)) hb); have n3_ := Aside0.mk (hbox); have n4_ := Aside0.mk ((by rw [hg]; exact (below_size (by repeat (first | (with_reducible first | exact HB.out | apply below_alloc | apply pw_below_drewN | apply below_drew1 | refine below_set ?_ GE218.out | refine below_set ?_ GE224.out) | exact HB.out))) : w.heap.size ≤ gb225)); have n5_ := Aside0.mk ((by rw [hg]; exact (below_size (by repeat (first | (with_reducible first | exact HB.out | apply below_alloc | apply pw_below_drewN | apply below_drew1 | refine below_set ?_ GE218.out | refine below_set ?_ GE224.out) | exact HB.out))) : w.heap.size ≤ gb225)); have n6_ := Aside0.mk ((by rw [hg]; exact Nat.ne_of_lt (blk_lt (g := gb218) (o := .cells #[.slice A0_0 l0_0.length c0_0, .string a0_1, .string a0_2, .slice (some ad223) l0_3.length c0_3] 25 (0, 0)) (by (with_reducible repeat (first | refine blk_drewN ?_ _ | refine blk_drew ?_ | refine blk_alloc ?_ _)); refine blk_far ?_ NB218_224.out _; (with_reducible repeat (first | refine blk_drewN ?_ _ | refine blk_drew ?_ | refine blk_alloc ?_ _)); refine blk_far ?_ NB218_224.out _; (with_reducible repeat (first | refine blk_drewN ?_ _ | refine blk_drew ?_ | refine blk_alloc ?_ _)); refine blk_far ?_ NB218_224.out _; (with_reducible repeat (first | refine blk_drewN ?_ _ | refine blk_drew ?_ | refine blk_alloc ?_ _)); refine blk_far ?_ NB218_224.out _; (with_reducible repeat (first | refine blk_drewN ?_ _ | refine blk_drew ?_ | refine blk_alloc ?_ _)); refine blk_far ?_ NB218_224.out _; (with_reducible repeat (first | refine blk_drewN ?_ _ | refine blk_drew ?_ | refine blk_alloc ?_ _)); exact BK218.out)) : gb218 ≠ gb225)); have n7_ := Aside0.mk ((by rw [hg]; exact Nat.ne_of_gt (blk_lt (g := gb218) (o := .cells #[.slice A0_0 l0_0.length c0_0, .string a0_1, .string a0_2, .slice (some ad223) l0_3.length c0_3] 25 (0, 0)) (by (with_reducible repeat (first | refine blk_drewN ?_ _ | refine blk_drew ?_ | refine blk_alloc ?_ _)); refine blk_far ?_ NB218_224.out _; (with_reducible repeat (first | refine blk_drewN ?_ _ | refine blk_drew ?_ | refine blk_alloc ?_ _)); refine blk_far ?_ NB218_224.out _; (with_reducible repeat (first | refine blk_drewN ?_ _ | refine blk_drew ?_ | refine blk_alloc ?_ _)); refine blk_far ?_ NB218_224.out _; (with_reducible repeat (first | refine blk_drewN ?_ _ | refine blk_drew ?_ | refine blk_alloc ?_ _)); refine blk_far ?_ NB218_224.out _; (with_reducible repeat (first | refine blk_drewN ?_ _ | refine blk_drew ?_ | refine blk_alloc ?_ _)); refine blk_far ?_ NB218_224.out _; (with_reducible repeat (first | refine blk_drewN ?_ _ | refine blk_drew ?_ | refine blk_alloc ?_ _)); exact BK218.out)) : gb225 ≠ gb218)); have n8_ := Aside0.mk ((by rw [hg]; exact Nat.ne_of_lt (blk_lt (g := gb224) (o := .cells #[.int .u8 ((rd_T32 l0_3 x36_2).f0), .int .u8 ((rd_T32 l0_3 x36_2).f1), .int .u8 ((rd_T32 l0_3 x36_2).f2), .int .u8 ((rd_T32 l0_3 x36_2).f3), .int .i64 ((rd_T32 l0_3 x36_2).f4)] 32 (0, 0)) (by (with_reducible repeat (first | refine blk_drewN ?_ _ | refine blk_drew ?_ | refine blk_alloc ?_ _)); refine blk_put (cs := #[.int .u8 ((rd_T32 l0_3 x36_2).f0), .int .u8 ((rd_T32 l0_3 x36_2).f1), .int .u8 ((rd_T32 l0_3 x36_2).f2), .int .u8 ((rd_T32 l0_3 x36_2).f3), .int .i64 0]) ?_ 4 _ rfl; (with_reducible repeat (first | refine blk_drewN ?_ _ | refine blk_drew ?_ | refine blk_alloc ?_ _)); refine blk_put (cs := #[.int .u8 ((rd_T32 l0_3 x36_2).f0), .int .u8 ((rd_T32 l0_3 x36_2).f1), .int .u8 ((rd_T32 l0_3 x36_2).f2), .int .u8 0, .int .i64 0]) ?_ 3 _ rfl; (with_reducible repeat (first | refine blk_drewN ?_ _ | refine blk_drew ?_ | refine blk_alloc ?_ _)); refine blk_put (cs := #[.int .u8 ((rd_T32 l0_3 x36_2).f0), .int .u8 ((rd_T32 l0_3 x36_2).f1), .int .u8 0, .int .u8 0, .int .i64 0]) ?_ 2 _ rfl; (with_reducible repeat (first | refine blk_drewN ?_ _ | refine blk_drew ?_ | refine blk_alloc ?_ _)); refine blk_put (cs := #[.int .u8 ((rd_T32 l0_3 x36_2).f0), .int .u8 0, .int .u8 0, .int .u8 0, .int .i64 0]) ?_ 1 _ rfl; (with_reducible repeat (first | refine blk_drewN ?_ _ | refine blk_drew ?_ | refine blk_alloc ?_ _)); refine blk_put (cs := #[.int .u8 0, .int .u8 0, .int .u8 0, .int .u8 0, .int .i64 0]) ?_ 0 _ rfl; (with_reducible repeat (first | refine blk_drewN ?_ _ | refine blk_drew ?_ | refine blk_alloc ?_ _)); exact BK224.out)) : gb224 ≠ gb225)); have n9_ := Aside0.mk ((by rw [hg]; exact Nat.ne_of_gt (blk_lt (g := gb224) (o := .cells #[.int .u8 ((rd_T32 l0_3 x36_2).f0), .int .u8 ((rd_T32 l0_3 x36_2).f1), .int .u8 ((rd_T32 l0_3 x36_2).f2), .int .u8 ((rd_T32 l0_3 x36_2).f3), .int .i64 ((rd_T32 l0_3 x36_2).f4)] 32 (0, 0)) (by (with_reducible repeat (first | refine blk_drewN ?_ _ | refine blk_drew ?_ | refine blk_alloc ?_ _)); refine blk_put (cs := #[.int .u8 ((rd_T32 l0_3 x36_2).f0), .int .u8 ((rd_T32 l0_3 x36_2).f1), .int .u8 ((rd_T32 l0_3 x36_2).f2), .int .u8 ((rd_T32 l0_3 x36_2).f3), .int .i64 0]) ?_ 4 _ rfl; (with_reducible repeat (first | refine blk_drewN ?_ _ | refine blk_drew ?_ | refine blk_alloc ?_ _)); refine blk_put (cs := #[.int .u8 ((rd_T32 l0_3 x36_2).f0), .int .u8 ((rd_T32 l0_3 x36_2).f1), .int .u8 ((rd_T32 l0_3 x36_2).f2), .int .u8 0, .int .i64 0]) ?_ 3 _ rfl; (with_reducible repeat (first | refine blk_drewN ?_ _ | refine blk_drew ?_ | refine blk_alloc ?_ _)); refine blk_put (cs := #[.int .u8 ((rd_T32 l0_3 x36_2).f0), .int .u8 ((rd_T32 l0_3 x36_2).f1), .int .u8 0, .int .u8 0, .int .i64 0]) ?_ 2 _ rfl; (with_reducible repeat (first | refine blk_drewN ?_ _ | refine blk_drew ?_ | refine blk_alloc ?_ _)); refine blk_put (cs := #[.int .u8 ((rd_T32 l0_3 x36_2).f0), .int .u8 0, .int .u8 0, .int .u8 0, .int .i64 0]) ?_ 1 _ rfl; (with_reducible repeat (first | refine blk_drewN ?_ _ | refine blk_drew ?_ | refine blk_alloc ?_ _)); refine blk_put (cs := #[.int .u8 0, .int .u8 0, .int .u8 0, .int .u8 0, .int .i64 0]) ?_ 0 _ rfl; (with_reducible repeat (first | refine blk_drewN ?_ _ | refine blk_drew ?_ | refine blk_alloc ?_ _)); exact BK224.out)) : gb225 ≠ gb224)); clear BK218; clear BK224; clear HB; have BK218 := n0_; have BK224 := n1_; have HB := n2_; have BK225 := n3_; have GW225 := n4_; have GE225 := n5_; have NB218_225 := n6_; have NB225_218 := n7_; have NB224_225 := n8_; have NB225_224 := n9_; clear n0_ n1_ n2_ n3_ n4_ n5_ n6_ n7_ n8_ n9_; clear hb hbox hg; have hnb31 := NB225_218.out; have hnc31 := NB218_225.out; have hnb32 := NB225_224.out; have hnc32 := NB224_225.out; have hcz33_0 : w30.cell? ⟨gb225, 0, none⟩ = some (.slice none 0 0) := (blk_cell BK225.out 0).trans rfl; have hcz33_1 : w30.cell? ⟨gb225, 1, none⟩ = some (.string (⟨#[]⟩ : ByteArray)) := (blk_cell BK225.out 1).trans rfl; have hcz33_2 : w30.cell? ⟨gb225, 2, none⟩ = some (.string (⟨#[]⟩ : ByteArray)) := (blk_cell BK225.out 2).trans rfl; have hcz33_3 : w30.cell? ⟨gb225, 3, none⟩ = some (.slice none 0 0) := (blk_cell BK225.out 3).trans rfl; have hfz33_0 := blk_frozen BK225.out 0; have hfz33_1 := blk_frozen BK225.out 1; have hfz33_2 := blk_frozen BK225.out 2; have hfz33_3 := blk_frozen BK225.out 3; have hcz34_0 : w30.cell? ⟨gb218, 0, none⟩ = some (.slice A0_0 l0_0.length c0_0) := (blk_cell BK218.out 0).trans rfl; have hcz34_1 : w30.cell? ⟨gb218, 1, none⟩ = some (.string a0_1) := (blk_cell BK218.out 1).trans rfl; have hcz34_2 : w30.cell? ⟨gb218, 2, none⟩ = some (.string a0_2) := (blk_cell BK218.out 2).trans rfl; have hcz34_3 : w30.cell? ⟨gb218, 3, none⟩ = some (.slice (some ad223) l0_3.length c0_3) := (blk_cell BK218.out 3).trans rfl; have hfz34_0 := blk_frozen BK218.out 0; have hfz34_1 := blk_frozen BK218.out 1; have hfz34_2 := blk_frozen BK218.out 2; have hfz34_3 := blk_frozen BK218.out 3))
                    go_loopg [46] k2 (fun kq v46 w' => ∃ (x46_3 : Int) (x226003_3 : List (S32)) (u226003 : Value), v46 = .int .i64 x46_3 ∧ Aside0 (lockstitchlaw05_CheckEach.l1 kq t221 t222 x5_2 x36_2 l0_3 (l0_3.length : Int) x36_2 (l0_3.length : Int) x46_3 l0_0 a0_1 a0_2 l0_3 ((rd_T32 l0_3 x36_2).f0) ((rd_T32 l0_3 x36_2).f1) ((rd_T32 l0_3 x36_2).f2) ((rd_T32 l0_3 x36_2).f3) ((rd_T32 l0_3 x36_2).f4) l0_0 a0_1 a0_2 x226003_3 = some r) ∧ Aside0 (kq ≤ k2) ∧ Aside0 (Kd.R k32 32 w' w.heap.size (fun k_ => k_ ≠ gb224) u226003 x226003_3) ∧ Aside0 (w'.heap[gb218]? = some (.cells #[(.slice A0_0 l0_0.length c0_0), .string a0_1, .string a0_2, (.slice (some ad223) l0_3.length c0_3)] 25 (0, 0))) ∧ Aside0 (w'.heap[gb224]? = some (.cells #[.int .u8 ((rd_T32 l0_3 x36_2).f0), .int .u8 ((rd_T32 l0_3 x36_2).f1), .int .u8 ((rd_T32 l0_3 x36_2).f2), .int .u8 ((rd_T32 l0_3 x36_2).f3), .int .i64 ((rd_T32 l0_3 x36_2).f4)] 32 (0, 0))) ∧ Aside0 (w'.heap[gb225]? = some (.cells #[(.slice A0_0 l0_0.length c0_0), .string a0_1, .string a0_2, u226003] 25 (0, 0))) ∧ Aside0 (Below w.heap.size w w'))
                    case atStart => exact ⟨(0), (([] : List (S32))), (.slice none 0 0), (by first | rfl | (simp; done) | (simp [*]; done)), H', ⟨Nat.le_refl _⟩, ⟨by first | exact Kd.R_nil _ _ _ _ _ | exact Kd.N_nil _ _ _ _ _ | exact Kd.V_nil _ _ _ _ _ | exact Kd.Q_nil _ _ _ _ _ | exact Kd.S_nil _ _ _ _ _⟩, ⟨by (with_reducible repeat (first | refine blk_drewN ?_ _ | refine blk_drew ?_ | refine blk_alloc ?_ _)); refine blk_far ?_ NB218_225.out _; (with_reducible repeat (first | refine blk_drewN ?_ _ | refine blk_drew ?_ | refine blk_alloc ?_ _)); refine blk_far ?_ NB218_225.out _; (with_reducible repeat (first | refine blk_drewN ?_ _ | refine blk_drew ?_ | refine blk_alloc ?_ _)); refine blk_far ?_ NB218_225.out _; (with_reducible repeat (first | refine blk_drewN ?_ _ | refine blk_drew ?_ | refine blk_alloc ?_ _)); refine blk_far ?_ NB218_225.out _; (with_reducible repeat (first | refine blk_drewN ?_ _ | refine blk_drew ?_ | refine blk_alloc ?_ _)); refine blk_far ?_ NB218_225.out _; (with_reducible repeat (first | refine blk_drewN ?_ _ | refine blk_drew ?_ | refine blk_alloc ?_ _)); exact BK218.out⟩, ⟨by (with_reducible repeat (first | refine blk_drewN ?_ _ | refine blk_drew ?_ | refine blk_alloc ?_ _)); refine blk_far ?_ NB224_225.out _; (with_reducible repeat (first | refine blk_drewN ?_ _ | refine blk_drew ?_ | refine blk_alloc ?_ _)); refine blk_far ?_ NB224_225.out _; (with_reducible repeat (first | refine blk_drewN ?_ _ | refine blk_drew ?_ | refine blk_alloc ?_ _)); refine blk_far ?_ NB224_225.out _; (with_reducible repeat (first | refine blk_drewN ?_ _ | refine blk_drew ?_ | refine blk_alloc ?_ _)); refine blk_far ?_ NB224_225.out _; (with_reducible repeat (first | refine blk_drewN ?_ _ | refine blk_drew ?_ | refine blk_alloc ?_ _)); refine blk_far ?_ NB224_225.out _; (with_reducible repeat (first | refine blk_drewN ?_ _ | refine blk_drew ?_ | refine blk_alloc ?_ _)); exact BK224.out⟩, ⟨by (with_reducible repeat (first | refine blk_drewN ?_ _ | refine blk_drew ?_ | refine blk_alloc ?_ _)); refine blk_put (cs := #[.slice A0_0 l0_0.length c0_0, .string a0_1, .string a0_2, .slice (some ad223) l0_3.length c0_3]) ?_ 3 _ rfl; (with_reducible repeat (first | refine blk_drewN ?_ _ | refine blk_drew ?_ | refine blk_alloc ?_ _)); refine blk_put (cs := #[.slice A0_0 l0_0.length c0_0, .string a0_1, .string a0_2, .slice none 0 0]) ?_ 3 _ rfl; (with_reducible repeat (first | refine blk_drewN ?_ _ | refine blk_drew ?_ | refine blk_alloc ?_ _)); refine blk_put (cs := #[.slice A0_0 l0_0.length c0_0, .string a0_1, .string (⟨#[]⟩ : ByteArray), .slice none 0 0]) ?_ 2 _ rfl; (with_reducible repeat (first | refine blk_drewN ?_ _ | refine blk_drew ?_ | refine blk_alloc ?_ _)); refine blk_put (cs := #[.slice A0_0 l0_0.length c0_0, .string (⟨#[]⟩ : ByteArray), .string (⟨#[]⟩ : ByteArray), .slice none 0 0]) ?_ 1 _ rfl; (with_reducible repeat (first | refine blk_drewN ?_ _ | refine blk_drew ?_ | refine blk_alloc ?_ _)); refine blk_put (cs := #[.slice none 0 0, .string (⟨#[]⟩ : ByteArray), .string (⟨#[]⟩ : ByteArray), .slice none 0 0]) ?_ 0 _ rfl; (with_reducible repeat (first | refine blk_drewN ?_ _ | refine blk_drew ?_ | refine blk_alloc ?_ _)); exact BK225.out⟩, ⟨by repeat (first | (with_reducible first | exact HB.out | apply below_alloc | apply pw_below_drewN | apply below_drew1 | refine below_set ?_ GE218.out | refine below_set ?_ GE224.out | refine below_set ?_ GE225.out) | exact HB.out)⟩⟩
                    case round =>
                      clear H'
                      try clear c1
                      try clear c2
                      try clear p2
                      try clear q2
                      try clear hx2
                      try clear c3
                      try clear c6
                      try clear c8
                      try clear c9
                      try clear c9b0
                      try clear c9b1
                      try clear c10
                      try clear c18
                      try clear p22
                      try clear q22
                      try clear hx22
                      try clear c23
                      try clear c23b0
                      try clear c24
                      try clear c24b0
                      try clear c25
                      try clear c25b0
                      try clear c27
                      try clear c31
                      try clear c32
                      try clear hcz10_0
                      try clear hcz10_1
                      try clear hcz10_2
                      try clear hcz10_3
                      try clear hcz12_0
                      try clear hcz12_1
                      try clear hcz12_2
                      try clear hcz12_3
                      try clear hcz13_0
                      try clear hcz13_1
                      try clear hcz13_2
                      try clear hcz13_3
                      try clear hcz15_0
                      try clear hcz15_1
                      try clear hcz15_2
                      try clear hcz15_3
                      try clear hcz16_0
                      try clear hcz16_1
                      try clear hcz16_2
                      try clear hcz16_3
                      try clear hcz20_0
                      try clear hcz20_1
                      try clear hcz20_2
                      try clear hcz20_3
                      try clear hcz22_0
                      try clear hcz22_1
                      try clear hcz22_2
                      try clear hcz22_3
                      try clear hcz28_0
                      try clear hcz28_1
                      try clear hcz28_2
                      try clear hcz28_3
                      try clear hcz28_4
                      try clear hcz29_0
                      try clear hcz29_1
                      try clear hcz29_2
                      try clear hcz29_3
                      try clear hcz33_0
                      try clear hcz33_1
                      try clear hcz33_2
                      try clear hcz33_3
                      try clear hcz34_0
                      try clear hcz34_1
                      try clear hcz34_2
                      try clear hcz34_3
                      try clear hfz10_0
                      try clear hfz10_1
                      try clear hfz10_2
                      try clear hfz10_3
                      try clear hfz12_0
                      try clear hfz12_1
                      try clear hfz12_2
                      try clear hfz12_3
                      try clear hfz13_0
                      try clear hfz13_1
                      try clear hfz13_2
                      try clear hfz13_3
                      try clear hfz15_0
                      try clear hfz15_1
                      try clear hfz15_2
                      try clear hfz15_3
                      try clear hfz16_0
                      try clear hfz16_1
                      try clear hfz16_2
                      try clear hfz16_3
                      try clear hfz20_0
                      try clear hfz20_1
                      try clear hfz20_2
                      try clear hfz20_3
                      try clear hfz22_0
                      try clear hfz22_1
                      try clear hfz22_2
                      try clear hfz22_3
                      try clear hfz28_0
                      try clear hfz28_1
                      try clear hfz28_2
                      try clear hfz28_3
                      try clear hfz28_4
                      try clear hfz29_0
                      try clear hfz29_1
                      try clear hfz29_2
                      try clear hfz29_3
                      try clear hfz33_0
                      try clear hfz33_1
                      try clear hfz33_2
                      try clear hfz33_3
                      try clear hfz34_0
                      try clear hfz34_1
                      try clear hfz34_2
                      try clear hfz34_3
                      try clear hx223_0
                      try clear hx223_1
                      try clear hx223_2
                      try clear hx223_3
                      try clear hx223_4
                      try clear p2
                      try clear p223
                      try clear q223
                      obtain ⟨x46_3, x226003_3, u226003, rfl, HA, HK3, HO_226003, BK218, BK224, BK225, HB⟩ := hrel
                      cases gk with
                      | zero => exact absurd HA.out (by simp [lockstitchlaw05_CheckEach.l1])
                      | succ k3 =>
                        have H := HA.out
                        clear HA
                        simp only [lockstitchlaw05_CheckEach.l1] at H
                        by_cases c35 : x46_3 < (l0_3.length : Int)
                        · rw [if_pos c35] at H
                          have c35b0 : decide (x46_3 < (l0_3.length : Int)) = true := decide_eq_true c35
                          clear c35
                          by_cases c36 : x226003_3.length < 8796093022208
                          · rw [if_pos c36] at H
                            have LMc36 := Aside0.mk c36
                            clear c36
                            obtain ⟨y226, hy226⟩ : ∃ y_ : List (S32), y_ = (x226003_3 ++ [(⟨14, 0, 0, 0, 0⟩ : S32)]) := ⟨_, rfl⟩
                            replace H : (lockstitchlaw05_CheckEach.l1 k3 t221 t222 x5_2 x36_2 l0_3 (l0_3.length : Int) x36_2 (l0_3.length : Int) (wrap64 (x46_3 + 1)) l0_0 a0_1 a0_2 l0_3 ((rd_T32 l0_3 x36_2).f0) ((rd_T32 l0_3 x36_2).f1) ((rd_T32 l0_3 x36_2).f2) ((rd_T32 l0_3 x36_2).f3) ((rd_T32 l0_3 x36_2).f4) l0_0 a0_1 a0_2 y226) = some r := by first | (rw [hy226]; with_reducible exact H) | (have H2_ := (Option.bind_some _ _).symm.trans H; rw [hy226]; with_reducible exact H2_) | (have H2_ := (Option.bind_some _ _).symm.trans H; with_reducible exact H2_) | with_reducible exact H | (rw [hy226]; exact H) | exact H
                            have Ny226 := Aside0.mk hy226
                            clear hy226
                            have H' := Aside0.mk H
                            clear H
                            have hnb37 := NB225_218.out
                            have hnc37 := NB218_225.out
                            have hnb38 := NB225_224.out
                            have hnc38 := NB224_225.out
                            have hcz39_0 : wr.cell? ⟨gb225, 0, none⟩ = some (.slice A0_0 l0_0.length c0_0) := (blk_cell BK225.out 0).trans rfl
                            have hcz39_1 : wr.cell? ⟨gb225, 1, none⟩ = some (.string a0_1) := (blk_cell BK225.out 1).trans rfl
                            have hcz39_2 : wr.cell? ⟨gb225, 2, none⟩ = some (.string a0_2) := (blk_cell BK225.out 2).trans rfl
                            have hcz39_3 : wr.cell? ⟨gb225, 3, none⟩ = some (u226003) := (blk_cell BK225.out 3).trans rfl
                            have hfz39_0 := blk_frozen BK225.out 0
                            have hfz39_1 := blk_frozen BK225.out 1
                            have hfz39_2 := blk_frozen BK225.out 2
                            have hfz39_3 := blk_frozen BK225.out 3
                            go_wp2_with (first | ((with_reducible refine gate_builtin (b := .append) (xs := #[.tmp 49, .tmp 51]) rfl ?_); (try (refine gate_guard (by rfl) ?_; dsimp only)); at_builtin; refine Kd.R_append k32 (w0 := w) w.heap.size rfl (.tmp 49) (.tmp 51) 23 32 (.agg #[(.int .u8 0), (.int .u8 0), (.int .u8 0), (.int .u8 0), (.int .i64 0)]) 16 rfl Tryd.underlying23 info32 rfl (by decide) (by omega) u226003 x226003_3 (⟨14, 0, 0, 0, 0⟩ : S32) [.int .u8 14, .int .u8 0, .int .u8 0, .int .u8 0, .int .i64 0] (fun k_ => k_ ≠ gb224) (fun _ => False) rfl rfl ?aP (fun _ hk => hk.elim) ?aF ?aO ?aB ?aS ?aL ?_; (case aP => exact k32_mkM _ _ _ (⟨14, 0, 0, 0, 0⟩ : S32)); (case aB => exact (by repeat (first | (with_reducible first | exact HB.out | apply below_alloc | apply pw_below_drewN | apply below_drew1 | refine below_set ?_ GE218.out | refine below_set ?_ GE224.out | refine below_set ?_ GE225.out) | exact HB.out))); (case aF => exact (fun k_ hk => Kd.freshB (g := gb224) (o := .cells #[.int .u8 ((rd_T32 l0_3 x36_2).f0), .int .u8 ((rd_T32 l0_3 x36_2).f1), .int .u8 ((rd_T32 l0_3 x36_2).f2), .int .u8 ((rd_T32 l0_3 x36_2).f3), .int .i64 ((rd_T32 l0_3 x36_2).f4)] 32 (0, 0)) (by (with_reducible repeat (first | refine blk_drewN ?_ _ | refine blk_drew ?_ | refine blk_alloc ?_ _)); exact BK224.out) k_ hk)); (case aO => exact (by (with_reducible repeat (first | apply Kd.R_alloc | apply Kd.R_drewN | apply Kd.R_drew)); exact HO_226003.out)); (case aS => exact (below_size (by repeat (first | (with_reducible first | exact HB.out | apply below_alloc | apply pw_below_drewN | apply below_drew1 | refine below_set ?_ GE218.out | refine below_set ?_ GE224.out | refine below_set ?_ GE225.out) | exact HB.out)))); (case aL => have := LMc36.out; omega); intro v227 w40 ho hb hg hat; rw [← Ny226.out] at ho; have n0_ := Aside0.mk (blk_grown (g := gb218) (o := .cells #[.slice A0_0 l0_0.length c0_0, .string a0_1, .string a0_2, .slice (some ad223) l0_3.length c0_3] 25 (0, 0)) (by (with_reducible repeat (first | refine blk_drewN ?_ _ | refine blk_drew ?_ | refine blk_alloc ?_ _)); exact BK218.out) hg (Kd.R_ne HO_226003.out BK218.out (by decide))); have n1_ := Aside0.mk (blk_grown (g := gb224) (o := .cells #[.int .u8 ((rd_T32 l0_3 x36_2).f0), .int .u8 ((rd_T32 l0_3 x36_2).f1), .int .u8 ((rd_T32 l0_3 x36_2).f2), .int .u8 ((rd_T32 l0_3 x36_2).f3), .int .i64 ((rd_T32 l0_3 x36_2).f4)] 32 (0, 0)) (by (with_reducible repeat (first | refine blk_drewN ?_ _ | refine blk_drew ?_ | refine blk_alloc ?_ _)); exact BK224.out) hg (Kd.R_away HO_226003.out (fun _ hk => hk))); have n2_ := Aside0.mk (blk_grown (g := gb225) (o := .cells #[.slice A0_0 l0_0.length c0_0, .string a0_1, .string a0_2, u226003] 25 (0, 0)) (by (with_reducible repeat (first | refine blk_drewN ?_ _ | refine blk_drew ?_ | refine blk_alloc ?_ _)); exact BK225.out) hg (Kd.R_ne HO_226003.out BK225.out (by decide))); have n3_ := Aside0.mk (hb); have n4_ := Aside0.mk (ho); clear BK218; clear BK224; clear BK225; clear HB; clear HO_226003; have BK218 := n0_; have BK224 := n1_; have BK225 := n2_; have HB := n3_; have HO228 := n4_; clear n0_ n1_ n2_ n3_ n4_; clear ho hb hg hat; obtain ⟨Ao41, co41, eo41⟩ := Kd.R_slice HO228.out; subst eo41; have hcz42_0 : w40.cell? ⟨gb225, 0, none⟩ = some (.slice A0_0 l0_0.length c0_0) := (blk_cell BK225.out 0).trans rfl; have hcz42_1 : w40.cell? ⟨gb225, 1, none⟩ = some (.string a0_1) := (blk_cell BK225.out 1).trans rfl; have hcz42_2 : w40.cell? ⟨gb225, 2, none⟩ = some (.string a0_2) := (blk_cell BK225.out 2).trans rfl; have hcz42_3 : w40.cell? ⟨gb225, 3, none⟩ = some (u226003) := (blk_cell BK225.out 3).trans rfl; have hfz42_0 := blk_frozen BK225.out 0; have hfz42_1 := blk_frozen BK225.out 1; have hfz42_2 := blk_frozen BK225.out 2; have hfz42_3 := blk_frozen BK225.out 3))
                            go_roundg k3
                            case measure => have := HJ3.out; have := HK2.out; have := HK3.out; omega
                            case rel => exact ⟨(wrap64 (x46_3 + 1)), (y226), (.slice Ao41 y226.length co41), (by first | rfl | (simp; done) | (simp [*]; done)), H', ⟨by have := HJ3.out; have := HK2.out; have := HK3.out; omega⟩, ⟨by (with_reducible repeat (first | apply Kd.R_alloc | apply Kd.R_drewN | apply Kd.R_drew)); exact Kd.R_mono (Kd.R_far (p := ⟨gb225, 3, none⟩) (Kd.R_types HO228.out BK225.out (by decide)) (fun _ hk => hk.2) (.slice Ao41 y226.length co41)) (fun _ hk => hk.1)⟩, ⟨by (with_reducible repeat (first | refine blk_drewN ?_ _ | refine blk_drew ?_ | refine blk_alloc ?_ _)); refine blk_far ?_ NB218_225.out _; (with_reducible repeat (first | refine blk_drewN ?_ _ | refine blk_drew ?_ | refine blk_alloc ?_ _)); exact BK218.out⟩, ⟨by (with_reducible repeat (first | refine blk_drewN ?_ _ | refine blk_drew ?_ | refine blk_alloc ?_ _)); refine blk_far ?_ NB224_225.out _; (with_reducible repeat (first | refine blk_drewN ?_ _ | refine blk_drew ?_ | refine blk_alloc ?_ _)); exact BK224.out⟩, ⟨by (with_reducible repeat (first | refine blk_drewN ?_ _ | refine blk_drew ?_ | refine blk_alloc ?_ _)); refine blk_put (cs := #[.slice A0_0 l0_0.length c0_0, .string a0_1, .string a0_2, u226003]) ?_ 3 _ rfl; (with_reducible repeat (first | refine blk_drewN ?_ _ | refine blk_drew ?_ | refine blk_alloc ?_ _)); exact BK225.out⟩, ⟨by repeat (first | (with_reducible first | exact HB.out | apply below_alloc | apply pw_below_drewN | apply below_drew1 | refine below_set ?_ GE218.out | refine below_set ?_ GE224.out | refine below_set ?_ GE225.out) | exact HB.out)⟩⟩
                          · rw [if_neg c36] at H
                            exact absurd H (by simp)
                        · rw [if_neg c35] at H
                          have c35b0 : decide (x46_3 < (l0_3.length : Int)) = false := decide_eq_false c35
                          clear c35
                          by_cases c43 : 0 ≤ x36_2
                          · rw [if_pos c43] at H
                            have c43b0 : decide (0 ≤ x36_2) = true := decide_eq_true c43
                            clear c43
                            by_cases c44 : x36_2 < (x226003_3.length : Int)
                            · rw [if_pos c44] at H
                              have c44b0 : decide (x36_2 < (x226003_3.length : Int)) = true := decide_eq_true c44
                              clear c44
                              obtain ⟨y229, hy229⟩ : ∃ y_ : List (S32), y_ = (x226003_3.set (x36_2 : Int).toNat (⟨((rd_T32 l0_3 x36_2).f0), ((rd_T32 l0_3 x36_2).f1), ((rd_T32 l0_3 x36_2).f2), ((rd_T32 l0_3 x36_2).f3), ((rd_T32 l0_3 x36_2).f4)⟩ : S32)) := ⟨_, rfl⟩
                              replace H : ((check_Check.f k3 l0_0 a0_1 a0_2 y229).bind fun bt230 => (if bt230.2 = 0 then (lockstitchlaw05_CheckEach.j3 k3 t221 t222 x5_2 x36_2 bt230.1 bt230.2 l0_3 (l0_3.length : Int) x36_2 false l0_0 a0_1 a0_2 l0_3) else (lockstitchlaw05_CheckEach.j3 k3 t221 t222 x5_2 x36_2 bt230.1 bt230.2 l0_3 (l0_3.length : Int) x36_2 (decide (x5_2 < 0)) l0_0 a0_1 a0_2 l0_3))) = some r := by first | (rw [hy229]; with_reducible exact H) | (have H2_ := (Option.bind_some _ _).symm.trans H; rw [hy229]; with_reducible exact H2_) | (have H2_ := (Option.bind_some _ _).symm.trans H; with_reducible exact H2_) | with_reducible exact H | (rw [hy229]; exact H) | exact H
                              have Ny229 := Aside0.mk hy229
                              clear hy229
                              replace H := Option.bind_eq_some_iff.mp H
                              obtain ⟨⟨t230, t231⟩, A460, H⟩ := H
                              replace H : (if t231 = 0 then (lockstitchlaw05_CheckEach.j3 k3 t221 t222 x5_2 x36_2 t230 t231 l0_3 (l0_3.length : Int) x36_2 false l0_0 a0_1 a0_2 l0_3) else (lockstitchlaw05_CheckEach.j3 k3 t221 t222 x5_2 x36_2 t230 t231 l0_3 (l0_3.length : Int) x36_2 (decide (x5_2 < 0)) l0_0 a0_1 a0_2 l0_3)) = some r := H
                              have A46 := Aside0.mk A460
                              clear A460
                              have HC47 := Aside0.mk H
                              clear H
                              have hnb48 := NB225_218.out
                              have hnc48 := NB218_225.out
                              have hnb49 := NB225_224.out
                              have hnc49 := NB224_225.out
                              have hcz50_0 : wr.cell? ⟨gb225, 0, none⟩ = some (.slice A0_0 l0_0.length c0_0) := (blk_cell BK225.out 0).trans rfl
                              have hcz50_1 : wr.cell? ⟨gb225, 1, none⟩ = some (.string a0_1) := (blk_cell BK225.out 1).trans rfl
                              have hcz50_2 : wr.cell? ⟨gb225, 2, none⟩ = some (.string a0_2) := (blk_cell BK225.out 2).trans rfl
                              have hcz50_3 : wr.cell? ⟨gb225, 3, none⟩ = some (u226003) := (blk_cell BK225.out 3).trans rfl
                              have hfz50_0 := blk_frozen BK225.out 0
                              have hfz50_1 := blk_frozen BK225.out 1
                              have hfz50_2 := blk_frozen BK225.out 2
                              have hfz50_3 := blk_frozen BK225.out 3
                              have hnb51 := NB224_218.out
                              have hnc51 := NB218_224.out
                              have hcz52_0 : wr.cell? ⟨gb224, 0, none⟩ = some (.int .u8 ((rd_T32 l0_3 x36_2).f0)) := (blk_cell BK224.out 0).trans rfl
                              have hcz52_1 : wr.cell? ⟨gb224, 1, none⟩ = some (.int .u8 ((rd_T32 l0_3 x36_2).f1)) := (blk_cell BK224.out 1).trans rfl
                              have hcz52_2 : wr.cell? ⟨gb224, 2, none⟩ = some (.int .u8 ((rd_T32 l0_3 x36_2).f2)) := (blk_cell BK224.out 2).trans rfl
                              have hcz52_3 : wr.cell? ⟨gb224, 3, none⟩ = some (.int .u8 ((rd_T32 l0_3 x36_2).f3)) := (blk_cell BK224.out 3).trans rfl
                              have hcz52_4 : wr.cell? ⟨gb224, 4, none⟩ = some (.int .i64 ((rd_T32 l0_3 x36_2).f4)) := (blk_cell BK224.out 4).trans rfl
                              have hfz52_0 := blk_frozen BK224.out 0
                              have hfz52_1 := blk_frozen BK224.out 1
                              have hfz52_2 := blk_frozen BK224.out 2
                              have hfz52_3 := blk_frozen BK224.out 3
                              have hfz52_4 := blk_frozen BK224.out 4
                              have p45 : 0 ≤ (x36_2 : Int) := of_decide_eq_true (by first | (with_reducible assumption) | assumption)
                              have q45 : (x36_2 : Int) < ((x226003_3.length : Int) : Int) := of_decide_eq_true (by first | (with_reducible assumption) | assumption)
                              obtain ⟨go45, co45, eo45, gb45, gl45, cl45, HG45⟩ := Kd.R_form HO_226003.out (by omega)
                              (first | cases eo45 | (injection eo45 with ea_ en_ ec_; (first | subst ea_ | (injection ea_ with ea_; subst ea_)); subst ec_; clear en_))
                              have GB45 := Aside0.mk gb45
                              have GG45 := Aside0.mk HG45
                              clear gb45 gl45 HG45
                              obtain ⟨ce45, hcl45, hM45, hcc45, hfr45⟩ := Kd.R_elem HO_226003.out z32 (x36_2 : Int) p45 q45
                              obtain rfl := k32_openM hM45
                              have hx45_0 : wr.cell? ⟨go45, (x36_2 : Int).toNat * 5, none⟩ = some (.int .u8 ((rd_T32 x226003_3 x36_2).f0)) := hcc45 0 _ rfl
                              have hx45_1 : wr.cell? ⟨go45, (x36_2 : Int).toNat * 5 + 1, none⟩ = some (.int .u8 ((rd_T32 x226003_3 x36_2).f1)) := hcc45 1 _ rfl
                              have hx45_2 : wr.cell? ⟨go45, (x36_2 : Int).toNat * 5 + 2, none⟩ = some (.int .u8 ((rd_T32 x226003_3 x36_2).f2)) := hcc45 2 _ rfl
                              have hx45_3 : wr.cell? ⟨go45, (x36_2 : Int).toNat * 5 + 3, none⟩ = some (.int .u8 ((rd_T32 x226003_3 x36_2).f3)) := hcc45 3 _ rfl
                              have hx45_4 : wr.cell? ⟨go45, (x36_2 : Int).toNat * 5 + 4, none⟩ = some (.int .i64 ((rd_T32 x226003_3 x36_2).f4)) := hcc45 4 _ rfl
                              have hf45_0 : wr.frozen? ⟨go45, (x36_2 : Int).toNat * 5, none⟩ = false := hfr45 0
                              have hf45_1 : wr.frozen? ⟨go45, (x36_2 : Int).toNat * 5 + 1, none⟩ = false := hfr45 1
                              have hf45_2 : wr.frozen? ⟨go45, (x36_2 : Int).toNat * 5 + 2, none⟩ = false := hfr45 2
                              have hf45_3 : wr.frozen? ⟨go45, (x36_2 : Int).toNat * 5 + 3, none⟩ = false := hfr45 3
                              have hf45_4 : wr.frozen? ⟨go45, (x36_2 : Int).toNat * 5 + 4, none⟩ = false := hfr45 4
                              clear hcl45 hcc45 hfr45 hM45
                              replace p45 := eq_true p45
                              replace q45 := eq_true q45
                              have HX53 := Aside0.mk (show Kd.R k32 32 wr w.heap.size (fun k_ => k_ ≠ gb224) (.slice (some ⟨go45, 0, none⟩) x226003_3.length co45) x226003_3 from (by (with_reducible repeat (first | apply Kd.R_alloc | apply Kd.R_drewN | apply Kd.R_drew)); exact HO_226003.out))
                              obtain ⟨ce53, hcl53, hM53, hcc53, hfr53⟩ := Kd.R_elem HX53.out z32 (x36_2 : Int) (of_decide_eq_true (by first | (with_reducible assumption) | assumption)) (by have h_ : (x36_2 : Int) < ((x226003_3.length : Int) : Int) := of_decide_eq_true (by first | (with_reducible assumption) | assumption); first | exact h_ | (have e_ := (Kd.R_reads' HO_226003.out).1; omega) | simpa using h_)
                              obtain rfl := k32_openM hM53
                              have HP53 := Kd.R_seg HX53.out (x36_2 : Int) (of_decide_eq_true (by first | (with_reducible assumption) | assumption)) (by have h_ : (x36_2 : Int) < ((x226003_3.length : Int) : Int) := of_decide_eq_true (by first | (with_reducible assumption) | assumption); first | exact h_ | (have e_ := (Kd.R_reads' HO_226003.out).1; omega) | simpa using h_) (seg := [.int .u8 ((rd_T32 l0_3 x36_2).f0), .int .u8 ((rd_T32 l0_3 x36_2).f1), .int .u8 ((rd_T32 l0_3 x36_2).f2), .int .u8 ((rd_T32 l0_3 x36_2).f3), .int .i64 ((rd_T32 l0_3 x36_2).f4)]) (j := 0) hcl53 hcc53 (show 5 ≤ 5 from by decide) (x' := (⟨((rd_T32 l0_3 x36_2).f0), ((rd_T32 l0_3 x36_2).f1), ((rd_T32 l0_3 x36_2).f2), ((rd_T32 l0_3 x36_2).f3), ((rd_T32 l0_3 x36_2).f4)⟩ : S32)) (k32_mkM _ _ _ (⟨((rd_T32 l0_3 x36_2).f0), ((rd_T32 l0_3 x36_2).f1), ((rd_T32 l0_3 x36_2).f2), ((rd_T32 l0_3 x36_2).f3), ((rd_T32 l0_3 x36_2).f4)⟩ : S32) ) (fun _ hk => hk)
                              have hx53_0 := hcc53 0 _ rfl
                              (try simp only [show (k32).sz = 5 from rfl, Nat.mul_one, Nat.add_zero] at hx53_0)
                              have hf53_0 := hfr53 0
                              (try simp only [show (k32).sz = 5 from rfl, Nat.mul_one, Nat.add_zero] at hf53_0)
                              have hx53_1 := hcc53 1 _ rfl
                              (try simp only [show (k32).sz = 5 from rfl, Nat.mul_one, Nat.add_zero] at hx53_1)
                              have hf53_1 := hfr53 1
                              (try simp only [show (k32).sz = 5 from rfl, Nat.mul_one, Nat.add_zero] at hf53_1)
                              have hx53_2 := hcc53 2 _ rfl
                              (try simp only [show (k32).sz = 5 from rfl, Nat.mul_one, Nat.add_zero] at hx53_2)
                              have hf53_2 := hfr53 2
                              (try simp only [show (k32).sz = 5 from rfl, Nat.mul_one, Nat.add_zero] at hf53_2)
                              have hx53_3 := hcc53 3 _ rfl
                              (try simp only [show (k32).sz = 5 from rfl, Nat.mul_one, Nat.add_zero] at hx53_3)
                              have hf53_3 := hfr53 3
                              (try simp only [show (k32).sz = 5 from rfl, Nat.mul_one, Nat.add_zero] at hf53_3)
                              have hx53_4 := hcc53 4 _ rfl
                              (try simp only [show (k32).sz = 5 from rfl, Nat.mul_one, Nat.add_zero] at hx53_4)
                              have hf53_4 := hfr53 4
                              (try simp only [show (k32).sz = 5 from rfl, Nat.mul_one, Nat.add_zero] at hf53_4)
                              clear hcl53 hcc53 hfr53 hM53
                              go_upto_region 18 with (first | ((with_reducible refine gate_store (t := 32) (p := 59) rfl ?_); refine store_event (t := 32) (p := 59) (v := ?vo_w54) (w1 := (((((wr.setCell ⟨go45, (x36_2 : Int).toNat * 5, none⟩ (.int .u8 ((rd_T32 l0_3 x36_2).f0))).setCell ⟨go45, (x36_2 : Int).toNat * 5 + 1, none⟩ (.int .u8 ((rd_T32 l0_3 x36_2).f1))).setCell ⟨go45, (x36_2 : Int).toNat * 5 + 2, none⟩ (.int .u8 ((rd_T32 l0_3 x36_2).f2))).setCell ⟨go45, (x36_2 : Int).toNat * 5 + 3, none⟩ (.int .u8 ((rd_T32 l0_3 x36_2).f3))).setCell ⟨go45, (x36_2 : Int).toNat * 5 + 4, none⟩ (.int .i64 ((rd_T32 l0_3 x36_2).f4)))) ?hg ?ho ?hn ?hr ?_; (case ho => rfl); (case hg => rfl); (case hn => rfl); (case hr => first | (go_simp; done) | (go_simp; rfl)); intro w54 hw; have hg : wr.grownBy w54 (some go45) := (by rw [hw]; exact HP53.2); have hp_ : Kd.R k32 32 w54 w.heap.size (fun k_ => k_ ≠ gb224) (.slice (some ⟨go45, 0, none⟩) x226003_3.length co45) y229 := (by rw [hw, Ny229.out]; exact HP53.1); clear HP53; have n0_ := Aside0.mk (hp_); have n1_ := Aside0.mk (blk_grown (g := gb218) (o := .cells #[.slice A0_0 l0_0.length c0_0, .string a0_1, .string a0_2, .slice (some ad223) l0_3.length c0_3] 25 (0, 0)) (by (with_reducible repeat (first | refine blk_drewN ?_ _ | refine blk_drew ?_ | refine blk_alloc ?_ _)); exact BK218.out) hg (Kd.R_ne HO_226003.out BK218.out (by decide))); have n2_ := Aside0.mk (blk_grown (g := gb224) (o := .cells #[.int .u8 ((rd_T32 l0_3 x36_2).f0), .int .u8 ((rd_T32 l0_3 x36_2).f1), .int .u8 ((rd_T32 l0_3 x36_2).f2), .int .u8 ((rd_T32 l0_3 x36_2).f3), .int .i64 ((rd_T32 l0_3 x36_2).f4)] 32 (0, 0)) (by (with_reducible repeat (first | refine blk_drewN ?_ _ | refine blk_drew ?_ | refine blk_alloc ?_ _)); exact BK224.out) hg (Kd.R_away HO_226003.out (fun _ hk => hk))); have n3_ := Aside0.mk (blk_grown (g := gb225) (o := .cells #[.slice A0_0 l0_0.length c0_0, .string a0_1, .string a0_2, .slice (some ⟨go45, 0, none⟩) x226003_3.length co45] 25 (0, 0)) (by (with_reducible repeat (first | refine blk_drewN ?_ _ | refine blk_drew ?_ | refine blk_alloc ?_ _)); exact BK225.out) hg (Kd.R_ne HO_226003.out BK225.out (by decide))); have n4_ := Aside0.mk ((by rw [hw]; exact below_set (below_set (below_set (below_set (below_set (HB.out) GB45.out) GB45.out) GB45.out) GB45.out) GB45.out : Below w.heap.size w w54)); clear HO_226003; clear BK218; clear BK224; clear BK225; clear HB; have HO_226003 := n0_; have BK218 := n1_; have BK224 := n2_; have BK225 := n3_; have HB := n4_; clear n0_ n1_ n2_ n3_ n4_; clear hg hw hp_; have hcz55_0 : w54.cell? ⟨gb225, 0, none⟩ = some (.slice A0_0 l0_0.length c0_0) := (blk_cell BK225.out 0).trans rfl; have hcz55_1 : w54.cell? ⟨gb225, 1, none⟩ = some (.string a0_1) := (blk_cell BK225.out 1).trans rfl; have hcz55_2 : w54.cell? ⟨gb225, 2, none⟩ = some (.string a0_2) := (blk_cell BK225.out 2).trans rfl; have hcz55_3 : w54.cell? ⟨gb225, 3, none⟩ = some (.slice (some ⟨go45, 0, none⟩) x226003_3.length co45) := (blk_cell BK225.out 3).trans rfl; have hfz55_0 := blk_frozen BK225.out 0; have hfz55_1 := blk_frozen BK225.out 1; have hfz55_2 := blk_frozen BK225.out 2; have hfz55_3 := blk_frozen BK225.out 3) | ((with_reducible refine gate_callee (f := 10) rfl ?_); refine goesL_ (some 62) rfl rfl Tryd.func10 (by kernel_rfl) rfl #[.agg #[.slice A0_0 l0_0.length c0_0, .string a0_1, .string a0_2, .slice (some ⟨go45, 0, none⟩) y229.length co45]] rfl (by (try simp only [List.map_toArray, List.map_cons, List.map_nil]); first | done | (rw [show y229.length = x226003_3.length from (Kd.R_reads' HO_226003.out).1.symm] <;> rfl) | rfl | (simp only [List.length_drop, List.length_take]; rfl)) ?_; (with_reducible refine (check_Check.calls k3 _ _ l0_0 a0_1 a0_2 _ _ y229 t230 t231 _ ?side1 ?side2 ?side3 ?side4 ?side5 A46.out).mono ?_); (case side1 => repeat (first | exact (Kd.C_below HR0_0.out HB.out) | (with_reducible refine Kd.C_alloc ?_ _) | (with_reducible refine Kd.C_drewN ?_ _) | (with_reducible refine Kd.C_drew ?_))); (case side2 => exact HC0_0.out); (case side3 => repeat (first | exact (Kd.R_reads' HO_226003.out).2.2 | (with_reducible refine Kd.C_alloc ?_ _) | (with_reducible refine Kd.C_drewN ?_ _) | (with_reducible refine Kd.C_drew ?_))); (case side4 => rw [show y229.length = x226003_3.length from (Kd.R_reads' HO_226003.out).1.symm]; exact (Kd.R_reads' HO_226003.out).2.1); (case side5 => repeat (first | exact (Kd.C_below HRT.out HB.out) | (with_reducible refine Kd.C_alloc ?_ _) | (with_reducible refine Kd.C_drewN ?_ _) | (with_reducible refine Kd.C_drew ?_))); rintro e w56 ⟨rfl, hb⟩; refine ⟨_, rfl, ?_⟩; have n0_ := Aside0.mk (Kd.R_below (by (with_reducible repeat (first | apply Kd.R_alloc | apply Kd.R_drewN | apply Kd.R_drew)); exact HO_226003.out) hb); have n1_ := Aside0.mk (blk_below (g := gb218) (o := .cells #[.slice A0_0 l0_0.length c0_0, .string a0_1, .string a0_2, .slice (some ad223) l0_3.length c0_3] 25 (0, 0)) (by (with_reducible repeat (first | refine blk_drewN ?_ _ | refine blk_drew ?_ | refine blk_alloc ?_ _)); exact BK218.out) hb); have n2_ := Aside0.mk (blk_below (g := gb224) (o := .cells #[.int .u8 ((rd_T32 l0_3 x36_2).f0), .int .u8 ((rd_T32 l0_3 x36_2).f1), .int .u8 ((rd_T32 l0_3 x36_2).f2), .int .u8 ((rd_T32 l0_3 x36_2).f3), .int .i64 ((rd_T32 l0_3 x36_2).f4)] 32 (0, 0)) (by (with_reducible repeat (first | refine blk_drewN ?_ _ | refine blk_drew ?_ | refine blk_alloc ?_ _)); exact BK224.out) hb); have n3_ := Aside0.mk (blk_below (g := gb225) (o := .cells #[.slice A0_0 l0_0.length c0_0, .string a0_1, .string a0_2, .slice (some ⟨go45, 0, none⟩) x226003_3.length co45] 25 (0, 0)) (by (with_reducible repeat (first | refine blk_drewN ?_ _ | refine blk_drew ?_ | refine blk_alloc ?_ _)); exact BK225.out) hb); have n4_ := Aside0.mk (below_step (by repeat (first | (with_reducible first | exact HB.out | apply below_alloc | apply pw_below_drewN | apply below_drew1 | refine below_set ?_ GE218.out | refine below_set ?_ GE224.out | refine below_set ?_ GE225.out) | exact HB.out)) hb); clear HO_226003; clear BK218; clear BK224; clear BK225; clear HB; have HO_226003 := n0_; have BK218 := n1_; have BK224 := n2_; have BK225 := n3_; have HB := n4_; clear n0_ n1_ n2_ n3_ n4_; (try clear hb); (try clear hb2); (try clear hk); (try clear hi)))
                              (try simp only [Act.put, List.setIfInBounds_toArray, List.set_cons_zero, List.set_cons_succ])
                              go_cut [70] (fun v70 wc => ∃ (kq : Nat) (x70_46 : Bool), v70 = .bool x70_46 ∧ Aside0 (lockstitchlaw05_CheckEach.j3 kq t221 t222 x5_2 x36_2 t230 t231 l0_3 (l0_3.length : Int) x36_2 x70_46 l0_0 a0_1 a0_2 l0_3 = some r) ∧ Aside0 (kq ≤ k3) ∧ Aside0 (Kd.R k32 32 wc w.heap.size (fun k_ => k_ ≠ gb224) (.slice (some ⟨go45, 0, none⟩) x226003_3.length co45) y229) ∧ Aside0 (wc.heap[gb218]? = some (.cells #[(.slice A0_0 l0_0.length c0_0), .string a0_1, .string a0_2, (.slice (some ad223) l0_3.length c0_3)] 25 (0, 0))) ∧ Aside0 (wc.heap[gb224]? = some (.cells #[.int .u8 ((rd_T32 l0_3 x36_2).f0), .int .u8 ((rd_T32 l0_3 x36_2).f1), .int .u8 ((rd_T32 l0_3 x36_2).f2), .int .u8 ((rd_T32 l0_3 x36_2).f3), .int .i64 ((rd_T32 l0_3 x36_2).f4)] 32 (0, 0))) ∧ Aside0 (wc.heap[gb225]? = some (.cells #[(.slice A0_0 l0_0.length c0_0), .string a0_1, .string a0_2, (.slice (some ⟨go45, 0, none⟩) x226003_3.length co45)] 25 (0, 0))) ∧ Aside0 (Below w.heap.size w wc))
                              case first =>
                                have H := HC47.out
                                clear HC47
                                by_cases c57 : t231 = 0
                                · rw [if_pos c57] at H
                                  have c57b0 : (t231 == 0) = true := beq_iff_eq.mpr c57
                                  have c57b1 : (t231 != 0) = false := bne_eq_false_iff_eq.mpr c57
                                  clear c57
                                  (first | rw [c57b0] | (simp only [i64_w, i32_w]; rw [c57b0]) | skip)
                                  have H' := Aside0.mk H
                                  clear H
                                  go_wp2
                                  go_meet
                                  case rel => exact ⟨_, (false), (by first | rfl | (simp; done) | (simp [*]; done)), H', ⟨by have := HJ3.out; have := HK2.out; have := HK3.out; first | omega | exact Nat.le_refl _⟩, ⟨by (with_reducible repeat (first | apply Kd.R_alloc | apply Kd.R_drewN | apply Kd.R_drew)); exact HO_226003.out⟩, ⟨by (with_reducible repeat (first | refine blk_drewN ?_ _ | refine blk_drew ?_ | refine blk_alloc ?_ _)); exact BK218.out⟩, ⟨by (with_reducible repeat (first | refine blk_drewN ?_ _ | refine blk_drew ?_ | refine blk_alloc ?_ _)); exact BK224.out⟩, ⟨by (with_reducible repeat (first | refine blk_drewN ?_ _ | refine blk_drew ?_ | refine blk_alloc ?_ _)); exact BK225.out⟩, ⟨by repeat (first | (with_reducible first | exact HB.out | apply below_alloc | apply pw_below_drewN | apply below_drew1 | refine below_set ?_ GE218.out | refine below_set ?_ GE224.out | refine below_set ?_ GE225.out) | exact HB.out)⟩⟩
                                · rw [if_neg c57] at H
                                  have c57b0 : (t231 == 0) = false := beq_eq_false_iff_ne.mpr c57
                                  have c57b1 : (t231 != 0) = true := bne_iff_ne.mpr c57
                                  (first | rw [c57b0] | (simp only [i64_w, i32_w]; rw [c57b0]) | skip)
                                  have H' := Aside0.mk H
                                  clear H
                                  go_wp2
                                  go_meet
                                  case rel => exact ⟨_, (decide (x5_2 < 0)), (by first | rfl | (simp; done) | (simp [*]; done)), H', ⟨by have := HJ3.out; have := HK2.out; have := HK3.out; first | omega | exact Nat.le_refl _⟩, ⟨by (with_reducible repeat (first | apply Kd.R_alloc | apply Kd.R_drewN | apply Kd.R_drew)); exact HO_226003.out⟩, ⟨by (with_reducible repeat (first | refine blk_drewN ?_ _ | refine blk_drew ?_ | refine blk_alloc ?_ _)); exact BK218.out⟩, ⟨by (with_reducible repeat (first | refine blk_drewN ?_ _ | refine blk_drew ?_ | refine blk_alloc ?_ _)); exact BK224.out⟩, ⟨by (with_reducible repeat (first | refine blk_drewN ?_ _ | refine blk_drew ?_ | refine blk_alloc ?_ _)); exact BK225.out⟩, ⟨by repeat (first | (with_reducible first | exact HB.out | apply below_alloc | apply pw_below_drewN | apply below_drew1 | refine below_set ?_ GE218.out | refine below_set ?_ GE224.out | refine below_set ?_ GE225.out) | exact HB.out)⟩⟩
                              case rest =>
                                clear HC47
                                try clear c1
                                try clear c2
                                try clear p2
                                try clear q2
                                try clear hx2
                                try clear c3
                                try clear c4
                                try clear p4
                                try clear q4
                                try clear hx4
                                try clear hf4
                                try clear c5
                                try clear hx5
                                try clear hf5
                                try clear c6
                                try clear p6
                                try clear c8
                                try clear c9
                                try clear c9b0
                                try clear c9b1
                                try clear c10
                                try clear c18
                                try clear p22
                                try clear q22
                                try clear hx22
                                try clear c23
                                try clear c23b0
                                try clear c24
                                try clear c24b0
                                try clear c25
                                try clear c25b0
                                try clear c27
                                try clear c31
                                try clear c32
                                try clear c35
                                try clear c35b0
                                try clear c36
                                try clear c37
                                try clear c38
                                try clear c43
                                try clear c43b0
                                try clear c44
                                try clear c44b0
                                try clear c45
                                try clear p45
                                try clear q45
                                try clear hx45
                                try clear hf45
                                try clear c48
                                try clear c49
                                try clear c51
                                try clear c53
                                try clear hx53
                                try clear hf53
                                try clear c57
                                try clear c57b0
                                try clear c57b1
                                try clear hcz10_0
                                try clear hcz10_1
                                try clear hcz10_2
                                try clear hcz10_3
                                try clear hcz12_0
                                try clear hcz12_1
                                try clear hcz12_2
                                try clear hcz12_3
                                try clear hcz13_0
                                try clear hcz13_1
                                try clear hcz13_2
                                try clear hcz13_3
                                try clear hcz15_0
                                try clear hcz15_1
                                try clear hcz15_2
                                try clear hcz15_3
                                try clear hcz16_0
                                try clear hcz16_1
                                try clear hcz16_2
                                try clear hcz16_3
                                try clear hcz20_0
                                try clear hcz20_1
                                try clear hcz20_2
                                try clear hcz20_3
                                try clear hcz22_0
                                try clear hcz22_1
                                try clear hcz22_2
                                try clear hcz22_3
                                try clear hcz28_0
                                try clear hcz28_1
                                try clear hcz28_2
                                try clear hcz28_3
                                try clear hcz28_4
                                try clear hcz29_0
                                try clear hcz29_1
                                try clear hcz29_2
                                try clear hcz29_3
                                try clear hcz33_0
                                try clear hcz33_1
                                try clear hcz33_2
                                try clear hcz33_3
                                try clear hcz34_0
                                try clear hcz34_1
                                try clear hcz34_2
                                try clear hcz34_3
                                try clear hcz39_0
                                try clear hcz39_1
                                try clear hcz39_2
                                try clear hcz39_3
                                try clear hcz42_0
                                try clear hcz42_1
                                try clear hcz42_2
                                try clear hcz42_3
                                try clear hcz50_0
                                try clear hcz50_1
                                try clear hcz50_2
                                try clear hcz50_3
                                try clear hcz52_0
                                try clear hcz52_1
                                try clear hcz52_2
                                try clear hcz52_3
                                try clear hcz52_4
                                try clear hcz55_0
                                try clear hcz55_1
                                try clear hcz55_2
                                try clear hcz55_3
                                try clear hfz10_0
                                try clear hfz10_1
                                try clear hfz10_2
                                try clear hfz10_3
                                try clear hfz12_0
                                try clear hfz12_1
                                try clear hfz12_2
                                try clear hfz12_3
                                try clear hfz13_0
                                try clear hfz13_1
                                try clear hfz13_2
                                try clear hfz13_3
                                try clear hfz15_0
                                try clear hfz15_1
                                try clear hfz15_2
                                try clear hfz15_3
                                try clear hfz16_0
                                try clear hfz16_1
                                try clear hfz16_2
                                try clear hfz16_3
                                try clear hfz20_0
                                try clear hfz20_1
                                try clear hfz20_2
                                try clear hfz20_3
                                try clear hfz22_0
                                try clear hfz22_1
                                try clear hfz22_2
                                try clear hfz22_3
                                try clear hfz28_0
                                try clear hfz28_1
                                try clear hfz28_2
                                try clear hfz28_3
                                try clear hfz28_4
                                try clear hfz29_0
                                try clear hfz29_1
                                try clear hfz29_2
                                try clear hfz29_3
                                try clear hfz33_0
                                try clear hfz33_1
                                try clear hfz33_2
                                try clear hfz33_3
                                try clear hfz34_0
                                try clear hfz34_1
                                try clear hfz34_2
                                try clear hfz34_3
                                try clear hfz39_0
                                try clear hfz39_1
                                try clear hfz39_2
                                try clear hfz39_3
                                try clear hfz42_0
                                try clear hfz42_1
                                try clear hfz42_2
                                try clear hfz42_3
                                try clear hfz50_0
                                try clear hfz50_1
                                try clear hfz50_2
                                try clear hfz50_3
                                try clear hfz52_0
                                try clear hfz52_1
                                try clear hfz52_2
                                try clear hfz52_3
                                try clear hfz52_4
                                try clear hfz55_0
                                try clear hfz55_1
                                try clear hfz55_2
                                try clear hfz55_3
                                try clear hx223_0
                                try clear hx223_1
                                try clear hx223_2
                                try clear hx223_3
                                try clear hx223_4
                                try clear hx45_0
                                try clear hx45_1
                                try clear hx45_2
                                try clear hx45_3
                                try clear hx45_4
                                try clear hx53_0
                                try clear hx53_1
                                try clear hx53_2
                                try clear hx53_3
                                try clear hx53_4
                                try clear p2
                                try clear p22
                                try clear p223
                                try clear p45
                                try clear q2
                                try clear q22
                                try clear q223
                                try clear q45
                                obtain ⟨kq, x70_46, rfl, HA, HJ46, HO_226003, BK218, BK224, BK225, HB⟩ := hcut
                                have hl226003_46 := (Kd.R_reads' HO_226003.out).1
                                rw [hl226003_46] at HO_226003
                                (try simp only [hl226003_46])
                                (try simp only [hl226003_46] at BK218)
                                (try simp only [hl226003_46] at BK224)
                                (try simp only [hl226003_46] at BK225)
                                cases kq with
                                | zero => exact absurd HA.out (by simp [lockstitchlaw05_CheckEach.j3])
                                | succ kj46 =>
                                  have H := HA.out
                                  clear HA
                                  simp only [lockstitchlaw05_CheckEach.j3] at H
                                  by_cases c58 : x70_46 = true
                                  · subst c58
                                    have H1 : (if t231 = t222 then (if t221 ≥ 0 then (if t230 = t221 then (lockstitchlaw05_CheckEach.l0 kj46 t221 t222 x36_2 l0_3 (l0_3.length : Int) (wrap64 (x36_2 + 1)) l0_0 a0_1 a0_2 l0_3) else (some false)) else (lockstitchlaw05_CheckEach.l0 kj46 t221 t222 x36_2 l0_3 (l0_3.length : Int) (wrap64 (x36_2 + 1)) l0_0 a0_1 a0_2 l0_3)) else (some false)) = some r := by rw [if_pos rfl] at H; exact H
                                    clear H
                                    have H := H1
                                    clear H1
                                    by_cases c59 : t231 = t222
                                    · rw [if_pos c59] at H
                                      have c59b0 : (t231 == t222) = true := beq_iff_eq.mpr c59
                                      have c59b1 : (t231 != t222) = false := bne_eq_false_iff_eq.mpr c59
                                      clear c59
                                      by_cases c60 : t221 ≥ 0
                                      · rw [if_pos c60] at H
                                        have c60b0 : decide (0 ≤ t221) = true := decide_eq_true c60
                                        clear c60
                                        by_cases c61 : t230 = t221
                                        · rw [if_pos c61] at H
                                          have c61b0 : (t230 == t221) = true := beq_iff_eq.mpr c61
                                          have c61b1 : (t230 != t221) = false := bne_eq_false_iff_eq.mpr c61
                                          clear c61
                                          have H' := Aside0.mk H
                                          clear H
                                          go_wp2
                                          (try simp only [← hl226003_46])
                                          go_roundg kj46
                                          case measure => have := HJ3.out; have := HK2.out; have := HK3.out; have := HJ46.out; omega
                                          case rel => exact ⟨(x36_2), (wrap64 (x36_2 + 1)), (by first | rfl | (simp; done) | (simp [*]; done)), (by first | rfl | (simp; done) | (simp [*]; done)), H', ⟨by have := HJ3.out; have := HK2.out; have := HK3.out; have := HJ46.out; omega⟩, ⟨by (try simp only [hl226003_46]); (with_reducible repeat (first | refine blk_drewN ?_ _ | refine blk_drew ?_ | refine blk_alloc ?_ _)); exact BK218.out⟩, ⟨by repeat (first | (with_reducible first | exact HB.out | apply below_alloc | apply pw_below_drewN | apply below_drew1 | refine below_set ?_ GE218.out | refine below_set ?_ GE224.out | refine below_set ?_ GE225.out) | exact HB.out)⟩⟩
                                        · rw [if_neg c61] at H
                                          have c61b0 : (t230 == t221) = false := beq_eq_false_iff_ne.mpr c61
                                          have c61b1 : (t230 != t221) = true := bne_iff_ne.mpr c61
                                          obtain rfl := Option.some.inj H
                                          go_wp2
                                          go_ret
                                          exact ⟨by first | rfl | (simp [errW_none, errW_some] <;> rfl) | (simp [*, errW_none, errW_some] <;> rfl), by repeat (first | (with_reducible first | exact HB.out | apply below_alloc | apply pw_below_drewN | apply below_drew1 | refine below_set ?_ GE218.out | refine below_set ?_ GE224.out | refine below_set ?_ GE225.out) | exact HB.out)⟩
                                      · rw [if_neg c60] at H
                                        have c60b0 : decide (0 ≤ t221) = false := decide_eq_false c60
                                        clear c60
                                        have H' := Aside0.mk H
                                        clear H
                                        go_wp2
                                        (try simp only [← hl226003_46])
                                        go_roundg kj46
                                        case measure => have := HJ3.out; have := HK2.out; have := HK3.out; have := HJ46.out; omega
                                        case rel => exact ⟨(x36_2), (wrap64 (x36_2 + 1)), (by first | rfl | (simp; done) | (simp [*]; done)), (by first | rfl | (simp; done) | (simp [*]; done)), H', ⟨by have := HJ3.out; have := HK2.out; have := HK3.out; have := HJ46.out; omega⟩, ⟨by (try simp only [hl226003_46]); (with_reducible repeat (first | refine blk_drewN ?_ _ | refine blk_drew ?_ | refine blk_alloc ?_ _)); exact BK218.out⟩, ⟨by repeat (first | (with_reducible first | exact HB.out | apply below_alloc | apply pw_below_drewN | apply below_drew1 | refine below_set ?_ GE218.out | refine below_set ?_ GE224.out | refine below_set ?_ GE225.out) | exact HB.out)⟩⟩
                                    · rw [if_neg c59] at H
                                      have c59b0 : (t231 == t222) = false := beq_eq_false_iff_ne.mpr c59
                                      have c59b1 : (t231 != t222) = true := bne_iff_ne.mpr c59
                                      obtain rfl := Option.some.inj H
                                      go_wp2
                                      go_ret
                                      exact ⟨by first | rfl | (simp [errW_none, errW_some] <;> rfl) | (simp [*, errW_none, errW_some] <;> rfl), by repeat (first | (with_reducible first | exact HB.out | apply below_alloc | apply pw_below_drewN | apply below_drew1 | refine below_set ?_ GE218.out | refine below_set ?_ GE224.out | refine below_set ?_ GE225.out) | exact HB.out)⟩
                                  · replace c58 := Bool.eq_false_iff.mpr c58
                                    subst c58
                                    have H1 : (lockstitchlaw05_CheckEach.l0 kj46 t221 t222 x5_2 l0_3 (l0_3.length : Int) (wrap64 (x36_2 + 1)) l0_0 a0_1 a0_2 l0_3) = some r := by rw [if_neg (show ¬ (false = true) by decide)] at H; exact H
                                    clear H
                                    have H := H1
                                    clear H1
                                    have H' := Aside0.mk H
                                    clear H
                                    go_wp2
                                    (try simp only [← hl226003_46])
                                    go_roundg kj46
                                    case measure => have := HJ3.out; have := HK2.out; have := HK3.out; have := HJ46.out; omega
                                    case rel => exact ⟨(x5_2), (wrap64 (x36_2 + 1)), (by first | rfl | (simp; done) | (simp [*]; done)), (by first | rfl | (simp; done) | (simp [*]; done)), H', ⟨by have := HJ3.out; have := HK2.out; have := HK3.out; have := HJ46.out; omega⟩, ⟨by (try simp only [hl226003_46]); (with_reducible repeat (first | refine blk_drewN ?_ _ | refine blk_drew ?_ | refine blk_alloc ?_ _)); exact BK218.out⟩, ⟨by repeat (first | (with_reducible first | exact HB.out | apply below_alloc | apply pw_below_drewN | apply below_drew1 | refine below_set ?_ GE218.out | refine below_set ?_ GE224.out | refine below_set ?_ GE225.out) | exact HB.out)⟩⟩
                            · rw [if_neg c44] at H
                              exact absurd H (by simp)
                          · rw [if_neg c43] at H
                            exact absurd H (by simp)
                  · rw [if_neg c25] at H
                    exact absurd H (by simp)
                · rw [if_neg c24] at H
                  exact absurd H (by simp)
              · rw [if_neg c23] at H
                have c23b0 : decide (x36_2 < (l0_3.length : Int)) = false := decide_eq_false c23
                clear c23
                by_cases c62 : ((decide (x5_2 ≥ 0)) == (t222 != 0)) = true
                · rw [if_pos c62] at H
                  have c62b0 : ((decide (x5_2 ≥ 0)) == (t222 != 0)) = true := c62
                  (try (have c62b1 : decide ((decide (x5_2 ≥ 0)) = (t222 != 0)) = true := by simpa using c62))
                  (try (have c62b2 : ((decide (x5_2 ≥ 0)) == (t222 != 0)) = true := by simpa using c62))
                  clear c62
                  by_cases c63 : t221 < 0
                  · rw [if_pos c63] at H
                    have c63b0 : decide (t221 < 0) = true := decide_eq_true c63
                    clear c63
                    obtain rfl := Option.some.inj H
                    go_wp2
                    go_ret
                    exact ⟨by first | rfl | (simp [errW_none, errW_some] <;> rfl) | (simp [*, errW_none, errW_some] <;> rfl), by repeat (first | (with_reducible first | exact HB.out | apply below_alloc | apply pw_below_drewN | apply below_drew1 | refine below_set ?_ GE218.out) | exact HB.out)⟩
                  · rw [if_neg c63] at H
                    have c63b0 : decide (t221 < 0) = false := decide_eq_false c63
                    clear c63
                    obtain rfl := Option.some.inj H
                    go_wp2
                    go_ret
                    exact ⟨by first | rfl | (simp [errW_none, errW_some] <;> rfl) | (simp [*, errW_none, errW_some] <;> rfl), by repeat (first | (with_reducible first | exact HB.out | apply below_alloc | apply pw_below_drewN | apply below_drew1 | refine below_set ?_ GE218.out) | exact HB.out)⟩
                · rw [if_neg c62] at H
                  have c62b0 : ((decide (x5_2 ≥ 0)) == (t222 != 0)) = false := by simpa using c62
                  (try (have c62b1 : decide ((decide (x5_2 ≥ 0)) = (t222 != 0)) = false := by simpa using c62))
                  (try (have c62b2 : ((decide (x5_2 ≥ 0)) == (t222 != 0)) = false := by simpa using c62))
                  (try (have c62b3 : ¬ ((decide (x5_2 ≥ 0)) = (t222 != 0)) := by simpa using c62))
                  clear c62
                  obtain rfl := Option.some.inj H
                  go_wp2
                  go_ret
                  exact ⟨by first | rfl | (simp [errW_none, errW_some] <;> rfl) | (simp [*, errW_none, errW_some] <;> rfl), by repeat (first | (with_reducible first | exact HB.out | apply below_alloc | apply pw_below_drewN | apply below_drew1 | refine below_set ?_ GE218.out) | exact HB.out)⟩
  · replace c3 := Bool.eq_false_iff.mpr c3
    subst c3
    have H1 : (some false) = some r := by rw [if_neg (show ¬ (false = true) by decide)] at H; exact H
    clear H
    have H := H1
    clear H1
    obtain rfl := Option.some.inj H
    go_enter Tryd.func6, Tryd.ntmps6
    go_wp2_with (first | ((with_reducible refine gate_dst (N := 1) rfl ?_); (try (refine gate_guard (by rfl) ?_; dsimp only)); refine box_event ?hg (N := 1) ?hd (cs := #[.slice A0_0 l0_0.length c0_0, .string a0_1, .string a0_2, .slice A0_3 l0_3.length c0_3]) (t := 25) ?hr ?_; (case hd => rfl); (case hg => rfl); (case hr => first | (go_simp; done) | (go_simp; rfl)); intro gb218 hg w64 hbox hb; have n0_ := Aside0.mk (below_step (by repeat (first | (with_reducible first | exact HB.out | apply below_alloc | apply pw_below_drewN | apply below_drew1) | exact HB.out)) hb); have n1_ := Aside0.mk (hbox); have n2_ := Aside0.mk ((by rw [hg]; exact (below_size (by repeat (first | (with_reducible first | exact HB.out | apply below_alloc | apply pw_below_drewN | apply below_drew1) | exact HB.out))) : w.heap.size ≤ gb218)); have n3_ := Aside0.mk ((by rw [hg]; exact (below_size (by repeat (first | (with_reducible first | exact HB.out | apply below_alloc | apply pw_below_drewN | apply below_drew1) | exact HB.out))) : w.heap.size ≤ gb218)); clear HB; have HB := n0_; have BK218 := n1_; have GW218 := n2_; have GE218 := n3_; clear n0_ n1_ n2_ n3_; clear hb hbox hg) | ((with_reducible refine gate_callee (f := 8) rfl ?_); refine goesL_ (some 11) rfl rfl Tryd.func8 (by kernel_rfl) rfl #[] rfl (by (try simp only [List.map_toArray, List.map_cons, List.map_nil]); first | done | rfl | (simp only [List.length_drop, List.length_take]; rfl)) ?_; (with_reducible refine (lockstitchlaw05_alive.calls k  false _ ?side1 A2.out).mono ?_); (case side1 => repeat (first | exact (Kd.C_below HRT.out HB.out) | (with_reducible refine Kd.C_alloc ?_ _) | (with_reducible refine Kd.C_drewN ?_ _) | (with_reducible refine Kd.C_drew ?_))); rintro e w65 ⟨rfl, hb⟩; refine ⟨_, rfl, ?_⟩; have n0_ := Aside0.mk (blk_below (g := gb218) (o := .cells #[.slice A0_0 l0_0.length c0_0, .string a0_1, .string a0_2, .slice A0_3 l0_3.length c0_3] 25 (0, 0)) (by (with_reducible repeat (first | refine blk_drewN ?_ _ | refine blk_drew ?_ | refine blk_alloc ?_ _)); exact BK218.out) hb); have n1_ := Aside0.mk (below_step (by repeat (first | (with_reducible first | exact HB.out | apply below_alloc | apply pw_below_drewN | apply below_drew1 | refine below_set ?_ GE218.out) | exact HB.out)) hb); clear BK218; clear HB; have BK218 := n0_; have HB := n1_; clear n0_ n1_; (try clear hb); (try clear hb2); (try clear hk); (try clear hi)))
    go_ret
    exact ⟨by first | rfl | (simp [errW_none, errW_some] <;> rfl) | (simp [*, errW_none, errW_some] <;> rfl), by repeat (first | (with_reducible first | exact HB.out | apply below_alloc | apply pw_below_drewN | apply below_drew1 | refine below_set ?_ GE218.out) | exact HB.out)⟩

end Go.Proofs.YtdkachialdabaaaDoor.P
