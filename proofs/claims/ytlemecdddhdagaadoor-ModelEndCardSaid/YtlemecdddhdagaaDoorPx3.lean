/- FUNCTIONS OF THE PROGRAM AS LEAN FUNCTIONS, AND THAT THE PROGRAM's CALLS ANSWER AS THEY DO: written by a program of this session. -/
import Derived.Test.YtlemecdddhdagaaDoorPx0
import Derived.Test.YtlemecdddhdagaaDoorPx1
import Derived.Test.YtlemecdddhdagaaDoorPx2
namespace Go.Proofs.YtlemecdddhdagaaDoor.P
open Go.RowKit Go.Proofs.YtlemecdddhdagaaDoorW.PrintWords Go.Proofs.YtlemecdddhdagaaDoorW.PrintLast Go.Proofs.YtlemecdddhdagaaDoorW.PrintMore
attribute [local go_sem] max2_int min2_int max_two min_two max_three min_three max_four min_four   -- for this text's walks alone
set_option linter.unusedVariables false
set_option linter.unusedSimpArgs false

/-! ### check_kinds: function 34 -/
mutual
def check_kinds.j0 : Nat → Int → Int → Int → Bool → List ByteArray → ByteArray → ByteArray → List (S55) → Int → Int → Int → Int → Int → Option (Bool)
 | 0, _, _, _, _, _, _, _, _, _, _, _, _, _ => none
 | k + 1, x5, x6, x20, x21, x123000, x123001, x123002, x123003, x124000, x124001, x124002, x124003, x124004 => if x21 = true then ((check_ints.f k (([x124001] : List Int))).bind fun t129 => (some t129)) else (if x20 = 2 then ((check_ints.f k (([x124001, x124002, x124003] : List Int))).bind fun t133 => (some t133)) else (if x20 = 5 then (check_kinds.j1 k x5 x6 x20 (x20 == 5) x123000 x123001 x123002 x123003 x124000 x124001 x124002 x124003 x124004) else (check_kinds.j1 k x5 x6 x20 (x20 == 6) x123000 x123001 x123002 x123003 x124000 x124001 x124002 x124003 x124004)))
def check_kinds.j1 : Nat → Int → Int → Int → Bool → List ByteArray → ByteArray → ByteArray → List (S55) → Int → Int → Int → Int → Int → Option (Bool)
 | 0, _, _, _, _, _, _, _, _, _, _, _, _, _ => none
 | k + 1, x5, x6, x20, x39, x123000, x123001, x123002, x123003, x124000, x124001, x124002, x124003, x124004 => if x39 = true then (some (decide (x5 ≥ 0))) else (if x20 = 7 then ((check_one.f x5 x6).bind fun t134 => (some t134)) else (if x20 = 8 then ((check_ints.f k (([x124001] : List Int))).bind fun t138 => (if t138 = true then ((check_number.f k x123000 x123001 x123002 x123003 x6 x124004).bind fun t139 => (some t139)) else (some false))) else (if x20 = 9 then ((check_ints.f k (([x124002] : List Int))).bind fun t143 => (if t143 = true then ((check_number.f k x123000 x123001 x123002 x123003 x5 x124004).bind fun t144 => (some t144)) else (some false))) else (if x20 = 10 then ((check_field.f k x123000 x123001 x123002 x123003 x6 x124004).bind fun bt145 => ((check_one.f x5 bt145.1).bind fun t147 => (some t147))) else (if x20 = 11 then ((check_field.f k x123000 x123001 x123002 x123003 x5 x124004).bind fun bt148 => ((check_one.f x6 bt148.1).bind fun t150 => (some t150))) else (if x20 = 12 then ((check_Glob.f k x123000 x123001 x123002 x123003 x124002).bind fun t151 => ((check_one.f x5 t151).bind fun t152 => (some t152))) else (if x20 = 13 then ((check_Glob.f k x123000 x123001 x123002 x123003 x124001).bind fun t153 => ((check_one.f x6 t153).bind fun t154 => (some t154))) else (if x20 = 15 then ((check_ints.f k (([x124001] : List Int))).bind fun t158 => (if t158 = true then ((check_Local.f k x123000 x123001 x123002 x123003 x124003).bind fun t159 => ((check_one.f x6 t159).bind fun t160 => (some t160))) else (some false))) else (some true)))))))))
end
def check_kinds.f (k : Nat) (l0_0 : List ByteArray) (a0_1 : ByteArray) (a0_2 : ByteArray) (l0_3 : List (S55)) (a1_0 : Int) (a1_1 : Int) (a1_2 : Int) (a1_3 : Int) (a1_4 : Int) : Option (Bool) := (check_Local.f k l0_0 a0_1 a0_2 l0_3 a1_1).bind fun t124 => ((check_Local.f k l0_0 a0_1 a0_2 l0_3 a1_2).bind fun t125 => (if a1_0 = 1 then (check_kinds.j0 k t124 t125 a1_0 (a1_0 == 1) l0_0 a0_1 a0_2 l0_3 a1_0 a1_1 a1_2 a1_3 a1_4) else (if a1_0 = 4 then (check_kinds.j0 k t124 t125 a1_0 (a1_0 == 4) l0_0 a0_1 a0_2 l0_3 a1_0 a1_1 a1_2 a1_3 a1_4) else (check_kinds.j0 k t124 t125 a1_0 (a1_0 == 14) l0_0 a0_1 a0_2 l0_3 a1_0 a1_1 a1_2 a1_3 a1_4))))
theorem check_kinds.mono_l : ∀ k, (∀ y0 y1 y2 y3 y4 y5 y6 y7 y8 y9 y10 y11 y12, LeO (check_kinds.j0 k y0 y1 y2 y3 y4 y5 y6 y7 y8 y9 y10 y11 y12) (check_kinds.j0 (k + 1) y0 y1 y2 y3 y4 y5 y6 y7 y8 y9 y10 y11 y12)) ∧ (∀ y0 y1 y2 y3 y4 y5 y6 y7 y8 y9 y10 y11 y12, LeO (check_kinds.j1 k y0 y1 y2 y3 y4 y5 y6 y7 y8 y9 y10 y11 y12) (check_kinds.j1 (k + 1) y0 y1 y2 y3 y4 y5 y6 y7 y8 y9 y10 y11 y12))
 | 0 => ⟨fun _ _ _ _ _ _ _ _ _ _ _ _ _ r h => by simp [check_kinds.j0] at h, fun _ _ _ _ _ _ _ _ _ _ _ _ _ r h => by simp [check_kinds.j1] at h⟩
 | k + 1 => by
  obtain ⟨ih0, ih1⟩ := check_kinds.mono_l k
  refine ⟨?_, ?_⟩
  ·
   intro y0 y1 y2 y3 y4 y5 y6 y7 y8 y9 y10 y11 y12
   unfold check_kinds.j0
   repeat' with_reducible first | apply ih0 | apply ih1 | apply check_Glob.mono | apply check_Local.mono | apply check_field.mono | apply check_ints.mono | apply check_number.mono | exact LeO.refl _ | exact LeO.none _ | refine LeO.ite ?_ ?_ | refine LeO.bind ?_ (fun _ => ?_)
  ·
   intro y0 y1 y2 y3 y4 y5 y6 y7 y8 y9 y10 y11 y12
   unfold check_kinds.j1
   repeat' with_reducible first | apply ih0 | apply ih1 | apply check_Glob.mono | apply check_Local.mono | apply check_field.mono | apply check_ints.mono | apply check_number.mono | exact LeO.refl _ | exact LeO.none _ | refine LeO.ite ?_ ?_ | refine LeO.bind ?_ (fun _ => ?_)
theorem check_kinds.mono : ∀ a0 a1 a2 a3 a4 a5 a6 a7 a8 k, LeO (check_kinds.f k a0 a1 a2 a3 a4 a5 a6 a7 a8) (check_kinds.f (k + 1) a0 a1 a2 a3 a4 a5 a6 a7 a8) := by
 intro a0 a1 a2 a3 a4 a5 a6 a7 a8 k
 obtain ⟨ih0, ih1⟩ := check_kinds.mono_l k
 unfold check_kinds.f
 repeat' with_reducible first | apply ih0 | apply ih1 | apply check_Glob.mono | apply check_Local.mono | apply check_field.mono | apply check_ints.mono | apply check_number.mono | exact LeO.refl _ | exact LeO.none _ | refine LeO.ite ?_ ?_ | refine LeO.bind ?_ (fun _ => ?_)
def check_kinds.T1 : Bool × List (List Nat × List Nat) := (true, [([], []), ([], []), ([1], [1]), ([0, 2], [0, 2]), ([], []), ([], []), ([5], [5]), ([4, 6, 3], [4, 6]), ([3, 7, 0, 1, 2, 3], [3]), ([7, 8, 0, 1, 2, 3, 4, 5, 6, 7, 8], [7])])
def check_kinds.B1 : List Nat := [0, 0, 2, 7, 0, 0, 32, 127, 255, 511]
theorem check_kinds.tab1 : rtab .any (opsOf Tryd.f34 1) = check_kinds.T1 := by kernel_rfl
theorem check_kinds.bits1 : waitsOk check_kinds.T1.2 check_kinds.B1 = true := by kernel_rfl
set_option maxHeartbeats 8000000 in
set_option maxRecDepth 100000 in
theorem check_kinds.calls (k : Nat) (A0_0 : Option Addr) (c0_0 : Nat) (l0_0 : List ByteArray) (a0_1 : ByteArray) (a0_2 : ByteArray) (A0_3 : Option Addr) (c0_3 : Nat) (l0_3 : List (S55)) (a1_0 : Int) (a1_1 : Int) (a1_2 : Int) (a1_3 : Int) (a1_4 : Int) (r : Bool) (w : World) (hr0_0 : Kd.C Kd.string w A0_0 l0_0.length l0_0) (hc0_0 : l0_0.length ≤ c0_0) (hr0_3 : Kd.C k55 w A0_3 l0_3.length l0_3) (hc0_3 : l0_3.length ≤ c0_3) (h : check_kinds.f k l0_0 a0_1 a0_2 l0_3 a1_0 a1_1 a1_2 a1_3 a1_4 = some r) :
  Calls Tryd.prog 34 #[.agg #[.slice A0_0 l0_0.length c0_0, .string a0_1, .string a0_2, .slice A0_3 l0_3.length c0_3], .agg #[.int .u8 a1_0, .int .u8 a1_1, .int .u8 a1_2, .int .u8 a1_3, .int .i64 a1_4]] w fun e w' => e = .returned (.bool r) ∧ Below w.heap.size w w' := by
 have hu25 := Tryd.underlying25
 have hu55 := Tryd.underlying55
 have HR0_0 := Aside0.mk hr0_0
 have HC0_0 := Aside0.mk hc0_0
 clear hr0_0 hc0_0
 have HR0_3 := Aside0.mk hr0_3
 have HC0_3 := Aside0.mk hc0_3
 clear hr0_3 hc0_3
 have HB := Aside0.mk (Below.refl w.heap.size w)
 have H : ((check_Local.f k l0_0 a0_1 a0_2 l0_3 a1_1).bind fun t124 => ((check_Local.f k l0_0 a0_1 a0_2 l0_3 a1_2).bind fun t125 => (if a1_0 = 1 then (check_kinds.j0 k t124 t125 a1_0 (a1_0 == 1) l0_0 a0_1 a0_2 l0_3 a1_0 a1_1 a1_2 a1_3 a1_4) else (if a1_0 = 4 then (check_kinds.j0 k t124 t125 a1_0 (a1_0 == 4) l0_0 a0_1 a0_2 l0_3 a1_0 a1_1 a1_2 a1_3 a1_4) else (check_kinds.j0 k t124 t125 a1_0 (a1_0 == 14) l0_0 a0_1 a0_2 l0_3 a1_0 a1_1 a1_2 a1_3 a1_4))))) = some r := h
 clear h
 replace H := Option.bind_eq_some_iff.mp H
 obtain ⟨t124, A30, H⟩ := H
 replace H : ((check_Local.f k l0_0 a0_1 a0_2 l0_3 a1_2).bind fun t125 => (if a1_0 = 1 then (check_kinds.j0 k t124 t125 a1_0 (a1_0 == 1) l0_0 a0_1 a0_2 l0_3 a1_0 a1_1 a1_2 a1_3 a1_4) else (if a1_0 = 4 then (check_kinds.j0 k t124 t125 a1_0 (a1_0 == 4) l0_0 a0_1 a0_2 l0_3 a1_0 a1_1 a1_2 a1_3 a1_4) else (check_kinds.j0 k t124 t125 a1_0 (a1_0 == 14) l0_0 a0_1 a0_2 l0_3 a1_0 a1_1 a1_2 a1_3 a1_4)))) = some r := H
 have A3 := Aside0.mk A30
 clear A30
 replace H := Option.bind_eq_some_iff.mp H
 obtain ⟨t125, A40, H⟩ := H
 replace H : (if a1_0 = 1 then (check_kinds.j0 k t124 t125 a1_0 (a1_0 == 1) l0_0 a0_1 a0_2 l0_3 a1_0 a1_1 a1_2 a1_3 a1_4) else (if a1_0 = 4 then (check_kinds.j0 k t124 t125 a1_0 (a1_0 == 4) l0_0 a0_1 a0_2 l0_3 a1_0 a1_1 a1_2 a1_3 a1_4) else (check_kinds.j0 k t124 t125 a1_0 (a1_0 == 14) l0_0 a0_1 a0_2 l0_3 a1_0 a1_1 a1_2 a1_3 a1_4))) = some r := H
 have A4 := Aside0.mk A40
 clear A40
 have HC5 := Aside0.mk H
 clear H
 go_enter Tryd.func34, Tryd.ntmps34
 try go_wp2_with (first | ((with_reducible refine gate_dst (N := 2) rfl ?_); refine box_event ?hg (N := 2) ?hd (cs := #[.slice A0_0 l0_0.length c0_0, .string a0_1, .string a0_2, .slice A0_3 l0_3.length c0_3]) (t := 25) ?hr ?_; (case hd => rfl); (case hg => rfl); (case hr => first | (go_simp; done) | (go_simp; rfl)); intro gb122 hg w6 hbox hb; have n0_ := Aside0.mk (below_step (by repeat (first | (with_reducible first | exact HB.out | apply below_alloc | apply pw_below_drewN | apply below_drew1) | exact HB.out)) hb); have n1_ := Aside0.mk (hbox); have n2_ := Aside0.mk ((by rw [hg]; exact (below_size (by repeat (first | (with_reducible first | exact HB.out | apply below_alloc | apply pw_below_drewN | apply below_drew1) | exact HB.out))) : w.heap.size ≤ gb122)); have n3_ := n2_; clear HB; have HB := n0_; have BK122 := n1_; have GW122 := n2_; have GE122 := n3_; clear n0_ n1_ n2_ n3_; clear hb hbox hg) | ((with_reducible refine gate_dst (N := 3) rfl ?_); refine box_event ?hg (N := 3) ?hd (cs := #[.int .u8 a1_0, .int .u8 a1_1, .int .u8 a1_2, .int .u8 a1_3, .int .i64 a1_4]) (t := 55) ?hr ?_; (case hd => rfl); (case hg => rfl); (case hr => first | (go_simp; done) | (go_simp; rfl)); intro gb123 hg w7 hbox hb; have n0_ := Aside0.mk (blk_below (g := gb122) (o := .cells #[.slice A0_0 l0_0.length c0_0, .string a0_1, .string a0_2, .slice A0_3 l0_3.length c0_3] 25 (0, 0)) (by (with_reducible repeat (first | refine blk_drewN ?_ _ | refine blk_drew ?_ | refine blk_alloc ?_ _)); exact BK122.out) hb); have n1_ := Aside0.mk (below_step (by repeat (first | (with_reducible first | exact HB.out | apply below_alloc | apply pw_below_drewN | apply below_drew1 | refine below_set ?_ GE122.out) | exact HB.out)) hb); have n2_ := Aside0.mk (hbox); have n3_ := Aside0.mk ((by rw [hg]; exact (below_size (by repeat (first | (with_reducible first | exact HB.out | apply below_alloc | apply pw_below_drewN | apply below_drew1 | refine below_set ?_ GE122.out) | exact HB.out))) : w.heap.size ≤ gb123)); have n4_ := n3_; have n5_ := Aside0.mk ((by rw [hg]; exact Nat.ne_of_lt (blk_lt (g := gb122) (o := .cells #[.slice A0_0 l0_0.length c0_0, .string a0_1, .string a0_2, .slice A0_3 l0_3.length c0_3] 25 (0, 0)) (by (with_reducible repeat (first | refine blk_drewN ?_ _ | refine blk_drew ?_ | refine blk_alloc ?_ _)); exact BK122.out)) : gb122 ≠ gb123)); have n6_ := Aside0.mk n5_.out.symm; clear BK122; clear HB; have BK122 := n0_; have HB := n1_; have BK123 := n2_; have GW123 := n3_; have GE123 := n4_; have NB122_123 := n5_; have NB123_122 := n6_; clear n0_ n1_ n2_ n3_ n4_ n5_ n6_; clear hb hbox hg))
 have n0_ := Aside0.mk (blk_drew BK122.out)
 have n1_ := Aside0.mk (blk_drew BK123.out)
 have n2_ := Aside0.mk (below_drew1 HB.out)
 clear BK122
 clear BK123
 clear HB
 have BK122 := n0_
 have BK123 := n1_
 have HB := n2_
 clear n0_ n1_ n2_
 refine start_ (n := 10) (S := fun w' => w'.cell? ⟨gb122, 0, none⟩ = some (.slice A0_0 l0_0.length c0_0) ∧ w'.cell? ⟨gb122, 1, none⟩ = some (.string a0_1) ∧ w'.cell? ⟨gb122, 2, none⟩ = some (.string a0_2) ∧ w'.cell? ⟨gb122, 3, none⟩ = some (.slice A0_3 l0_3.length c0_3) ∧ w'.cell? ⟨gb123, 0, none⟩ = some (.int .u8 a1_0) ∧ w'.cell? ⟨gb123, 1, none⟩ = some (.int .u8 a1_1) ∧ w'.cell? ⟨gb123, 2, none⟩ = some (.int .u8 a1_2) ∧ w'.cell? ⟨gb123, 3, none⟩ = some (.int .u8 a1_3) ∧ w'.cell? ⟨gb123, 4, none⟩ = some (.int .i64 a1_4)) (ds := []) #[false, false, false, false, false, false, false, false, false, false] (by kernel_rfl) rfl rfl ⟨(blk_cell BK122.out 0).trans rfl, (blk_cell BK122.out 1).trans rfl, (blk_cell BK122.out 2).trans rfl, (blk_cell BK122.out 3).trans rfl, (blk_cell BK123.out 0).trans rfl, (blk_cell BK123.out 1).trans rfl, (blk_cell BK123.out 2).trans rfl, (blk_cell BK123.out 3).trans rfl, (blk_cell BK123.out 4).trans rfl⟩ (fun hHeld => ?_); refine with_tabW check_kinds.tab1 check_kinds.bits1 (fun HT_ HW_ => ?_)
 generalize w7.drew = w8 at BK122 BK123 HB hHeld ⊢
 refine pure_ (i := 1) (N := some 12) (v := ?_) (a' := ?_) #[false, true, false, false, false, false, false, false, false, false] rfl rfl (any_of HT_.out (by kernel_rfl)) (fun _ _ _ h => h) (Or.inl ⟨by rfl, ?_⟩) ?_ ?_
 rotate_left
 ·
  intro w'
  go_simp
  with_reducible rfl
 rotate_left
 ·
  simp only [Act.put, List.setIfInBounds_toArray, List.set_cons_zero, List.set_cons_succ, i64_w, i32_w]
  rfl
 refine pure_ (i := 5) (N := some 16) (v := ?_) (a' := ?_) #[false, true, false, false, false, true, false, false, false, false] rfl rfl (any_of HT_.out (by kernel_rfl)) (fun _ _ _ h => h) (Or.inl ⟨by rfl, ?_⟩) ?_ ?_
 rotate_left
 ·
  intro w'
  go_simp
  with_reducible rfl
 rotate_left
 ·
  simp only [Act.put, List.setIfInBounds_toArray, List.set_cons_zero, List.set_cons_succ, i64_w, i32_w]
  rfl
 refine take_ (i := 0) (N := some 11) (v := ?_) (a' := ?_) #[true, true, false, false, false, true, false, false, false, false] rfl rfl (take_ofW HT_.out HW_.out (by kernel_rfl)) (fun _ _ _ h => h) (Or.inl ⟨by rfl, ?_⟩) hHeld ?_ ?_
 rotate_left
 ·
  rintro w' ⟨s0, s1, s2, s3, s4, s5, s6, s7, s8⟩
  go_simp
  with_reducible rfl
 rotate_left
 ·
  simp only [Act.put, List.setIfInBounds_toArray, List.set_cons_zero, List.set_cons_succ, i64_w, i32_w]
  rfl
 refine take_ (i := 2) (N := some 13) (v := ?_) (a' := ?_) #[true, true, true, false, false, true, false, false, false, false] rfl rfl (take_ofW HT_.out HW_.out (by kernel_rfl)) (fun _ _ _ h => h) (Or.inl ⟨by rfl, ?_⟩) hHeld ?_ ?_
 rotate_left
 ·
  rintro w' ⟨s0, s1, s2, s3, s4, s5, s6, s7, s8⟩
  go_simp
  with_reducible rfl
 rotate_left
 ·
  simp only [Act.put, List.setIfInBounds_toArray, List.set_cons_zero, List.set_cons_succ, i64_w, i32_w]
  rfl
 refine take_ (i := 4) (N := some 15) (v := ?_) (a' := ?_) #[true, true, true, false, true, true, false, false, false, false] rfl rfl (take_ofW HT_.out HW_.out (by kernel_rfl)) (fun _ _ _ h => h) (Or.inl ⟨by rfl, ?_⟩) hHeld ?_ ?_
 rotate_left
 ·
  rintro w' ⟨s0, s1, s2, s3, s4, s5, s6, s7, s8⟩
  go_simp
  with_reducible rfl
 rotate_left
 ·
  simp only [Act.put, List.setIfInBounds_toArray, List.set_cons_zero, List.set_cons_succ, i64_w, i32_w]
  rfl
 refine take_ (i := 6) (N := some 17) (v := ?_) (a' := ?_) #[true, true, true, false, true, true, true, false, false, false] rfl rfl (take_ofW HT_.out HW_.out (by kernel_rfl)) (fun _ _ _ h => h) (Or.inl ⟨by rfl, ?_⟩) hHeld ?_ ?_
 rotate_left
 ·
  rintro w' ⟨s0, s1, s2, s3, s4, s5, s6, s7, s8⟩
  go_simp
  with_reducible rfl
 rotate_left
 ·
  simp only [Act.put, List.setIfInBounds_toArray, List.set_cons_zero, List.set_cons_succ, i64_w, i32_w]
  rfl
 refine one_ (i := 3) (N := some 14) #[true, true, true, true, true, true, true, false, false, false] rfl rfl (one_of HT_.out (by kernel_rfl)) (by decide) (fun K hK => ?_)
 refine goes_ Tryd.func36 (by kernel_rfl) rfl #[.agg #[.slice A0_0 l0_0.length c0_0, .string a0_1, .string a0_2, .slice A0_3 l0_3.length c0_3], .int .u8 a1_1] (by rfl) rfl rfl (by (try simp only [List.map_toArray, List.map_cons, List.map_nil]); first | done | rfl | (simp only [List.length_drop, List.length_take]; rfl)) ?_
 with_reducible refine (check_Local.calls k _ _ l0_0 a0_1 a0_2 _ _ l0_3 a1_1 t124 _ ?side1 ?side2 ?side3 ?side4 A3.out).mono ?_
 (case side1 => repeat (first | exact (Kd.C_below HR0_0.out HB.out) | (with_reducible refine Kd.C_alloc ?_ _) | (with_reducible refine Kd.C_drewN ?_ _) | (with_reducible refine Kd.C_drew ?_)))
 (case side2 => exact HC0_0.out)
 (case side3 => repeat (first | exact (Kd.C_below HR0_3.out HB.out) | (with_reducible refine Kd.C_alloc ?_ _) | (with_reducible refine Kd.C_drewN ?_ _) | (with_reducible refine Kd.C_drew ?_)))
 (case side4 => exact HC0_3.out)
 rintro e w9 ⟨rfl, hb⟩
 refine ⟨_, rfl, ?_⟩
 have n0_ := Aside0.mk (blk_below (g := gb122) (o := .cells #[.slice A0_0 l0_0.length c0_0, .string a0_1, .string a0_2, .slice A0_3 l0_3.length c0_3] 25 (0, 0)) (by (with_reducible repeat (first | refine blk_drewN ?_ _ | refine blk_drew ?_ | refine blk_alloc ?_ _)); exact BK122.out) hb)
 have n1_ := Aside0.mk (blk_below (g := gb123) (o := .cells #[.int .u8 a1_0, .int .u8 a1_1, .int .u8 a1_2, .int .u8 a1_3, .int .i64 a1_4] 55 (0, 0)) (by (with_reducible repeat (first | refine blk_drewN ?_ _ | refine blk_drew ?_ | refine blk_alloc ?_ _)); exact BK123.out) hb)
 have n2_ := Aside0.mk (below_step (by repeat (first | (with_reducible first | exact HB.out | apply below_alloc | apply pw_below_drewN | apply below_drew1 | refine below_set ?_ GE122.out | refine below_set ?_ GE123.out) | exact HB.out)) hb)
 clear BK122
 clear BK123
 clear HB
 have BK122 := n0_
 have BK123 := n1_
 have HB := n2_
 clear n0_ n1_ n2_
 (try clear hb)
 (try clear hb2)
 (try clear hk)
 (try clear hi)
 refine hK.out _ _ ⟨(blk_cell BK122.out 0).trans rfl, (blk_cell BK122.out 1).trans rfl, (blk_cell BK122.out 2).trans rfl, (blk_cell BK122.out 3).trans rfl, (blk_cell BK123.out 0).trans rfl, (blk_cell BK123.out 1).trans rfl, (blk_cell BK123.out 2).trans rfl, (blk_cell BK123.out 3).trans rfl, (blk_cell BK123.out 4).trans rfl⟩ (fun hHeld => ?_)
 clear hK K
 refine norm_ (a' := ?_) ?_ ?_
 rotate_left
 ·
  show Act.put _ (some 14) _ = _
  simp only [Act.put, List.setIfInBounds_toArray, List.set_cons_zero, List.set_cons_succ, i64_w, i32_w]
  rfl
 refine one_ (i := 7) (N := some 18) #[true, true, true, true, true, true, true, true, false, false] rfl rfl (one_of HT_.out (by kernel_rfl)) (by decide) (fun K hK => ?_)
 refine goes_ Tryd.func36 (by kernel_rfl) rfl #[.agg #[.slice A0_0 l0_0.length c0_0, .string a0_1, .string a0_2, .slice A0_3 l0_3.length c0_3], .int .u8 a1_2] (by rfl) rfl rfl (by (try simp only [List.map_toArray, List.map_cons, List.map_nil]); first | done | rfl | (simp only [List.length_drop, List.length_take]; rfl)) ?_
 with_reducible refine (check_Local.calls k _ _ l0_0 a0_1 a0_2 _ _ l0_3 a1_2 t125 _ ?side1 ?side2 ?side3 ?side4 A4.out).mono ?_
 (case side1 => repeat (first | exact (Kd.C_below HR0_0.out HB.out) | (with_reducible refine Kd.C_alloc ?_ _) | (with_reducible refine Kd.C_drewN ?_ _) | (with_reducible refine Kd.C_drew ?_)))
 (case side2 => exact HC0_0.out)
 (case side3 => repeat (first | exact (Kd.C_below HR0_3.out HB.out) | (with_reducible refine Kd.C_alloc ?_ _) | (with_reducible refine Kd.C_drewN ?_ _) | (with_reducible refine Kd.C_drew ?_)))
 (case side4 => exact HC0_3.out)
 rintro e w10 ⟨rfl, hb⟩
 refine ⟨_, rfl, ?_⟩
 have n0_ := Aside0.mk (blk_below (g := gb122) (o := .cells #[.slice A0_0 l0_0.length c0_0, .string a0_1, .string a0_2, .slice A0_3 l0_3.length c0_3] 25 (0, 0)) (by (with_reducible repeat (first | refine blk_drewN ?_ _ | refine blk_drew ?_ | refine blk_alloc ?_ _)); exact BK122.out) hb)
 have n1_ := Aside0.mk (blk_below (g := gb123) (o := .cells #[.int .u8 a1_0, .int .u8 a1_1, .int .u8 a1_2, .int .u8 a1_3, .int .i64 a1_4] 55 (0, 0)) (by (with_reducible repeat (first | refine blk_drewN ?_ _ | refine blk_drew ?_ | refine blk_alloc ?_ _)); exact BK123.out) hb)
 have n2_ := Aside0.mk (below_step (by repeat (first | (with_reducible first | exact HB.out | apply below_alloc | apply pw_below_drewN | apply below_drew1 | refine below_set ?_ GE122.out | refine below_set ?_ GE123.out) | exact HB.out)) hb)
 clear BK122
 clear BK123
 clear HB
 have BK122 := n0_
 have BK123 := n1_
 have HB := n2_
 clear n0_ n1_ n2_
 (try clear hb)
 (try clear hb2)
 (try clear hk)
 (try clear hi)
 refine hK.out _ _ ⟨(blk_cell BK122.out 0).trans rfl, (blk_cell BK122.out 1).trans rfl, (blk_cell BK122.out 2).trans rfl, (blk_cell BK122.out 3).trans rfl, (blk_cell BK123.out 0).trans rfl, (blk_cell BK123.out 1).trans rfl, (blk_cell BK123.out 2).trans rfl, (blk_cell BK123.out 3).trans rfl, (blk_cell BK123.out 4).trans rfl⟩ (fun hHeld => ?_)
 clear hK K
 refine norm_ (a' := ?_) ?_ ?_
 rotate_left
 ·
  show Act.put _ (some 18) _ = _
  simp only [Act.put, List.setIfInBounds_toArray, List.set_cons_zero, List.set_cons_succ, i64_w, i32_w]
  rfl
 refine pure_ (i := 8) (N := some 5) (v := ?_) (a' := ?_) #[true, true, true, true, true, true, true, true, true, false] rfl rfl (any_of HT_.out (by kernel_rfl)) (fun _ _ _ h => h) (Or.inl ⟨by rfl, ?_⟩) ?_ ?_
 rotate_left
 ·
  intro w'
  go_simp
  with_reducible rfl
 rotate_left
 ·
  simp only [Act.put, List.setIfInBounds_toArray, List.set_cons_zero, List.set_cons_succ, i64_w, i32_w]
  rfl
 refine pure_ (i := 9) (N := some 6) (v := ?_) (a' := ?_) #[true, true, true, true, true, true, true, true, true, true] rfl rfl (any_of HT_.out (by kernel_rfl)) (fun _ _ _ h => h) (Or.inl ⟨by rfl, ?_⟩) ?_ ?_
 rotate_left
 ·
  intro w'
  go_simp
  with_reducible rfl
 rotate_left
 ·
  simp only [Act.put, List.setIfInBounds_toArray, List.set_cons_zero, List.set_cons_succ, i64_w, i32_w]
  rfl
 refine done_ (done_of HT_.out (by kernel_rfl)) ?_
 have hnb11 := NB123_122.out
 have hnc11 := NB122_123.out
 have hcz12_0 : w10.cell? ⟨gb123, 0, none⟩ = some (.int .u8 a1_0) := (blk_cell BK123.out 0).trans rfl
 have hcz12_1 : w10.cell? ⟨gb123, 1, none⟩ = some (.int .u8 a1_1) := (blk_cell BK123.out 1).trans rfl
 have hcz12_2 : w10.cell? ⟨gb123, 2, none⟩ = some (.int .u8 a1_2) := (blk_cell BK123.out 2).trans rfl
 have hcz12_3 : w10.cell? ⟨gb123, 3, none⟩ = some (.int .u8 a1_3) := (blk_cell BK123.out 3).trans rfl
 have hcz12_4 : w10.cell? ⟨gb123, 4, none⟩ = some (.int .i64 a1_4) := (blk_cell BK123.out 4).trans rfl
 have hfz12_0 := blk_frozen BK123.out 0
 have hfz12_1 := blk_frozen BK123.out 1
 have hfz12_2 := blk_frozen BK123.out 2
 have hfz12_3 := blk_frozen BK123.out 3
 have hfz12_4 := blk_frozen BK123.out 4
 go_upto_if 21 with (fail)
 go_cut [21] (fun v21 wc => ∃ (kq : Nat) (x21_4 : Bool), v21 = .bool x21_4 ∧ Aside0 (check_kinds.j0 kq t124 t125 a1_0 x21_4 l0_0 a0_1 a0_2 l0_3 a1_0 a1_1 a1_2 a1_3 a1_4 = some r) ∧ Aside0 (kq ≤ k) ∧ Aside0 (wc.heap[gb122]? = some (.cells #[(.slice A0_0 l0_0.length c0_0), .string a0_1, .string a0_2, (.slice A0_3 l0_3.length c0_3)] 25 (0, 0))) ∧ Aside0 (wc.heap[gb123]? = some (.cells #[.int .u8 a1_0, .int .u8 a1_1, .int .u8 a1_2, .int .u8 a1_3, .int .i64 a1_4] 55 (0, 0))) ∧ Aside0 (Below w.heap.size w wc))
 case first =>
  have H := HC5.out
  clear HC5
  by_cases c13 : a1_0 = 1
  ·
   rw [if_pos c13] at H
   have c13b0 : (a1_0 == 1) = true := beq_iff_eq.mpr c13
   have c13b1 : (a1_0 != 1) = false := bne_eq_false_iff_eq.mpr c13
   clear c13
   (first | rw [c13b0] | (simp only [i64_w, i32_w]; rw [c13b0]) | skip)
   have H' := Aside0.mk H
   clear H
   go_wp2
   go_meet
   case rel => exact ⟨_, ((a1_0 == 1)), (by first | rfl | (simp; done) | (simp [*]; done)), H', ⟨by first | omega | exact Nat.le_refl _⟩, ⟨by (with_reducible repeat (first | refine blk_drewN ?_ _ | refine blk_drew ?_ | refine blk_alloc ?_ _)); exact BK122.out⟩, ⟨by (with_reducible repeat (first | refine blk_drewN ?_ _ | refine blk_drew ?_ | refine blk_alloc ?_ _)); exact BK123.out⟩, ⟨by repeat (first | (with_reducible first | exact HB.out | apply below_alloc | apply pw_below_drewN | apply below_drew1 | refine below_set ?_ GE122.out | refine below_set ?_ GE123.out) | exact HB.out)⟩⟩
  ·
   rw [if_neg c13] at H
   have c13b0 : (a1_0 == 1) = false := beq_eq_false_iff_ne.mpr c13
   have c13b1 : (a1_0 != 1) = true := bne_iff_ne.mpr c13
   (first | rw [c13b0] | (simp only [i64_w, i32_w]; rw [c13b0]) | skip)
   by_cases c14 : a1_0 = 4
   ·
    rw [if_pos c14] at H
    have c14b0 : (a1_0 == 4) = true := beq_iff_eq.mpr c14
    have c14b1 : (a1_0 != 4) = false := bne_eq_false_iff_eq.mpr c14
    clear c14
    have H' := Aside0.mk H
    clear H
    go_wp2
    go_meet
    case rel => exact ⟨_, ((a1_0 == 4)), (by first | rfl | (simp; done) | (simp [*]; done)), H', ⟨by first | omega | exact Nat.le_refl _⟩, ⟨by (with_reducible repeat (first | refine blk_drewN ?_ _ | refine blk_drew ?_ | refine blk_alloc ?_ _)); exact BK122.out⟩, ⟨by (with_reducible repeat (first | refine blk_drewN ?_ _ | refine blk_drew ?_ | refine blk_alloc ?_ _)); exact BK123.out⟩, ⟨by repeat (first | (with_reducible first | exact HB.out | apply below_alloc | apply pw_below_drewN | apply below_drew1 | refine below_set ?_ GE122.out | refine below_set ?_ GE123.out) | exact HB.out)⟩⟩
   ·
    rw [if_neg c14] at H
    have c14b0 : (a1_0 == 4) = false := beq_eq_false_iff_ne.mpr c14
    have c14b1 : (a1_0 != 4) = true := bne_iff_ne.mpr c14
    have H' := Aside0.mk H
    clear H
    go_wp2
    go_meet
    case rel => exact ⟨_, ((a1_0 == 14)), (by first | rfl | (simp; done) | (simp [*]; done)), H', ⟨by first | omega | exact Nat.le_refl _⟩, ⟨by (with_reducible repeat (first | refine blk_drewN ?_ _ | refine blk_drew ?_ | refine blk_alloc ?_ _)); exact BK122.out⟩, ⟨by (with_reducible repeat (first | refine blk_drewN ?_ _ | refine blk_drew ?_ | refine blk_alloc ?_ _)); exact BK123.out⟩, ⟨by repeat (first | (with_reducible first | exact HB.out | apply below_alloc | apply pw_below_drewN | apply below_drew1 | refine below_set ?_ GE122.out | refine below_set ?_ GE123.out) | exact HB.out)⟩⟩
 case rest =>
  clear HC5
  obtain ⟨kq, x21_4, rfl, HA, HJ4, BK122, BK123, HB⟩ := hcut
  cases kq with
  | zero => exact absurd HA.out (by simp [check_kinds.j0])
  | succ kj4 =>
   have H := HA.out
   clear HA
   simp only [check_kinds.j0] at H
   by_cases c15 : x21_4 = true
   ·
    subst c15
    have H1 : ((check_ints.f kj4 (([a1_1] : List Int))).bind fun t129 => (some t129)) = some r := by rw [if_pos rfl] at H; exact H
    clear H
    have H := H1
    clear H1
    obtain ⟨y126, hy126⟩ : ∃ y_ : List Int, y_ = (([a1_1] : List Int)) := ⟨_, rfl⟩
    replace H : ((check_ints.f kj4 y126).bind fun t129 => (some t129)) = some r := by first | (rw [hy126]; with_reducible exact H) | (have H2_ := (Option.bind_some _ _).symm.trans H; rw [hy126]; with_reducible exact H2_) | (have H2_ := (Option.bind_some _ _).symm.trans H; with_reducible exact H2_) | with_reducible exact H | (rw [hy126]; exact H) | exact H
    have Ny126 := Aside0.mk hy126
    clear hy126
    replace H := Option.bind_eq_some_iff.mp H
    obtain ⟨t129, A160, H⟩ := H
    replace H : (some t129) = some r := H
    have A16 := Aside0.mk A160
    clear A160
    obtain rfl := Option.some.inj H
    have hnb17 := NB123_122.out
    have hnc17 := NB122_123.out
    have hcz18_0 : wc.cell? ⟨gb123, 0, none⟩ = some (.int .u8 a1_0) := (blk_cell BK123.out 0).trans rfl
    have hcz18_1 : wc.cell? ⟨gb123, 1, none⟩ = some (.int .u8 a1_1) := (blk_cell BK123.out 1).trans rfl
    have hcz18_2 : wc.cell? ⟨gb123, 2, none⟩ = some (.int .u8 a1_2) := (blk_cell BK123.out 2).trans rfl
    have hcz18_3 : wc.cell? ⟨gb123, 3, none⟩ = some (.int .u8 a1_3) := (blk_cell BK123.out 3).trans rfl
    have hcz18_4 : wc.cell? ⟨gb123, 4, none⟩ = some (.int .i64 a1_4) := (blk_cell BK123.out 4).trans rfl
    have hfz18_0 := blk_frozen BK123.out 0
    have hfz18_1 := blk_frozen BK123.out 1
    have hfz18_2 := blk_frozen BK123.out 2
    have hfz18_3 := blk_frozen BK123.out 3
    have hfz18_4 := blk_frozen BK123.out 4
    go_wp2_with (first | ((with_reducible refine gate_dst (N := 27) rfl ?_); refine Kd.R_lit (Kd.int .u8) _ 5 ?hg (N := 27) ?hd (xs := ([a1_1] : List Int)) (inner := [.int .u8 a1_1]) (ok := fun _ => True) (okp := fun _ => True) ?hr ?hp (fun _ hk => hk) trivial (Below.refl _ _) (Nat.le_refl _) (by simp) ?_; (case hd => rfl); (case hg => rfl); (case hr => first | (go_simp; done) | (go_simp; rfl)); (case hp => exact (Reps.one (show Kd.M (Kd.int .u8) _ _ _ a1_1 [.int .u8 a1_1] from rfl) (Reps.none _ _))); intro v127 w19 ho20 hb hg_ hnew_; clear hg_ hnew_; (first | rw [← Ny126.out] at ho20 | (simp only [Int.reduceToNat] at ho20; rw [← Ny126.out] at ho20)); have n0_ := Aside0.mk (Kd.R_lower ho20 (below_size (by repeat (first | (with_reducible first | exact HB.out | apply below_alloc | apply pw_below_drewN | apply below_drew1 | refine below_set ?_ GE122.out | refine below_set ?_ GE123.out) | exact HB.out)))); have n1_ := Aside0.mk (blk_below (g := gb122) (o := .cells #[.slice A0_0 l0_0.length c0_0, .string a0_1, .string a0_2, .slice A0_3 l0_3.length c0_3] 25 (0, 0)) (by (with_reducible repeat (first | refine blk_drewN ?_ _ | refine blk_drew ?_ | refine blk_alloc ?_ _)); exact BK122.out) hb); have n2_ := Aside0.mk (blk_below (g := gb123) (o := .cells #[.int .u8 a1_0, .int .u8 a1_1, .int .u8 a1_2, .int .u8 a1_3, .int .i64 a1_4] 55 (0, 0)) (by (with_reducible repeat (first | refine blk_drewN ?_ _ | refine blk_drew ?_ | refine blk_alloc ?_ _)); exact BK123.out) hb); have n3_ := Aside0.mk (below_step (by repeat (first | (with_reducible first | exact HB.out | apply below_alloc | apply pw_below_drewN | apply below_drew1 | refine below_set ?_ GE122.out | refine below_set ?_ GE123.out) | exact HB.out)) hb); clear BK122; clear BK123; clear HB; have HO128 := n0_; have BK122 := n1_; have BK123 := n2_; have HB := n3_; clear n0_ n1_ n2_ n3_; clear hb ho20; obtain ⟨Ao21, co21, eo21⟩ := Kd.R_slice HO128.out; subst eo21) | ((with_reducible refine gate_callee (f := 55) rfl ?_); refine goesL_ (some 28) rfl rfl Tryd.func55 (by kernel_rfl) rfl #[.slice Ao21 y126.length co21] rfl (by (try simp only [List.map_toArray, List.map_cons, List.map_nil]); first | done | rfl | (simp only [List.length_drop, List.length_take]; rfl)) ?_; (with_reducible refine (check_ints.calls kj4 _ _ y126 t129 _ ?side1 ?side2 A16.out).mono ?_); (case side1 => repeat (first | exact (Kd.R_reads' HO128.out).2.2 | (with_reducible refine Kd.C_alloc ?_ _) | (with_reducible refine Kd.C_drewN ?_ _) | (with_reducible refine Kd.C_drew ?_))); (case side2 => exact (Kd.R_reads' HO128.out).2.1); rintro e w' ⟨rfl, ⟨nd, rfl⟩⟩; refine ⟨_, rfl, ?_⟩))
    go_ret
    exact ⟨by first | rfl | (simp [errW_none, errW_some] <;> rfl) | (simp [*, errW_none, errW_some] <;> rfl), by repeat (first | (with_reducible first | exact HB.out | apply below_alloc | apply pw_below_drewN | apply below_drew1 | refine below_set ?_ GE122.out | refine below_set ?_ GE123.out) | exact HB.out)⟩
   ·
    replace c15 := Bool.eq_false_iff.mpr c15
    subst c15
    have H1 : (if a1_0 = 2 then ((check_ints.f kj4 (([a1_1, a1_2, a1_3] : List Int))).bind fun t133 => (some t133)) else (if a1_0 = 5 then (check_kinds.j1 kj4 t124 t125 a1_0 (a1_0 == 5) l0_0 a0_1 a0_2 l0_3 a1_0 a1_1 a1_2 a1_3 a1_4) else (check_kinds.j1 kj4 t124 t125 a1_0 (a1_0 == 6) l0_0 a0_1 a0_2 l0_3 a1_0 a1_1 a1_2 a1_3 a1_4))) = some r := by rw [if_neg (show ¬ (false = true) by decide)] at H; exact H
    clear H
    have H := H1
    clear H1
    by_cases c22 : a1_0 = 2
    ·
     rw [if_pos c22] at H
     have c22b0 : (a1_0 == 2) = true := beq_iff_eq.mpr c22
     have c22b1 : (a1_0 != 2) = false := bne_eq_false_iff_eq.mpr c22
     clear c22
     obtain ⟨y130, hy130⟩ : ∃ y_ : List Int, y_ = (([a1_1, a1_2, a1_3] : List Int)) := ⟨_, rfl⟩
     replace H : ((check_ints.f kj4 y130).bind fun t133 => (some t133)) = some r := by first | (rw [hy130]; with_reducible exact H) | (have H2_ := (Option.bind_some _ _).symm.trans H; rw [hy130]; with_reducible exact H2_) | (have H2_ := (Option.bind_some _ _).symm.trans H; with_reducible exact H2_) | with_reducible exact H | (rw [hy130]; exact H) | exact H
     have Ny130 := Aside0.mk hy130
     clear hy130
     replace H := Option.bind_eq_some_iff.mp H
     obtain ⟨t133, A230, H⟩ := H
     replace H : (some t133) = some r := H
     have A23 := Aside0.mk A230
     clear A230
     obtain rfl := Option.some.inj H
     have hnb24 := NB123_122.out
     have hnc24 := NB122_123.out
     have hcz25_0 : wc.cell? ⟨gb123, 0, none⟩ = some (.int .u8 a1_0) := (blk_cell BK123.out 0).trans rfl
     have hcz25_1 : wc.cell? ⟨gb123, 1, none⟩ = some (.int .u8 a1_1) := (blk_cell BK123.out 1).trans rfl
     have hcz25_2 : wc.cell? ⟨gb123, 2, none⟩ = some (.int .u8 a1_2) := (blk_cell BK123.out 2).trans rfl
     have hcz25_3 : wc.cell? ⟨gb123, 3, none⟩ = some (.int .u8 a1_3) := (blk_cell BK123.out 3).trans rfl
     have hcz25_4 : wc.cell? ⟨gb123, 4, none⟩ = some (.int .i64 a1_4) := (blk_cell BK123.out 4).trans rfl
     have hfz25_0 := blk_frozen BK123.out 0
     have hfz25_1 := blk_frozen BK123.out 1
     have hfz25_2 := blk_frozen BK123.out 2
     have hfz25_3 := blk_frozen BK123.out 3
     have hfz25_4 := blk_frozen BK123.out 4
     go_wp2_with (first | ((with_reducible refine gate_dst (N := 37) rfl ?_); refine Kd.R_lit (Kd.int .u8) _ 5 ?hg (N := 37) ?hd (xs := ([a1_1, a1_2, a1_3] : List Int)) (inner := [.int .u8 a1_1, .int .u8 a1_2, .int .u8 a1_3]) (ok := fun _ => True) (okp := fun _ => True) ?hr ?hp (fun _ hk => hk) trivial (Below.refl _ _) (Nat.le_refl _) (by simp) ?_; (case hd => rfl); (case hg => rfl); (case hr => first | (go_simp; done) | (go_simp; rfl)); (case hp => exact (Reps.one (show Kd.M (Kd.int .u8) _ _ _ a1_1 [.int .u8 a1_1] from rfl) (Reps.one (show Kd.M (Kd.int .u8) _ _ _ a1_2 [.int .u8 a1_2] from rfl) (Reps.one (show Kd.M (Kd.int .u8) _ _ _ a1_3 [.int .u8 a1_3] from rfl) (Reps.none _ _))))); intro v131 w26 ho27 hb hg_ hnew_; clear hg_ hnew_; (first | rw [← Ny130.out] at ho27 | (simp only [Int.reduceToNat] at ho27; rw [← Ny130.out] at ho27)); have n0_ := Aside0.mk (Kd.R_lower ho27 (below_size (by repeat (first | (with_reducible first | exact HB.out | apply below_alloc | apply pw_below_drewN | apply below_drew1 | refine below_set ?_ GE122.out | refine below_set ?_ GE123.out) | exact HB.out)))); have n1_ := Aside0.mk (blk_below (g := gb122) (o := .cells #[.slice A0_0 l0_0.length c0_0, .string a0_1, .string a0_2, .slice A0_3 l0_3.length c0_3] 25 (0, 0)) (by (with_reducible repeat (first | refine blk_drewN ?_ _ | refine blk_drew ?_ | refine blk_alloc ?_ _)); exact BK122.out) hb); have n2_ := Aside0.mk (blk_below (g := gb123) (o := .cells #[.int .u8 a1_0, .int .u8 a1_1, .int .u8 a1_2, .int .u8 a1_3, .int .i64 a1_4] 55 (0, 0)) (by (with_reducible repeat (first | refine blk_drewN ?_ _ | refine blk_drew ?_ | refine blk_alloc ?_ _)); exact BK123.out) hb); have n3_ := Aside0.mk (below_step (by repeat (first | (with_reducible first | exact HB.out | apply below_alloc | apply pw_below_drewN | apply below_drew1 | refine below_set ?_ GE122.out | refine below_set ?_ GE123.out) | exact HB.out)) hb); clear BK122; clear BK123; clear HB; have HO132 := n0_; have BK122 := n1_; have BK123 := n2_; have HB := n3_; clear n0_ n1_ n2_ n3_; clear hb ho27; obtain ⟨Ao28, co28, eo28⟩ := Kd.R_slice HO132.out; subst eo28) | ((with_reducible refine gate_callee (f := 55) rfl ?_); refine goesL_ (some 38) rfl rfl Tryd.func55 (by kernel_rfl) rfl #[.slice Ao28 y130.length co28] rfl (by (try simp only [List.map_toArray, List.map_cons, List.map_nil]); first | done | rfl | (simp only [List.length_drop, List.length_take]; rfl)) ?_; (with_reducible refine (check_ints.calls kj4 _ _ y130 t133 _ ?side1 ?side2 A23.out).mono ?_); (case side1 => repeat (first | exact (Kd.R_reads' HO132.out).2.2 | (with_reducible refine Kd.C_alloc ?_ _) | (with_reducible refine Kd.C_drewN ?_ _) | (with_reducible refine Kd.C_drew ?_))); (case side2 => exact (Kd.R_reads' HO132.out).2.1); rintro e w' ⟨rfl, ⟨nd, rfl⟩⟩; refine ⟨_, rfl, ?_⟩))
     go_ret
     exact ⟨by first | rfl | (simp [errW_none, errW_some] <;> rfl) | (simp [*, errW_none, errW_some] <;> rfl), by repeat (first | (with_reducible first | exact HB.out | apply below_alloc | apply pw_below_drewN | apply below_drew1 | refine below_set ?_ GE122.out | refine below_set ?_ GE123.out) | exact HB.out)⟩
    ·
     rw [if_neg c22] at H
     have c22b0 : (a1_0 == 2) = false := beq_eq_false_iff_ne.mpr c22
     have c22b1 : (a1_0 != 2) = true := bne_iff_ne.mpr c22
     have HC29 := Aside0.mk H
     clear H
     go_upto_if 39 with (fail)
     go_cut [39] (fun v39 wc => ∃ (kq : Nat) (x39_28 : Bool), v39 = .bool x39_28 ∧ Aside0 (check_kinds.j1 kq t124 t125 a1_0 x39_28 l0_0 a0_1 a0_2 l0_3 a1_0 a1_1 a1_2 a1_3 a1_4 = some r) ∧ Aside0 (kq ≤ kj4) ∧ Aside0 (wc.heap[gb122]? = some (.cells #[(.slice A0_0 l0_0.length c0_0), .string a0_1, .string a0_2, (.slice A0_3 l0_3.length c0_3)] 25 (0, 0))) ∧ Aside0 (wc.heap[gb123]? = some (.cells #[.int .u8 a1_0, .int .u8 a1_1, .int .u8 a1_2, .int .u8 a1_3, .int .i64 a1_4] 55 (0, 0))) ∧ Aside0 (Below w.heap.size w wc))
     case first =>
      have H := HC29.out
      clear HC29
      by_cases c30 : a1_0 = 5
      ·
       rw [if_pos c30] at H
       have c30b0 : (a1_0 == 5) = true := beq_iff_eq.mpr c30
       have c30b1 : (a1_0 != 5) = false := bne_eq_false_iff_eq.mpr c30
       clear c30
       (first | rw [c30b0] | (simp only [i64_w, i32_w]; rw [c30b0]) | skip)
       have H' := Aside0.mk H
       clear H
       go_wp2
       go_meet
       case rel => exact ⟨_, ((a1_0 == 5)), (by first | rfl | (simp; done) | (simp [*]; done)), H', ⟨by have := HJ4.out; first | omega | exact Nat.le_refl _⟩, ⟨by (with_reducible repeat (first | refine blk_drewN ?_ _ | refine blk_drew ?_ | refine blk_alloc ?_ _)); exact BK122.out⟩, ⟨by (with_reducible repeat (first | refine blk_drewN ?_ _ | refine blk_drew ?_ | refine blk_alloc ?_ _)); exact BK123.out⟩, ⟨by repeat (first | (with_reducible first | exact HB.out | apply below_alloc | apply pw_below_drewN | apply below_drew1 | refine below_set ?_ GE122.out | refine below_set ?_ GE123.out) | exact HB.out)⟩⟩
      ·
       rw [if_neg c30] at H
       have c30b0 : (a1_0 == 5) = false := beq_eq_false_iff_ne.mpr c30
       have c30b1 : (a1_0 != 5) = true := bne_iff_ne.mpr c30
       (first | rw [c30b0] | (simp only [i64_w, i32_w]; rw [c30b0]) | skip)
       have H' := Aside0.mk H
       clear H
       go_wp2
       go_meet
       case rel => exact ⟨_, ((a1_0 == 6)), (by first | rfl | (simp; done) | (simp [*]; done)), H', ⟨by have := HJ4.out; first | omega | exact Nat.le_refl _⟩, ⟨by (with_reducible repeat (first | refine blk_drewN ?_ _ | refine blk_drew ?_ | refine blk_alloc ?_ _)); exact BK122.out⟩, ⟨by (with_reducible repeat (first | refine blk_drewN ?_ _ | refine blk_drew ?_ | refine blk_alloc ?_ _)); exact BK123.out⟩, ⟨by repeat (first | (with_reducible first | exact HB.out | apply below_alloc | apply pw_below_drewN | apply below_drew1 | refine below_set ?_ GE122.out | refine below_set ?_ GE123.out) | exact HB.out)⟩⟩
     case rest =>
      clear HC29
      obtain ⟨kq, x39_28, rfl, HA, HJ28, BK122, BK123, HB⟩ := hcut
      cases kq with
      | zero => exact absurd HA.out (by simp [check_kinds.j1])
      | succ kj28 =>
       have H := HA.out
       clear HA
       simp only [check_kinds.j1] at H
       by_cases c31 : x39_28 = true
       ·
        subst c31
        have H1 : (some (decide (t124 ≥ 0))) = some r := by rw [if_pos rfl] at H; exact H
        clear H
        have H := H1
        clear H1
        obtain rfl := Option.some.inj H
        go_wp2
        go_ret
        exact ⟨by first | rfl | (simp [errW_none, errW_some] <;> rfl) | (simp [*, errW_none, errW_some] <;> rfl), by repeat (first | (with_reducible first | exact HB.out | apply below_alloc | apply pw_below_drewN | apply below_drew1 | refine below_set ?_ GE122.out | refine below_set ?_ GE123.out) | exact HB.out)⟩
       ·
        replace c31 := Bool.eq_false_iff.mpr c31
        subst c31
        have H1 : (if a1_0 = 7 then ((check_one.f t124 t125).bind fun t134 => (some t134)) else (if a1_0 = 8 then ((check_ints.f kj28 (([a1_1] : List Int))).bind fun t138 => (if t138 = true then ((check_number.f kj28 l0_0 a0_1 a0_2 l0_3 t125 a1_4).bind fun t139 => (some t139)) else (some false))) else (if a1_0 = 9 then ((check_ints.f kj28 (([a1_2] : List Int))).bind fun t143 => (if t143 = true then ((check_number.f kj28 l0_0 a0_1 a0_2 l0_3 t124 a1_4).bind fun t144 => (some t144)) else (some false))) else (if a1_0 = 10 then ((check_field.f kj28 l0_0 a0_1 a0_2 l0_3 t125 a1_4).bind fun bt145 => ((check_one.f t124 bt145.1).bind fun t147 => (some t147))) else (if a1_0 = 11 then ((check_field.f kj28 l0_0 a0_1 a0_2 l0_3 t124 a1_4).bind fun bt148 => ((check_one.f t125 bt148.1).bind fun t150 => (some t150))) else (if a1_0 = 12 then ((check_Glob.f kj28 l0_0 a0_1 a0_2 l0_3 a1_2).bind fun t151 => ((check_one.f t124 t151).bind fun t152 => (some t152))) else (if a1_0 = 13 then ((check_Glob.f kj28 l0_0 a0_1 a0_2 l0_3 a1_1).bind fun t153 => ((check_one.f t125 t153).bind fun t154 => (some t154))) else (if a1_0 = 15 then ((check_ints.f kj28 (([a1_1] : List Int))).bind fun t158 => (if t158 = true then ((check_Local.f kj28 l0_0 a0_1 a0_2 l0_3 a1_3).bind fun t159 => ((check_one.f t125 t159).bind fun t160 => (some t160))) else (some false))) else (some true))))))))) = some r := by rw [if_neg (show ¬ (false = true) by decide)] at H; exact H
        clear H
        have H := H1
        clear H1
        by_cases c32 : a1_0 = 7
        ·
         rw [if_pos c32] at H
         have c32b0 : (a1_0 == 7) = true := beq_iff_eq.mpr c32
         have c32b1 : (a1_0 != 7) = false := bne_eq_false_iff_eq.mpr c32
         clear c32
         replace H := Option.bind_eq_some_iff.mp H
         obtain ⟨t134, A330, H⟩ := H
         replace H : (some t134) = some r := H
         have A33 := Aside0.mk A330
         clear A330
         obtain rfl := Option.some.inj H
         go_wp2_with (first | ((with_reducible refine gate_callee (f := 56) rfl ?_); refine goesL_ (some 48) rfl rfl Tryd.func56 (by kernel_rfl) rfl #[.int .i64 t124, .int .i64 t125] rfl (by (try simp only [List.map_toArray, List.map_cons, List.map_nil]); first | done | rfl | (simp only [List.length_drop, List.length_take]; rfl)) ?_; (with_reducible refine (check_one.calls t124 t125 t134 _ A33.out).mono ?_); rintro e w' ⟨rfl, ⟨nd, rfl⟩⟩; refine ⟨_, rfl, ?_⟩))
         go_ret
         exact ⟨by first | rfl | (simp [errW_none, errW_some] <;> rfl) | (simp [*, errW_none, errW_some] <;> rfl), by repeat (first | (with_reducible first | exact HB.out | apply below_alloc | apply pw_below_drewN | apply below_drew1 | refine below_set ?_ GE122.out | refine below_set ?_ GE123.out) | exact HB.out)⟩
        ·
         rw [if_neg c32] at H
         have c32b0 : (a1_0 == 7) = false := beq_eq_false_iff_ne.mpr c32
         have c32b1 : (a1_0 != 7) = true := bne_iff_ne.mpr c32
         by_cases c34 : a1_0 = 8
         ·
          rw [if_pos c34] at H
          have c34b0 : (a1_0 == 8) = true := beq_iff_eq.mpr c34
          have c34b1 : (a1_0 != 8) = false := bne_eq_false_iff_eq.mpr c34
          clear c34
          obtain ⟨y135, hy135⟩ : ∃ y_ : List Int, y_ = (([a1_1] : List Int)) := ⟨_, rfl⟩
          replace H : ((check_ints.f kj28 y135).bind fun t138 => (if t138 = true then ((check_number.f kj28 l0_0 a0_1 a0_2 l0_3 t125 a1_4).bind fun t139 => (some t139)) else (some false))) = some r := by first | (rw [hy135]; with_reducible exact H) | (have H2_ := (Option.bind_some _ _).symm.trans H; rw [hy135]; with_reducible exact H2_) | (have H2_ := (Option.bind_some _ _).symm.trans H; with_reducible exact H2_) | with_reducible exact H | (rw [hy135]; exact H) | exact H
          have Ny135 := Aside0.mk hy135
          clear hy135
          replace H := Option.bind_eq_some_iff.mp H
          obtain ⟨t138, A350, H⟩ := H
          replace H : (if t138 = true then ((check_number.f kj28 l0_0 a0_1 a0_2 l0_3 t125 a1_4).bind fun t139 => (some t139)) else (some false)) = some r := H
          have A35 := Aside0.mk A350
          clear A350
          by_cases c36 : t138 = true
          ·
           subst c36
           have H1 : ((check_number.f kj28 l0_0 a0_1 a0_2 l0_3 t125 a1_4).bind fun t139 => (some t139)) = some r := by rw [if_pos rfl] at H; exact H
           clear H
           have H := H1
           clear H1
           replace H := Option.bind_eq_some_iff.mp H
           obtain ⟨t139, A370, H⟩ := H
           replace H : (some t139) = some r := H
           have A37 := Aside0.mk A370
           clear A370
           obtain rfl := Option.some.inj H
           have hnb38 := NB123_122.out
           have hnc38 := NB122_123.out
           have hcz39_0 : wc.cell? ⟨gb123, 0, none⟩ = some (.int .u8 a1_0) := (blk_cell BK123.out 0).trans rfl
           have hcz39_1 : wc.cell? ⟨gb123, 1, none⟩ = some (.int .u8 a1_1) := (blk_cell BK123.out 1).trans rfl
           have hcz39_2 : wc.cell? ⟨gb123, 2, none⟩ = some (.int .u8 a1_2) := (blk_cell BK123.out 2).trans rfl
           have hcz39_3 : wc.cell? ⟨gb123, 3, none⟩ = some (.int .u8 a1_3) := (blk_cell BK123.out 3).trans rfl
           have hcz39_4 : wc.cell? ⟨gb123, 4, none⟩ = some (.int .i64 a1_4) := (blk_cell BK123.out 4).trans rfl
           have hfz39_0 := blk_frozen BK123.out 0
           have hfz39_1 := blk_frozen BK123.out 1
           have hfz39_2 := blk_frozen BK123.out 2
           have hfz39_3 := blk_frozen BK123.out 3
           have hfz39_4 := blk_frozen BK123.out 4
           go_wp2_with (first | ((with_reducible refine gate_dst (N := 53) rfl ?_); refine Kd.R_lit (Kd.int .u8) _ 5 ?hg (N := 53) ?hd (xs := ([a1_1] : List Int)) (inner := [.int .u8 a1_1]) (ok := fun _ => True) (okp := fun _ => True) ?hr ?hp (fun _ hk => hk) trivial (Below.refl _ _) (Nat.le_refl _) (by simp) ?_; (case hd => rfl); (case hg => rfl); (case hr => first | (go_simp; done) | (go_simp; rfl)); (case hp => exact (Reps.one (show Kd.M (Kd.int .u8) _ _ _ a1_1 [.int .u8 a1_1] from rfl) (Reps.none _ _))); intro v136 w40 ho41 hb hg_ hnew_; clear hg_ hnew_; (first | rw [← Ny135.out] at ho41 | (simp only [Int.reduceToNat] at ho41; rw [← Ny135.out] at ho41)); have n0_ := Aside0.mk (Kd.R_lower ho41 (below_size (by repeat (first | (with_reducible first | exact HB.out | apply below_alloc | apply pw_below_drewN | apply below_drew1 | refine below_set ?_ GE122.out | refine below_set ?_ GE123.out) | exact HB.out)))); have n1_ := Aside0.mk (blk_below (g := gb122) (o := .cells #[.slice A0_0 l0_0.length c0_0, .string a0_1, .string a0_2, .slice A0_3 l0_3.length c0_3] 25 (0, 0)) (by (with_reducible repeat (first | refine blk_drewN ?_ _ | refine blk_drew ?_ | refine blk_alloc ?_ _)); exact BK122.out) hb); have n2_ := Aside0.mk (blk_below (g := gb123) (o := .cells #[.int .u8 a1_0, .int .u8 a1_1, .int .u8 a1_2, .int .u8 a1_3, .int .i64 a1_4] 55 (0, 0)) (by (with_reducible repeat (first | refine blk_drewN ?_ _ | refine blk_drew ?_ | refine blk_alloc ?_ _)); exact BK123.out) hb); have n3_ := Aside0.mk (below_step (by repeat (first | (with_reducible first | exact HB.out | apply below_alloc | apply pw_below_drewN | apply below_drew1 | refine below_set ?_ GE122.out | refine below_set ?_ GE123.out) | exact HB.out)) hb); clear BK122; clear BK123; clear HB; have HO137 := n0_; have BK122 := n1_; have BK123 := n2_; have HB := n3_; clear n0_ n1_ n2_ n3_; clear hb ho41; obtain ⟨Ao42, co42, eo42⟩ := Kd.R_slice HO137.out; subst eo42) | ((with_reducible refine gate_callee (f := 55) rfl ?_); refine goesL_ (some 54) rfl rfl Tryd.func55 (by kernel_rfl) rfl #[.slice Ao42 y135.length co42] rfl (by (try simp only [List.map_toArray, List.map_cons, List.map_nil]); first | done | rfl | (simp only [List.length_drop, List.length_take]; rfl)) ?_; (with_reducible refine (check_ints.calls kj28 _ _ y135 true _ ?side1 ?side2 A35.out).mono ?_); (case side1 => repeat (first | exact (Kd.R_reads' HO137.out).2.2 | (with_reducible refine Kd.C_alloc ?_ _) | (with_reducible refine Kd.C_drewN ?_ _) | (with_reducible refine Kd.C_drew ?_))); (case side2 => exact (Kd.R_reads' HO137.out).2.1); rintro e w' ⟨rfl, ⟨nd, rfl⟩⟩; refine ⟨_, rfl, ?_⟩; have hcz43_0 : w40.cell? ⟨gb122, 0, none⟩ = some (.slice A0_0 l0_0.length c0_0) := (blk_cell BK122.out 0).trans rfl; have hcz43_1 : w40.cell? ⟨gb122, 1, none⟩ = some (.string a0_1) := (blk_cell BK122.out 1).trans rfl; have hcz43_2 : w40.cell? ⟨gb122, 2, none⟩ = some (.string a0_2) := (blk_cell BK122.out 2).trans rfl; have hcz43_3 : w40.cell? ⟨gb122, 3, none⟩ = some (.slice A0_3 l0_3.length c0_3) := (blk_cell BK122.out 3).trans rfl; have hfz43_0 := blk_frozen BK122.out 0; have hfz43_1 := blk_frozen BK122.out 1; have hfz43_2 := blk_frozen BK122.out 2; have hfz43_3 := blk_frozen BK122.out 3; have hcz44_0 : w40.cell? ⟨gb123, 0, none⟩ = some (.int .u8 a1_0) := (blk_cell BK123.out 0).trans rfl; have hcz44_1 : w40.cell? ⟨gb123, 1, none⟩ = some (.int .u8 a1_1) := (blk_cell BK123.out 1).trans rfl; have hcz44_2 : w40.cell? ⟨gb123, 2, none⟩ = some (.int .u8 a1_2) := (blk_cell BK123.out 2).trans rfl; have hcz44_3 : w40.cell? ⟨gb123, 3, none⟩ = some (.int .u8 a1_3) := (blk_cell BK123.out 3).trans rfl; have hcz44_4 : w40.cell? ⟨gb123, 4, none⟩ = some (.int .i64 a1_4) := (blk_cell BK123.out 4).trans rfl; have hfz44_0 := blk_frozen BK123.out 0; have hfz44_1 := blk_frozen BK123.out 1; have hfz44_2 := blk_frozen BK123.out 2; have hfz44_3 := blk_frozen BK123.out 3; have hfz44_4 := blk_frozen BK123.out 4) | (go_at_call 57; (with_reducible refine (check_number.calls kj28 _ _ l0_0 a0_1 a0_2 _ _ l0_3 t125 a1_4 t139 _ ?side1 ?side2 ?side3 ?side4 A37.out).mono ?_); (case side1 => repeat (first | exact (Kd.C_below HR0_0.out (by repeat (first | (with_reducible first | exact HB.out | apply below_alloc | apply pw_below_drewN | apply below_drew1 | refine below_set ?_ GE122.out | refine below_set ?_ GE123.out) | exact HB.out))) | (with_reducible refine Kd.C_alloc ?_ _) | (with_reducible refine Kd.C_drewN ?_ _) | (with_reducible refine Kd.C_drew ?_))); (case side2 => exact HC0_0.out); (case side3 => repeat (first | exact (Kd.C_below HR0_3.out (by repeat (first | (with_reducible first | exact HB.out | apply below_alloc | apply pw_below_drewN | apply below_drew1 | refine below_set ?_ GE122.out | refine below_set ?_ GE123.out) | exact HB.out))) | (with_reducible refine Kd.C_alloc ?_ _) | (with_reducible refine Kd.C_drewN ?_ _) | (with_reducible refine Kd.C_drew ?_))); (case side4 => exact HC0_3.out); rintro e w45 ⟨rfl, hb⟩; have n0_ := Aside0.mk (Kd.R_below (by (with_reducible repeat (first | apply Kd.R_alloc | apply Kd.R_drewN | apply Kd.R_drew)); exact HO137.out) hb); have n1_ := Aside0.mk (blk_below (g := gb122) (o := .cells #[.slice A0_0 l0_0.length c0_0, .string a0_1, .string a0_2, .slice A0_3 l0_3.length c0_3] 25 (0, 0)) (by (with_reducible repeat (first | refine blk_drewN ?_ _ | refine blk_drew ?_ | refine blk_alloc ?_ _)); exact BK122.out) hb); have n2_ := Aside0.mk (blk_below (g := gb123) (o := .cells #[.int .u8 a1_0, .int .u8 a1_1, .int .u8 a1_2, .int .u8 a1_3, .int .i64 a1_4] 55 (0, 0)) (by (with_reducible repeat (first | refine blk_drewN ?_ _ | refine blk_drew ?_ | refine blk_alloc ?_ _)); exact BK123.out) hb); have n3_ := Aside0.mk (below_step (by repeat (first | (with_reducible first | exact HB.out | apply below_alloc | apply pw_below_drewN | apply below_drew1 | refine below_set ?_ GE122.out | refine below_set ?_ GE123.out) | exact HB.out)) hb); clear HO137; clear BK122; clear BK123; clear HB; have HO137 := n0_; have BK122 := n1_; have BK123 := n2_; have HB := n3_; clear n0_ n1_ n2_ n3_; (try clear hb); (try clear hb2); (try clear hk); (try clear hi)))
           go_ret
           exact ⟨by first | rfl | (simp [errW_none, errW_some] <;> rfl) | (simp [*, errW_none, errW_some] <;> rfl), by repeat (first | (with_reducible first | exact HB.out | apply below_alloc | apply pw_below_drewN | apply below_drew1 | refine below_set ?_ GE122.out | refine below_set ?_ GE123.out) | exact HB.out)⟩
          ·
           replace c36 := Bool.eq_false_iff.mpr c36
           subst c36
           have H1 : (some false) = some r := by rw [if_neg (show ¬ (false = true) by decide)] at H; exact H
           clear H
           have H := H1
           clear H1
           obtain rfl := Option.some.inj H
           have hnb46 := NB123_122.out
           have hnc46 := NB122_123.out
           have hcz47_0 : wc.cell? ⟨gb123, 0, none⟩ = some (.int .u8 a1_0) := (blk_cell BK123.out 0).trans rfl
           have hcz47_1 : wc.cell? ⟨gb123, 1, none⟩ = some (.int .u8 a1_1) := (blk_cell BK123.out 1).trans rfl
           have hcz47_2 : wc.cell? ⟨gb123, 2, none⟩ = some (.int .u8 a1_2) := (blk_cell BK123.out 2).trans rfl
           have hcz47_3 : wc.cell? ⟨gb123, 3, none⟩ = some (.int .u8 a1_3) := (blk_cell BK123.out 3).trans rfl
           have hcz47_4 : wc.cell? ⟨gb123, 4, none⟩ = some (.int .i64 a1_4) := (blk_cell BK123.out 4).trans rfl
           have hfz47_0 := blk_frozen BK123.out 0
           have hfz47_1 := blk_frozen BK123.out 1
           have hfz47_2 := blk_frozen BK123.out 2
           have hfz47_3 := blk_frozen BK123.out 3
           have hfz47_4 := blk_frozen BK123.out 4
           go_wp2_with (first | ((with_reducible refine gate_dst (N := 53) rfl ?_); refine Kd.R_lit (Kd.int .u8) _ 5 ?hg (N := 53) ?hd (xs := ([a1_1] : List Int)) (inner := [.int .u8 a1_1]) (ok := fun _ => True) (okp := fun _ => True) ?hr ?hp (fun _ hk => hk) trivial (Below.refl _ _) (Nat.le_refl _) (by simp) ?_; (case hd => rfl); (case hg => rfl); (case hr => first | (go_simp; done) | (go_simp; rfl)); (case hp => exact (Reps.one (show Kd.M (Kd.int .u8) _ _ _ a1_1 [.int .u8 a1_1] from rfl) (Reps.none _ _))); intro v136 w48 ho49 hb hg_ hnew_; clear hg_ hnew_; (first | rw [← Ny135.out] at ho49 | (simp only [Int.reduceToNat] at ho49; rw [← Ny135.out] at ho49)); have n0_ := Aside0.mk (Kd.R_lower ho49 (below_size (by repeat (first | (with_reducible first | exact HB.out | apply below_alloc | apply pw_below_drewN | apply below_drew1 | refine below_set ?_ GE122.out | refine below_set ?_ GE123.out) | exact HB.out)))); have n1_ := Aside0.mk (blk_below (g := gb122) (o := .cells #[.slice A0_0 l0_0.length c0_0, .string a0_1, .string a0_2, .slice A0_3 l0_3.length c0_3] 25 (0, 0)) (by (with_reducible repeat (first | refine blk_drewN ?_ _ | refine blk_drew ?_ | refine blk_alloc ?_ _)); exact BK122.out) hb); have n2_ := Aside0.mk (blk_below (g := gb123) (o := .cells #[.int .u8 a1_0, .int .u8 a1_1, .int .u8 a1_2, .int .u8 a1_3, .int .i64 a1_4] 55 (0, 0)) (by (with_reducible repeat (first | refine blk_drewN ?_ _ | refine blk_drew ?_ | refine blk_alloc ?_ _)); exact BK123.out) hb); have n3_ := Aside0.mk (below_step (by repeat (first | (with_reducible first | exact HB.out | apply below_alloc | apply pw_below_drewN | apply below_drew1 | refine below_set ?_ GE122.out | refine below_set ?_ GE123.out) | exact HB.out)) hb); clear BK122; clear BK123; clear HB; have HO137 := n0_; have BK122 := n1_; have BK123 := n2_; have HB := n3_; clear n0_ n1_ n2_ n3_; clear hb ho49; obtain ⟨Ao50, co50, eo50⟩ := Kd.R_slice HO137.out; subst eo50) | ((with_reducible refine gate_callee (f := 55) rfl ?_); refine goesL_ (some 54) rfl rfl Tryd.func55 (by kernel_rfl) rfl #[.slice Ao50 y135.length co50] rfl (by (try simp only [List.map_toArray, List.map_cons, List.map_nil]); first | done | rfl | (simp only [List.length_drop, List.length_take]; rfl)) ?_; (with_reducible refine (check_ints.calls kj28 _ _ y135 false _ ?side1 ?side2 A35.out).mono ?_); (case side1 => repeat (first | exact (Kd.R_reads' HO137.out).2.2 | (with_reducible refine Kd.C_alloc ?_ _) | (with_reducible refine Kd.C_drewN ?_ _) | (with_reducible refine Kd.C_drew ?_))); (case side2 => exact (Kd.R_reads' HO137.out).2.1); rintro e w' ⟨rfl, ⟨nd, rfl⟩⟩; refine ⟨_, rfl, ?_⟩))
           go_ret
           exact ⟨by first | rfl | (simp [errW_none, errW_some] <;> rfl) | (simp [*, errW_none, errW_some] <;> rfl), by repeat (first | (with_reducible first | exact HB.out | apply below_alloc | apply pw_below_drewN | apply below_drew1 | refine below_set ?_ GE122.out | refine below_set ?_ GE123.out) | exact HB.out)⟩
         ·
          rw [if_neg c34] at H
          have c34b0 : (a1_0 == 8) = false := beq_eq_false_iff_ne.mpr c34
          have c34b1 : (a1_0 != 8) = true := bne_iff_ne.mpr c34
          by_cases c51 : a1_0 = 9
          ·
           rw [if_pos c51] at H
           have c51b0 : (a1_0 == 9) = true := beq_iff_eq.mpr c51
           have c51b1 : (a1_0 != 9) = false := bne_eq_false_iff_eq.mpr c51
           clear c51
           obtain ⟨y140, hy140⟩ : ∃ y_ : List Int, y_ = (([a1_2] : List Int)) := ⟨_, rfl⟩
           replace H : ((check_ints.f kj28 y140).bind fun t143 => (if t143 = true then ((check_number.f kj28 l0_0 a0_1 a0_2 l0_3 t124 a1_4).bind fun t144 => (some t144)) else (some false))) = some r := by first | (rw [hy140]; with_reducible exact H) | (have H2_ := (Option.bind_some _ _).symm.trans H; rw [hy140]; with_reducible exact H2_) | (have H2_ := (Option.bind_some _ _).symm.trans H; with_reducible exact H2_) | with_reducible exact H | (rw [hy140]; exact H) | exact H
           have Ny140 := Aside0.mk hy140
           clear hy140
           replace H := Option.bind_eq_some_iff.mp H
           obtain ⟨t143, A520, H⟩ := H
           replace H : (if t143 = true then ((check_number.f kj28 l0_0 a0_1 a0_2 l0_3 t124 a1_4).bind fun t144 => (some t144)) else (some false)) = some r := H
           have A52 := Aside0.mk A520
           clear A520
           by_cases c53 : t143 = true
           ·
            subst c53
            have H1 : ((check_number.f kj28 l0_0 a0_1 a0_2 l0_3 t124 a1_4).bind fun t144 => (some t144)) = some r := by rw [if_pos rfl] at H; exact H
            clear H
            have H := H1
            clear H1
            replace H := Option.bind_eq_some_iff.mp H
            obtain ⟨t144, A540, H⟩ := H
            replace H : (some t144) = some r := H
            have A54 := Aside0.mk A540
            clear A540
            obtain rfl := Option.some.inj H
            have hnb55 := NB123_122.out
            have hnc55 := NB122_123.out
            have hcz56_0 : wc.cell? ⟨gb123, 0, none⟩ = some (.int .u8 a1_0) := (blk_cell BK123.out 0).trans rfl
            have hcz56_1 : wc.cell? ⟨gb123, 1, none⟩ = some (.int .u8 a1_1) := (blk_cell BK123.out 1).trans rfl
            have hcz56_2 : wc.cell? ⟨gb123, 2, none⟩ = some (.int .u8 a1_2) := (blk_cell BK123.out 2).trans rfl
            have hcz56_3 : wc.cell? ⟨gb123, 3, none⟩ = some (.int .u8 a1_3) := (blk_cell BK123.out 3).trans rfl
            have hcz56_4 : wc.cell? ⟨gb123, 4, none⟩ = some (.int .i64 a1_4) := (blk_cell BK123.out 4).trans rfl
            have hfz56_0 := blk_frozen BK123.out 0
            have hfz56_1 := blk_frozen BK123.out 1
            have hfz56_2 := blk_frozen BK123.out 2
            have hfz56_3 := blk_frozen BK123.out 3
            have hfz56_4 := blk_frozen BK123.out 4
            go_wp2_with (first | ((with_reducible refine gate_dst (N := 66) rfl ?_); refine Kd.R_lit (Kd.int .u8) _ 5 ?hg (N := 66) ?hd (xs := ([a1_2] : List Int)) (inner := [.int .u8 a1_2]) (ok := fun _ => True) (okp := fun _ => True) ?hr ?hp (fun _ hk => hk) trivial (Below.refl _ _) (Nat.le_refl _) (by simp) ?_; (case hd => rfl); (case hg => rfl); (case hr => first | (go_simp; done) | (go_simp; rfl)); (case hp => exact (Reps.one (show Kd.M (Kd.int .u8) _ _ _ a1_2 [.int .u8 a1_2] from rfl) (Reps.none _ _))); intro v141 w57 ho58 hb hg_ hnew_; clear hg_ hnew_; (first | rw [← Ny140.out] at ho58 | (simp only [Int.reduceToNat] at ho58; rw [← Ny140.out] at ho58)); have n0_ := Aside0.mk (Kd.R_lower ho58 (below_size (by repeat (first | (with_reducible first | exact HB.out | apply below_alloc | apply pw_below_drewN | apply below_drew1 | refine below_set ?_ GE122.out | refine below_set ?_ GE123.out) | exact HB.out)))); have n1_ := Aside0.mk (blk_below (g := gb122) (o := .cells #[.slice A0_0 l0_0.length c0_0, .string a0_1, .string a0_2, .slice A0_3 l0_3.length c0_3] 25 (0, 0)) (by (with_reducible repeat (first | refine blk_drewN ?_ _ | refine blk_drew ?_ | refine blk_alloc ?_ _)); exact BK122.out) hb); have n2_ := Aside0.mk (blk_below (g := gb123) (o := .cells #[.int .u8 a1_0, .int .u8 a1_1, .int .u8 a1_2, .int .u8 a1_3, .int .i64 a1_4] 55 (0, 0)) (by (with_reducible repeat (first | refine blk_drewN ?_ _ | refine blk_drew ?_ | refine blk_alloc ?_ _)); exact BK123.out) hb); have n3_ := Aside0.mk (below_step (by repeat (first | (with_reducible first | exact HB.out | apply below_alloc | apply pw_below_drewN | apply below_drew1 | refine below_set ?_ GE122.out | refine below_set ?_ GE123.out) | exact HB.out)) hb); clear BK122; clear BK123; clear HB; have HO142 := n0_; have BK122 := n1_; have BK123 := n2_; have HB := n3_; clear n0_ n1_ n2_ n3_; clear hb ho58; obtain ⟨Ao59, co59, eo59⟩ := Kd.R_slice HO142.out; subst eo59) | ((with_reducible refine gate_callee (f := 55) rfl ?_); refine goesL_ (some 67) rfl rfl Tryd.func55 (by kernel_rfl) rfl #[.slice Ao59 y140.length co59] rfl (by (try simp only [List.map_toArray, List.map_cons, List.map_nil]); first | done | rfl | (simp only [List.length_drop, List.length_take]; rfl)) ?_; (with_reducible refine (check_ints.calls kj28 _ _ y140 true _ ?side1 ?side2 A52.out).mono ?_); (case side1 => repeat (first | exact (Kd.R_reads' HO142.out).2.2 | (with_reducible refine Kd.C_alloc ?_ _) | (with_reducible refine Kd.C_drewN ?_ _) | (with_reducible refine Kd.C_drew ?_))); (case side2 => exact (Kd.R_reads' HO142.out).2.1); rintro e w' ⟨rfl, ⟨nd, rfl⟩⟩; refine ⟨_, rfl, ?_⟩; have hcz60_0 : w57.cell? ⟨gb122, 0, none⟩ = some (.slice A0_0 l0_0.length c0_0) := (blk_cell BK122.out 0).trans rfl; have hcz60_1 : w57.cell? ⟨gb122, 1, none⟩ = some (.string a0_1) := (blk_cell BK122.out 1).trans rfl; have hcz60_2 : w57.cell? ⟨gb122, 2, none⟩ = some (.string a0_2) := (blk_cell BK122.out 2).trans rfl; have hcz60_3 : w57.cell? ⟨gb122, 3, none⟩ = some (.slice A0_3 l0_3.length c0_3) := (blk_cell BK122.out 3).trans rfl; have hfz60_0 := blk_frozen BK122.out 0; have hfz60_1 := blk_frozen BK122.out 1; have hfz60_2 := blk_frozen BK122.out 2; have hfz60_3 := blk_frozen BK122.out 3; have hcz61_0 : w57.cell? ⟨gb123, 0, none⟩ = some (.int .u8 a1_0) := (blk_cell BK123.out 0).trans rfl; have hcz61_1 : w57.cell? ⟨gb123, 1, none⟩ = some (.int .u8 a1_1) := (blk_cell BK123.out 1).trans rfl; have hcz61_2 : w57.cell? ⟨gb123, 2, none⟩ = some (.int .u8 a1_2) := (blk_cell BK123.out 2).trans rfl; have hcz61_3 : w57.cell? ⟨gb123, 3, none⟩ = some (.int .u8 a1_3) := (blk_cell BK123.out 3).trans rfl; have hcz61_4 : w57.cell? ⟨gb123, 4, none⟩ = some (.int .i64 a1_4) := (blk_cell BK123.out 4).trans rfl; have hfz61_0 := blk_frozen BK123.out 0; have hfz61_1 := blk_frozen BK123.out 1; have hfz61_2 := blk_frozen BK123.out 2; have hfz61_3 := blk_frozen BK123.out 3; have hfz61_4 := blk_frozen BK123.out 4) | (go_at_call 57; (with_reducible refine (check_number.calls kj28 _ _ l0_0 a0_1 a0_2 _ _ l0_3 t124 a1_4 t144 _ ?side1 ?side2 ?side3 ?side4 A54.out).mono ?_); (case side1 => repeat (first | exact (Kd.C_below HR0_0.out (by repeat (first | (with_reducible first | exact HB.out | apply below_alloc | apply pw_below_drewN | apply below_drew1 | refine below_set ?_ GE122.out | refine below_set ?_ GE123.out) | exact HB.out))) | (with_reducible refine Kd.C_alloc ?_ _) | (with_reducible refine Kd.C_drewN ?_ _) | (with_reducible refine Kd.C_drew ?_))); (case side2 => exact HC0_0.out); (case side3 => repeat (first | exact (Kd.C_below HR0_3.out (by repeat (first | (with_reducible first | exact HB.out | apply below_alloc | apply pw_below_drewN | apply below_drew1 | refine below_set ?_ GE122.out | refine below_set ?_ GE123.out) | exact HB.out))) | (with_reducible refine Kd.C_alloc ?_ _) | (with_reducible refine Kd.C_drewN ?_ _) | (with_reducible refine Kd.C_drew ?_))); (case side4 => exact HC0_3.out); rintro e w62 ⟨rfl, hb⟩; have n0_ := Aside0.mk (Kd.R_below (by (with_reducible repeat (first | apply Kd.R_alloc | apply Kd.R_drewN | apply Kd.R_drew)); exact HO142.out) hb); have n1_ := Aside0.mk (blk_below (g := gb122) (o := .cells #[.slice A0_0 l0_0.length c0_0, .string a0_1, .string a0_2, .slice A0_3 l0_3.length c0_3] 25 (0, 0)) (by (with_reducible repeat (first | refine blk_drewN ?_ _ | refine blk_drew ?_ | refine blk_alloc ?_ _)); exact BK122.out) hb); have n2_ := Aside0.mk (blk_below (g := gb123) (o := .cells #[.int .u8 a1_0, .int .u8 a1_1, .int .u8 a1_2, .int .u8 a1_3, .int .i64 a1_4] 55 (0, 0)) (by (with_reducible repeat (first | refine blk_drewN ?_ _ | refine blk_drew ?_ | refine blk_alloc ?_ _)); exact BK123.out) hb); have n3_ := Aside0.mk (below_step (by repeat (first | (with_reducible first | exact HB.out | apply below_alloc | apply pw_below_drewN | apply below_drew1 | refine below_set ?_ GE122.out | refine below_set ?_ GE123.out) | exact HB.out)) hb); clear HO142; clear BK122; clear BK123; clear HB; have HO142 := n0_; have BK122 := n1_; have BK123 := n2_; have HB := n3_; clear n0_ n1_ n2_ n3_; (try clear hb); (try clear hb2); (try clear hk); (try clear hi)))
            go_ret
            exact ⟨by first | rfl | (simp [errW_none, errW_some] <;> rfl) | (simp [*, errW_none, errW_some] <;> rfl), by repeat (first | (with_reducible first | exact HB.out | apply below_alloc | apply pw_below_drewN | apply below_drew1 | refine below_set ?_ GE122.out | refine below_set ?_ GE123.out) | exact HB.out)⟩
           ·
            replace c53 := Bool.eq_false_iff.mpr c53
            subst c53
            have H1 : (some false) = some r := by rw [if_neg (show ¬ (false = true) by decide)] at H; exact H
            clear H
            have H := H1
            clear H1
            obtain rfl := Option.some.inj H
            have hnb63 := NB123_122.out
            have hnc63 := NB122_123.out
            have hcz64_0 : wc.cell? ⟨gb123, 0, none⟩ = some (.int .u8 a1_0) := (blk_cell BK123.out 0).trans rfl
            have hcz64_1 : wc.cell? ⟨gb123, 1, none⟩ = some (.int .u8 a1_1) := (blk_cell BK123.out 1).trans rfl
            have hcz64_2 : wc.cell? ⟨gb123, 2, none⟩ = some (.int .u8 a1_2) := (blk_cell BK123.out 2).trans rfl
            have hcz64_3 : wc.cell? ⟨gb123, 3, none⟩ = some (.int .u8 a1_3) := (blk_cell BK123.out 3).trans rfl
            have hcz64_4 : wc.cell? ⟨gb123, 4, none⟩ = some (.int .i64 a1_4) := (blk_cell BK123.out 4).trans rfl
            have hfz64_0 := blk_frozen BK123.out 0
            have hfz64_1 := blk_frozen BK123.out 1
            have hfz64_2 := blk_frozen BK123.out 2
            have hfz64_3 := blk_frozen BK123.out 3
            have hfz64_4 := blk_frozen BK123.out 4
            go_wp2_with (first | ((with_reducible refine gate_dst (N := 66) rfl ?_); refine Kd.R_lit (Kd.int .u8) _ 5 ?hg (N := 66) ?hd (xs := ([a1_2] : List Int)) (inner := [.int .u8 a1_2]) (ok := fun _ => True) (okp := fun _ => True) ?hr ?hp (fun _ hk => hk) trivial (Below.refl _ _) (Nat.le_refl _) (by simp) ?_; (case hd => rfl); (case hg => rfl); (case hr => first | (go_simp; done) | (go_simp; rfl)); (case hp => exact (Reps.one (show Kd.M (Kd.int .u8) _ _ _ a1_2 [.int .u8 a1_2] from rfl) (Reps.none _ _))); intro v141 w65 ho66 hb hg_ hnew_; clear hg_ hnew_; (first | rw [← Ny140.out] at ho66 | (simp only [Int.reduceToNat] at ho66; rw [← Ny140.out] at ho66)); have n0_ := Aside0.mk (Kd.R_lower ho66 (below_size (by repeat (first | (with_reducible first | exact HB.out | apply below_alloc | apply pw_below_drewN | apply below_drew1 | refine below_set ?_ GE122.out | refine below_set ?_ GE123.out) | exact HB.out)))); have n1_ := Aside0.mk (blk_below (g := gb122) (o := .cells #[.slice A0_0 l0_0.length c0_0, .string a0_1, .string a0_2, .slice A0_3 l0_3.length c0_3] 25 (0, 0)) (by (with_reducible repeat (first | refine blk_drewN ?_ _ | refine blk_drew ?_ | refine blk_alloc ?_ _)); exact BK122.out) hb); have n2_ := Aside0.mk (blk_below (g := gb123) (o := .cells #[.int .u8 a1_0, .int .u8 a1_1, .int .u8 a1_2, .int .u8 a1_3, .int .i64 a1_4] 55 (0, 0)) (by (with_reducible repeat (first | refine blk_drewN ?_ _ | refine blk_drew ?_ | refine blk_alloc ?_ _)); exact BK123.out) hb); have n3_ := Aside0.mk (below_step (by repeat (first | (with_reducible first | exact HB.out | apply below_alloc | apply pw_below_drewN | apply below_drew1 | refine below_set ?_ GE122.out | refine below_set ?_ GE123.out) | exact HB.out)) hb); clear BK122; clear BK123; clear HB; have HO142 := n0_; have BK122 := n1_; have BK123 := n2_; have HB := n3_; clear n0_ n1_ n2_ n3_; clear hb ho66; obtain ⟨Ao67, co67, eo67⟩ := Kd.R_slice HO142.out; subst eo67) | ((with_reducible refine gate_callee (f := 55) rfl ?_); refine goesL_ (some 67) rfl rfl Tryd.func55 (by kernel_rfl) rfl #[.slice Ao67 y140.length co67] rfl (by (try simp only [List.map_toArray, List.map_cons, List.map_nil]); first | done | rfl | (simp only [List.length_drop, List.length_take]; rfl)) ?_; (with_reducible refine (check_ints.calls kj28 _ _ y140 false _ ?side1 ?side2 A52.out).mono ?_); (case side1 => repeat (first | exact (Kd.R_reads' HO142.out).2.2 | (with_reducible refine Kd.C_alloc ?_ _) | (with_reducible refine Kd.C_drewN ?_ _) | (with_reducible refine Kd.C_drew ?_))); (case side2 => exact (Kd.R_reads' HO142.out).2.1); rintro e w' ⟨rfl, ⟨nd, rfl⟩⟩; refine ⟨_, rfl, ?_⟩))
            go_ret
            exact ⟨by first | rfl | (simp [errW_none, errW_some] <;> rfl) | (simp [*, errW_none, errW_some] <;> rfl), by repeat (first | (with_reducible first | exact HB.out | apply below_alloc | apply pw_below_drewN | apply below_drew1 | refine below_set ?_ GE122.out | refine below_set ?_ GE123.out) | exact HB.out)⟩
          ·
           rw [if_neg c51] at H
           have c51b0 : (a1_0 == 9) = false := beq_eq_false_iff_ne.mpr c51
           have c51b1 : (a1_0 != 9) = true := bne_iff_ne.mpr c51
           by_cases c68 : a1_0 = 10
           ·
            rw [if_pos c68] at H
            have c68b0 : (a1_0 == 10) = true := beq_iff_eq.mpr c68
            have c68b1 : (a1_0 != 10) = false := bne_eq_false_iff_eq.mpr c68
            clear c68
            replace H := Option.bind_eq_some_iff.mp H
            obtain ⟨⟨t145, t146⟩, A690, H⟩ := H
            replace H : ((check_one.f t124 t145).bind fun t147 => (some t147)) = some r := H
            have A69 := Aside0.mk A690
            clear A690
            replace H := Option.bind_eq_some_iff.mp H
            obtain ⟨t147, A700, H⟩ := H
            replace H : (some t147) = some r := H
            have A70 := Aside0.mk A700
            clear A700
            obtain rfl := Option.some.inj H
            have hnb71 := NB122_123.out
            have hnc71 := NB123_122.out
            have hcz72_0 : wc.cell? ⟨gb122, 0, none⟩ = some (.slice A0_0 l0_0.length c0_0) := (blk_cell BK122.out 0).trans rfl
            have hcz72_1 : wc.cell? ⟨gb122, 1, none⟩ = some (.string a0_1) := (blk_cell BK122.out 1).trans rfl
            have hcz72_2 : wc.cell? ⟨gb122, 2, none⟩ = some (.string a0_2) := (blk_cell BK122.out 2).trans rfl
            have hcz72_3 : wc.cell? ⟨gb122, 3, none⟩ = some (.slice A0_3 l0_3.length c0_3) := (blk_cell BK122.out 3).trans rfl
            have hfz72_0 := blk_frozen BK122.out 0
            have hfz72_1 := blk_frozen BK122.out 1
            have hfz72_2 := blk_frozen BK122.out 2
            have hfz72_3 := blk_frozen BK122.out 3
            have hcz73_0 : wc.cell? ⟨gb123, 0, none⟩ = some (.int .u8 a1_0) := (blk_cell BK123.out 0).trans rfl
            have hcz73_1 : wc.cell? ⟨gb123, 1, none⟩ = some (.int .u8 a1_1) := (blk_cell BK123.out 1).trans rfl
            have hcz73_2 : wc.cell? ⟨gb123, 2, none⟩ = some (.int .u8 a1_2) := (blk_cell BK123.out 2).trans rfl
            have hcz73_3 : wc.cell? ⟨gb123, 3, none⟩ = some (.int .u8 a1_3) := (blk_cell BK123.out 3).trans rfl
            have hcz73_4 : wc.cell? ⟨gb123, 4, none⟩ = some (.int .i64 a1_4) := (blk_cell BK123.out 4).trans rfl
            have hfz73_0 := blk_frozen BK123.out 0
            have hfz73_1 := blk_frozen BK123.out 1
            have hfz73_2 := blk_frozen BK123.out 2
            have hfz73_3 := blk_frozen BK123.out 3
            have hfz73_4 := blk_frozen BK123.out 4
            go_wp2_with (first | ((with_reducible refine gate_callee (f := 58) rfl ?_); refine goesL_ (some 82) rfl rfl Tryd.func58 (by kernel_rfl) rfl #[.agg #[.slice A0_0 l0_0.length c0_0, .string a0_1, .string a0_2, .slice A0_3 l0_3.length c0_3], .int .i64 t125, .int .i64 a1_4] rfl (by (try simp only [List.map_toArray, List.map_cons, List.map_nil]); first | done | rfl | (simp only [List.length_drop, List.length_take]; rfl)) ?_; (with_reducible refine (check_field.calls kj28 _ _ l0_0 a0_1 a0_2 _ _ l0_3 t125 a1_4 t145 t146 _ ?side1 ?side2 ?side3 ?side4 A69.out).mono ?_); (case side1 => repeat (first | exact (Kd.C_below HR0_0.out HB.out) | (with_reducible refine Kd.C_alloc ?_ _) | (with_reducible refine Kd.C_drewN ?_ _) | (with_reducible refine Kd.C_drew ?_))); (case side2 => exact HC0_0.out); (case side3 => repeat (first | exact (Kd.C_below HR0_3.out HB.out) | (with_reducible refine Kd.C_alloc ?_ _) | (with_reducible refine Kd.C_drewN ?_ _) | (with_reducible refine Kd.C_drew ?_))); (case side4 => exact HC0_3.out); rintro e w74 ⟨rfl, hb⟩; refine ⟨_, rfl, ?_⟩; have n0_ := Aside0.mk (blk_below (g := gb122) (o := .cells #[.slice A0_0 l0_0.length c0_0, .string a0_1, .string a0_2, .slice A0_3 l0_3.length c0_3] 25 (0, 0)) (by (with_reducible repeat (first | refine blk_drewN ?_ _ | refine blk_drew ?_ | refine blk_alloc ?_ _)); exact BK122.out) hb); have n1_ := Aside0.mk (blk_below (g := gb123) (o := .cells #[.int .u8 a1_0, .int .u8 a1_1, .int .u8 a1_2, .int .u8 a1_3, .int .i64 a1_4] 55 (0, 0)) (by (with_reducible repeat (first | refine blk_drewN ?_ _ | refine blk_drew ?_ | refine blk_alloc ?_ _)); exact BK123.out) hb); have n2_ := Aside0.mk (below_step (by repeat (first | (with_reducible first | exact HB.out | apply below_alloc | apply pw_below_drewN | apply below_drew1 | refine below_set ?_ GE122.out | refine below_set ?_ GE123.out) | exact HB.out)) hb); clear BK122; clear BK123; clear HB; have BK122 := n0_; have BK123 := n1_; have HB := n2_; clear n0_ n1_ n2_; (try clear hb); (try clear hb2); (try clear hk); (try clear hi)) | ((with_reducible refine gate_callee (f := 56) rfl ?_); refine goesL_ (some 87) rfl rfl Tryd.func56 (by kernel_rfl) rfl #[.int .i64 t124, .int .i64 t145] rfl (by (try simp only [List.map_toArray, List.map_cons, List.map_nil]); first | done | rfl | (simp only [List.length_drop, List.length_take]; rfl)) ?_; (with_reducible refine (check_one.calls t124 t145 t147 _ A70.out).mono ?_); rintro e w' ⟨rfl, ⟨nd, rfl⟩⟩; refine ⟨_, rfl, ?_⟩))
            go_ret
            exact ⟨by first | rfl | (simp [errW_none, errW_some] <;> rfl) | (simp [*, errW_none, errW_some] <;> rfl), by repeat (first | (with_reducible first | exact HB.out | apply below_alloc | apply pw_below_drewN | apply below_drew1 | refine below_set ?_ GE122.out | refine below_set ?_ GE123.out) | exact HB.out)⟩
           ·
            rw [if_neg c68] at H
            have c68b0 : (a1_0 == 10) = false := beq_eq_false_iff_ne.mpr c68
            have c68b1 : (a1_0 != 10) = true := bne_iff_ne.mpr c68
            by_cases c75 : a1_0 = 11
            ·
             rw [if_pos c75] at H
             have c75b0 : (a1_0 == 11) = true := beq_iff_eq.mpr c75
             have c75b1 : (a1_0 != 11) = false := bne_eq_false_iff_eq.mpr c75
             clear c75
             replace H := Option.bind_eq_some_iff.mp H
             obtain ⟨⟨t148, t149⟩, A760, H⟩ := H
             replace H : ((check_one.f t125 t148).bind fun t150 => (some t150)) = some r := H
             have A76 := Aside0.mk A760
             clear A760
             replace H := Option.bind_eq_some_iff.mp H
             obtain ⟨t150, A770, H⟩ := H
             replace H : (some t150) = some r := H
             have A77 := Aside0.mk A770
             clear A770
             obtain rfl := Option.some.inj H
             have hnb78 := NB122_123.out
             have hnc78 := NB123_122.out
             have hcz79_0 : wc.cell? ⟨gb122, 0, none⟩ = some (.slice A0_0 l0_0.length c0_0) := (blk_cell BK122.out 0).trans rfl
             have hcz79_1 : wc.cell? ⟨gb122, 1, none⟩ = some (.string a0_1) := (blk_cell BK122.out 1).trans rfl
             have hcz79_2 : wc.cell? ⟨gb122, 2, none⟩ = some (.string a0_2) := (blk_cell BK122.out 2).trans rfl
             have hcz79_3 : wc.cell? ⟨gb122, 3, none⟩ = some (.slice A0_3 l0_3.length c0_3) := (blk_cell BK122.out 3).trans rfl
             have hfz79_0 := blk_frozen BK122.out 0
             have hfz79_1 := blk_frozen BK122.out 1
             have hfz79_2 := blk_frozen BK122.out 2
             have hfz79_3 := blk_frozen BK122.out 3
             have hcz80_0 : wc.cell? ⟨gb123, 0, none⟩ = some (.int .u8 a1_0) := (blk_cell BK123.out 0).trans rfl
             have hcz80_1 : wc.cell? ⟨gb123, 1, none⟩ = some (.int .u8 a1_1) := (blk_cell BK123.out 1).trans rfl
             have hcz80_2 : wc.cell? ⟨gb123, 2, none⟩ = some (.int .u8 a1_2) := (blk_cell BK123.out 2).trans rfl
             have hcz80_3 : wc.cell? ⟨gb123, 3, none⟩ = some (.int .u8 a1_3) := (blk_cell BK123.out 3).trans rfl
             have hcz80_4 : wc.cell? ⟨gb123, 4, none⟩ = some (.int .i64 a1_4) := (blk_cell BK123.out 4).trans rfl
             have hfz80_0 := blk_frozen BK123.out 0
             have hfz80_1 := blk_frozen BK123.out 1
             have hfz80_2 := blk_frozen BK123.out 2
             have hfz80_3 := blk_frozen BK123.out 3
             have hfz80_4 := blk_frozen BK123.out 4
             go_wp2_with (first | ((with_reducible refine gate_callee (f := 58) rfl ?_); refine goesL_ (some 95) rfl rfl Tryd.func58 (by kernel_rfl) rfl #[.agg #[.slice A0_0 l0_0.length c0_0, .string a0_1, .string a0_2, .slice A0_3 l0_3.length c0_3], .int .i64 t124, .int .i64 a1_4] rfl (by (try simp only [List.map_toArray, List.map_cons, List.map_nil]); first | done | rfl | (simp only [List.length_drop, List.length_take]; rfl)) ?_; (with_reducible refine (check_field.calls kj28 _ _ l0_0 a0_1 a0_2 _ _ l0_3 t124 a1_4 t148 t149 _ ?side1 ?side2 ?side3 ?side4 A76.out).mono ?_); (case side1 => repeat (first | exact (Kd.C_below HR0_0.out HB.out) | (with_reducible refine Kd.C_alloc ?_ _) | (with_reducible refine Kd.C_drewN ?_ _) | (with_reducible refine Kd.C_drew ?_))); (case side2 => exact HC0_0.out); (case side3 => repeat (first | exact (Kd.C_below HR0_3.out HB.out) | (with_reducible refine Kd.C_alloc ?_ _) | (with_reducible refine Kd.C_drewN ?_ _) | (with_reducible refine Kd.C_drew ?_))); (case side4 => exact HC0_3.out); rintro e w81 ⟨rfl, hb⟩; refine ⟨_, rfl, ?_⟩; have n0_ := Aside0.mk (blk_below (g := gb122) (o := .cells #[.slice A0_0 l0_0.length c0_0, .string a0_1, .string a0_2, .slice A0_3 l0_3.length c0_3] 25 (0, 0)) (by (with_reducible repeat (first | refine blk_drewN ?_ _ | refine blk_drew ?_ | refine blk_alloc ?_ _)); exact BK122.out) hb); have n1_ := Aside0.mk (blk_below (g := gb123) (o := .cells #[.int .u8 a1_0, .int .u8 a1_1, .int .u8 a1_2, .int .u8 a1_3, .int .i64 a1_4] 55 (0, 0)) (by (with_reducible repeat (first | refine blk_drewN ?_ _ | refine blk_drew ?_ | refine blk_alloc ?_ _)); exact BK123.out) hb); have n2_ := Aside0.mk (below_step (by repeat (first | (with_reducible first | exact HB.out | apply below_alloc | apply pw_below_drewN | apply below_drew1 | refine below_set ?_ GE122.out | refine below_set ?_ GE123.out) | exact HB.out)) hb); clear BK122; clear BK123; clear HB; have BK122 := n0_; have BK123 := n1_; have HB := n2_; clear n0_ n1_ n2_; (try clear hb); (try clear hb2); (try clear hk); (try clear hi)) | ((with_reducible refine gate_callee (f := 56) rfl ?_); refine goesL_ (some 100) rfl rfl Tryd.func56 (by kernel_rfl) rfl #[.int .i64 t125, .int .i64 t148] rfl (by (try simp only [List.map_toArray, List.map_cons, List.map_nil]); first | done | rfl | (simp only [List.length_drop, List.length_take]; rfl)) ?_; (with_reducible refine (check_one.calls t125 t148 t150 _ A77.out).mono ?_); rintro e w' ⟨rfl, ⟨nd, rfl⟩⟩; refine ⟨_, rfl, ?_⟩))
             go_ret
             exact ⟨by first | rfl | (simp [errW_none, errW_some] <;> rfl) | (simp [*, errW_none, errW_some] <;> rfl), by repeat (first | (with_reducible first | exact HB.out | apply below_alloc | apply pw_below_drewN | apply below_drew1 | refine below_set ?_ GE122.out | refine below_set ?_ GE123.out) | exact HB.out)⟩
            ·
             rw [if_neg c75] at H
             have c75b0 : (a1_0 == 11) = false := beq_eq_false_iff_ne.mpr c75
             have c75b1 : (a1_0 != 11) = true := bne_iff_ne.mpr c75
             by_cases c82 : a1_0 = 12
             ·
              rw [if_pos c82] at H
              have c82b0 : (a1_0 == 12) = true := beq_iff_eq.mpr c82
              have c82b1 : (a1_0 != 12) = false := bne_eq_false_iff_eq.mpr c82
              clear c82
              replace H := Option.bind_eq_some_iff.mp H
              obtain ⟨t151, A830, H⟩ := H
              replace H : ((check_one.f t124 t151).bind fun t152 => (some t152)) = some r := H
              have A83 := Aside0.mk A830
              clear A830
              replace H := Option.bind_eq_some_iff.mp H
              obtain ⟨t152, A840, H⟩ := H
              replace H : (some t152) = some r := H
              have A84 := Aside0.mk A840
              clear A840
              obtain rfl := Option.some.inj H
              have hnb85 := NB122_123.out
              have hnc85 := NB123_122.out
              have hcz86_0 : wc.cell? ⟨gb122, 0, none⟩ = some (.slice A0_0 l0_0.length c0_0) := (blk_cell BK122.out 0).trans rfl
              have hcz86_1 : wc.cell? ⟨gb122, 1, none⟩ = some (.string a0_1) := (blk_cell BK122.out 1).trans rfl
              have hcz86_2 : wc.cell? ⟨gb122, 2, none⟩ = some (.string a0_2) := (blk_cell BK122.out 2).trans rfl
              have hcz86_3 : wc.cell? ⟨gb122, 3, none⟩ = some (.slice A0_3 l0_3.length c0_3) := (blk_cell BK122.out 3).trans rfl
              have hfz86_0 := blk_frozen BK122.out 0
              have hfz86_1 := blk_frozen BK122.out 1
              have hfz86_2 := blk_frozen BK122.out 2
              have hfz86_3 := blk_frozen BK122.out 3
              have hcz87_0 : wc.cell? ⟨gb123, 0, none⟩ = some (.int .u8 a1_0) := (blk_cell BK123.out 0).trans rfl
              have hcz87_1 : wc.cell? ⟨gb123, 1, none⟩ = some (.int .u8 a1_1) := (blk_cell BK123.out 1).trans rfl
              have hcz87_2 : wc.cell? ⟨gb123, 2, none⟩ = some (.int .u8 a1_2) := (blk_cell BK123.out 2).trans rfl
              have hcz87_3 : wc.cell? ⟨gb123, 3, none⟩ = some (.int .u8 a1_3) := (blk_cell BK123.out 3).trans rfl
              have hcz87_4 : wc.cell? ⟨gb123, 4, none⟩ = some (.int .i64 a1_4) := (blk_cell BK123.out 4).trans rfl
              have hfz87_0 := blk_frozen BK123.out 0
              have hfz87_1 := blk_frozen BK123.out 1
              have hfz87_2 := blk_frozen BK123.out 2
              have hfz87_3 := blk_frozen BK123.out 3
              have hfz87_4 := blk_frozen BK123.out 4
              go_wp2_with (first | ((with_reducible refine gate_callee (f := 59) rfl ?_); refine goesL_ (some 107) rfl rfl Tryd.func59 (by kernel_rfl) rfl #[.agg #[.slice A0_0 l0_0.length c0_0, .string a0_1, .string a0_2, .slice A0_3 l0_3.length c0_3], .int .u8 a1_2] rfl (by (try simp only [List.map_toArray, List.map_cons, List.map_nil]); first | done | rfl | (simp only [List.length_drop, List.length_take]; rfl)) ?_; (with_reducible refine (check_Glob.calls kj28 _ _ l0_0 a0_1 a0_2 _ _ l0_3 a1_2 t151 _ ?side1 ?side2 ?side3 ?side4 A83.out).mono ?_); (case side1 => repeat (first | exact (Kd.C_below HR0_0.out HB.out) | (with_reducible refine Kd.C_alloc ?_ _) | (with_reducible refine Kd.C_drewN ?_ _) | (with_reducible refine Kd.C_drew ?_))); (case side2 => exact HC0_0.out); (case side3 => repeat (first | exact (Kd.C_below HR0_3.out HB.out) | (with_reducible refine Kd.C_alloc ?_ _) | (with_reducible refine Kd.C_drewN ?_ _) | (with_reducible refine Kd.C_drew ?_))); (case side4 => exact HC0_3.out); rintro e w88 ⟨rfl, hb⟩; refine ⟨_, rfl, ?_⟩; have n0_ := Aside0.mk (blk_below (g := gb122) (o := .cells #[.slice A0_0 l0_0.length c0_0, .string a0_1, .string a0_2, .slice A0_3 l0_3.length c0_3] 25 (0, 0)) (by (with_reducible repeat (first | refine blk_drewN ?_ _ | refine blk_drew ?_ | refine blk_alloc ?_ _)); exact BK122.out) hb); have n1_ := Aside0.mk (blk_below (g := gb123) (o := .cells #[.int .u8 a1_0, .int .u8 a1_1, .int .u8 a1_2, .int .u8 a1_3, .int .i64 a1_4] 55 (0, 0)) (by (with_reducible repeat (first | refine blk_drewN ?_ _ | refine blk_drew ?_ | refine blk_alloc ?_ _)); exact BK123.out) hb); have n2_ := Aside0.mk (below_step (by repeat (first | (with_reducible first | exact HB.out | apply below_alloc | apply pw_below_drewN | apply below_drew1 | refine below_set ?_ GE122.out | refine below_set ?_ GE123.out) | exact HB.out)) hb); clear BK122; clear BK123; clear HB; have BK122 := n0_; have BK123 := n1_; have HB := n2_; clear n0_ n1_ n2_; (try clear hb); (try clear hb2); (try clear hk); (try clear hi)) | ((with_reducible refine gate_callee (f := 56) rfl ?_); refine goesL_ (some 108) rfl rfl Tryd.func56 (by kernel_rfl) rfl #[.int .i64 t124, .int .i64 t151] rfl (by (try simp only [List.map_toArray, List.map_cons, List.map_nil]); first | done | rfl | (simp only [List.length_drop, List.length_take]; rfl)) ?_; (with_reducible refine (check_one.calls t124 t151 t152 _ A84.out).mono ?_); rintro e w' ⟨rfl, ⟨nd, rfl⟩⟩; refine ⟨_, rfl, ?_⟩))
              go_ret
              exact ⟨by first | rfl | (simp [errW_none, errW_some] <;> rfl) | (simp [*, errW_none, errW_some] <;> rfl), by repeat (first | (with_reducible first | exact HB.out | apply below_alloc | apply pw_below_drewN | apply below_drew1 | refine below_set ?_ GE122.out | refine below_set ?_ GE123.out) | exact HB.out)⟩
             ·
              rw [if_neg c82] at H
              have c82b0 : (a1_0 == 12) = false := beq_eq_false_iff_ne.mpr c82
              have c82b1 : (a1_0 != 12) = true := bne_iff_ne.mpr c82
              by_cases c89 : a1_0 = 13
              ·
               rw [if_pos c89] at H
               have c89b0 : (a1_0 == 13) = true := beq_iff_eq.mpr c89
               have c89b1 : (a1_0 != 13) = false := bne_eq_false_iff_eq.mpr c89
               clear c89
               replace H := Option.bind_eq_some_iff.mp H
               obtain ⟨t153, A900, H⟩ := H
               replace H : ((check_one.f t125 t153).bind fun t154 => (some t154)) = some r := H
               have A90 := Aside0.mk A900
               clear A900
               replace H := Option.bind_eq_some_iff.mp H
               obtain ⟨t154, A910, H⟩ := H
               replace H : (some t154) = some r := H
               have A91 := Aside0.mk A910
               clear A910
               obtain rfl := Option.some.inj H
               have hnb92 := NB122_123.out
               have hnc92 := NB123_122.out
               have hcz93_0 : wc.cell? ⟨gb122, 0, none⟩ = some (.slice A0_0 l0_0.length c0_0) := (blk_cell BK122.out 0).trans rfl
               have hcz93_1 : wc.cell? ⟨gb122, 1, none⟩ = some (.string a0_1) := (blk_cell BK122.out 1).trans rfl
               have hcz93_2 : wc.cell? ⟨gb122, 2, none⟩ = some (.string a0_2) := (blk_cell BK122.out 2).trans rfl
               have hcz93_3 : wc.cell? ⟨gb122, 3, none⟩ = some (.slice A0_3 l0_3.length c0_3) := (blk_cell BK122.out 3).trans rfl
               have hfz93_0 := blk_frozen BK122.out 0
               have hfz93_1 := blk_frozen BK122.out 1
               have hfz93_2 := blk_frozen BK122.out 2
               have hfz93_3 := blk_frozen BK122.out 3
               have hcz94_0 : wc.cell? ⟨gb123, 0, none⟩ = some (.int .u8 a1_0) := (blk_cell BK123.out 0).trans rfl
               have hcz94_1 : wc.cell? ⟨gb123, 1, none⟩ = some (.int .u8 a1_1) := (blk_cell BK123.out 1).trans rfl
               have hcz94_2 : wc.cell? ⟨gb123, 2, none⟩ = some (.int .u8 a1_2) := (blk_cell BK123.out 2).trans rfl
               have hcz94_3 : wc.cell? ⟨gb123, 3, none⟩ = some (.int .u8 a1_3) := (blk_cell BK123.out 3).trans rfl
               have hcz94_4 : wc.cell? ⟨gb123, 4, none⟩ = some (.int .i64 a1_4) := (blk_cell BK123.out 4).trans rfl
               have hfz94_0 := blk_frozen BK123.out 0
               have hfz94_1 := blk_frozen BK123.out 1
               have hfz94_2 := blk_frozen BK123.out 2
               have hfz94_3 := blk_frozen BK123.out 3
               have hfz94_4 := blk_frozen BK123.out 4
               go_wp2_with (first | ((with_reducible refine gate_callee (f := 59) rfl ?_); refine goesL_ (some 115) rfl rfl Tryd.func59 (by kernel_rfl) rfl #[.agg #[.slice A0_0 l0_0.length c0_0, .string a0_1, .string a0_2, .slice A0_3 l0_3.length c0_3], .int .u8 a1_1] rfl (by (try simp only [List.map_toArray, List.map_cons, List.map_nil]); first | done | rfl | (simp only [List.length_drop, List.length_take]; rfl)) ?_; (with_reducible refine (check_Glob.calls kj28 _ _ l0_0 a0_1 a0_2 _ _ l0_3 a1_1 t153 _ ?side1 ?side2 ?side3 ?side4 A90.out).mono ?_); (case side1 => repeat (first | exact (Kd.C_below HR0_0.out HB.out) | (with_reducible refine Kd.C_alloc ?_ _) | (with_reducible refine Kd.C_drewN ?_ _) | (with_reducible refine Kd.C_drew ?_))); (case side2 => exact HC0_0.out); (case side3 => repeat (first | exact (Kd.C_below HR0_3.out HB.out) | (with_reducible refine Kd.C_alloc ?_ _) | (with_reducible refine Kd.C_drewN ?_ _) | (with_reducible refine Kd.C_drew ?_))); (case side4 => exact HC0_3.out); rintro e w95 ⟨rfl, hb⟩; refine ⟨_, rfl, ?_⟩; have n0_ := Aside0.mk (blk_below (g := gb122) (o := .cells #[.slice A0_0 l0_0.length c0_0, .string a0_1, .string a0_2, .slice A0_3 l0_3.length c0_3] 25 (0, 0)) (by (with_reducible repeat (first | refine blk_drewN ?_ _ | refine blk_drew ?_ | refine blk_alloc ?_ _)); exact BK122.out) hb); have n1_ := Aside0.mk (blk_below (g := gb123) (o := .cells #[.int .u8 a1_0, .int .u8 a1_1, .int .u8 a1_2, .int .u8 a1_3, .int .i64 a1_4] 55 (0, 0)) (by (with_reducible repeat (first | refine blk_drewN ?_ _ | refine blk_drew ?_ | refine blk_alloc ?_ _)); exact BK123.out) hb); have n2_ := Aside0.mk (below_step (by repeat (first | (with_reducible first | exact HB.out | apply below_alloc | apply pw_below_drewN | apply below_drew1 | refine below_set ?_ GE122.out | refine below_set ?_ GE123.out) | exact HB.out)) hb); clear BK122; clear BK123; clear HB; have BK122 := n0_; have BK123 := n1_; have HB := n2_; clear n0_ n1_ n2_; (try clear hb); (try clear hb2); (try clear hk); (try clear hi)) | ((with_reducible refine gate_callee (f := 56) rfl ?_); refine goesL_ (some 116) rfl rfl Tryd.func56 (by kernel_rfl) rfl #[.int .i64 t125, .int .i64 t153] rfl (by (try simp only [List.map_toArray, List.map_cons, List.map_nil]); first | done | rfl | (simp only [List.length_drop, List.length_take]; rfl)) ?_; (with_reducible refine (check_one.calls t125 t153 t154 _ A91.out).mono ?_); rintro e w' ⟨rfl, ⟨nd, rfl⟩⟩; refine ⟨_, rfl, ?_⟩))
               go_ret
               exact ⟨by first | rfl | (simp [errW_none, errW_some] <;> rfl) | (simp [*, errW_none, errW_some] <;> rfl), by repeat (first | (with_reducible first | exact HB.out | apply below_alloc | apply pw_below_drewN | apply below_drew1 | refine below_set ?_ GE122.out | refine below_set ?_ GE123.out) | exact HB.out)⟩
              ·
               rw [if_neg c89] at H
               have c89b0 : (a1_0 == 13) = false := beq_eq_false_iff_ne.mpr c89
               have c89b1 : (a1_0 != 13) = true := bne_iff_ne.mpr c89
               by_cases c96 : a1_0 = 15
               ·
                rw [if_pos c96] at H
                have c96b0 : (a1_0 == 15) = true := beq_iff_eq.mpr c96
                have c96b1 : (a1_0 != 15) = false := bne_eq_false_iff_eq.mpr c96
                clear c96
                obtain ⟨y155, hy155⟩ : ∃ y_ : List Int, y_ = (([a1_1] : List Int)) := ⟨_, rfl⟩
                replace H : ((check_ints.f kj28 y155).bind fun t158 => (if t158 = true then ((check_Local.f kj28 l0_0 a0_1 a0_2 l0_3 a1_3).bind fun t159 => ((check_one.f t125 t159).bind fun t160 => (some t160))) else (some false))) = some r := by first | (rw [hy155]; with_reducible exact H) | (have H2_ := (Option.bind_some _ _).symm.trans H; rw [hy155]; with_reducible exact H2_) | (have H2_ := (Option.bind_some _ _).symm.trans H; with_reducible exact H2_) | with_reducible exact H | (rw [hy155]; exact H) | exact H
                have Ny155 := Aside0.mk hy155
                clear hy155
                replace H := Option.bind_eq_some_iff.mp H
                obtain ⟨t158, A970, H⟩ := H
                replace H : (if t158 = true then ((check_Local.f kj28 l0_0 a0_1 a0_2 l0_3 a1_3).bind fun t159 => ((check_one.f t125 t159).bind fun t160 => (some t160))) else (some false)) = some r := H
                have A97 := Aside0.mk A970
                clear A970
                by_cases c98 : t158 = true
                ·
                 subst c98
                 have H1 : ((check_Local.f kj28 l0_0 a0_1 a0_2 l0_3 a1_3).bind fun t159 => ((check_one.f t125 t159).bind fun t160 => (some t160))) = some r := by rw [if_pos rfl] at H; exact H
                 clear H
                 have H := H1
                 clear H1
                 replace H := Option.bind_eq_some_iff.mp H
                 obtain ⟨t159, A990, H⟩ := H
                 replace H : ((check_one.f t125 t159).bind fun t160 => (some t160)) = some r := H
                 have A99 := Aside0.mk A990
                 clear A990
                 replace H := Option.bind_eq_some_iff.mp H
                 obtain ⟨t160, A1000, H⟩ := H
                 replace H : (some t160) = some r := H
                 have A100 := Aside0.mk A1000
                 clear A1000
                 obtain rfl := Option.some.inj H
                 have hnb101 := NB123_122.out
                 have hnc101 := NB122_123.out
                 have hcz102_0 : wc.cell? ⟨gb123, 0, none⟩ = some (.int .u8 a1_0) := (blk_cell BK123.out 0).trans rfl
                 have hcz102_1 : wc.cell? ⟨gb123, 1, none⟩ = some (.int .u8 a1_1) := (blk_cell BK123.out 1).trans rfl
                 have hcz102_2 : wc.cell? ⟨gb123, 2, none⟩ = some (.int .u8 a1_2) := (blk_cell BK123.out 2).trans rfl
                 have hcz102_3 : wc.cell? ⟨gb123, 3, none⟩ = some (.int .u8 a1_3) := (blk_cell BK123.out 3).trans rfl
                 have hcz102_4 : wc.cell? ⟨gb123, 4, none⟩ = some (.int .i64 a1_4) := (blk_cell BK123.out 4).trans rfl
                 have hfz102_0 := blk_frozen BK123.out 0
                 have hfz102_1 := blk_frozen BK123.out 1
                 have hfz102_2 := blk_frozen BK123.out 2
                 have hfz102_3 := blk_frozen BK123.out 3
                 have hfz102_4 := blk_frozen BK123.out 4
                 go_wp2_with (first | ((with_reducible refine gate_dst (N := 121) rfl ?_); refine Kd.R_lit (Kd.int .u8) _ 5 ?hg (N := 121) ?hd (xs := ([a1_1] : List Int)) (inner := [.int .u8 a1_1]) (ok := fun _ => True) (okp := fun _ => True) ?hr ?hp (fun _ hk => hk) trivial (Below.refl _ _) (Nat.le_refl _) (by simp) ?_; (case hd => rfl); (case hg => rfl); (case hr => first | (go_simp; done) | (go_simp; rfl)); (case hp => exact (Reps.one (show Kd.M (Kd.int .u8) _ _ _ a1_1 [.int .u8 a1_1] from rfl) (Reps.none _ _))); intro v156 w103 ho104 hb hg_ hnew_; clear hg_ hnew_; (first | rw [← Ny155.out] at ho104 | (simp only [Int.reduceToNat] at ho104; rw [← Ny155.out] at ho104)); have n0_ := Aside0.mk (Kd.R_lower ho104 (below_size (by repeat (first | (with_reducible first | exact HB.out | apply below_alloc | apply pw_below_drewN | apply below_drew1 | refine below_set ?_ GE122.out | refine below_set ?_ GE123.out) | exact HB.out)))); have n1_ := Aside0.mk (blk_below (g := gb122) (o := .cells #[.slice A0_0 l0_0.length c0_0, .string a0_1, .string a0_2, .slice A0_3 l0_3.length c0_3] 25 (0, 0)) (by (with_reducible repeat (first | refine blk_drewN ?_ _ | refine blk_drew ?_ | refine blk_alloc ?_ _)); exact BK122.out) hb); have n2_ := Aside0.mk (blk_below (g := gb123) (o := .cells #[.int .u8 a1_0, .int .u8 a1_1, .int .u8 a1_2, .int .u8 a1_3, .int .i64 a1_4] 55 (0, 0)) (by (with_reducible repeat (first | refine blk_drewN ?_ _ | refine blk_drew ?_ | refine blk_alloc ?_ _)); exact BK123.out) hb); have n3_ := Aside0.mk (below_step (by repeat (first | (with_reducible first | exact HB.out | apply below_alloc | apply pw_below_drewN | apply below_drew1 | refine below_set ?_ GE122.out | refine below_set ?_ GE123.out) | exact HB.out)) hb); clear BK122; clear BK123; clear HB; have HO157 := n0_; have BK122 := n1_; have BK123 := n2_; have HB := n3_; clear n0_ n1_ n2_ n3_; clear hb ho104; obtain ⟨Ao105, co105, eo105⟩ := Kd.R_slice HO157.out; subst eo105) | ((with_reducible refine gate_callee (f := 55) rfl ?_); refine goesL_ (some 122) rfl rfl Tryd.func55 (by kernel_rfl) rfl #[.slice Ao105 y155.length co105] rfl (by (try simp only [List.map_toArray, List.map_cons, List.map_nil]); first | done | rfl | (simp only [List.length_drop, List.length_take]; rfl)) ?_; (with_reducible refine (check_ints.calls kj28 _ _ y155 true _ ?side1 ?side2 A97.out).mono ?_); (case side1 => repeat (first | exact (Kd.R_reads' HO157.out).2.2 | (with_reducible refine Kd.C_alloc ?_ _) | (with_reducible refine Kd.C_drewN ?_ _) | (with_reducible refine Kd.C_drew ?_))); (case side2 => exact (Kd.R_reads' HO157.out).2.1); rintro e w' ⟨rfl, ⟨nd, rfl⟩⟩; refine ⟨_, rfl, ?_⟩; have hcz106_0 : w103.cell? ⟨gb122, 0, none⟩ = some (.slice A0_0 l0_0.length c0_0) := (blk_cell BK122.out 0).trans rfl; have hcz106_1 : w103.cell? ⟨gb122, 1, none⟩ = some (.string a0_1) := (blk_cell BK122.out 1).trans rfl; have hcz106_2 : w103.cell? ⟨gb122, 2, none⟩ = some (.string a0_2) := (blk_cell BK122.out 2).trans rfl; have hcz106_3 : w103.cell? ⟨gb122, 3, none⟩ = some (.slice A0_3 l0_3.length c0_3) := (blk_cell BK122.out 3).trans rfl; have hfz106_0 := blk_frozen BK122.out 0; have hfz106_1 := blk_frozen BK122.out 1; have hfz106_2 := blk_frozen BK122.out 2; have hfz106_3 := blk_frozen BK122.out 3; have hcz107_0 : w103.cell? ⟨gb123, 0, none⟩ = some (.int .u8 a1_0) := (blk_cell BK123.out 0).trans rfl; have hcz107_1 : w103.cell? ⟨gb123, 1, none⟩ = some (.int .u8 a1_1) := (blk_cell BK123.out 1).trans rfl; have hcz107_2 : w103.cell? ⟨gb123, 2, none⟩ = some (.int .u8 a1_2) := (blk_cell BK123.out 2).trans rfl; have hcz107_3 : w103.cell? ⟨gb123, 3, none⟩ = some (.int .u8 a1_3) := (blk_cell BK123.out 3).trans rfl; have hcz107_4 : w103.cell? ⟨gb123, 4, none⟩ = some (.int .i64 a1_4) := (blk_cell BK123.out 4).trans rfl; have hfz107_0 := blk_frozen BK123.out 0; have hfz107_1 := blk_frozen BK123.out 1; have hfz107_2 := blk_frozen BK123.out 2; have hfz107_3 := blk_frozen BK123.out 3; have hfz107_4 := blk_frozen BK123.out 4) | (go_at_call 36; (with_reducible refine (check_Local.calls kj28 _ _ l0_0 a0_1 a0_2 _ _ l0_3 a1_3 t159 _ ?side1 ?side2 ?side3 ?side4 A99.out).mono ?_); (case side1 => repeat (first | exact (Kd.C_below HR0_0.out (by repeat (first | (with_reducible first | exact HB.out | apply below_alloc | apply pw_below_drewN | apply below_drew1 | refine below_set ?_ GE122.out | refine below_set ?_ GE123.out) | exact HB.out))) | (with_reducible refine Kd.C_alloc ?_ _) | (with_reducible refine Kd.C_drewN ?_ _) | (with_reducible refine Kd.C_drew ?_))); (case side2 => exact HC0_0.out); (case side3 => repeat (first | exact (Kd.C_below HR0_3.out (by repeat (first | (with_reducible first | exact HB.out | apply below_alloc | apply pw_below_drewN | apply below_drew1 | refine below_set ?_ GE122.out | refine below_set ?_ GE123.out) | exact HB.out))) | (with_reducible refine Kd.C_alloc ?_ _) | (with_reducible refine Kd.C_drewN ?_ _) | (with_reducible refine Kd.C_drew ?_))); (case side4 => exact HC0_3.out); rintro e w108 ⟨rfl, hb⟩; have n0_ := Aside0.mk (Kd.R_below (by (with_reducible repeat (first | apply Kd.R_alloc | apply Kd.R_drewN | apply Kd.R_drew)); exact HO157.out) hb); have n1_ := Aside0.mk (blk_below (g := gb122) (o := .cells #[.slice A0_0 l0_0.length c0_0, .string a0_1, .string a0_2, .slice A0_3 l0_3.length c0_3] 25 (0, 0)) (by (with_reducible repeat (first | refine blk_drewN ?_ _ | refine blk_drew ?_ | refine blk_alloc ?_ _)); exact BK122.out) hb); have n2_ := Aside0.mk (blk_below (g := gb123) (o := .cells #[.int .u8 a1_0, .int .u8 a1_1, .int .u8 a1_2, .int .u8 a1_3, .int .i64 a1_4] 55 (0, 0)) (by (with_reducible repeat (first | refine blk_drewN ?_ _ | refine blk_drew ?_ | refine blk_alloc ?_ _)); exact BK123.out) hb); have n3_ := Aside0.mk (below_step (by repeat (first | (with_reducible first | exact HB.out | apply below_alloc | apply pw_below_drewN | apply below_drew1 | refine below_set ?_ GE122.out | refine below_set ?_ GE123.out) | exact HB.out)) hb); clear HO157; clear BK122; clear BK123; clear HB; have HO157 := n0_; have BK122 := n1_; have BK123 := n2_; have HB := n3_; clear n0_ n1_ n2_ n3_; (try clear hb); (try clear hb2); (try clear hk); (try clear hi)) | (go_at_call 56; (with_reducible refine (check_one.calls t125 t159 t160 _ A100.out).mono ?_); rintro e w' ⟨rfl, ⟨nd, rfl⟩⟩))
                 go_ret
                 exact ⟨by first | rfl | (simp [errW_none, errW_some] <;> rfl) | (simp [*, errW_none, errW_some] <;> rfl), by repeat (first | (with_reducible first | exact HB.out | apply below_alloc | apply pw_below_drewN | apply below_drew1 | refine below_set ?_ GE122.out | refine below_set ?_ GE123.out) | exact HB.out)⟩
                ·
                 replace c98 := Bool.eq_false_iff.mpr c98
                 subst c98
                 have H1 : (some false) = some r := by rw [if_neg (show ¬ (false = true) by decide)] at H; exact H
                 clear H
                 have H := H1
                 clear H1
                 obtain rfl := Option.some.inj H
                 have hnb109 := NB123_122.out
                 have hnc109 := NB122_123.out
                 have hcz110_0 : wc.cell? ⟨gb123, 0, none⟩ = some (.int .u8 a1_0) := (blk_cell BK123.out 0).trans rfl
                 have hcz110_1 : wc.cell? ⟨gb123, 1, none⟩ = some (.int .u8 a1_1) := (blk_cell BK123.out 1).trans rfl
                 have hcz110_2 : wc.cell? ⟨gb123, 2, none⟩ = some (.int .u8 a1_2) := (blk_cell BK123.out 2).trans rfl
                 have hcz110_3 : wc.cell? ⟨gb123, 3, none⟩ = some (.int .u8 a1_3) := (blk_cell BK123.out 3).trans rfl
                 have hcz110_4 : wc.cell? ⟨gb123, 4, none⟩ = some (.int .i64 a1_4) := (blk_cell BK123.out 4).trans rfl
                 have hfz110_0 := blk_frozen BK123.out 0
                 have hfz110_1 := blk_frozen BK123.out 1
                 have hfz110_2 := blk_frozen BK123.out 2
                 have hfz110_3 := blk_frozen BK123.out 3
                 have hfz110_4 := blk_frozen BK123.out 4
                 go_wp2_with (first | ((with_reducible refine gate_dst (N := 121) rfl ?_); refine Kd.R_lit (Kd.int .u8) _ 5 ?hg (N := 121) ?hd (xs := ([a1_1] : List Int)) (inner := [.int .u8 a1_1]) (ok := fun _ => True) (okp := fun _ => True) ?hr ?hp (fun _ hk => hk) trivial (Below.refl _ _) (Nat.le_refl _) (by simp) ?_; (case hd => rfl); (case hg => rfl); (case hr => first | (go_simp; done) | (go_simp; rfl)); (case hp => exact (Reps.one (show Kd.M (Kd.int .u8) _ _ _ a1_1 [.int .u8 a1_1] from rfl) (Reps.none _ _))); intro v156 w111 ho112 hb hg_ hnew_; clear hg_ hnew_; (first | rw [← Ny155.out] at ho112 | (simp only [Int.reduceToNat] at ho112; rw [← Ny155.out] at ho112)); have n0_ := Aside0.mk (Kd.R_lower ho112 (below_size (by repeat (first | (with_reducible first | exact HB.out | apply below_alloc | apply pw_below_drewN | apply below_drew1 | refine below_set ?_ GE122.out | refine below_set ?_ GE123.out) | exact HB.out)))); have n1_ := Aside0.mk (blk_below (g := gb122) (o := .cells #[.slice A0_0 l0_0.length c0_0, .string a0_1, .string a0_2, .slice A0_3 l0_3.length c0_3] 25 (0, 0)) (by (with_reducible repeat (first | refine blk_drewN ?_ _ | refine blk_drew ?_ | refine blk_alloc ?_ _)); exact BK122.out) hb); have n2_ := Aside0.mk (blk_below (g := gb123) (o := .cells #[.int .u8 a1_0, .int .u8 a1_1, .int .u8 a1_2, .int .u8 a1_3, .int .i64 a1_4] 55 (0, 0)) (by (with_reducible repeat (first | refine blk_drewN ?_ _ | refine blk_drew ?_ | refine blk_alloc ?_ _)); exact BK123.out) hb); have n3_ := Aside0.mk (below_step (by repeat (first | (with_reducible first | exact HB.out | apply below_alloc | apply pw_below_drewN | apply below_drew1 | refine below_set ?_ GE122.out | refine below_set ?_ GE123.out) | exact HB.out)) hb); clear BK122; clear BK123; clear HB; have HO157 := n0_; have BK122 := n1_; have BK123 := n2_; have HB := n3_; clear n0_ n1_ n2_ n3_; clear hb ho112; obtain ⟨Ao113, co113, eo113⟩ := Kd.R_slice HO157.out; subst eo113) | ((with_reducible refine gate_callee (f := 55) rfl ?_); refine goesL_ (some 122) rfl rfl Tryd.func55 (by kernel_rfl) rfl #[.slice Ao113 y155.length co113] rfl (by (try simp only [List.map_toArray, List.map_cons, List.map_nil]); first | done | rfl | (simp only [List.length_drop, List.length_take]; rfl)) ?_; (with_reducible refine (check_ints.calls kj28 _ _ y155 false _ ?side1 ?side2 A97.out).mono ?_); (case side1 => repeat (first | exact (Kd.R_reads' HO157.out).2.2 | (with_reducible refine Kd.C_alloc ?_ _) | (with_reducible refine Kd.C_drewN ?_ _) | (with_reducible refine Kd.C_drew ?_))); (case side2 => exact (Kd.R_reads' HO157.out).2.1); rintro e w' ⟨rfl, ⟨nd, rfl⟩⟩; refine ⟨_, rfl, ?_⟩))
                 go_ret
                 exact ⟨by first | rfl | (simp [errW_none, errW_some] <;> rfl) | (simp [*, errW_none, errW_some] <;> rfl), by repeat (first | (with_reducible first | exact HB.out | apply below_alloc | apply pw_below_drewN | apply below_drew1 | refine below_set ?_ GE122.out | refine below_set ?_ GE123.out) | exact HB.out)⟩
               ·
                rw [if_neg c96] at H
                have c96b0 : (a1_0 == 15) = false := beq_eq_false_iff_ne.mpr c96
                have c96b1 : (a1_0 != 15) = true := bne_iff_ne.mpr c96
                obtain rfl := Option.some.inj H
                go_wp2
                go_ret
                exact ⟨by first | rfl | (simp [errW_none, errW_some] <;> rfl) | (simp [*, errW_none, errW_some] <;> rfl), by repeat (first | (with_reducible first | exact HB.out | apply below_alloc | apply pw_below_drewN | apply below_drew1 | refine below_set ?_ GE122.out | refine below_set ?_ GE123.out) | exact HB.out)⟩

end Go.Proofs.YtlemecdddhdagaaDoor.P
