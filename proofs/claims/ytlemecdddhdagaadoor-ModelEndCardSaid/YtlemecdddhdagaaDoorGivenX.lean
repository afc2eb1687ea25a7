/-
  (*State).do where it calls load or store.
-/
import Derived.Test.YtlemecdddhdagaaDoorGivenU
namespace Go.Proofs.YtlemecdddhdagaaDoor.P
open Go.RowKit Go.Proofs.YtlemecdddhdagaaDoorW.PrintWords Go.Proofs.YtlemecdddhdagaaDoorW.PrintLast Go.Proofs.YtlemecdddhdagaaDoorW.PrintMore
set_option linter.unusedVariables false
set_option linter.unusedSimpArgs false
attribute [local go_sem ↓] Go.wp_at_zero Go.wp_at_succ


set_option maxRecDepth 100000 in
set_option maxHeartbeats 3200000 in
theorem do_8 (b : Nat) (s : St) (vO vU : Value) (a bb cc : Nat) (n r : Int) (w : World) (h : StR b s vO vU w) (p0 p1 p2 p3 : Value) (Q : World → Prop)
    (hc : ∀ W, Mid b (bump s) vO vU #[p0, p1, p2, p3] #[.int .u8 8, .int .u8 a, .int .u8 bb, .int .u8 cc, .int .i64 n] w W → Calls Tryd.prog 37 #[.pointer (some ⟨b, 0, none⟩), .agg #[.int .u8 8, .int .u8 a, .int .u8 bb, .int .u8 cc, .int .i64 n]] W fun e w' => e = .returned (.int .i64 r) ∧ Q w') :
    Calls Tryd.prog 22 #[.pointer (some ⟨b, 0, none⟩), .agg #[p0, p1, p2, p3], .agg #[.int .u8 8, .int .u8 a, .int .u8 bb, .int .u8 cc, .int .i64 n]] w fun e w' => e = .returned (.int .i64 r) ∧ Q w' := by
  have hlt := h.lt
  have hne : b ≠ w.heap.size := by omega
  have f22 := h.fr 22
  have f23 := h.fr 23
  have c22 : w.cell? ⟨b, 22, none⟩ = some (.int .i64 s.pc) := h.cell 22
  have c23 : w.cell? ⟨b, 23, none⟩ = some (.int .i64 s.steps) := h.cell 23
  have HP := Aside0.mk (mid_of (P := #[p0, p1, p2, p3]) (I := #[.int .u8 8, .int .u8 a, .int .u8 bb, .int .u8 cc, .int .i64 n]) h)
  replace hc := Lib.hid hc
  clear h
  go_enter Tryd.func22, Tryd.ntmps22
  go_upto_region 999 with (fail)
  refine (hc.out (preW b s #[p0, p1, p2, p3] #[.int .u8 8, .int .u8 a, .int .u8 bb, .int .u8 cc, .int .i64 n] w) HP.out).mono ?_
  rintro e w' ⟨rfl, hq⟩
  replace hq := Lib.hid hq
  clear f22 f23 c22 c23 hc HP
  go_wp2
  go_ret
  exact ⟨rfl, hq.out⟩


set_option maxRecDepth 100000 in
set_option maxHeartbeats 3200000 in
theorem do_10 (b : Nat) (s : St) (vO vU : Value) (a bb cc : Nat) (n r : Int) (w : World) (h : StR b s vO vU w) (p0 p1 p2 p3 : Value) (Q : World → Prop)
    (hc : ∀ W, Mid b (bump s) vO vU #[p0, p1, p2, p3] #[.int .u8 10, .int .u8 a, .int .u8 bb, .int .u8 cc, .int .i64 n] w W → Calls Tryd.prog 37 #[.pointer (some ⟨b, 0, none⟩), .agg #[.int .u8 10, .int .u8 a, .int .u8 bb, .int .u8 cc, .int .i64 n]] W fun e w' => e = .returned (.int .i64 r) ∧ Q w') :
    Calls Tryd.prog 22 #[.pointer (some ⟨b, 0, none⟩), .agg #[p0, p1, p2, p3], .agg #[.int .u8 10, .int .u8 a, .int .u8 bb, .int .u8 cc, .int .i64 n]] w fun e w' => e = .returned (.int .i64 r) ∧ Q w' := by
  have hlt := h.lt
  have hne : b ≠ w.heap.size := by omega
  have f22 := h.fr 22
  have f23 := h.fr 23
  have c22 : w.cell? ⟨b, 22, none⟩ = some (.int .i64 s.pc) := h.cell 22
  have c23 : w.cell? ⟨b, 23, none⟩ = some (.int .i64 s.steps) := h.cell 23
  have HP := Aside0.mk (mid_of (P := #[p0, p1, p2, p3]) (I := #[.int .u8 10, .int .u8 a, .int .u8 bb, .int .u8 cc, .int .i64 n]) h)
  replace hc := Lib.hid hc
  clear h
  go_enter Tryd.func22, Tryd.ntmps22
  go_upto_region 999 with (fail)
  refine (hc.out (preW b s #[p0, p1, p2, p3] #[.int .u8 10, .int .u8 a, .int .u8 bb, .int .u8 cc, .int .i64 n] w) HP.out).mono ?_
  rintro e w' ⟨rfl, hq⟩
  replace hq := Lib.hid hq
  clear f22 f23 c22 c23 hc HP
  go_wp2
  go_ret
  exact ⟨rfl, hq.out⟩


set_option maxRecDepth 100000 in
set_option maxHeartbeats 3200000 in
theorem do_9 (b : Nat) (s : St) (vO vU : Value) (a bb cc : Nat) (n r : Int) (w : World) (h : StR b s vO vU w) (p0 p1 p2 p3 : Value) (Q : World → Prop)
    (hc : ∀ W, Mid b (bump s) vO vU #[p0, p1, p2, p3] #[.int .u8 9, .int .u8 a, .int .u8 bb, .int .u8 cc, .int .i64 n] w W → Calls Tryd.prog 38 #[.pointer (some ⟨b, 0, none⟩), .agg #[.int .u8 9, .int .u8 a, .int .u8 bb, .int .u8 cc, .int .i64 n]] W fun e w' => e = .returned (.int .i64 r) ∧ Q w') :
    Calls Tryd.prog 22 #[.pointer (some ⟨b, 0, none⟩), .agg #[p0, p1, p2, p3], .agg #[.int .u8 9, .int .u8 a, .int .u8 bb, .int .u8 cc, .int .i64 n]] w fun e w' => e = .returned (.int .i64 r) ∧ Q w' := by
  have hlt := h.lt
  have hne : b ≠ w.heap.size := by omega
  have f22 := h.fr 22
  have f23 := h.fr 23
  have c22 : w.cell? ⟨b, 22, none⟩ = some (.int .i64 s.pc) := h.cell 22
  have c23 : w.cell? ⟨b, 23, none⟩ = some (.int .i64 s.steps) := h.cell 23
  have HP := Aside0.mk (mid_of (P := #[p0, p1, p2, p3]) (I := #[.int .u8 9, .int .u8 a, .int .u8 bb, .int .u8 cc, .int .i64 n]) h)
  replace hc := Lib.hid hc
  clear h
  go_enter Tryd.func22, Tryd.ntmps22
  go_upto_region 999 with (fail)
  refine (hc.out (preW b s #[p0, p1, p2, p3] #[.int .u8 9, .int .u8 a, .int .u8 bb, .int .u8 cc, .int .i64 n] w) HP.out).mono ?_
  rintro e w' ⟨rfl, hq⟩
  replace hq := Lib.hid hq
  clear f22 f23 c22 c23 hc HP
  go_wp2
  go_ret
  exact ⟨rfl, hq.out⟩


set_option maxRecDepth 100000 in
set_option maxHeartbeats 3200000 in
theorem do_11 (b : Nat) (s : St) (vO vU : Value) (a bb cc : Nat) (n r : Int) (w : World) (h : StR b s vO vU w) (p0 p1 p2 p3 : Value) (Q : World → Prop)
    (hc : ∀ W, Mid b (bump s) vO vU #[p0, p1, p2, p3] #[.int .u8 11, .int .u8 a, .int .u8 bb, .int .u8 cc, .int .i64 n] w W → Calls Tryd.prog 38 #[.pointer (some ⟨b, 0, none⟩), .agg #[.int .u8 11, .int .u8 a, .int .u8 bb, .int .u8 cc, .int .i64 n]] W fun e w' => e = .returned (.int .i64 r) ∧ Q w') :
    Calls Tryd.prog 22 #[.pointer (some ⟨b, 0, none⟩), .agg #[p0, p1, p2, p3], .agg #[.int .u8 11, .int .u8 a, .int .u8 bb, .int .u8 cc, .int .i64 n]] w fun e w' => e = .returned (.int .i64 r) ∧ Q w' := by
  have hlt := h.lt
  have hne : b ≠ w.heap.size := by omega
  have f22 := h.fr 22
  have f23 := h.fr 23
  have c22 : w.cell? ⟨b, 22, none⟩ = some (.int .i64 s.pc) := h.cell 22
  have c23 : w.cell? ⟨b, 23, none⟩ = some (.int .i64 s.steps) := h.cell 23
  have HP := Aside0.mk (mid_of (P := #[p0, p1, p2, p3]) (I := #[.int .u8 11, .int .u8 a, .int .u8 bb, .int .u8 cc, .int .i64 n]) h)
  replace hc := Lib.hid hc
  clear h
  go_enter Tryd.func22, Tryd.ntmps22
  go_upto_region 999 with (fail)
  refine (hc.out (preW b s #[p0, p1, p2, p3] #[.int .u8 11, .int .u8 a, .int .u8 bb, .int .u8 cc, .int .i64 n] w) HP.out).mono ?_
  rintro e w' ⟨rfl, hq⟩
  replace hq := Lib.hid hq
  clear f22 f23 c22 c23 hc HP
  go_wp2
  go_ret
  exact ⟨rfl, hq.out⟩

end Go.Proofs.YtlemecdddhdagaaDoor.P
