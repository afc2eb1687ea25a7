/-
  strconv.FormatInt AT BASE 10, GIVEN TO THE PRINT: its Lean function, its call, its table as a premise that stays.
-/
import Derived.Test.YtgfnpdfhdgenbaaDoorPx0
import Derived.Shelf.Lay
import Derived.Shelf.Strconv.Itoa3
import Derived.Lib.LaidTab
namespace Go.Proofs
open Go.Shelf
shelf_lay LaysM.n246 Nm 246 at Tryd as Tryd.laysM246
end Go.Proofs
namespace Go.Proofs.YtgfnpdfhdgenbaaDoor.P
open Go.RowKit Go.Sort Go.Lib Go.Proofs.YtgfnpdfhdgenbaaDoorW.PrintWords Go.Proofs.YtgfnpdfhdgenbaaDoorW.PrintLast Go.Proofs.YtgfnpdfhdgenbaaDoorW.PrintMore

theorem gTab : Tryd.prog.globalNamed "internal/strconv.uint64pow10" = some 0 := by kernel_rfl
def TabP (w : World) : Prop := Lib.TabIs Tryd.prog w "internal/strconv.uint64pow10" .u64 Lib.pow10Tab
theorem TabP_below {w w1 : World} (hb : Below w.heap.size w w1) (h : TabP w) : TabP w1 := by
  unfold TabP Lib.TabIs World.var? at h ⊢
  rw [gTab] at h ⊢
  simp only [Option.bind_some] at h ⊢
  have hg : 0 < w.heap.size := by
    rcases Nat.lt_or_ge 0 w.heap.size with h1 | h1
    · exact h1
    · rw [Array.getElem?_eq_none h1] at h
      cases h
  rw [hb.block 0 hg]
  exact h
abbrev tabK : Kd Unit where
  sz := 1
  E := []
  K := fun w _ cs => cs = [.int .u64 1] ∧ TabP w
  M := fun _ _ _ _ _ => False
  K_len := fun h => by rw [h.1]; rfl
  K_one := fun h u hu => by
    rw [h.1] at hu
    rw [List.mem_singleton.1 hu]
    rfl
  K_below := fun hb h => ⟨h.1, TabP_below hb h.2⟩
  K_of_M := fun h => h.elim
  M_mono := fun _ h => h
  M_bound := fun h => h
  M_move := fun _ h => h
  M_lower := fun _ h => h
def tabA : Option Addr := some ⟨0, 0, none⟩
def tabL : List Unit := [()]
theorem tab_of {w : World} (h : TabP w) : Kd.C tabK w tabA tabL.length tabL := by
  refine ⟨rfl, by decide, fun _ => ⟨_, rfl, fun j p hj => ⟨[.int .u64 1], rfl, ⟨rfl, h⟩, fun i u hu => ?_⟩⟩⟩
  have hj0 : j = 0 := by
    have := (List.getElem?_eq_some_iff.1 hj).1
    have h1 : tabL.length = 1 := rfl
    omega
  have hi : i = 0 := by
    have := (List.getElem?_eq_some_iff.1 hu).1
    simp at this
    exact this
  subst hj0 hi
  simp at hu
  subst hu
  exact h.cell gTab 0 (by decide)
theorem tab_is {w : World} (h : Kd.C tabK w tabA tabL.length tabL) : TabP w := by
  obtain ⟨_, _, hc⟩ := h
  obtain ⟨_, _, hc⟩ := hc (by decide)
  obtain ⟨_, _, hk, _⟩ := hc 0 () rfl
  exact hk.2

/-- What it computes (told at base 10 alone). -/
def strconv_FormatInt_41.f (n b : Int) : Option ByteArray :=
  if b = 10 then (if -9223372036854775808 ≤ n ∧ n ≤ 9223372036854775807 then some ⟨(Lib.itoa n).toArray⟩ else none) else none
theorem fmt_inner (n : Int) (h0 : -9223372036854775808 ≤ n) (h1 : n ≤ 9223372036854775807) (w : World) (h : TabP w) :
    Calls Tryd.prog 44 #[.int .i64 n, .int .i64 10] w fun e w' => e = .returned (.string ⟨(Lib.itoa n).toArray⟩) ∧ Below w.heap.size w w' := by
  refine (Any.internal_strconv_FormatInt_10 Tryd.laysM246 n h0 h1 w h).mono ?_
  rintro e w' ⟨rfl, k, os, rfl⟩
  refine ⟨rfl, ?_⟩
  have h1 : Below w.heap.size w (w.drewN k) := by
    exact pw_below_drewN (Below.refl _ _) k
  refine ⟨h1.os, h1.tape, h1.output, ?_, fun i hi => ?_⟩
  · have := h1.size
    unfold grow
    simp only [Array.size_append]
    omega
  · have := h1.block i hi
    have hs := h1.size
    rw [← this]
    unfold grow
    exact Array.getElem?_append_left (by omega)
set_option maxRecDepth 100000 in
set_option maxHeartbeats 3200000 in
theorem strconv_FormatInt_41.calls (a0 a1 : Int) (r : ByteArray) (w : World) (hrT : Kd.C tabK w tabA tabL.length tabL) (h : strconv_FormatInt_41.f a0 a1 = some r) :
    Calls Tryd.prog 41 #[.int .i64 a0, .int .i64 a1] w fun e w' => e = .returned (.string r) ∧ Below w.heap.size w w' := by
  unfold strconv_FormatInt_41.f at h
  by_cases hb : a1 = 10
  · rw [if_pos hb] at h
    by_cases hn : -9223372036854775808 ≤ a0 ∧ a0 ≤ 9223372036854775807
    · rw [if_pos hn] at h
      obtain rfl := Option.some.inj h
      subst hb
      have ht := tab_is hrT
      clear hrT h
      go_enter Tryd.func41, Tryd.ntmps41
      go_wp2_with (go_at_call 44; refine (fmt_inner a0 hn.1 hn.2 _ ht).mono ?_; rintro e w' ⟨rfl, bel⟩)
      all_goals go_ret
      all_goals exact ⟨rfl, bel⟩
    · rw [if_neg hn] at h
      cases h
  · rw [if_neg hb] at h
    cases h
end Go.Proofs.YtgfnpdfhdgenbaaDoor.P
