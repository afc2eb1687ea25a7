/-
  LazyOnce: THE WALK: a value is made by the first who asks, once.
-/
import Derived.Test.YthnllejpoklgbaaAlive
import Derived.LoopTactic
import Derived.Outline
namespace Go.Proofs.Ythnllejpoklgbaa.lazyOnce
open Go.RowKit

/-- 'func() int64 { calls++; n += by; return n }'. -/
theorem once_fun (c d b : Nat) (hcd : c ≠ d) (x y z : Int) (w : World) (hc : Blk w c 3 #[.int .i64 x]) (hd : Blk w d 2 #[.int .i64 y]) (hb : Blk w b 2 #[.int .i64 z]) (hbc : b ≠ c) :
    Calls Try.prog 20 #[.pointer (some ⟨c, 0, none⟩), .pointer (some ⟨d, 0, none⟩), .pointer (some ⟨b, 0, none⟩)] w fun e w' => e = .returned (.int .i64 (wrap64 (y + z))) ∧ (w.setCell ⟨c, 0, none⟩ (.int .i64 (wrap64 (x + 1)))).setCell ⟨d, 0, none⟩ (.int .i64 (wrap64 (y + z))) = w' := by
  have c0 : w.cell? ⟨c, 0, none⟩ = some (.int .i64 x) := (hc.cell 0).trans rfl
  have z0 := hc.frozen 0
  have hd1 := hd.set_other ⟨c, 0, none⟩ (.int .i64 (wrap64 (x + 1))) (Ne.symm hcd)
  have hb1 := hb.set_other ⟨c, 0, none⟩ (.int .i64 (wrap64 (x + 1))) hbc
  have d0 : (w.setCell ⟨c, 0, none⟩ (.int .i64 (wrap64 (x + 1)))).cell? ⟨d, 0, none⟩ = some (.int .i64 y) := (hd1.cell 0).trans rfl
  have e0 : (w.setCell ⟨c, 0, none⟩ (.int .i64 (wrap64 (x + 1)))).cell? ⟨b, 0, none⟩ = some (.int .i64 z) := (hb1.cell 0).trans rfl
  have y0 := hd1.frozen 0
  have r0 := (hd1.set 0 (.int .i64 (wrap64 (y + z)))).cell 0
  go_enter Try.func20, Try.ntmps20
  go_wp2
  go_ret
  exact ⟨rfl, rfl⟩

/-- What the four variables hold, before and after the value was made. -/
structure St (c d b v : Nat) (first by_ : Int) (made : Bool) (w : World) : Prop where
  hb : Blk w b 2 #[.int .i64 by_]
  hc : Blk w c 3 #[.int .i64 (if made then 1 else 0)]
  hd : Blk w d 2 #[.int .i64 (if made then wrap64 (first + by_) else first)]
  hv : Blk w v 92 #[.int .u32 (if made then 1 else 0), .int .i32 0, .int .u32 0, .func (.func 20) #[] #[.pointer (some ⟨c, 0, none⟩), .pointer (some ⟨d, 0, none⟩), .pointer (some ⟨b, 0, none⟩)], .int .i64 (if made then wrap64 (first + by_) else 0), .int .u32 (if made then 1 else 0)]

theorem St.own {c d b v : Nat} {first by_ : Int} {made : Bool} {w w' : World} {S : Nat → Prop} (h : St c d b v first by_ made w) (ho : Own S w w') (h1 : ¬ S c) (h2 : ¬ S d) (h3 : ¬ S b) (h4 : ¬ S v) : St c d b v first by_ made w' :=
  ⟨h.hb.own ho h3, h.hc.own ho h1, h.hd.own ho h2, h.hv.own ho h4⟩

theorem get_st (c d b v : Nat) (h1 : b < d) (h2 : d < c) (h3 : c < v) (first by_ : Int) (made : Bool) (w : World) (h : St c d b v first by_ made w) :
    Calls Try.prog 22 #[.pointer (some ⟨v, 0, none⟩)] w fun e w' => e = .returned (.tuple #[.int .i64 (wrap64 (first + by_)), .bool true]) ∧ Own (b < ·) w w' ∧ St c d b v first by_ true w' := by
  cases made with
  | true =>
    refine (get64_again v 20 _ (wrap64 (first + by_)) w h.hv).mono fun e w' ⟨he, ho⟩ => ⟨he, ho.mono fun _ _ h => h.elim, h.own ho (fun h => h) (fun h => h) (fun h => h) (fun h => h)⟩
  | false =>
    have hm : Makes v 20 #[.pointer (some ⟨c, 0, none⟩), .pointer (some ⟨d, 0, none⟩), .pointer (some ⟨b, 0, none⟩)] (.int .i64 (wrap64 (first + by_))) (fun i => i = c ∨ i = d)
        (fun W => Blk W b 2 #[.int .i64 by_] ∧ Blk W c 3 #[.int .i64 1] ∧ Blk W d 2 #[.int .i64 (wrap64 (first + by_))]) w := by
      refine ⟨fun W => by kernel_rfl, fun W hW => ?_, by omega⟩
      have hc := h.hc.own hW (by omega)
      have hd := h.hd.own hW (by omega)
      have hb := h.hb.own hW (by omega)
      refine (once_fun c d b (by omega) 0 first by_ W hc hd hb (by omega)).mono fun e W' ⟨he, hw⟩ => ?_
      subst hw
      rw [show wrap64 (0 + 1) = 1 from by unfold wrap64; omega]
      exact ⟨he, ((Own.refl _ W).set _ _ (fun _ => .inl rfl)).set _ _ (fun _ => .inr rfl), (hb.set_other _ _ (by simp; omega)).set_other _ _ (by simp; omega), (hc.set 0 (.int .i64 1)).set_other _ _ (by simp; omega), (hd.set_other _ _ (by simp; omega)).set 0 (.int .i64 (wrap64 (first + by_)))⟩
    refine (get64_first v 20 _ (wrap64 (first + by_)) 0 _ _ (fun W W' hW hR => ⟨hR.1.own hW (by omega), hR.2.1.own hW (by omega), hR.2.2.own hW (by omega)⟩) w h.hv hm (fun i hi => by have := h.hv.lt; omega)).mono fun e w' ⟨he, ho, hR, hv⟩ => ?_
    exact ⟨he, ho.mono fun i _ hi => by omega, ⟨hR.1, hR.2.1, hR.2.2, hv⟩⟩

theorem u8_range {a : Int} (h : (Lit.int .u8 a).wf = true) : 0 ≤ a ∧ a ≤ 255 := by
  simp [Lit.wf] at h
  exact h

set_option maxRecDepth 100000 in
set_option maxHeartbeats 1600000 in
theorem walk (first by_ gets : Int) (w : World) (_hf : (Lit.int .i64 first).wf = true) (_hb : (Lit.int .i64 by_).wf = true) (hg : (Lit.int .u8 gets).wf = true) :
    Calls Try.prog 4 #[.int .i64 first, .int .i64 by_, .int .u8 gets] w fun e w' => e = .returned (.bool true) ∧ Below w.heap.size w w' := by
  have hg := u8_range hg
  obtain ⟨g0, g1⟩ := hg
  clear _hf _hb
  have hmf : ∀ (fn : Fn) (first cap : Array Value) (w : World), (Instr.makeFunc fn first cap).run Try.prog w = .ok (.func fn first cap) w := fun _ _ _ _ => rfl
  have hnot : ∀ (x : Bool) (w : World), (Op.unary .not (.bool x)).run Try.prog w = .ok (.bool (!x)) w := fun _ _ => rfl
  obtain ⟨B, hB⟩ : ∃ B, w.heap.size = B := ⟨_, rfl⟩
  have HB := Lib.hid hB
  have n0 : Blk (w.alloc (.cells #[.int .i64 by_] 2)) B 2 #[.int .i64 by_] := by have := Blk.new w 2 #[.int .i64 by_]; rw [hB] at this; exact this
  have b0 : Below B w (w.alloc (.cells #[.int .i64 by_] 2)) := (Below.refl B w).alloc (by omega) _
  clear hB
  go_enter Try.func4, Try.ntmps4
  go_wp2_with fail
  rw [HB.out]
  generalize w.alloc (.cells #[.int .i64 by_] 2) = w0 at *
  refine (alive_calls _).mono ?_
  rintro e w1 ⟨rfl, b1⟩
  go_wp2_with fail
  have s0 : B < w0.heap.size := n0.lt
  obtain ⟨d, hd⟩ : ∃ d, w1.heap.size = d := ⟨_, rfl⟩
  have hBd : B < d := by have := b1.size; omega
  have nd : Blk (w1.alloc (.cells #[.int .i64 first] 2)) d 2 #[.int .i64 first] := by have := Blk.new w1 2 #[.int .i64 first]; rw [hd] at this; exact this
  have nc : Blk ((w1.alloc (.cells #[.int .i64 first] 2)).alloc (.cells #[.int .i64 0] 3)) (d + 1) 3 #[.int .i64 0] := by
    have := Blk.new (w1.alloc (.cells #[.int .i64 first] 2)) 3 #[.int .i64 0]
    rw [show (w1.alloc (.cells #[.int .i64 first] 2)).heap.size = d + 1 from by simp [hd]] at this
    exact this
  replace nd := nd.alloc (.cells #[.int .i64 0] 3)
  have nb := ((n0.below b1 s0).alloc (.cells #[.int .i64 first] 2)).alloc (.cells #[.int .i64 0] 3)
  have b2 : Below B w ((w1.alloc (.cells #[.int .i64 first] 2)).alloc (.cells #[.int .i64 0] 3)) := ((b0.trans (b1.mono (by omega))).alloc (by omega) _).alloc (by simp; omega) _
  have sz : ((w1.alloc (.cells #[.int .i64 first] 2)).alloc (.cells #[.int .i64 0] 3)).heap.size = d + 2 := by simp [hd]
  have HD := Lib.hid hd
  clear hd n0 b0 b1 s0
  rw [HD.out]
  generalize (w1.alloc (.cells #[.int .i64 first] 2)).alloc (.cells #[.int .i64 0] 3) = w2 at *
  clear HD w0 w1
  refine (new64 20 _ _).mono ?_
  rintro e w3 ⟨rfl, o3, v3⟩
  rw [sz] at v3 ⊢
  have hst : St (d + 1) d B (d + 2) first by_ false w3 := ⟨nb.own o3 (fun h => h), nc.own o3 (fun h => h), nd.own o3 (fun h => h), v3⟩
  have b3 : Below B w w3 := b2.trans (o3.toBelow (by omega) (fun _ _ h => h))
  clear sz nb nc nd o3 v3 b2
  go_wp2_with fail
  refine (made64 (d + 2) 20 _ _ _ _ _ 0 _ hst.hv).mono ?_
  rintro e w3' ⟨rfl, rfl⟩
  have q1 : (0 : Int) ≤ gets % 20 := by omega
  have q2 : gets % 20 < 20 := by omega
  go_wp2_with fail
  go_loopw [26] (fun i wr => ∃ k : Nat, (k : Int) ≤ gets % 20 ∧ i = .int .i64 k ∧ St (d + 1) d B (d + 2) first by_ (decide (0 < k)) wr ∧ Below B w wr) (fun i _ => (gets % 20 - intOf i).toNat)
  case atStart => exact ⟨0, q1, rfl, hst, b3⟩
  case round =>
    obtain ⟨k, hk, rfl, hs, hb⟩ := hrel
    clear hst b3
    by_cases hlt : (k : Int) < gets % 20
    · go_wp2_with fail
      refine (get_st (d + 1) d B (d + 2) hBd (by omega) (by omega) first by_ _ _ hs).mono ?_
      rintro e w4 ⟨rfl, o4, s4⟩
      have b4 : Below B w w4 := hb.trans (o4.toBelow (by have := hb.size; have := HB.out; omega) (fun i hi h => by omega))
      have e1 : w4.cell? ⟨B, 0, none⟩ = some (.int .i64 by_) := (s4.hb.cell 0).trans rfl
      have e2 : w4.cell? ⟨d + 1, 0, none⟩ = some (.int .i64 1) := (s4.hc.cell 0).trans rfl
      clear hs hb o4
      go_wp2_with fail
      refine (made64 (d + 2) 20 _ _ _ _ _ 1 _ s4.hv).mono ?_
      rintro e w5 ⟨rfl, rfl⟩
      go_wp2
      go_roundw
      case rel => exact ⟨k + 1, by omega, by go_num, by simpa using s4, b4⟩
      case measure => simp [intOf]; omega
    · have hkk : (k : Int) = gets % 20 := by omega
      by_cases h0 : k = 0
      · subst h0
        have e2 : wr.cell? ⟨d + 1, 0, none⟩ = some (.int .i64 0) := (hs.hc.cell 0).trans rfl
        have t1 : decide (0 < gets % 20) = false := decide_eq_false (by omega)
        have HKK := Lib.hid hkk
        clear hkk hk
        go_wp2_with fail
        refine (made64 (d + 2) 20 _ _ _ _ _ 0 _ hs.hv).mono ?_
        rintro e w5 ⟨rfl, rfl⟩
        go_wp2
        go_ret
        exact ⟨rfl, HB.out ▸ hb⟩
      · have hs' : St (d + 1) d B (d + 2) first by_ true wr := by simpa [h0, Nat.pos_of_ne_zero h0] using hs
        have e2 : wr.cell? ⟨d + 1, 0, none⟩ = some (.int .i64 1) := (hs'.hc.cell 0).trans rfl
        have t1 : decide (0 < gets % 20) = true := decide_eq_true (by omega)
        have m1 : 1 ≤ gets % 20 := by omega
        have t2 : (gets % 20 != 0) = true := by rw [bne_iff_ne]; omega
        have HKK := Lib.hid hkk
        clear hkk hs
        go_wp2_with fail
        all_goals
          refine (made64 (d + 2) 20 _ _ _ _ _ 1 _ hs'.hv).mono ?_
          rintro e w5 ⟨rfl, rfl⟩
          go_wp2
          go_ret
          exact ⟨rfl, HB.out ▸ hb⟩
end Go.Proofs.Ythnllejpoklgbaa.lazyOnce
