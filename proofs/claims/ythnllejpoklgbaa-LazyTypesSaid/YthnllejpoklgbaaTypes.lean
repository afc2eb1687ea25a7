/-
  LazyTypes: THE WALK: a value of texts, and one of pointers.
-/
import Derived.Test.YthnllejpoklgbaaAlive
import Derived.Test.YthnllejpoklgbaaGetStr
import Derived.Test.YthnllejpoklgbaaGetPtr
import Derived.LoopTactic
import Derived.BigQuiet
import Derived.Deep.QuietTactic
import Derived.LaidEqlPtr
namespace Go.Proofs.Ythnllejpoklgbaa.lazyTypes
open Go.RowKit

/-- 'func() string { return s }'. -/
theorem str_fun (c : Nat) (s : ByteArray) (w : World) (hc : Blk w c 9 #[.string s]) :
    Calls Try.prog 31 #[.pointer (some ⟨c, 0, none⟩)] w fun e w' => e = .returned (.string s) ∧ w = w' := by
  have c0 : w.cell? ⟨c, 0, none⟩ = some (.string s) := (hc.cell 0).trans rfl
  go_enter Try.func31, Try.ntmps31
  go_wp2
  go_ret
  exact ⟨rfl, rfl⟩

/-- 'func() *int64 { x := n; return &x }'. -/
theorem ptr_fun (c : Nat) (n : Int) (w : World) (hc : Blk w c 2 #[.int .i64 n]) :
    Calls Try.prog 33 #[.pointer (some ⟨c, 0, none⟩)] w fun e w' => e = .returned (.pointer (some ⟨w.heap.size, 0, none⟩)) ∧ w.alloc (.cells #[.int .i64 n] 2) = w' := by
  have c0 : w.cell? ⟨c, 0, none⟩ = some (.int .i64 n) := (hc.cell 0).trans rfl
  go_enter Try.func33, Try.ntmps33
  go_wp2
  go_ret
  exact ⟨rfl, rfl⟩

theorem str_makes (c v : Nat) (hne : c ≠ v) (s : ByteArray) (w : World) (hc : Blk w c 9 #[.string s]) :
    Makes v 31 #[.pointer (some ⟨c, 0, none⟩)] (.string s) (fun _ => False) (fun _ => True) w :=
  ⟨fun W => by kernel_rfl, fun W hW => (str_fun c s W (hc.own hW hne)).mono fun e W' ⟨he, hw⟩ => by
    subst hw
    exact ⟨he, Own.refl _ _, trivial⟩, fun h => h⟩

theorem ptr_makes (c v : Nat) (hne : c ≠ v) (n : Int) (w : World) (hc : Blk w c 2 #[.int .i64 n]) (hv : v < w.heap.size) :
    MakesP v 33 #[.pointer (some ⟨c, 0, none⟩)] (fun _ => False) (fun p W => ∃ b, p = some ⟨b, 0, none⟩ ∧ v < b ∧ Blk W b 2 #[.int .i64 n]) w :=
  ⟨fun W => by kernel_rfl, fun W hW => (ptr_fun c n W (hc.own hW hne)).mono fun e W' ⟨he, hw⟩ => by
    subst hw
    exact ⟨_, he, (Own.refl _ _).alloc _, _, rfl, by have := hW.size; omega, Blk.new W 2 _⟩, fun h => h⟩

theorem below_drawn {B : Nat} {w w' : World} (h : Below B w w') (n : Nat) : Below B w (w'.drewN n) := ⟨h.os, h.tape, h.output, h.size, h.block⟩

theorem eql_ptr (a : Addr) (W : World) : (binOp .eql 86 (.pointer (some a)) (.pointer (some a))).run Try.prog W = .ok (.bool true) W := by
  have hi : (Try.prog.info? 2).isSome = true := by kernel_rfl
  obtain ⟨j, hj⟩ := Option.isSome_iff_exists.1 hi
  exact run_eql_ptr_same W a Try.underlying86 hj

set_option maxRecDepth 100000 in
set_option maxHeartbeats 1600000 in
theorem walk (s : ByteArray) (n : Int) (w : World) (hs : s.size ≤ maxLen) (_hn : (Lit.int .i64 n).wf = true) :
    Calls Try.prog 11 #[.string s, .int .i64 n] w fun e w' => e = .returned (.bool true) ∧ Below w.heap.size w w' := by
  unfold maxLen at hs
  clear _hn
  have hmf : ∀ (fn : Fn) (first cap : Array Value) (w : World), (Instr.makeFunc fn first cap).run Try.prog w = .ok (.func fn first cap) w := fun _ _ _ _ => rfl
  have hnot : ∀ (x : Bool) (w : World), (Op.unary .not (.bool x)).run Try.prog w = .ok (.bool (!x)) w := fun _ _ => rfl
  obtain ⟨B, hB⟩ : ∃ B, w.heap.size = B := ⟨_, rfl⟩
  have HB := Lib.hid hB
  have ns : Blk ((w.alloc (.cells #[.string s] 9)).alloc (.cells #[.int .i64 n] 2)) B 9 #[.string s] := by
    have := (Blk.new w 9 #[.string s]).alloc (.cells #[.int .i64 n] 2)
    rw [hB] at this
    exact this
  have nn : Blk ((w.alloc (.cells #[.string s] 9)).alloc (.cells #[.int .i64 n] 2)) (B + 1) 2 #[.int .i64 n] := by
    have := Blk.new (w.alloc (.cells #[.string s] 9)) 2 #[.int .i64 n]
    rw [show (w.alloc (.cells #[.string s] 9)).heap.size = B + 1 from by simp [hB]] at this
    exact this
  have b0 : Below B w ((w.alloc (.cells #[.string s] 9)).alloc (.cells #[.int .i64 n] 2)) := ((Below.refl B w).alloc (by omega) _).alloc (by simp; omega) _
  have q0 : ((w.alloc (.cells #[.string s] 9)).alloc (.cells #[.int .i64 n] 2)).cell? ⟨B, 0, none⟩ = some (.string s) := (ns.cell 0).trans rfl
  by_cases hlen : 1000 < s.size
  · have hl : decide (1000 < (s.size : Int)) = true := decide_eq_true (by omega)
    clear hB
    go_enter Try.func11, Try.ntmps11
    go_wp2_with fail
    rw [HB.out]
    generalize (w.alloc (.cells #[.string s] 9)).alloc (.cells #[.int .i64 n] 2) = w1 at *
    refine (alive_calls _).mono ?_
    rintro e w2 ⟨rfl, b2⟩
    have b3 : Below B w w2 := b0.trans (b2.mono (by have := nn.lt; omega))
    go_wp2
    go_ret
    exact ⟨rfl, HB.out ▸ b3⟩
  · have hl : decide (1000 < (s.size : Int)) = false := decide_eq_false (by omega)
    clear hB
    go_enter Try.func11, Try.ntmps11
    go_wp2_with fail
    rw [HB.out]
    generalize (w.alloc (.cells #[.string s] 9)).alloc (.cells #[.int .i64 n] 2) = w1 at *
    have z1 := nn.lt
    refine (alive_calls _).mono ?_
    rintro e w2 ⟨rfl, b2⟩
    have b3 : Below B w w2 := b0.trans (b2.mono (by omega))
    replace ns := ns.below b2 (by omega)
    replace nn := nn.below b2 (by omega)
    clear b0 b2 z1 q0
    go_wp2_with fail
    refine (newStr 31 _ _).mono ?_
    obtain ⟨v, hv⟩ : ∃ v, w2.heap.size = v := ⟨_, rfl⟩
    rw [hv]
    have hBv : B + 1 < v := hv ▸ nn.lt
    clear hv
    rintro e w3 ⟨rfl, o3, v3⟩
    have b4 : Below B w w3 := b3.trans (o3.toBelow (by have := b3.size; have := HB.out; omega) (fun _ _ h => h))
    replace ns := ns.own o3 (fun h => h)
    replace nn := nn.own o3 (fun h => h)
    clear b3 o3
    go_wp2_with fail
    refine (newPtr 33 _ _).mono ?_
    obtain ⟨u, hu⟩ : ∃ u, w3.heap.size = u := ⟨_, rfl⟩
    rw [hu]
    have hvu : v < u := hu ▸ v3.lt
    clear hu
    rintro e w4 ⟨rfl, o4, v4⟩
    have b5 : Below B w w4 := b4.trans (o4.toBelow (by have := b4.size; have := HB.out; omega) (fun _ _ h => h))
    replace ns := ns.own o4 (fun h => h)
    replace nn := nn.own o4 (fun h => h)
    replace v3 := v3.own o4 (fun h => h)
    clear b4 o4
    go_wp2_with fail
    refine (getStr_first v 31 _ s ⟨#[]⟩ (fun _ => False) (fun _ => True) (fun _ _ _ h => h) _ v3 (str_makes B v (by omega) s _ ns) (fun _ h => h.elim)).mono ?_
    rintro e w5 ⟨rfl, o5, _, v5⟩
    have b6 : Below B w w5 := b5.trans (o5.toBelow (by have := b5.size; have := HB.out; omega) (fun i hi h => by rcases h with h | h; omega; exact h))
    replace ns := ns.own o5 (fun h => by rcases h with h | h; omega; exact h)
    replace nn := nn.own o5 (fun h => by rcases h with h | h; omega; exact h)
    replace v4 := v4.own o5 (fun h => by rcases h with h | h; omega; exact h)
    clear b5 o5 v3
    go_wp2_with fail
    refine (getPtr_first u 33 _ none (fun _ => False) (fun p W => ∃ b, p = some ⟨b, 0, none⟩ ∧ u < b ∧ Blk W b 2 #[.int .i64 n]) (fun p W W' hW h => by obtain ⟨b, hp, hb, hB⟩ := h; exact ⟨b, hp, hb, hB.own hW (by omega)⟩) _ v4 (ptr_makes (B + 1) u (by omega) n _ nn v4.lt) (fun _ h => h.elim)).mono ?_
    rintro e w6 ⟨p, rfl, o6, ⟨b, rfl, hub, hbb⟩, v6⟩
    have b7 : Below B w w6 := b6.trans (o6.toBelow (by have := b6.size; have := HB.out; omega) (fun i hi h => by rcases h with h | h; omega; exact h))
    replace ns := ns.own o6 (fun h => by rcases h with h | h; omega; exact h)
    replace nn := nn.own o6 (fun h => by rcases h with h | h; omega; exact h)
    clear b6 o6 v4
    go_wp2_with fail
    refine (getPtr_again u 33 _ _ _ v6).mono ?_
    rintro e w7 ⟨rfl, o7⟩
    have b8 : Below B w w7 := b7.trans (o7.toBelow (by have := b7.size; have := HB.out; omega) (fun i hi h => h))
    have q0 : w7.cell? ⟨B, 0, none⟩ = some (.string s) := ((ns.own o7 (fun h => h)).cell 0).trans rfl
    have q1 : w7.cell? ⟨B + 1, 0, none⟩ = some (.int .i64 n) := ((nn.own o7 (fun h => h)).cell 0).trans rfl
    have q2 : w7.cell? ⟨b, 0, none⟩ = some (.int .i64 n) := ((hbb.own o7 (fun h => h)).cell 0).trans rfl
    clear b7 o7 ns nn hbb v5 v6
    go_wp2_with fail
    have hes := eql_ptr ⟨b, 0, none⟩
    go_quiet (fail)
    go_wp2
    go_ret
    exact ⟨rfl, HB.out ▸ below_drawn b8 _⟩
end Go.Proofs.Ythnllejpoklgbaa.lazyTypes
