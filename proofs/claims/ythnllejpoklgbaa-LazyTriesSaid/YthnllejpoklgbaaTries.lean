/-
  LazyTries: THE WALK.
-/
import Derived.Test.YthnllejpoklgbaaAlive
import Derived.Test.YthnllejpoklgbaaOpen
import Derived.LoopTactic
import Derived.BigQuiet
import Derived.Deep.QuietTactic
namespace Go.Proofs.Ythnllejpoklgbaa.lazyTries
open Go.RowKit

set_option maxRecDepth 100000 in
set_option maxHeartbeats 1600000 in
theorem walk (a b : Int) (A : Option Addr) (len cap : Nat) (zs : List Bool) (w : World) (_ha : (Lit.int .i64 a).wf = true) (_hb : (Lit.int .i64 b).wf = true) (hl : len ≤ 9223372036854775807) (hlen : zs.length = len)
    (hz : Els w (fun x => [Value.bool x]) 1 A zs) :
    Calls Try.prog 9 #[.int .i64 a, .int .i64 b, .slice A len cap] w fun e w' => e = .returned (.bool true) ∧ Below w.heap.size w w' := by
  have HZ := Lib.hid hz
  have HL := Lib.hid hlen
  clear hz hlen _ha _hb
  have hnot : ∀ (x : Bool) (w : World), (Op.unary .not (.bool x)).run Try.prog w = .ok (.bool (!x)) w := fun _ _ => rfl
  by_cases hab : a = b
  · have hab1 : (a == b) = true := beq_iff_eq.2 hab
    clear hab
    go_enter Try.func9, Try.ntmps9
    go_wp2_with fail
    refine (alive_calls _).mono ?_
    rintro e w1 ⟨rfl, b1⟩
    go_wp2
    go_ret
    exact ⟨rfl, b1.alloc b1.size _⟩
  have hab1 : (a == b) = false := beq_eq_false_iff_ne.2 hab
  have HAB := Lib.hid hab
  clear hab
  by_cases h100 : 100 < len
  · have h100' : decide (100 < (len : Int)) = true := decide_eq_true (by omega)
    go_enter Try.func9, Try.ntmps9
    go_wp2_with fail
    refine (alive_calls _).mono ?_
    rintro e w1 ⟨rfl, b1⟩
    go_wp2
    go_ret
    exact ⟨rfl, b1.alloc b1.size _⟩
  have h100' : decide (100 < (len : Int)) = false := decide_eq_false (by omega)
  go_enter Try.func9, Try.ntmps9
  go_wp2_with fail
  refine (alive_calls _).mono ?_
  rintro e w1 ⟨rfl, b1⟩
  obtain ⟨K, hK⟩ : ∃ K, w1.heap.size = K := ⟨_, rfl⟩
  have n1 : Blk (w1.alloc (.cells #[.int .i64 0] 30)) K 30 #[.int .i64 0] := by have := Blk.new w1 30 #[.int .i64 0]; rw [hK] at this; exact this
  have b2 : Below w.heap.size w (w1.alloc (.cells #[.int .i64 0] 30)) := b1.alloc b1.size _
  have hBK : w.heap.size ≤ K := hK ▸ b1.size
  have HK := Lib.hid hK
  clear hK b1
  go_wp2_with fail
  rw [HK.out]
  generalize w1.alloc (.cells #[.int .i64 0] 30) = w2 at *
  refine (swap_blk K 0 a _ n1).mono ?_
  rintro e w3 ⟨rfl, o3, n3⟩
  have b3 : Below w.heap.size w w3 := b2.trans (o3.toBelow b2.size (fun i hi e => by omega))
  clear b2 o3 n1
  go_wp2_with fail
  go_loopw [8, 25] (fun v i wr => ∃ (k : Nat) (f : Bool), k ≤ len ∧ v = .bool f ∧ i = .int .i64 k ∧ Blk wr K 30 #[.int .i64 (if f then a else b)] ∧ Below w.heap.size w wr) (fun _ i _ => len - (intOf i).toNat)
  case atStart => exact ⟨0, true, Nat.zero_le _, rfl, rfl, n3, b3⟩
  case round =>
    obtain ⟨k, f, hk, rfl, rfl, hb, hB⟩ := hrel
    clear n3 b3
    by_cases hlt : k < len
    · obtain ⟨back, hback⟩ : ∃ x, zs[k]? = some x := ⟨_, List.getElem?_eq_getElem (by rw [HL.out]; exact hlt)⟩
      obtain ⟨ad, rfl, hlt', hc0⟩ := HZ.out k back hback
      have hc : wr.cell? (ad.add k) = some (.bool back) := by
        rw [hB.cell (by rw [block_add]; exact hlt')]
        have := hc0 0 _ rfl
        rwa [Nat.mul_one] at this
      clear hc0 hback
      cases back with
      | true =>
        go_wp2_with fail
        refine (try_blk K _ b a _ hb).mono ?_
        rintro e w4 ⟨rfl, o4, n4⟩
        have b4 : Below w.heap.size w w4 := hB.trans (o4.toBelow hB.size (fun i hi e => by omega))
        clear o4 hb hB
        have n5 : Blk w4 K 30 #[.int .i64 (if true then a else b)] := by cases f <;> simpa [HAB.out] using n4
        clear n4
        have q : decide ((if f = true then a else b) = b) = !f := by have := HAB.out; cases f <;> simp [this]
        rw [q]
        cases f
        all_goals
          go_wp2
          go_roundw
          case rel => exact ⟨k + 1, true, by omega, rfl, by go_num, n5, b4⟩
          case measure => simp [intOf]; omega
      | false =>
        go_wp2_with fail
        refine (try_blk K _ a b _ hb).mono ?_
        rintro e w4 ⟨rfl, o4, n4⟩
        have b4 : Below w.heap.size w w4 := hB.trans (o4.toBelow hB.size (fun i hi e => by omega))
        clear o4 hb hB
        have n5 : Blk w4 K 30 #[.int .i64 (if false then a else b)] := by have h' : ¬ b = a := fun h => HAB.out h.symm; cases f <;> simpa [h'] using n4
        clear n4
        have q : decide ((if f = true then a else b) = a) = f := by have h' : ¬ b = a := fun h => HAB.out h.symm; cases f <;> simp [h']
        rw [q]
        cases f
        all_goals
          go_wp2
          go_roundw
          case rel => exact ⟨k + 1, false, by omega, rfl, by go_num, n5, b4⟩
          case measure => simp [intOf]; omega
    · go_wp2_with fail
      refine (get_blk K _ _ hb).mono ?_
      rintro e w4 ⟨rfl, rfl⟩
      have h' : (b == a) = false := beq_eq_false_iff_ne.2 fun h => HAB.out h.symm
      cases f
      all_goals
        go_wp2
        go_ret
        exact ⟨rfl, hB⟩
end Go.Proofs.Ythnllejpoklgbaa.lazyTries
