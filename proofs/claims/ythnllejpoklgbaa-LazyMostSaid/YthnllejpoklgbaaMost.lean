/-
  LazyMost: THE WALK.
-/
import Derived.Test.YthnllejpoklgbaaAlive
import Derived.LoopTactic
namespace Go.Proofs.Ythnllejpoklgbaa.lazyMost
open Go.RowKit

theorem block_of_add (a : Addr) (n : Nat) : (a.add n).block = a.block := by unfold Addr.add; split <;> rfl

set_option maxRecDepth 100000 in
set_option maxHeartbeats 1600000 in
theorem walk (A : Option Addr) (len cap : Nat) (zs : List Int) (w : World) (hl : len ≤ 9223372036854775807)
    (hz : ∀ k, k < len → ∃ x, A = some x ∧ x.block < w.heap.size ∧ w.cell? (x.add k) = some (.int .i64 (zs.getD k 0)) ∧ (Lit.int .i64 (zs.getD k 0)).wf = true) :
    Calls Try.prog 7 #[.slice A len cap] w fun e w' => e = .returned (.bool true) ∧ Below w.heap.size w w' := by
  have HZ := Lib.hid hz
  clear hz
  have hnot : ∀ (x : Bool) (w : World), (Op.unary .not (.bool x)).run Try.prog w = .ok (.bool (!x)) w := fun _ _ => rfl
  go_enter Try.func7, Try.ntmps7
  go_wp2_with fail
  refine (alive_calls _).mono ?_
  rintro e w1 ⟨rfl, b1⟩
  obtain ⟨K, hK⟩ : ∃ K, w1.heap.size = K := ⟨_, rfl⟩
  have n1 : Blk (w1.alloc (.cells #[.int .i64 0] 30)) K 30 #[.int .i64 0] := by have := Blk.new w1 30 #[.int .i64 0]; rw [hK] at this; exact this
  have b2 : Below w.heap.size w (w1.alloc (.cells #[.int .i64 0] 30)) := b1.alloc b1.size _
  have hBK : w.heap.size ≤ K := hK ▸ b1.size
  have HK := Lib.hid hK
  clear hK b1
  go_wp2_with fail
  · go_ret
    exact ⟨rfl, b2⟩
  rw [HK.out]
  generalize w1.alloc (.cells #[.int .i64 0] 30) = w2 at *
  go_loopw [4, 14] (fun v i wr => ∃ (k : Nat) (x : Int), k ≤ len ∧ v = .int .i64 x ∧ i = .int .i64 k ∧ Blk wr K 30 #[.int .i64 x] ∧ Below w.heap.size w wr) (fun _ i _ => len - (intOf i).toNat)
  case atStart => exact ⟨0, 0, Nat.zero_le _, rfl, rfl, n1, b2⟩
  case round =>
    obtain ⟨k, x, hk, rfl, rfl, hb, hB⟩ := hrel
    clear n1 b2
    by_cases hlt : k < len
    · obtain ⟨ad, rfl, hlt', hc0, _⟩ := HZ.out k hlt
      have hc : wr.cell? (ad.add k) = some (.int .i64 (zs.getD k 0)) := by
        rw [hB.cell (by rw [block_of_add]; exact hlt')]
        exact hc0
      clear hc0
      generalize zs.getD k 0 = n at hc
      go_wp2_with fail
      all_goals
        refine (max_blk K x n _ hb).mono ?_
        rintro e w3 ⟨rfl, o3, b3⟩
        first | (rw [show max x n = n from by omega] at b3 ⊢) | (rw [show max x n = x from by omega] at b3 ⊢)
        clear hb
        have hB3 : Below w.heap.size w w3 := hB.trans (o3.toBelow hB.size (fun i hi e => by omega))
        go_wp2_with fail
        refine (get_blk K _ _ b3).mono ?_
        rintro e w4 ⟨rfl, rfl⟩
        go_wp2
        go_roundw
        case rel => exact ⟨k + 1, _, by omega, rfl, by go_num, b3, hB3⟩
        case measure => simp [intOf]; omega
    · go_wp2
      go_ret
      exact ⟨rfl, hB⟩
end Go.Proofs.Ythnllejpoklgbaa.lazyMost
