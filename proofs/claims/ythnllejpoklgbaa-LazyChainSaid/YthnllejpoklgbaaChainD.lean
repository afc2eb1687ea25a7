/-
  LazyChain: THE WALK: values that are made of other ones are made once each, and only when they are asked for.
-/
import Derived.Test.YthnllejpoklgbaaChainC
import Derived.Test.YthnllejpoklgbaaAlive
import Derived.BigQuiet
import Derived.OwnWalk
import Derived.Deep.QuietTactic
import Derived.Deep.DrawnRows
namespace Go.Proofs.Ythnllejpoklgbaa.lazyChain
open Go.RowKit Go.Proofs.YthnllejpoklgbaaW.PrintWords
set_option linter.unusedVariables false
set_option linter.unusedSimpArgs false
attribute [local go_sem ↓] Go.wp_at_zero Go.wp_at_succ

theorem wrap_small (n : Nat) (h : n ≤ 1000) : wrap64 (n : Int) = (n : Int) := by
  unfold wrap64
  omega
theorem tmod_nat {z m j : Nat} (hz : z ≤ 1000) (h : z % m = j) : Int.tmod (wrap64 (z : Int)) (m : Int) = (j : Int) := by
  rw [wrap_small z hz, ← h]
  rfl
theorem P_succ (zs : List Int) (j : Nat) {z : Int} (h : zs.getD j 0 = z) (hz : -128 ≤ z ∧ z ≤ 127) : wrap64 (P zs j + wrap64 z) = P zs (j + 1) := by
  rw [i8_wrap hz, ← h]
  rfl
theorem P_succ' (zs : List Int) (j : Nat) {z : Int} (h : zs.getD j 0 = z) : wrap64 (P zs j + z) = P zs (j + 1) := by
  rw [← h]
  rfl


set_option maxRecDepth 100000 in
set_option maxHeartbeats 3200000 in
theorem walk0 (n0 : Int) (A : Option Addr) (len cap : Nat) (zs : List Int) (w : World) (hn0 : 0 ≤ n0 ∧ n0 ≤ 255) (hlc : len ≤ cap) (hcm : cap ≤ 9223372036854775807) (hz : Letters w A len zs) :
    Calls Try.prog 10 #[.slice A len cap, .int .u8 n0] w fun e w' => e = .returned (.bool true) ∧ Below w.heap.size w w' := by
  have HZ := Lib.hid hz
  clear hz
  have hnot : ∀ (x : Bool) (w : World), (Op.unary .not (.bool x)).run Try.prog w = .ok (.bool (!x)) w := fun _ _ => rfl
  obtain ⟨m0, rfl⟩ := Int.eq_ofNat_of_zero_le hn0.1
  by_cases h30 : 30 < len
  · have h30' : decide (30 < (len : Int)) = true := decide_eq_true (by omega)
    go_enter Try.func10, Try.ntmps10
    go_wp2_with fail
    refine (alive_calls _).mono ?_
    rintro e w1 ⟨rfl, b1⟩
    go_wp2
    go_ret
    exact ⟨rfl, b1⟩
  have h30' : decide (30 < (len : Int)) = false := decide_eq_false (by omega)
  have hl : len ≤ 30 := by omega
  go_enter Try.func10, Try.ntmps10
  go_wp2_with fail
  refine (alive_calls _).mono ?_
  rintro e w1 ⟨rfl, b1⟩
  obtain ⟨C, hC⟩ : ∃ C, w1.heap.size = C := ⟨_, rfl⟩
  obtain ⟨V, hV⟩ : ∃ V, C + 1 = V := ⟨_, rfl⟩
  obtain ⟨wb, hwb⟩ : ∃ wb, (w1.alloc (.cells #[.int .i64 0] 30)).alloc (.cells #[.slice none 0 0] 80) = wb := ⟨_, rfl⟩
  have hB : Bu w wb C V (.slice none 0 0) 0 (fun _ => 0) (fun _ => 0) (fun _ => 0) zs := by
    refine ⟨⟨?_, ?_, fun j hj => absurd hj (Nat.not_lt_zero _), fun j hj => absurd hj (Nat.not_lt_zero _), fun j hj => absurd hj (Nat.not_lt_zero _)⟩, World.ownsRow_nil _ _ _ _, ?_, ?_, ?_, fun j hj => absurd hj (Nat.not_lt_zero _)⟩
    · rw [← hwb, ← hC]
      exact (Blk.new w1 _ _).alloc _
    · have := Blk.new (w1.alloc (.cells #[.int .i64 0] 30)) 80 #[.slice none 0 0]
      rw [hwb] at this
      rw [← hV, ← hC]
      simpa using this
    · rw [← hwb]
      exact (b1.alloc b1.size _).alloc (by have := b1.size; simp; omega) _
    · rw [← hC]
      exact b1.size
    · rw [← hV, ← hC]
      have := b1.size
      omega
  clear b1
  go_wp2_with fail
  refine lay_loop w C V A len cap zs hl HZ.out _ _ _ _ _ _ _ _ _ _ _ _ _ _ _ _ _ _ _ _ _ _ _ _ _ _ _ _ _ _ _ _ _ _ _ _ _ _ _ _ _ _ _ _ _ _ _ _ _ _ _ _ _ _ _ _ _ _ _ _ _ _ _ _ _ _ _ _ _ _ _ _ _ _ _ _ _ _ _ _ _ _ _ _ _ _ _ _ _ _ _ _ _ _ ?_ wb _ _ _ hB
  clear hB hwb hC hV
  intro u7 u8 u28 u29 u30 u31 u32 u33 u34 u35 u36 u37 w2 v ib nb bv hB
  by_cases hz0 : len = 0
  · subst hz0
    obtain ⟨A0, c0, rfl⟩ := own_slice hB.row
    have v0 : w2.cell? ⟨V, 0, none⟩ = some (.slice A0 0 c0) := (hB.ch.box.cell 0).trans rfl
    have hF := hB.frame
    clear hB
    go_wp2
    go_ret
    exact ⟨rfl, hF⟩
  have hlen1 : 1 ≤ len := by omega
  have hz0' : ((len : Int) == 0) = false := beq_eq_false_iff_ne.2 (by omega)
  obtain ⟨g, cp, cur, rfl, hgB, hg, hcur⟩ := vs_row hB.row hlen1
  have hA := hB.all hg
  clear hB hg hgB
  have v0 : w2.cell? ⟨V, 0, none⟩ = some (.slice (some ⟨g, 0, none⟩) len cp) := (hA.cg.ch.box.cell 0).trans rfl
  obtain ⟨k, hk⟩ : ∃ k, m0 % len = k := ⟨_, rfl⟩
  have hkm : k < len := by rw [← hk]; exact Nat.mod_lt _ hlen1
  have ek : (m0 : Int) % (len : Int) = (k : Int) := by rw [← hk]; rfl
  have k1 : wrap64 ((k : Int) + 1) = (k : Int) + 1 := by unfold wrap64; omega
  have k2 : (0 ≤ (k : Int) + 1) = True := eq_true (by omega)
  have k3 : ((k : Int) + 1 ≤ (cap : Int)) = True := eq_true (by omega)
  have k4 : ((k : Int) + 1).toNat = k + 1 := by omega
  clear hk
  go_wp2_with fail
  rw [ek]
  clear ek k4 v0
  go_loopg [10, 51] (k + 1) (fun kq s iv wr => ∃ (i : Nat), kq + i = k + 1 ∧ s = .int .i64 (P zs i) ∧ iv = .int .i64 i ∧ All w wr C V g len cp cur ib nb bv zs 0 0)
  case atStart => exact ⟨0, Nat.add_zero _, rfl, rfl, hA⟩
  case round =>
    clear hA
    obtain ⟨i, hi, rfl, rfl, hA⟩ := hrel
    cases gk with
    | succ gk =>
      have hik : i < k + 1 := by omega
      have hlt : decide ((i : Int) < (k : Int) + 1) = true := decide_eq_true (by omega)
      have i0 : (0 ≤ (i : Int)) = True := eq_true (by omega)
      have i1 : ((i : Int) < (k : Int) + 1) = True := eq_true (by omega)
      have i2 : (i < k + 1) = True := eq_true hik
      have e2 : wrap64 ((i : Int) + 1) = ((i + 1 : Nat) : Int) := wrap_succ hik (by omega)
      obtain ⟨ad, rfl, hlt', hc0, hzi⟩ := HZ.out i (by omega)
      have hq : wr.cell? (ad.add i) = some (.int .i8 (zs.getD i 0)) := by
        rw [hA.frame.cell (by rw [block_add]; exact hlt')]
        exact hc0
      clear hc0 hlt'
      obtain ⟨z, hzn⟩ : ∃ z, zs.getD i 0 = z := ⟨_, rfl⟩
      have eS := P_succ' zs i hzn
      rw [hzn] at hq hzi
      have eW := i8_wrap hzi
      clear hzi hzn
      obtain ⟨p, hp⟩ : ∃ p, P zs i = p := ⟨_, rfl⟩
      obtain ⟨p', hp'⟩ : ∃ p', P zs (i + 1) = p' := ⟨_, rfl⟩
      rw [hp, hp'] at eS
      rw [hp]
      clear hp
      go_wp2
      go_roundg gk
      case measure => omega
      case rel => exact ⟨i + 1, by omega, by rw [hp']; first | rw [eS] | rfl, by first | rw [e2] | rfl, hA⟩
    | zero =>
      obtain rfl : i = k + 1 := by omega
      have hlt : decide (((k + 1 : Nat) : Int) < (k : Int) + 1) = false := decide_eq_false (by omega)
      obtain ⟨p, hp⟩ : ∃ p, P zs (k + 1) = p := ⟨_, rfl⟩
      rw [hp]
      clear hi
      go_wp2_with fail
      have hzz : ∀ j, j < len → -128 ≤ zs.getD j 0 ∧ zs.getD j 0 ≤ 127 := fun j hj => by
        obtain ⟨_, _, _, _, h⟩ := HZ.out j hj
        exact h
      have HZZ := Lib.hid hzz
      clear hzz
      have k0 : (0 ≤ (k : Int)) = True := eq_true (by omega)
      have kl : ((k : Int) < (len : Int)) = True := eq_true (by omega)
      clear k1 k2 k3 hlt
      go_loopg [60] 2 (fun kq iv wr => ∃ (r B : Nat), kq + r = 2 ∧ iv = .int .i64 r ∧ (B = 0 ∨ B = k + 1) ∧ (r = 0 ∨ B = k + 1) ∧ All w wr C V g len cp cur ib nb bv zs B B)
      case atStart => exact ⟨0, 0, rfl, rfl, .inl rfl, .inl rfl, hA⟩
      case round =>
        clear hA
        obtain ⟨r, B, hr, rfl, hB0, hB1, hA⟩ := hrel
        cases gk with
        | succ gk =>
          have hlt : decide ((r : Int) < 2) = true := decide_eq_true (by omega)
          have e2 : wrap64 ((r : Int) + 1) = ((r + 1 : Nat) : Int) := wrap_succ (n := 2) (by omega) (by omega)
          have k1 : wrap64 ((k : Int) + 1) = (k : Int) + 1 := by unfold wrap64; omega
          have v0 : wr.cell? ⟨V, 0, none⟩ = some (.slice (some ⟨g, 0, none⟩) len cp) := (hA.cg.ch.box.cell 0).trans rfl
          have g0 : wr.cell? ⟨g, k, none⟩ = some (.pointer (some ⟨bv k, 0, none⟩)) := (hA.cg.row.cell k).trans (hcur k hkm)
          have gv := hA.get (by omega) HZZ.out hcur hkm hB0
          rw [hp] at gv
          have np : (p != p) = false := by simp
          have nk : ((k : Int) + 1 != (k : Int) + 1) = false := by simp
          have pp : (p == p) = true := by simp
          have pk : ((k : Int) + 1 == (k : Int) + 1) = true := by simp
          clear hA hB0 hB1
          go_wp2_with (first | (go_at_call 22; refine gv.mono ?_; rintro e w5 ⟨rfl, hA5⟩; have gc := get_blk C ((k : Int) + 1) w5 (by have := hA5.cg.ch.cnt; simpa using this)) | (go_at_call 18; refine gc.mono ?_; rintro e w6 ⟨rfl, hw6⟩; subst hw6))
          go_roundg gk
          case measure => omega
          case rel => exact ⟨r + 1, k + 1, by omega, by first | rw [e2] | rfl, .inr rfl, .inr rfl, hA5⟩
        | zero =>
          have hlt : decide ((r : Int) < 2) = false := decide_eq_false (by omega)
          have hA' : All w wr C V g len cp cur ib nb bv zs (k + 1) (k + 1) := by
            rcases hB1 with h | h
            · omega
            · rw [← h]
              exact hA
          have v0 : wr.cell? ⟨V, 0, none⟩ = some (.slice (some ⟨g, 0, none⟩) len cp) := (hA'.cg.ch.box.cell 0).trans rfl
          clear hA hB0 hB1
          go_wp2_with fail
          clear hlt
          go_loopg [86] len (fun kq iv wr' => ∃ (j : Nat), kq + j = len ∧ iv = .int .i64 j ∧ wr' = wr)
          case atStart => exact ⟨0, Nat.add_zero _, rfl, rfl⟩
          case round =>
            obtain ⟨j, hj, rfl, rfl⟩ := hrel
            cases gk with
            | zero =>
              obtain rfl : j = len := by omega
              have hlt : decide ((j : Int) < (j : Int)) = false := decide_eq_false (by omega)
              have hF := hA'.frame
              clear hA'
              go_wp2
              go_ret
              exact ⟨rfl, hF⟩
            | succ gk =>
              have hjl : j < len := by omega
              have hlt : decide ((j : Int) < (len : Int)) = true := decide_eq_true (by omega)
              have j0 : (0 ≤ (j : Int)) = True := eq_true (by omega)
              have j1 : ((j : Int) < (len : Int)) = True := eq_true (by omega)
              have e2 : wrap64 ((j : Int) + 1) = ((j + 1 : Nat) : Int) := wrap_succ hjl (by omega)
              have g0 : wr.cell? ⟨g, j, none⟩ = some (.pointer (some ⟨bv j, 0, none⟩)) := (hA'.cg.row.cell j).trans (hcur j hjl)
              have mv := hA'.made hjl
              by_cases hjk : j ≤ k
              · have d1 : decide (j < k + 1) = true := decide_eq_true (by omega)
                have d2 : decide (j ≤ k) = true := decide_eq_true hjk
                rw [d1] at mv
                clear hjk d1
                go_wp2_with (go_at_call 21; refine mv.mono ?_; rintro e w6 ⟨rfl, hw6⟩; subst hw6)
                go_roundg gk
                case measure => omega
                case rel => exact ⟨j + 1, by omega, by first | rw [e2] | rfl, rfl⟩
              · have d1 : decide (j < k + 1) = false := decide_eq_false (by omega)
                have d2 : decide (j ≤ k) = false := decide_eq_false hjk
                rw [d1] at mv
                clear hjk d1
                go_wp2_with (go_at_call 21; refine mv.mono ?_; rintro e w6 ⟨rfl, hw6⟩; subst hw6)
                go_roundg gk
                case measure => omega
                case rel => exact ⟨j + 1, by omega, by first | rw [e2] | rfl, rfl⟩
end Go.Proofs.Ythnllejpoklgbaa.lazyChain
