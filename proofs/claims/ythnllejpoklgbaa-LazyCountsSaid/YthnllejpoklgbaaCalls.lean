/-
  LazyCounts: THE WALK: a count answers every call, in every order, as the document says.
-/
import Derived.Test.YthnllejpoklgbaaAlive
import Derived.Test.YthnllejpoklgbaaOpen
import Derived.LoopTactic
import Derived.BigQuiet
import Derived.Deep.QuietTactic
namespace Go.Proofs.Ythnllejpoklgbaa.lazyCounts
open Go.RowKit

/-- What the document says: what it is then, what is answered, and whether. -/
def doF (n k a b : Int) : Int × Int × Bool :=
  if k = 0 then (wrap64 (n + a), wrap64 (n + a), false)
  else if k = 1 then (a, n, false)
  else if k = 2 then (if n = a then (b, 0, true) else (n, 0, false))
  else if k = 3 then (max n a, max n a, false)
  else (n, n, false)

set_option maxHeartbeats 1600000 in
theorem do_calls (n k a b : Int) (w : World) :
    Calls Try.prog 13 #[.int .i64 n, .agg #[.int .i64 k, .int .i64 a, .int .i64 b]] w fun e w' => e = .returned (.tuple #[.int .i64 (doF n k a b).1, .int .i64 (doF n k a b).2.1, .bool (doF n k a b).2.2]) ∧ Own (fun _ => False) w w' := by
  have hO : ∀ m, Own (fun _ => False) w ((w.alloc (.cells #[.int .i64 k, .int .i64 a, .int .i64 b] 32)).drewN m) := fun m => ((Own.refl _ w).alloc _).drewN m
  have HO := Lib.hid hO
  clear hO
  obtain ⟨r, hr⟩ : ∃ r, doF n k a b = r := ⟨_, rfl⟩
  rw [hr]
  unfold doF at hr
  by_cases k0 : k = 0
  · subst k0
    rw [if_pos rfl] at hr
    subst hr
    go_enter Try.func13, Try.ntmps13
    go_wp2
    go_quiet (fail)
    go_wp2
    go_ret3
    exact ⟨rfl, HO.out _⟩
  rw [if_neg k0] at hr
  have k0' : (k == 0) = false := beq_eq_false_iff_ne.2 k0
  clear k0
  by_cases k1 : k = 1
  · subst k1
    rw [if_pos rfl] at hr
    subst hr
    go_enter Try.func13, Try.ntmps13
    go_wp2
    go_ret3
    exact ⟨rfl, HO.out 0⟩
  rw [if_neg k1] at hr
  have k1' : (k == 1) = false := beq_eq_false_iff_ne.2 k1
  clear k1
  by_cases k2 : k = 2
  · subst k2
    rw [if_pos rfl] at hr
    by_cases e : n = a
    · rw [if_pos e] at hr
      subst hr
      have e' : (n == a) = true := beq_iff_eq.2 e
      clear e
      go_enter Try.func13, Try.ntmps13
      go_wp2
      go_ret3
      exact ⟨rfl, HO.out 0⟩
    · rw [if_neg e] at hr
      subst hr
      have e' : (n == a) = false := beq_eq_false_iff_ne.2 e
      clear e
      go_enter Try.func13, Try.ntmps13
      go_wp2
      go_ret3
      exact ⟨rfl, HO.out 0⟩
  rw [if_neg k2] at hr
  have k2' : (k == 2) = false := beq_eq_false_iff_ne.2 k2
  clear k2
  by_cases k3 : k = 3
  · subst k3
    rw [if_pos rfl] at hr
    subst hr
    by_cases e : n < a
    · have em : max n a = a := by omega
      rw [em]
      clear em
      go_enter Try.func13, Try.ntmps13
      go_wp2
      go_ret3
      exact ⟨rfl, HO.out 0⟩
    · have em : max n a = n := by omega
      rw [em]
      clear em
      go_enter Try.func13, Try.ntmps13
      go_wp2
      go_ret3
      exact ⟨rfl, HO.out 0⟩
  rw [if_neg k3] at hr
  have k3' : (k == 3) = false := beq_eq_false_iff_ne.2 k3
  clear k3
  subst hr
  go_enter Try.func13, Try.ntmps13
  go_wp2
  go_ret3
  exact ⟨rfl, HO.out 0⟩

theorem add_field (ad : Addr) (m j : Nat) (hj : 0 < j) : ad.add (m + j) = ⟨(ad.add m).block, (ad.add m).off + j, none⟩ := by
  unfold Addr.add
  by_cases hm : m = 0
  · subst hm
    simp [Nat.ne_of_gt hj]
  · simp [hm, Nat.add_assoc]

def cells3 (x : Int × Int × Int) : List Value := [.int .i64 x.1, .int .i64 x.2.1, .int .i64 x.2.2]

set_option maxRecDepth 100000 in
theorem openCalls {H : Type} {enc : TypeId × Value → H} {w : World} {base : Nat} {spare : Nat → Bool} {held : Bool} {fuel : Nat} {A : Option Addr} {len cap : Nat} {x : DataW H × List MemPlace}
    (h : DataW.trod enc Try.prog w base spare held fuel 22 [.slice A len cap] = some x) : len ≤ cap ∧ cap ≤ maxLen ∧ ∃ xs : List (Int × Int × Int), xs.length = len ∧ (∀ z ∈ xs, True) ∧ Els w cells3 3 A xs :=
  open_els cells3 (fun _ => True) 3 Try.underlying22 (by kernel_rfl) (fun _ => rfl) (by decide) (fun n cs y hl hd => by
    have c3 : Try.prog.cellsOf 3 = 1 := by kernel_rfl
    have c2 : Try.prog.cellsOf 2 = 1 := by kernel_rfl
    obtain ⟨xs, m, _, _, _, hlen, hf⟩ := DataW.trod_struct Try.underlying32 hd
    have hlen3 : xs.length = 3 := hlen
    clear hlen
    match cs, hl, xs, hlen3 with
    | [v0, v1, v2], _, [x0, x1, x2], _ =>
      have h0 := hf 0 _ rfl
      have h1 := hf 1 _ rfl
      have h2 := hf 2 _ rfl
      simp [c3, c2] at h0 h1 h2
      obtain ⟨k, e0, _⟩ := DataW.trod_int Try.underlying3 h0
      obtain ⟨a, e1, _⟩ := DataW.trod_int Try.underlying2 h1
      obtain ⟨b, e2, _⟩ := DataW.trod_int Try.underlying2 h2
      simp at e0 e1 e2
      subst e0 e1 e2
      exact ⟨(k, a, b), rfl, trivial⟩) h

set_option maxRecDepth 100000 in
set_option maxHeartbeats 1600000 in
theorem walk (A : Option Addr) (len cap : Nat) (zs : List (Int × Int × Int)) (w : World) (_hl : len ≤ 9223372036854775807) (hlen : zs.length = len) (_ : ∀ z ∈ zs, True)
    (hz : Els w cells3 3 A zs) :
    Calls Try.prog 3 #[.slice A len cap] w fun e w' => e = .returned (.bool true) ∧ Below w.heap.size w w' := by
  have HZ := Lib.hid hz
  have HL := Lib.hid hlen
  clear hz hlen
  have hnot : ∀ (x : Bool) (w : World), (Op.unary .not (.bool x)).run Try.prog w = .ok (.bool (!x)) w := fun _ _ => rfl
  go_enter Try.func3, Try.ntmps3
  go_wp2_with fail
  refine (alive_calls _).mono ?_
  rintro e w1 ⟨rfl, b1⟩
  obtain ⟨K, hK⟩ : ∃ K, w1.heap.size = K := ⟨_, rfl⟩
  have n1 : Blk (w1.alloc (.cells #[.int .i64 0] 30)) K 30 #[.int .i64 0] := by have := Blk.new w1 30 #[.int .i64 0]; rw [hK] at this; exact this
  have b2 : Below w.heap.size w (w1.alloc (.cells #[.int .i64 0] 30)) := b1.alloc b1.size _
  have hBK : w.heap.size ≤ K := hK ▸ b1.size
  have HK := Lib.hid hK
  clear hK b1
  go_wp2_with fail
  rw [HK.out]
  generalize w1.alloc (.cells #[.int .i64 0] 30) = w2 at *
  clear HK w1
  go_loopw [4, 5] (fun v i wr => ∃ (k : Nat) (x : Int), k ≤ len ∧ v = .int .i64 x ∧ i = .int .i64 k ∧ Blk wr K 30 #[.int .i64 x] ∧ Below w.heap.size w wr) (fun _ i _ => len - (intOf i).toNat)
  case atStart => exact ⟨0, 0, Nat.zero_le _, rfl, rfl, n1, b2⟩
  case round =>
    obtain ⟨k, x, hk, rfl, rfl, hb, hB⟩ := hrel
    clear n1 b2
    by_cases hlt : k < len
    · by_cases h100 : k < 100
      · obtain ⟨c, hc⟩ : ∃ c, zs[k]? = some c := ⟨_, List.getElem?_eq_getElem (by rw [HL.out]; exact hlt)⟩
        obtain ⟨ad, rfl, hlt', hc0⟩ := HZ.out k c hc
        obtain ⟨kd, a, b⟩ := c
        have q0 : wr.cell? (ad.add (k * 3)) = some (.int .i64 kd) := by
          rw [hB.cell (by rw [block_add]; exact hlt')]
          exact hc0 0 _ rfl
        have q1 : wr.cell? ⟨(ad.add (k * 3)).block, (ad.add (k * 3)).off + 1, none⟩ = some (.int .i64 a) := by
          rw [← add_field _ _ 1 (by omega), hB.cell (by rw [block_add]; exact hlt')]
          exact hc0 1 _ rfl
        have q2 : wr.cell? ⟨(ad.add (k * 3)).block, (ad.add (k * 3)).off + 2, none⟩ = some (.int .i64 b) := by
          rw [← add_field _ _ 2 (by omega), hB.cell (by rw [block_add]; exact hlt')]
          exact hc0 2 _ rfl
        clear hc0 hc
        by_cases g0 : kd < 0
        · have g0' : decide (kd < 0) = true := decide_eq_true g0
          go_wp2
          go_roundw
          case rel => exact ⟨k + 1, x, by omega, rfl, by go_num, hb.alloc _, hB.alloc hB.size _⟩
          case measure => simp [intOf]; omega
        have g0' : decide (kd < 0) = false := decide_eq_false g0
        by_cases g4 : 4 < kd
        · have g4' : decide (4 < kd) = true := decide_eq_true g4
          clear g0
          go_wp2
          go_roundw
          case rel => exact ⟨k + 1, x, by omega, rfl, by go_num, hb.alloc _, hB.alloc hB.size _⟩
          case measure => simp [intOf]; omega
        have g4' : decide (4 < kd) = false := decide_eq_false g4
        have HKD : Hid (kd = 0 ∨ kd = 1 ∨ kd = 2 ∨ kd = 3 ∨ kd = 4) := by show kd = 0 ∨ kd = 1 ∨ kd = 2 ∨ kd = 3 ∨ kd = 4; omega
        clear g0 g4
        obtain ⟨C, hC⟩ : ∃ C, wr.heap.size = C := ⟨_, rfl⟩
        have nC : Blk (wr.alloc (.cells #[.int .i64 kd, .int .i64 a, .int .i64 b] 32)) C 32 #[.int .i64 kd, .int .i64 a, .int .i64 b] := by have := Blk.new wr 32 #[.int .i64 kd, .int .i64 a, .int .i64 b]; rw [hC] at this; exact this
        have hKC : K < C := hC ▸ hb.lt
        have n3 : Blk (wr.alloc (.cells #[.int .i64 kd, .int .i64 a, .int .i64 b] 32)) K 30 #[.int .i64 x] := hb.alloc _
        have b3 : Below w.heap.size w (wr.alloc (.cells #[.int .i64 kd, .int .i64 a, .int .i64 b] 32)) := hB.alloc hB.size _
        have HC := Lib.hid hC
        clear hC hB hb
        go_wp2_with fail
        rw [HC.out]
        generalize wr.alloc (.cells #[.int .i64 kd, .int .i64 a, .int .i64 b] 32) = w3 at *
        clear HC q0 q1 q2
        clear wr
        refine (do_calls x kd a b _).mono ?_
        rintro e w4 ⟨rfl, o4⟩
        have n4 := n3.own o4 (fun h => h)
        have c4 := nC.own o4 (fun h => h)
        have b4 : Below w.heap.size w w4 := b3.trans (o4.toBelow b3.size (fun _ _ h => h))
        have p0 : w4.cell? ⟨C, 0, none⟩ = some (.int .i64 kd) := (c4.cell 0).trans rfl
        have p1 : w4.cell? ⟨C, 1, none⟩ = some (.int .i64 a) := (c4.cell 1).trans rfl
        have p2 : w4.cell? ⟨C, 2, none⟩ = some (.int .i64 b) := (c4.cell 2).trans rfl
        clear n3 nC b3 o4 c4
        have low : ∀ {W y}, Counts K y w4 W → Below w.heap.size w W := fun {W y} h => b4.trans (h.1.toBelow b4.size (fun i hi e => by omega))
        have LOW := Lib.hid (fun W y => @low W y)
        clear low
        rcases HKD.out with rfl | rfl | rfl | rfl | rfl
        · rw [show doF x 0 a b = (wrap64 (x + a), wrap64 (x + a), false) from rfl]
          go_wp2_with fail
          refine (add_blk K x a _ n4).mono ?_
          rintro e w5 ⟨rfl, h5⟩
          have n6 := h5.2
          have b6 := LOW.out _ _ h5
          go_wp2_with fail
          refine (get_blk K _ _ n6).mono ?_
          rintro e w6 ⟨rfl, rfl⟩
          go_wp2
          go_roundw
          case rel => exact ⟨k + 1, _, by omega, rfl, by go_num, n6, b6⟩
          case measure => simp [intOf]; omega
        · rw [show doF x 1 a b = (a, x, false) from rfl]
          go_wp2_with fail
          refine (swap_blk K x a _ n4).mono ?_
          rintro e w5 ⟨rfl, h5⟩
          have n6 := h5.2
          have b6 := LOW.out _ _ h5
          go_wp2_with fail
          refine (get_blk K _ _ n6).mono ?_
          rintro e w6 ⟨rfl, rfl⟩
          go_wp2
          go_roundw
          case rel => exact ⟨k + 1, _, by omega, rfl, by go_num, n6, b6⟩
          case measure => simp [intOf]; omega
        · by_cases e : x = a
          · rw [show doF x 2 a b = (b, 0, true) from by simp [doF, e]]
            subst e
            go_wp2_with fail
            refine (try_hit_blk K x b _ n4).mono ?_
            rintro e w5 ⟨rfl, h5⟩
            have n6 := h5.2
            have b6 := LOW.out _ _ h5
            go_wp2_with fail
            refine (get_blk K _ _ n6).mono ?_
            rintro e w6 ⟨rfl, rfl⟩
            go_wp2
            go_roundw
            case rel => exact ⟨k + 1, _, by omega, rfl, by go_num, n6, b6⟩
            case measure => simp [intOf]; omega
          · rw [show doF x 2 a b = (x, 0, false) from by simp [doF, e]]
            have HE := Lib.hid e
            clear e
            go_wp2_with fail
            refine (try_miss_blk K x a b HE.out _ n4).mono ?_
            rintro e w5 ⟨rfl, h5⟩
            have n6 := h5.2
            have b6 := LOW.out _ _ h5
            go_wp2_with fail
            refine (get_blk K _ _ n6).mono ?_
            rintro e w6 ⟨rfl, rfl⟩
            go_wp2
            go_roundw
            case rel => exact ⟨k + 1, _, by omega, rfl, by go_num, n6, b6⟩
            case measure => simp [intOf]; omega
        · rw [show doF x 3 a b = (max x a, max x a, false) from rfl]
          obtain ⟨M, hM⟩ : ∃ M, max x a = M := ⟨_, rfl⟩
          have HM := Lib.hid hM
          rw [hM]
          clear hM
          go_wp2_with fail
          refine (max_blk K x a _ n4).mono ?_
          rw [HM.out]
          rintro e w5 ⟨rfl, h5⟩
          have n6 := h5.2
          have b6 := LOW.out _ _ h5
          go_wp2_with fail
          refine (get_blk K _ _ n6).mono ?_
          rintro e w6 ⟨rfl, rfl⟩
          go_wp2
          go_roundw
          case rel => exact ⟨k + 1, _, by omega, rfl, by go_num, n6, b6⟩
          case measure => simp [intOf]; omega
        · rw [show doF x 4 a b = (x, x, false) from rfl]
          go_wp2_with fail
          refine (get_blk K _ _ n4).mono ?_
          rintro e w5 ⟨rfl, rfl⟩
          go_wp2_with fail
          refine (get_blk K _ _ n4).mono ?_
          rintro e w6 ⟨rfl, rfl⟩
          go_wp2
          go_roundw
          case rel => exact ⟨k + 1, _, by omega, rfl, by go_num, n4, b4⟩
          case measure => simp [intOf]; omega
      · go_wp2
        go_ret
        exact ⟨rfl, hB⟩
    · go_wp2
      go_ret
      exact ⟨rfl, hB⟩
end Go.Proofs.Ythnllejpoklgbaa.lazyCounts
