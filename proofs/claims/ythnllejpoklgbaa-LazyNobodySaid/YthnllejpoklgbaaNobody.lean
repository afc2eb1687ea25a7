/-
  LazyNobody: THE WALK: values and counts that no call made.
-/
import Derived.Test.YthnllejpoklgbaaAlive
import Derived.Test.YthnllejpoklgbaaGetStr
import Derived.LoopTactic
namespace Go.Proofs.Ythnllejpoklgbaa.lazyNobody
open Go.RowKit

theorem getStr_nil (w : World) : Calls Try.prog 27 #[.pointer none] w fun e w' => e = .returned (.tuple #[.string ⟨#[]⟩, .bool false]) ∧ Own (fun _ => False) w w' := by
  have hnot : ∀ (x : Bool) (w : World), (Op.unary .not (.bool x)).run Try.prog w = .ok (.bool (!x)) w := fun _ _ => rfl
  go_enter Try.func27, Try.ntmps27
  go_wp2
  go_ret2
  exact ⟨rfl, (Own.refl _ w).alloc _⟩
theorem getStr_zero (v : Nat) (w : World) (hv : Blk w v 72 #[.int .u32 0, .int .i32 0, .int .u32 0, .nilFunc, .string ⟨#[]⟩, .int .u32 0]) :
    Calls Try.prog 27 #[.pointer (some ⟨v, 0, none⟩)] w fun e w' => e = .returned (.tuple #[.string ⟨#[]⟩, .bool false]) ∧ Own (fun _ => False) w w' := by
  have hnot : ∀ (x : Bool) (w : World), (Op.unary .not (.bool x)).run Try.prog w = .ok (.bool (!x)) w := fun _ _ => rfl
  have hnil : ∀ W : World, (binOp .neq 70 .nilFunc .nilFunc).run Try.prog W = .ok (.bool false) W := fun W => by kernel_rfl
  have h3 : (w.alloc (.cells #[.pointer (some ⟨v, 0, none⟩)] 59)).cell? ⟨v, 3, none⟩ = some .nilFunc := ((hv.alloc (.cells #[.pointer (some ⟨v, 0, none⟩)] 59)).cell 3).trans rfl
  go_enter Try.func27, Try.ntmps27
  go_wp2
  go_ret2
  exact ⟨rfl, (Own.refl _ w).alloc _⟩
theorem madeStr_nil (w : World) : Calls Try.prog 28 #[.pointer none] w fun e w' => e = .returned (.bool false) ∧ w = w' := by
  go_enter Try.func28, Try.ntmps28
  go_wp2
  go_ret
  exact ⟨rfl, rfl⟩
theorem madeStr_zero (v : Nat) (w : World) (hv : Blk w v 72 #[.int .u32 0, .int .i32 0, .int .u32 0, .nilFunc, .string ⟨#[]⟩, .int .u32 0]) :
    Calls Try.prog 28 #[.pointer (some ⟨v, 0, none⟩)] w fun e w' => e = .returned (.bool false) ∧ w = w' := by
  have hnil : ∀ W : World, (binOp .neq 70 .nilFunc .nilFunc).run Try.prog W = .ok (.bool false) W := fun W => by kernel_rfl
  have h3 : w.cell? ⟨v, 3, none⟩ = some .nilFunc := (hv.cell 3).trans rfl
  go_enter Try.func28, Try.ntmps28
  go_wp2
  go_ret
  exact ⟨rfl, rfl⟩

theorem wf64 {n : Int} (h : (Lit.int .i64 n).wf = true) : -9223372036854775808 ≤ n ∧ n ≤ 9223372036854775807 := by
  simp [Lit.wf] at h
  exact h

set_option maxRecDepth 100000 in
set_option maxHeartbeats 1600000 in
theorem walk (n : Int) (w : World) (_hn : (Lit.int .i64 n).wf = true) :
    Calls Try.prog 8 #[.int .i64 n] w fun e w' => e = .returned (.bool true) ∧ Below w.heap.size w w' := by
  clear _hn
  have hnot : ∀ (x : Bool) (w : World), (Op.unary .not (.bool x)).run Try.prog w = .ok (.bool (!x)) w := fun _ _ => rfl
  obtain ⟨B, hB⟩ : ∃ B, w.heap.size = B := ⟨_, rfl⟩
  have HB := Lib.hid hB
  go_enter Try.func8, Try.ntmps8
  clear hB
  go_wp2_with fail
  refine (alive_calls _).mono ?_
  rintro e w1 ⟨rfl, b1⟩
  rw [HB.out] at b1
  go_wp2_with fail
  obtain ⟨v, hv⟩ : ∃ v, w1.heap.size = v := ⟨_, rfl⟩
  have nv : Blk (w1.alloc (.cells #[.int .u32 0, .int .i32 0, .int .u32 0, .nilFunc, .string ⟨#[]⟩, .int .u32 0] 72)) v 72 #[.int .u32 0, .int .i32 0, .int .u32 0, .nilFunc, .string ⟨#[]⟩, .int .u32 0] := by
    have := Blk.new w1 72 #[.int .u32 0, .int .i32 0, .int .u32 0, .nilFunc, .string ⟨#[]⟩, .int .u32 0]
    rw [hv] at this
    exact this
  have ns : Blk ((w1.alloc (.cells #[.int .u32 0, .int .i32 0, .int .u32 0, .nilFunc, .string ⟨#[]⟩, .int .u32 0] 72)).alloc (.cells #[.pointer none, .pointer (some ⟨v, 0, none⟩)] 59)) (v + 1) 59 #[.pointer none, .pointer (some ⟨v, 0, none⟩)] := by
    have := Blk.new (w1.alloc (.cells #[.int .u32 0, .int .i32 0, .int .u32 0, .nilFunc, .string ⟨#[]⟩, .int .u32 0] 72)) 59 #[.pointer none, .pointer (some ⟨v, 0, none⟩)]
    rw [show (w1.alloc (.cells #[.int .u32 0, .int .i32 0, .int .u32 0, .nilFunc, .string ⟨#[]⟩, .int .u32 0] 72)).heap.size = v + 1 from by simp [hv]] at this
    exact this
  replace nv := nv.alloc (.cells #[.pointer none, .pointer (some ⟨v, 0, none⟩)] 59)
  have hB : w.heap.size = B := HB.out
  have b2 : Below B w ((w1.alloc (.cells #[.int .u32 0, .int .i32 0, .int .u32 0, .nilFunc, .string ⟨#[]⟩, .int .u32 0] 72)).alloc (.cells #[.pointer none, .pointer (some ⟨v, 0, none⟩)] 59)) := by
    have := b1.size
    exact (b1.alloc (by omega) _).alloc (by simp; omega) _
  have hBv : B ≤ v := by have := b1.size; omega
  rw [hv]
  clear hB b1
  generalize ((w1.alloc (.cells #[.int .u32 0, .int .i32 0, .int .u32 0, .nilFunc, .string ⟨#[]⟩, .int .u32 0] 72)).alloc (.cells #[.pointer none, .pointer (some ⟨v, 0, none⟩)] 59)) = w2 at *
  clear hv w1
  go_loopw [14] (fun i wr => ∃ k : Nat, k ≤ 2 ∧ i = .int .i64 k ∧ Blk wr v 72 #[.int .u32 0, .int .i32 0, .int .u32 0, .nilFunc, .string ⟨#[]⟩, .int .u32 0] ∧ Blk wr (v + 1) 59 #[.pointer none, .pointer (some ⟨v, 0, none⟩)] ∧ Below B w wr) (fun i _ => 2 - (intOf i).toNat)
  case atStart => exact ⟨0, by omega, rfl, nv, ns, b2⟩
  case round =>
    obtain ⟨k, hk, rfl, hv, hs, hb⟩ := hrel
    clear nv ns b2
    have e0 : wr.cell? ⟨v + 1, 0, none⟩ = some (.pointer none) := (hs.cell 0).trans rfl
    have e1 : wr.cell? ⟨v + 1, 1, none⟩ = some (.pointer (some ⟨v, 0, none⟩)) := (hs.cell 1).trans rfl
    have bz := hb.size
    have hB : w.heap.size = B := HB.out
    have hlow : ∀ {W W' : World}, Below B w W → Own (fun _ => False) W W' → Below B w W' := fun {W W'} h ho => h.trans (ho.toBelow (by have := h.size; omega) (fun _ _ h => h))
    match k, hk with
    | 0, _ =>
      clear bz hB
      go_wp2_with fail
      refine (getStr_nil _).mono ?_
      rintro e w3 ⟨rfl, o3⟩
      have hb3 := hlow hb o3
      go_wp2_with fail
      refine (madeStr_nil _).mono ?_
      rintro e w4 ⟨rfl, rfl⟩
      go_wp2
      go_roundw
      case rel => exact ⟨1, by omega, by rfl, hv.own o3 (fun h => h), hs.own o3 (fun h => h), hb3⟩
      case measure => simp [intOf]
    | 1, _ =>
      clear bz hB
      go_wp2_with fail
      refine (getStr_zero v _ hv).mono ?_
      rintro e w3 ⟨rfl, o3⟩
      have hb3 := hlow hb o3
      have hv3 := hv.own o3 (fun h => h)
      have hs3 := hs.own o3 (fun h => h)
      go_wp2_with fail
      refine (madeStr_zero v _ hv3).mono ?_
      rintro e w4 ⟨rfl, rfl⟩
      go_wp2
      go_roundw
      case rel => exact ⟨2, by omega, by rfl, hv3, hs3, hb3⟩
      case measure => simp [intOf]
    | 2, _ =>
      clear bz hB
      go_wp2
      go_ret
      exact ⟨rfl, HB.out ▸ hb⟩
end Go.Proofs.Ythnllejpoklgbaa.lazyNobody
