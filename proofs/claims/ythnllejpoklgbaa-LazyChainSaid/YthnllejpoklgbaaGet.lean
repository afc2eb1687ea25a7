/-
  A VALUE THAT IS MADE WHEN IT IS FIRST ASKED FOR: New, Made, Get of a value of int64.
-/
import Derived.Test.YthnllejpoklgbaaOnce
import Derived.Deep.RegionWith
import Derived.Deep.RegionHeld3
import Derived.Deep.DrawnRows
namespace Go.Proofs.Ythnllejpoklgbaa
open Go.RowKit
attribute [local go_sem ↓] Go.wp_at_zero Go.wp_at_succ

/-- What a function value does that is called in whatever world that is as w but for block bv. -/
structure Makes (bv : Nat) (F : FuncId) (caps : Array Value) (v : Value) (S : Nat → Prop) (R : World → Prop) (w : World) : Prop where
  go : ∀ W, (callFunc F caps).run Try.prog W = .ok (.enter F caps) W
  call : ∀ W, Own (· = bv) w W → Calls Try.prog F caps W fun e W' => e = .returned v ∧ Own S W W' ∧ R W'
  away : ¬ S bv

def Made (bv T : Nat) (cs : Array Value) (S : Nat → Prop) (R : World → Prop) (w w' : World) : Prop := ∃ w1, Own S w w1 ∧ R w1 ∧ Own (· = bv) w1 w' ∧ Blk w' bv T cs

theorem Own.set1 {b : Nat} {w w' : World} (h : Own (· = b) w w') (j : Nat) (u : Value) : Own (· = b) w (w'.setCell ⟨b, j, none⟩ u) := h.set _ _ fun _ => rfl
def Done (bv T : Nat) (cs : Array Value) (S : Nat → Prop) (R : World → Prop) (w w' : World) : Prop := Own (fun i => i = bv ∨ S i) w w' ∧ R w' ∧ Blk w' bv T cs

theorem Makes.own {bv : Nat} {F : FuncId} {caps : Array Value} {v : Value} {S : Nat → Prop} {R : World → Prop} {w w' : World} (h : Makes bv F caps v S R w) (ho : Own (· = bv) w w') : Makes bv F caps v S R w' :=
  ⟨h.go, fun W hW => h.call W (ho.trans hW), h.away⟩

set_option maxRecDepth 100000 in
set_option maxHeartbeats 1600000 in
theorem get64_fun (bv pl : Nat) (hne : bv ≠ pl) (F : FuncId) (caps : Array Value) (n m : Int) (S : Nat → Prop) (R : World → Prop) (w : World)
    (hb : Blk w bv 92 #[.int .u32 0, .int .i32 1, .int .u32 0, .func (.func F) #[] caps, .int .i64 m, .int .u32 0]) (hp : Blk w pl 39 #[.pointer (some ⟨bv, 0, none⟩)])
    (hm : Makes bv F caps (.int .i64 n) S R w) (hS : ¬ S pl) :
    Calls Try.prog 43 #[.pointer (some ⟨pl, 0, none⟩)] w fun e w' => e = .returned (.tuple #[]) ∧ Made bv 92 #[.int .u32 0, .int .i32 1, .int .u32 0, .func (.func F) #[] caps, .int .i64 n, .int .u32 1] S R w w' := by
  have p0 : w.cell? ⟨pl, 0, none⟩ = some (.pointer (some ⟨bv, 0, none⟩)) := (hp.cell 0).trans rfl
  have b3 : w.cell? ⟨bv, 3, none⟩ = some (.func (.func F) #[] caps) := (hb.cell 3).trans rfl
  have hgo := hm.go
  go_enter Try.func43, Try.ntmps43
  go_wp2
  go_region_held3 (fun w' => w'.cell? ⟨pl, 0, none⟩ = some (.pointer (some ⟨bv, 0, none⟩)) ∧ w'.cell? ⟨bv, 3, none⟩ = some (.func (.func F) #[] caps)) (first | (go_keep; done) | (refine ⟨?_, ?_⟩ <;> first | (go_keep; done) | exact (World.cell?_setCell_other _ ⟨bv, 4, none⟩ ⟨bv, 3, none⟩ _ (by simp)).trans q3)) (((with_reducible refine (hm.call _ ?own).mono ?_); (case own => exact (Own.refl _ _).drew); rintro e w1 ⟨rfl, ho1, hr1⟩; have hb1 := hb.drew.own ho1 hm.away; have hp1 := hp.drew.own ho1 hS; have q0 : w1.cell? ⟨pl, 0, none⟩ = some (.pointer (some ⟨bv, 0, none⟩)) := (hp1.cell 0).trans rfl; have q3 : w1.cell? ⟨bv, 3, none⟩ = some (.func (.func F) #[] caps) := (hb1.cell 3).trans rfl; have q4 : w1.cell? ⟨bv, 4, none⟩ = some (.int .i64 m) := (hb1.cell 4).trans rfl; have z4 := hb1.frozen 4))
  all_goals go_wp2_with fail
  all_goals have hb2 := hb1.set 4 (.int .i64 n)
  all_goals refine (store_call bv 5 (.int .u32 0) _ ?_ (hb2.frozen 5)).mono ?_
  · exact (hb2.cell 5).trans rfl
  rintro e w' ⟨rfl, rfl⟩
  go_wp2
  go_end0
  exact ⟨rfl, w1, (Own.refl S w).drew.trans ho1, hr1, (((Own.refl _ w1).set1 4 _).set1 5 _).drew, (hb2.set 5 (.int .u32 1)).drew⟩

set_option maxRecDepth 100000 in
set_option maxHeartbeats 1600000 in
theorem slow64 (bv pl : Nat) (hne : bv ≠ pl) (F : FuncId) (caps : Array Value) (n m : Int) (S : Nat → Prop) (R : World → Prop) (hR : ∀ W W', Own (· = bv) W W' → R W → R W') (w : World)
    (hb : Blk w bv 92 #[.int .u32 0, .int .i32 0, .int .u32 0, .func (.func F) #[] caps, .int .i64 m, .int .u32 0]) (hp : Blk w pl 39 #[.pointer (some ⟨bv, 0, none⟩)])
    (hm : Makes bv F caps (.int .i64 n) S R w) (hS : ¬ S pl) :
    Calls Try.prog 56 #[.pointer (some ⟨bv, 0, none⟩), .func (.func 43) #[] #[.pointer (some ⟨pl, 0, none⟩)]] w fun e w' => e = .returned (.tuple #[]) ∧ Done bv 92 #[.int .u32 1, .int .i32 0, .int .u32 0, .func (.func F) #[] caps, .int .i64 n, .int .u32 1] S R w w' := by
  have b0 : w.cell? ⟨bv, 0, none⟩ = some (.int .u32 0) := (hb.cell 0).trans rfl
  have b1 : w.cell? ⟨bv, 1, none⟩ = some (.int .i32 0) := (hb.cell 1).trans rfl
  have z1 := hb.frozen 1
  have hb1 := hb.set 1 (.int .i32 1)
  have hl := run_call_load (P := Try.prog) Try.func55 (by kernel_rfl) (by kernel_rfl) (by kernel_rfl) .u32 (by kernel_rfl) (w := w.setCell ⟨bv, 1, none⟩ (.int .i32 1)) (a := ⟨bv, 0, none⟩) (x := 0) ((hb1.cell 0).trans rfl)
  have hnot : ∀ (x : Bool) (w : World), (Op.unary .not (.bool x)).run Try.prog w = .ok (.bool (!x)) w := fun _ _ => rfl
  have hm1 : Makes bv F caps (.int .i64 n) S R (w.setCell ⟨bv, 1, none⟩ (.int .i32 1)) := hm.own ((Own.refl _ _).set _ _ fun _ => rfl)
  have hp1 := hp.set_other ⟨bv, 1, none⟩ (.int .i32 1) (Ne.symm hne)
  go_enter_defers Try.func56, Try.ntmps56
  go_wp2_with (go_at_call 59; refine (lock_free bv 1 _ b1 z1).mono ?_; rintro e w' ⟨rfl, rfl⟩)
  go_wp2_with (first | (go_at_call 43; refine (get64_fun bv pl hne F caps n m S R _ hb1 hp1 hm1 hS).mono ?_; rintro e w' ⟨rfl, hmade⟩) | (go_at_call 41; go_in))
  obtain ⟨w1, ho1, hr1, hk1, hb2⟩ := hmade
  have g0 : w'.cell? ⟨bv, 0, none⟩ = some (.int .u32 0) := (hb2.cell 0).trans rfl
  -- THE DOOR: two deferred calls, the last laid first
  refine leaves_cons (f := 44) (args := #[.pointer (some ⟨bv, 0, none⟩), .bool true]) (by simp) (by simp [go_sem]) ?_
  refine (store_deferred bv 0 (.int .u32 0) .returning _ g0 (hb2.frozen 0)).mono ?_
  rintro e u' w'' ⟨rfl, rfl, rfl⟩
  have hb3 := hb2.drew.set 0 (.int .u32 1)
  refine leaves_cons (f := 60) (args := #[.pointer (some ⟨bv, 1, none⟩)]) (by simp [settle]) (by simp [go_sem]) ?_
  refine (unlock_deferred bv 1 _ _ ((hb3.cell 1).trans rfl) (hb3.frozen 1)).mono ?_
  rintro e u' w'' ⟨rfl, rfl, rfl⟩
  have hfin : Done bv 92 #[.int .u32 1, .int .i32 0, .int .u32 0, .func (.func F) #[] caps, .int .i64 n, .int .u32 1] S R w ((w'.drew.setCell ⟨bv, 0, none⟩ (.int .u32 1)).setCell ⟨bv, 1, none⟩ (.int .i32 0)) :=
    ⟨(((Own.refl _ w).set1 1 _).mono fun i _ hi => .inl hi).trans (((ho1.mono fun i _ hi => .inr hi).trans (hk1.mono fun i _ hi => .inl hi)).trans ((((Own.refl _ w').drew.set1 0 _).set1 1 _).mono fun i _ hi => .inl hi)),
      hR _ _ ((hk1.drew.set1 0 _).set1 1 _) hr1, hb3.set 1 (.int .i32 0)⟩
  simp [Leaves, settle, results, Try.results56, hfin]

set_option maxRecDepth 100000 in
set_option maxHeartbeats 1600000 in
/-- '(*sync.Once).Do', not yet done. -/
theorem do64 (bv pl : Nat) (hne : bv ≠ pl) (F : FuncId) (caps : Array Value) (n m : Int) (S : Nat → Prop) (R : World → Prop) (hR : ∀ W W', Own (· = bv) W W' → R W → R W') (w : World)
    (hb : Blk w bv 92 #[.int .u32 0, .int .i32 0, .int .u32 0, .func (.func F) #[] caps, .int .i64 m, .int .u32 0]) (hp : Blk w pl 39 #[.pointer (some ⟨bv, 0, none⟩)])
    (hm : Makes bv F caps (.int .i64 n) S R w) (hS : ¬ S pl) :
    Calls Try.prog 42 #[.pointer (some ⟨bv, 0, none⟩), .func (.func 43) #[] #[.pointer (some ⟨pl, 0, none⟩)]] w fun e w' => e = .returned (.tuple #[]) ∧ Done bv 92 #[.int .u32 1, .int .i32 0, .int .u32 0, .func (.func F) #[] caps, .int .i64 n, .int .u32 1] S R w w' := by
  have b0 : w.cell? ⟨bv, 0, none⟩ = some (.int .u32 0) := (hb.cell 0).trans rfl
  have hl := run_call_load (P := Try.prog) Try.func55 (by kernel_rfl) (by kernel_rfl) (by kernel_rfl) .u32 (by kernel_rfl) b0
  have hnot : ∀ (x : Bool) (w : World), (Op.unary .not (.bool x)).run Try.prog w = .ok (.bool (!x)) w := fun _ _ => rfl
  go_enter Try.func42, Try.ntmps42
  go_wp2_with (first | (go_at_call 56; refine (slow64 bv pl hne F caps n m S R hR _ hb hp hm hS).mono ?_; rintro e w' ⟨rfl, hdone⟩) | (go_at_call 41; go_in))
  go_end0
  exact ⟨rfl, hdone⟩

theorem neq_nil64 (F : FuncId) (a c : Array Value) (W : World) : (binOp .neq 37 (.func (.func F) a c) .nilFunc).run Try.prog W = .ok (.bool true) W := by kernel_rfl
theorem eql_nil64 (F : FuncId) (a c : Array Value) (W : World) : (binOp .eql 37 (.func (.func F) a c) .nilFunc).run Try.prog W = .ok (.bool false) W := by kernel_rfl

set_option maxRecDepth 100000 in
set_option maxHeartbeats 1600000 in
/-- Get, for the first time: the value is made. -/
theorem get64_first (bv : Nat) (F : FuncId) (caps : Array Value) (n m : Int) (S : Nat → Prop) (R : World → Prop) (hR : ∀ W W', Own (· = bv) W W' → R W → R W') (w : World)
    (hb : Blk w bv 92 #[.int .u32 0, .int .i32 0, .int .u32 0, .func (.func F) #[] caps, .int .i64 m, .int .u32 0])
    (hm : Makes bv F caps (.int .i64 n) S R w) (hS : ∀ i, S i → i < w.heap.size) :
    Calls Try.prog 22 #[.pointer (some ⟨bv, 0, none⟩)] w fun e w' => e = .returned (.tuple #[.int .i64 n, .bool true]) ∧ Done bv 92 #[.int .u32 1, .int .i32 0, .int .u32 0, .func (.func F) #[] caps, .int .i64 n, .int .u32 1] S R w w' := by
  have hne : bv ≠ w.heap.size := Nat.ne_of_lt hb.lt
  have hb1 := hb.alloc (.cells #[.pointer (some ⟨bv, 0, none⟩)] 39)
  have hp1 := Blk.new w 39 #[.pointer (some ⟨bv, 0, none⟩)]
  have hm1 : Makes bv F caps (.int .i64 n) S R (w.alloc (.cells #[.pointer (some ⟨bv, 0, none⟩)] 39)) := hm.own ((Own.refl _ _).alloc _)
  have hmf : ∀ (fn : Fn) (first cap : Array Value) (w : World), (Instr.makeFunc fn first cap).run Try.prog w = .ok (.func fn first cap) w := fun _ _ _ _ => rfl
  have a3 : (w.alloc (.cells #[.pointer (some ⟨bv, 0, none⟩)] 39)).cell? ⟨bv, 3, none⟩ = some (.func (.func F) #[] caps) := (hb1.cell 3).trans rfl
  have hnil := neq_nil64
  go_enter Try.func22, Try.ntmps22
  go_wp2_with (first | (go_at_call 42; refine (do64 bv w.heap.size hne F caps n m S R hR _ hb1 hp1 hm1 (fun h => absurd (hS _ h) (Nat.lt_irrefl _))).mono ?_; rintro e w' ⟨rfl, ho2, hr2, hb2⟩; have hp2 := hp1.own ho2 (fun h => h.elim (fun h => hne h.symm) fun h => absurd (hS _ h) (Nat.lt_irrefl _)); have g0 : w'.cell? ⟨w.heap.size, 0, none⟩ = some (.pointer (some ⟨bv, 0, none⟩)) := (hp2.cell 0).trans rfl; have g4 : w'.cell? ⟨bv, 4, none⟩ = some (.int .i64 n) := (hb2.cell 4).trans rfl) | (go_at_call 40; go_in))
  go_ret2
  exact ⟨rfl, ((Own.refl _ w).alloc _).trans ho2, hr2, hb2⟩

set_option maxRecDepth 100000 in
set_option maxHeartbeats 1600000 in
/-- Get, once it was made. -/
theorem get64_again (bv : Nat) (f : FuncId) (caps : Array Value) (n : Int) (w : World)
    (hb : Blk w bv 92 #[.int .u32 1, .int .i32 0, .int .u32 0, .func (.func f) #[] caps, .int .i64 n, .int .u32 1]) :
    Calls Try.prog 22 #[.pointer (some ⟨bv, 0, none⟩)] w fun e w' => e = .returned (.tuple #[.int .i64 n, .bool true]) ∧ Own (fun _ => False) w w' := by
  have hb1 := hb.alloc (.cells #[.pointer (some ⟨bv, 0, none⟩)] 39)
  have hmf : ∀ (fn : Fn) (first cap : Array Value) (w : World), (Instr.makeFunc fn first cap).run Try.prog w = .ok (.func fn first cap) w := fun _ _ _ _ => rfl
  have hnot : ∀ (x : Bool) (w : World), (Op.unary .not (.bool x)).run Try.prog w = .ok (.bool (!x)) w := fun _ _ => rfl
  have a0 : (w.alloc (.cells #[.pointer (some ⟨bv, 0, none⟩)] 39)).cell? ⟨bv, 0, none⟩ = some (.int .u32 1) := (hb1.cell 0).trans rfl
  have a3 : (w.alloc (.cells #[.pointer (some ⟨bv, 0, none⟩)] 39)).cell? ⟨bv, 3, none⟩ = some (.func (.func f) #[] caps) := (hb1.cell 3).trans rfl
  have a4 : (w.alloc (.cells #[.pointer (some ⟨bv, 0, none⟩)] 39)).cell? ⟨bv, 4, none⟩ = some (.int .i64 n) := (hb1.cell 4).trans rfl
  have hl := run_call_load (P := Try.prog) Try.func55 (by kernel_rfl) (by kernel_rfl) (by kernel_rfl) .u32 (by kernel_rfl) a0
  have hnil := neq_nil64
  go_enter Try.func22, Try.ntmps22
  go_wp2
  go_end0
  go_wp2
  go_ret2
  exact ⟨rfl, (Own.refl _ w).alloc _⟩

/-- Made. -/
theorem made64 (bv : Nat) (f : FuncId) (caps : Array Value) (d d' n x : Value) (m : Int) (w : World)
    (hb : Blk w bv 92 #[d, d', n, .func (.func f) #[] caps, x, .int .u32 m]) :
    Calls Try.prog 21 #[.pointer (some ⟨bv, 0, none⟩)] w fun e w' => e = .returned (.bool (m != 0)) ∧ w = w' := by
  have a3 : w.cell? ⟨bv, 3, none⟩ = some (.func (.func f) #[] caps) := (hb.cell 3).trans rfl
  have a5 : w.cell? ⟨bv, 5, none⟩ = some (.int .u32 m) := (hb.cell 5).trans rfl
  have hnil := neq_nil64
  go_enter Try.func21, Try.ntmps21
  go_wp2_with (first | (go_at_call 41; refine (load_bool bv 5 m _ a5).mono ?_; rintro e w' ⟨rfl, rfl⟩) | (go_at_call 40; go_in))
  go_ret
  exact ⟨rfl, rfl⟩

/-- New. -/
theorem new64 (f : FuncId) (caps : Array Value) (w : World) :
    Calls Try.prog 19 #[.func (.func f) #[] caps] w fun e w' => e = .returned (.pointer (some ⟨w.heap.size, 0, none⟩)) ∧ Own (fun _ => False) w w' ∧ Blk w' w.heap.size 92 #[.int .u32 0, .int .i32 0, .int .u32 0, .func (.func f) #[] caps, .int .i64 0, .int .u32 0] := by
  have hnil := eql_nil64
  go_enter Try.func19, Try.ntmps19
  go_wp2
  go_ret
  exact ⟨rfl, (Own.refl _ w).alloc _, Blk.new w _ _⟩
end Go.Proofs.Ythnllejpoklgbaa
