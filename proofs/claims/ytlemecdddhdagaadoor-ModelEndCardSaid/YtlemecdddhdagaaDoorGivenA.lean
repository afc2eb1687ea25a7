/-
  code.Right: WHICH INSTRUCTIONS MAY BE, by the laid table of the operations: the program's call answers as a plain function does.
-/
import Derived.Test.YtlemecdddhdagaaDoorPx0
import Derived.Laws.Externs
import Derived.Lib.Bytealg
import Derived.Laws.NewBlocks
namespace Go.Proofs.YtlemecdddhdagaaDoor.P
open Go.RowKit Go.Proofs.YtlemecdddhdagaaDoorW.PrintWords Go.Proofs.YtlemecdddhdagaaDoorW.PrintLast Go.Proofs.YtlemecdddhdagaaDoorW.PrintMore

/-- The table of the operations, as it is laid: a name and the letters of what it has, one behind the other. -/
def tabA : Option Addr := some ⟨0, 0, none⟩
def tabL : List ByteArray := [⟨#[]⟩, ⟨#[]⟩, ⟨#[115, 101, 116]⟩, ⟨#[97, 110]⟩, ⟨#[97, 100, 100]⟩, ⟨#[97, 98, 99]⟩, ⟨#[106, 117, 109, 112]⟩, ⟨#[110]⟩, ⟨#[122, 101, 114, 111]⟩, ⟨#[97, 110]⟩, ⟨#[110, 101, 119]⟩, ⟨#[97]⟩, ⟨#[110, 105, 108]⟩, ⟨#[97]⟩, ⟨#[109, 111, 118, 101]⟩, ⟨#[97, 98]⟩, ⟨#[108, 111, 97, 100, 105]⟩, ⟨#[97, 98, 110]⟩, ⟨#[115, 116, 111, 114, 101, 105]⟩, ⟨#[97, 110, 98]⟩, ⟨#[108, 111, 97, 100, 112]⟩, ⟨#[97, 98, 110]⟩, ⟨#[115, 116, 111, 114, 101, 112]⟩, ⟨#[97, 110, 98]⟩, ⟨#[108, 111, 97, 100, 103]⟩, ⟨#[97, 98]⟩, ⟨#[115, 116, 111, 114, 101, 103]⟩, ⟨#[97, 98]⟩, ⟨#[112, 114, 105, 110, 116]⟩, ⟨#[97]⟩, ⟨#[115, 97, 109, 101]⟩, ⟨#[97, 98, 99]⟩]

/-- The letters of what an operation has. -/
def letters (o : Int) : List UInt8 :=
  if o = 1 then [97, 110]
  else if o = 2 then [97, 98, 99]
  else if o = 3 then [110]
  else if o = 4 then [97, 110]
  else if o = 5 then [97]
  else if o = 6 then [97]
  else if o = 7 then [97, 98]
  else if o = 8 then [97, 98, 110]
  else if o = 9 then [97, 110, 98]
  else if o = 10 then [97, 98, 110]
  else if o = 11 then [97, 110, 98]
  else if o = 12 then [97, 98]
  else if o = 13 then [97, 98]
  else if o = 14 then [97]
  else if o = 15 then [97, 98, 99]
  else []
def hasB (o : Int) (c : UInt8) : Bool := (letters o).contains c

def code_Right.f (a0_0 : Int) (a0_1 : Int) (a0_2 : Int) (a0_3 : Int) (a0_4 : Int) : Option (Bool) :=
  if a0_0 < 1 then some false else if a0_0 > 15 then some false else
  some ((hasB a0_0 98 || a0_2 == 0) && (hasB a0_0 99 || a0_3 == 0) && (hasB a0_0 110 || a0_4 == 0) && (hasB a0_0 97 || a0_1 == 0))

theorem run_indexByte (s : ByteArray) (c : Int) (w : World) : (callFunc 87 #[.string s, .int .u8 c]).run Tryd.prog w = .ok (.value (.int .i64 (Lib.indexByte s.data.toList c.toNat.toUInt8))) w := by
  rw [run_callFunc_extern Tryd.func87 (by kernel_rfl) (by kernel_rfl) (by kernel_rfl) (e := Extern.BytealgIndexByte.indexByte) (by kernel_rfl), Lib.run_indexByteString]
  rfl

theorem tab_cell {w : World} (h : Kd.C Kd.string w tabA tabL.length tabL) (i : Nat) (hi : i < 32) : w.cell? ⟨0, i, none⟩ = some (.string (tabL.getD i ByteArray.empty)) := by
  obtain ⟨ad, e, hc⟩ := Kd.at_string h i (by omega) (by show (i : Int) < 32; omega)
  injection e with e
  subst e
  rw [Int.toNat_natCast] at hc
  rw [show rdOf ByteArray.empty tabL (i : Int) = tabL.getD i ByteArray.empty from by simp [rdOf]] at hc
  rw [← hc]
  unfold Addr.add
  split
  · rename_i h0
    subst h0
    rfl
  · simp

theorem tab_later {w : World} (h : Kd.C Kd.string w tabA tabL.length tabL) (o : Obj) (i : Nat) (hi : i < 32) (s : ByteArray) (hs : tabL.getD i ByteArray.empty = s) : (w.alloc o).cell? ⟨0, i, none⟩ = some (.string s) := by
  have hc := tab_cell h i hi
  rw [World.cell?_alloc_past _ _ _ (World.block_lt_of_cell? w _ hc), hc, hs]

set_option maxRecDepth 100000 in
theorem has_an_b (w : World) : Calls Tryd.prog 54 #[.string ⟨#[97, 110]⟩, .string ⟨#[98]⟩] w fun e w' => e = .returned (.bool false) ∧ w = w' := by
  have hi := run_indexByte
  go_enter Tryd.func54, Tryd.ntmps54
  go_wp2
  go_ret
  exact ⟨rfl, rfl⟩
theorem fun_an_b (p o j : Nat) (hj : j = o * 2 + 1) (ho : o < 16) (w : World) (hp : w.cell? ⟨p, 0, none⟩ = some (.int .u8 o)) (ht : w.cell? ⟨0, j, none⟩ = some (.string ⟨#[97, 110]⟩)) : Calls Tryd.prog 53 #[.string ⟨#[98]⟩, .pointer (some ⟨p, 0, none⟩)] w fun e w' => e = .returned (.bool false) ∧ w = w' := by
  subst hj
  have ho1 : (o : Int) < 16 := by omega
  go_enter Tryd.func53, Tryd.ntmps53
  go_wp2_with (go_at_call 54; refine (has_an_b _).mono ?_; rintro e w' ⟨rfl, rfl⟩)
  go_ret
  exact ⟨rfl, rfl⟩

set_option maxRecDepth 100000 in
theorem has_an_c (w : World) : Calls Tryd.prog 54 #[.string ⟨#[97, 110]⟩, .string ⟨#[99]⟩] w fun e w' => e = .returned (.bool false) ∧ w = w' := by
  have hi := run_indexByte
  go_enter Tryd.func54, Tryd.ntmps54
  go_wp2
  go_ret
  exact ⟨rfl, rfl⟩
theorem fun_an_c (p o j : Nat) (hj : j = o * 2 + 1) (ho : o < 16) (w : World) (hp : w.cell? ⟨p, 0, none⟩ = some (.int .u8 o)) (ht : w.cell? ⟨0, j, none⟩ = some (.string ⟨#[97, 110]⟩)) : Calls Tryd.prog 53 #[.string ⟨#[99]⟩, .pointer (some ⟨p, 0, none⟩)] w fun e w' => e = .returned (.bool false) ∧ w = w' := by
  subst hj
  have ho1 : (o : Int) < 16 := by omega
  go_enter Tryd.func53, Tryd.ntmps53
  go_wp2_with (go_at_call 54; refine (has_an_c _).mono ?_; rintro e w' ⟨rfl, rfl⟩)
  go_ret
  exact ⟨rfl, rfl⟩

set_option maxRecDepth 100000 in
theorem has_an_n (w : World) : Calls Tryd.prog 54 #[.string ⟨#[97, 110]⟩, .string ⟨#[110]⟩] w fun e w' => e = .returned (.bool true) ∧ w = w' := by
  have hi := run_indexByte
  go_enter Tryd.func54, Tryd.ntmps54
  go_wp2
  go_ret
  exact ⟨rfl, rfl⟩
theorem fun_an_n (p o j : Nat) (hj : j = o * 2 + 1) (ho : o < 16) (w : World) (hp : w.cell? ⟨p, 0, none⟩ = some (.int .u8 o)) (ht : w.cell? ⟨0, j, none⟩ = some (.string ⟨#[97, 110]⟩)) : Calls Tryd.prog 53 #[.string ⟨#[110]⟩, .pointer (some ⟨p, 0, none⟩)] w fun e w' => e = .returned (.bool true) ∧ w = w' := by
  subst hj
  have ho1 : (o : Int) < 16 := by omega
  go_enter Tryd.func53, Tryd.ntmps53
  go_wp2_with (go_at_call 54; refine (has_an_n _).mono ?_; rintro e w' ⟨rfl, rfl⟩)
  go_ret
  exact ⟨rfl, rfl⟩

set_option maxRecDepth 100000 in
theorem has_an_a (w : World) : Calls Tryd.prog 54 #[.string ⟨#[97, 110]⟩, .string ⟨#[97]⟩] w fun e w' => e = .returned (.bool true) ∧ w = w' := by
  have hi := run_indexByte
  go_enter Tryd.func54, Tryd.ntmps54
  go_wp2
  go_ret
  exact ⟨rfl, rfl⟩
theorem fun_an_a (p o j : Nat) (hj : j = o * 2 + 1) (ho : o < 16) (w : World) (hp : w.cell? ⟨p, 0, none⟩ = some (.int .u8 o)) (ht : w.cell? ⟨0, j, none⟩ = some (.string ⟨#[97, 110]⟩)) : Calls Tryd.prog 53 #[.string ⟨#[97]⟩, .pointer (some ⟨p, 0, none⟩)] w fun e w' => e = .returned (.bool true) ∧ w = w' := by
  subst hj
  have ho1 : (o : Int) < 16 := by omega
  go_enter Tryd.func53, Tryd.ntmps53
  go_wp2_with (go_at_call 54; refine (has_an_a _).mono ?_; rintro e w' ⟨rfl, rfl⟩)
  go_ret
  exact ⟨rfl, rfl⟩

set_option maxRecDepth 100000 in
theorem has_abc_b (w : World) : Calls Tryd.prog 54 #[.string ⟨#[97, 98, 99]⟩, .string ⟨#[98]⟩] w fun e w' => e = .returned (.bool true) ∧ w = w' := by
  have hi := run_indexByte
  go_enter Tryd.func54, Tryd.ntmps54
  go_wp2
  go_ret
  exact ⟨rfl, rfl⟩
theorem fun_abc_b (p o j : Nat) (hj : j = o * 2 + 1) (ho : o < 16) (w : World) (hp : w.cell? ⟨p, 0, none⟩ = some (.int .u8 o)) (ht : w.cell? ⟨0, j, none⟩ = some (.string ⟨#[97, 98, 99]⟩)) : Calls Tryd.prog 53 #[.string ⟨#[98]⟩, .pointer (some ⟨p, 0, none⟩)] w fun e w' => e = .returned (.bool true) ∧ w = w' := by
  subst hj
  have ho1 : (o : Int) < 16 := by omega
  go_enter Tryd.func53, Tryd.ntmps53
  go_wp2_with (go_at_call 54; refine (has_abc_b _).mono ?_; rintro e w' ⟨rfl, rfl⟩)
  go_ret
  exact ⟨rfl, rfl⟩

set_option maxRecDepth 100000 in
theorem has_abc_c (w : World) : Calls Tryd.prog 54 #[.string ⟨#[97, 98, 99]⟩, .string ⟨#[99]⟩] w fun e w' => e = .returned (.bool true) ∧ w = w' := by
  have hi := run_indexByte
  go_enter Tryd.func54, Tryd.ntmps54
  go_wp2
  go_ret
  exact ⟨rfl, rfl⟩
theorem fun_abc_c (p o j : Nat) (hj : j = o * 2 + 1) (ho : o < 16) (w : World) (hp : w.cell? ⟨p, 0, none⟩ = some (.int .u8 o)) (ht : w.cell? ⟨0, j, none⟩ = some (.string ⟨#[97, 98, 99]⟩)) : Calls Tryd.prog 53 #[.string ⟨#[99]⟩, .pointer (some ⟨p, 0, none⟩)] w fun e w' => e = .returned (.bool true) ∧ w = w' := by
  subst hj
  have ho1 : (o : Int) < 16 := by omega
  go_enter Tryd.func53, Tryd.ntmps53
  go_wp2_with (go_at_call 54; refine (has_abc_c _).mono ?_; rintro e w' ⟨rfl, rfl⟩)
  go_ret
  exact ⟨rfl, rfl⟩

set_option maxRecDepth 100000 in
theorem has_abc_n (w : World) : Calls Tryd.prog 54 #[.string ⟨#[97, 98, 99]⟩, .string ⟨#[110]⟩] w fun e w' => e = .returned (.bool false) ∧ w = w' := by
  have hi := run_indexByte
  go_enter Tryd.func54, Tryd.ntmps54
  go_wp2
  go_ret
  exact ⟨rfl, rfl⟩
theorem fun_abc_n (p o j : Nat) (hj : j = o * 2 + 1) (ho : o < 16) (w : World) (hp : w.cell? ⟨p, 0, none⟩ = some (.int .u8 o)) (ht : w.cell? ⟨0, j, none⟩ = some (.string ⟨#[97, 98, 99]⟩)) : Calls Tryd.prog 53 #[.string ⟨#[110]⟩, .pointer (some ⟨p, 0, none⟩)] w fun e w' => e = .returned (.bool false) ∧ w = w' := by
  subst hj
  have ho1 : (o : Int) < 16 := by omega
  go_enter Tryd.func53, Tryd.ntmps53
  go_wp2_with (go_at_call 54; refine (has_abc_n _).mono ?_; rintro e w' ⟨rfl, rfl⟩)
  go_ret
  exact ⟨rfl, rfl⟩

set_option maxRecDepth 100000 in
theorem has_abc_a (w : World) : Calls Tryd.prog 54 #[.string ⟨#[97, 98, 99]⟩, .string ⟨#[97]⟩] w fun e w' => e = .returned (.bool true) ∧ w = w' := by
  have hi := run_indexByte
  go_enter Tryd.func54, Tryd.ntmps54
  go_wp2
  go_ret
  exact ⟨rfl, rfl⟩
theorem fun_abc_a (p o j : Nat) (hj : j = o * 2 + 1) (ho : o < 16) (w : World) (hp : w.cell? ⟨p, 0, none⟩ = some (.int .u8 o)) (ht : w.cell? ⟨0, j, none⟩ = some (.string ⟨#[97, 98, 99]⟩)) : Calls Tryd.prog 53 #[.string ⟨#[97]⟩, .pointer (some ⟨p, 0, none⟩)] w fun e w' => e = .returned (.bool true) ∧ w = w' := by
  subst hj
  have ho1 : (o : Int) < 16 := by omega
  go_enter Tryd.func53, Tryd.ntmps53
  go_wp2_with (go_at_call 54; refine (has_abc_a _).mono ?_; rintro e w' ⟨rfl, rfl⟩)
  go_ret
  exact ⟨rfl, rfl⟩

set_option maxRecDepth 100000 in
theorem has_n_b (w : World) : Calls Tryd.prog 54 #[.string ⟨#[110]⟩, .string ⟨#[98]⟩] w fun e w' => e = .returned (.bool false) ∧ w = w' := by
  have hi := run_indexByte
  go_enter Tryd.func54, Tryd.ntmps54
  go_wp2
  go_ret
  exact ⟨rfl, rfl⟩
theorem fun_n_b (p o j : Nat) (hj : j = o * 2 + 1) (ho : o < 16) (w : World) (hp : w.cell? ⟨p, 0, none⟩ = some (.int .u8 o)) (ht : w.cell? ⟨0, j, none⟩ = some (.string ⟨#[110]⟩)) : Calls Tryd.prog 53 #[.string ⟨#[98]⟩, .pointer (some ⟨p, 0, none⟩)] w fun e w' => e = .returned (.bool false) ∧ w = w' := by
  subst hj
  have ho1 : (o : Int) < 16 := by omega
  go_enter Tryd.func53, Tryd.ntmps53
  go_wp2_with (go_at_call 54; refine (has_n_b _).mono ?_; rintro e w' ⟨rfl, rfl⟩)
  go_ret
  exact ⟨rfl, rfl⟩

set_option maxRecDepth 100000 in
theorem has_n_c (w : World) : Calls Tryd.prog 54 #[.string ⟨#[110]⟩, .string ⟨#[99]⟩] w fun e w' => e = .returned (.bool false) ∧ w = w' := by
  have hi := run_indexByte
  go_enter Tryd.func54, Tryd.ntmps54
  go_wp2
  go_ret
  exact ⟨rfl, rfl⟩
theorem fun_n_c (p o j : Nat) (hj : j = o * 2 + 1) (ho : o < 16) (w : World) (hp : w.cell? ⟨p, 0, none⟩ = some (.int .u8 o)) (ht : w.cell? ⟨0, j, none⟩ = some (.string ⟨#[110]⟩)) : Calls Tryd.prog 53 #[.string ⟨#[99]⟩, .pointer (some ⟨p, 0, none⟩)] w fun e w' => e = .returned (.bool false) ∧ w = w' := by
  subst hj
  have ho1 : (o : Int) < 16 := by omega
  go_enter Tryd.func53, Tryd.ntmps53
  go_wp2_with (go_at_call 54; refine (has_n_c _).mono ?_; rintro e w' ⟨rfl, rfl⟩)
  go_ret
  exact ⟨rfl, rfl⟩

set_option maxRecDepth 100000 in
theorem has_n_n (w : World) : Calls Tryd.prog 54 #[.string ⟨#[110]⟩, .string ⟨#[110]⟩] w fun e w' => e = .returned (.bool true) ∧ w = w' := by
  have hi := run_indexByte
  go_enter Tryd.func54, Tryd.ntmps54
  go_wp2
  go_ret
  exact ⟨rfl, rfl⟩
theorem fun_n_n (p o j : Nat) (hj : j = o * 2 + 1) (ho : o < 16) (w : World) (hp : w.cell? ⟨p, 0, none⟩ = some (.int .u8 o)) (ht : w.cell? ⟨0, j, none⟩ = some (.string ⟨#[110]⟩)) : Calls Tryd.prog 53 #[.string ⟨#[110]⟩, .pointer (some ⟨p, 0, none⟩)] w fun e w' => e = .returned (.bool true) ∧ w = w' := by
  subst hj
  have ho1 : (o : Int) < 16 := by omega
  go_enter Tryd.func53, Tryd.ntmps53
  go_wp2_with (go_at_call 54; refine (has_n_n _).mono ?_; rintro e w' ⟨rfl, rfl⟩)
  go_ret
  exact ⟨rfl, rfl⟩

set_option maxRecDepth 100000 in
theorem has_n_a (w : World) : Calls Tryd.prog 54 #[.string ⟨#[110]⟩, .string ⟨#[97]⟩] w fun e w' => e = .returned (.bool false) ∧ w = w' := by
  have hi := run_indexByte
  go_enter Tryd.func54, Tryd.ntmps54
  go_wp2
  go_ret
  exact ⟨rfl, rfl⟩
theorem fun_n_a (p o j : Nat) (hj : j = o * 2 + 1) (ho : o < 16) (w : World) (hp : w.cell? ⟨p, 0, none⟩ = some (.int .u8 o)) (ht : w.cell? ⟨0, j, none⟩ = some (.string ⟨#[110]⟩)) : Calls Tryd.prog 53 #[.string ⟨#[97]⟩, .pointer (some ⟨p, 0, none⟩)] w fun e w' => e = .returned (.bool false) ∧ w = w' := by
  subst hj
  have ho1 : (o : Int) < 16 := by omega
  go_enter Tryd.func53, Tryd.ntmps53
  go_wp2_with (go_at_call 54; refine (has_n_a _).mono ?_; rintro e w' ⟨rfl, rfl⟩)
  go_ret
  exact ⟨rfl, rfl⟩

set_option maxRecDepth 100000 in
theorem has_a_b (w : World) : Calls Tryd.prog 54 #[.string ⟨#[97]⟩, .string ⟨#[98]⟩] w fun e w' => e = .returned (.bool false) ∧ w = w' := by
  have hi := run_indexByte
  go_enter Tryd.func54, Tryd.ntmps54
  go_wp2
  go_ret
  exact ⟨rfl, rfl⟩
theorem fun_a_b (p o j : Nat) (hj : j = o * 2 + 1) (ho : o < 16) (w : World) (hp : w.cell? ⟨p, 0, none⟩ = some (.int .u8 o)) (ht : w.cell? ⟨0, j, none⟩ = some (.string ⟨#[97]⟩)) : Calls Tryd.prog 53 #[.string ⟨#[98]⟩, .pointer (some ⟨p, 0, none⟩)] w fun e w' => e = .returned (.bool false) ∧ w = w' := by
  subst hj
  have ho1 : (o : Int) < 16 := by omega
  go_enter Tryd.func53, Tryd.ntmps53
  go_wp2_with (go_at_call 54; refine (has_a_b _).mono ?_; rintro e w' ⟨rfl, rfl⟩)
  go_ret
  exact ⟨rfl, rfl⟩

set_option maxRecDepth 100000 in
theorem has_a_c (w : World) : Calls Tryd.prog 54 #[.string ⟨#[97]⟩, .string ⟨#[99]⟩] w fun e w' => e = .returned (.bool false) ∧ w = w' := by
  have hi := run_indexByte
  go_enter Tryd.func54, Tryd.ntmps54
  go_wp2
  go_ret
  exact ⟨rfl, rfl⟩
theorem fun_a_c (p o j : Nat) (hj : j = o * 2 + 1) (ho : o < 16) (w : World) (hp : w.cell? ⟨p, 0, none⟩ = some (.int .u8 o)) (ht : w.cell? ⟨0, j, none⟩ = some (.string ⟨#[97]⟩)) : Calls Tryd.prog 53 #[.string ⟨#[99]⟩, .pointer (some ⟨p, 0, none⟩)] w fun e w' => e = .returned (.bool false) ∧ w = w' := by
  subst hj
  have ho1 : (o : Int) < 16 := by omega
  go_enter Tryd.func53, Tryd.ntmps53
  go_wp2_with (go_at_call 54; refine (has_a_c _).mono ?_; rintro e w' ⟨rfl, rfl⟩)
  go_ret
  exact ⟨rfl, rfl⟩

set_option maxRecDepth 100000 in
theorem has_a_n (w : World) : Calls Tryd.prog 54 #[.string ⟨#[97]⟩, .string ⟨#[110]⟩] w fun e w' => e = .returned (.bool false) ∧ w = w' := by
  have hi := run_indexByte
  go_enter Tryd.func54, Tryd.ntmps54
  go_wp2
  go_ret
  exact ⟨rfl, rfl⟩
theorem fun_a_n (p o j : Nat) (hj : j = o * 2 + 1) (ho : o < 16) (w : World) (hp : w.cell? ⟨p, 0, none⟩ = some (.int .u8 o)) (ht : w.cell? ⟨0, j, none⟩ = some (.string ⟨#[97]⟩)) : Calls Tryd.prog 53 #[.string ⟨#[110]⟩, .pointer (some ⟨p, 0, none⟩)] w fun e w' => e = .returned (.bool false) ∧ w = w' := by
  subst hj
  have ho1 : (o : Int) < 16 := by omega
  go_enter Tryd.func53, Tryd.ntmps53
  go_wp2_with (go_at_call 54; refine (has_a_n _).mono ?_; rintro e w' ⟨rfl, rfl⟩)
  go_ret
  exact ⟨rfl, rfl⟩

set_option maxRecDepth 100000 in
theorem has_a_a (w : World) : Calls Tryd.prog 54 #[.string ⟨#[97]⟩, .string ⟨#[97]⟩] w fun e w' => e = .returned (.bool true) ∧ w = w' := by
  have hi := run_indexByte
  go_enter Tryd.func54, Tryd.ntmps54
  go_wp2
  go_ret
  exact ⟨rfl, rfl⟩
theorem fun_a_a (p o j : Nat) (hj : j = o * 2 + 1) (ho : o < 16) (w : World) (hp : w.cell? ⟨p, 0, none⟩ = some (.int .u8 o)) (ht : w.cell? ⟨0, j, none⟩ = some (.string ⟨#[97]⟩)) : Calls Tryd.prog 53 #[.string ⟨#[97]⟩, .pointer (some ⟨p, 0, none⟩)] w fun e w' => e = .returned (.bool true) ∧ w = w' := by
  subst hj
  have ho1 : (o : Int) < 16 := by omega
  go_enter Tryd.func53, Tryd.ntmps53
  go_wp2_with (go_at_call 54; refine (has_a_a _).mono ?_; rintro e w' ⟨rfl, rfl⟩)
  go_ret
  exact ⟨rfl, rfl⟩

set_option maxRecDepth 100000 in
theorem has_ab_b (w : World) : Calls Tryd.prog 54 #[.string ⟨#[97, 98]⟩, .string ⟨#[98]⟩] w fun e w' => e = .returned (.bool true) ∧ w = w' := by
  have hi := run_indexByte
  go_enter Tryd.func54, Tryd.ntmps54
  go_wp2
  go_ret
  exact ⟨rfl, rfl⟩
theorem fun_ab_b (p o j : Nat) (hj : j = o * 2 + 1) (ho : o < 16) (w : World) (hp : w.cell? ⟨p, 0, none⟩ = some (.int .u8 o)) (ht : w.cell? ⟨0, j, none⟩ = some (.string ⟨#[97, 98]⟩)) : Calls Tryd.prog 53 #[.string ⟨#[98]⟩, .pointer (some ⟨p, 0, none⟩)] w fun e w' => e = .returned (.bool true) ∧ w = w' := by
  subst hj
  have ho1 : (o : Int) < 16 := by omega
  go_enter Tryd.func53, Tryd.ntmps53
  go_wp2_with (go_at_call 54; refine (has_ab_b _).mono ?_; rintro e w' ⟨rfl, rfl⟩)
  go_ret
  exact ⟨rfl, rfl⟩

set_option maxRecDepth 100000 in
theorem has_ab_c (w : World) : Calls Tryd.prog 54 #[.string ⟨#[97, 98]⟩, .string ⟨#[99]⟩] w fun e w' => e = .returned (.bool false) ∧ w = w' := by
  have hi := run_indexByte
  go_enter Tryd.func54, Tryd.ntmps54
  go_wp2
  go_ret
  exact ⟨rfl, rfl⟩
theorem fun_ab_c (p o j : Nat) (hj : j = o * 2 + 1) (ho : o < 16) (w : World) (hp : w.cell? ⟨p, 0, none⟩ = some (.int .u8 o)) (ht : w.cell? ⟨0, j, none⟩ = some (.string ⟨#[97, 98]⟩)) : Calls Tryd.prog 53 #[.string ⟨#[99]⟩, .pointer (some ⟨p, 0, none⟩)] w fun e w' => e = .returned (.bool false) ∧ w = w' := by
  subst hj
  have ho1 : (o : Int) < 16 := by omega
  go_enter Tryd.func53, Tryd.ntmps53
  go_wp2_with (go_at_call 54; refine (has_ab_c _).mono ?_; rintro e w' ⟨rfl, rfl⟩)
  go_ret
  exact ⟨rfl, rfl⟩

set_option maxRecDepth 100000 in
theorem has_ab_n (w : World) : Calls Tryd.prog 54 #[.string ⟨#[97, 98]⟩, .string ⟨#[110]⟩] w fun e w' => e = .returned (.bool false) ∧ w = w' := by
  have hi := run_indexByte
  go_enter Tryd.func54, Tryd.ntmps54
  go_wp2
  go_ret
  exact ⟨rfl, rfl⟩
theorem fun_ab_n (p o j : Nat) (hj : j = o * 2 + 1) (ho : o < 16) (w : World) (hp : w.cell? ⟨p, 0, none⟩ = some (.int .u8 o)) (ht : w.cell? ⟨0, j, none⟩ = some (.string ⟨#[97, 98]⟩)) : Calls Tryd.prog 53 #[.string ⟨#[110]⟩, .pointer (some ⟨p, 0, none⟩)] w fun e w' => e = .returned (.bool false) ∧ w = w' := by
  subst hj
  have ho1 : (o : Int) < 16 := by omega
  go_enter Tryd.func53, Tryd.ntmps53
  go_wp2_with (go_at_call 54; refine (has_ab_n _).mono ?_; rintro e w' ⟨rfl, rfl⟩)
  go_ret
  exact ⟨rfl, rfl⟩

set_option maxRecDepth 100000 in
theorem has_ab_a (w : World) : Calls Tryd.prog 54 #[.string ⟨#[97, 98]⟩, .string ⟨#[97]⟩] w fun e w' => e = .returned (.bool true) ∧ w = w' := by
  have hi := run_indexByte
  go_enter Tryd.func54, Tryd.ntmps54
  go_wp2
  go_ret
  exact ⟨rfl, rfl⟩
theorem fun_ab_a (p o j : Nat) (hj : j = o * 2 + 1) (ho : o < 16) (w : World) (hp : w.cell? ⟨p, 0, none⟩ = some (.int .u8 o)) (ht : w.cell? ⟨0, j, none⟩ = some (.string ⟨#[97, 98]⟩)) : Calls Tryd.prog 53 #[.string ⟨#[97]⟩, .pointer (some ⟨p, 0, none⟩)] w fun e w' => e = .returned (.bool true) ∧ w = w' := by
  subst hj
  have ho1 : (o : Int) < 16 := by omega
  go_enter Tryd.func53, Tryd.ntmps53
  go_wp2_with (go_at_call 54; refine (has_ab_a _).mono ?_; rintro e w' ⟨rfl, rfl⟩)
  go_ret
  exact ⟨rfl, rfl⟩

set_option maxRecDepth 100000 in
theorem has_abn_b (w : World) : Calls Tryd.prog 54 #[.string ⟨#[97, 98, 110]⟩, .string ⟨#[98]⟩] w fun e w' => e = .returned (.bool true) ∧ w = w' := by
  have hi := run_indexByte
  go_enter Tryd.func54, Tryd.ntmps54
  go_wp2
  go_ret
  exact ⟨rfl, rfl⟩
theorem fun_abn_b (p o j : Nat) (hj : j = o * 2 + 1) (ho : o < 16) (w : World) (hp : w.cell? ⟨p, 0, none⟩ = some (.int .u8 o)) (ht : w.cell? ⟨0, j, none⟩ = some (.string ⟨#[97, 98, 110]⟩)) : Calls Tryd.prog 53 #[.string ⟨#[98]⟩, .pointer (some ⟨p, 0, none⟩)] w fun e w' => e = .returned (.bool true) ∧ w = w' := by
  subst hj
  have ho1 : (o : Int) < 16 := by omega
  go_enter Tryd.func53, Tryd.ntmps53
  go_wp2_with (go_at_call 54; refine (has_abn_b _).mono ?_; rintro e w' ⟨rfl, rfl⟩)
  go_ret
  exact ⟨rfl, rfl⟩

set_option maxRecDepth 100000 in
theorem has_abn_c (w : World) : Calls Tryd.prog 54 #[.string ⟨#[97, 98, 110]⟩, .string ⟨#[99]⟩] w fun e w' => e = .returned (.bool false) ∧ w = w' := by
  have hi := run_indexByte
  go_enter Tryd.func54, Tryd.ntmps54
  go_wp2
  go_ret
  exact ⟨rfl, rfl⟩
theorem fun_abn_c (p o j : Nat) (hj : j = o * 2 + 1) (ho : o < 16) (w : World) (hp : w.cell? ⟨p, 0, none⟩ = some (.int .u8 o)) (ht : w.cell? ⟨0, j, none⟩ = some (.string ⟨#[97, 98, 110]⟩)) : Calls Tryd.prog 53 #[.string ⟨#[99]⟩, .pointer (some ⟨p, 0, none⟩)] w fun e w' => e = .returned (.bool false) ∧ w = w' := by
  subst hj
  have ho1 : (o : Int) < 16 := by omega
  go_enter Tryd.func53, Tryd.ntmps53
  go_wp2_with (go_at_call 54; refine (has_abn_c _).mono ?_; rintro e w' ⟨rfl, rfl⟩)
  go_ret
  exact ⟨rfl, rfl⟩

set_option maxRecDepth 100000 in
theorem has_abn_n (w : World) : Calls Tryd.prog 54 #[.string ⟨#[97, 98, 110]⟩, .string ⟨#[110]⟩] w fun e w' => e = .returned (.bool true) ∧ w = w' := by
  have hi := run_indexByte
  go_enter Tryd.func54, Tryd.ntmps54
  go_wp2
  go_ret
  exact ⟨rfl, rfl⟩
theorem fun_abn_n (p o j : Nat) (hj : j = o * 2 + 1) (ho : o < 16) (w : World) (hp : w.cell? ⟨p, 0, none⟩ = some (.int .u8 o)) (ht : w.cell? ⟨0, j, none⟩ = some (.string ⟨#[97, 98, 110]⟩)) : Calls Tryd.prog 53 #[.string ⟨#[110]⟩, .pointer (some ⟨p, 0, none⟩)] w fun e w' => e = .returned (.bool true) ∧ w = w' := by
  subst hj
  have ho1 : (o : Int) < 16 := by omega
  go_enter Tryd.func53, Tryd.ntmps53
  go_wp2_with (go_at_call 54; refine (has_abn_n _).mono ?_; rintro e w' ⟨rfl, rfl⟩)
  go_ret
  exact ⟨rfl, rfl⟩

set_option maxRecDepth 100000 in
theorem has_abn_a (w : World) : Calls Tryd.prog 54 #[.string ⟨#[97, 98, 110]⟩, .string ⟨#[97]⟩] w fun e w' => e = .returned (.bool true) ∧ w = w' := by
  have hi := run_indexByte
  go_enter Tryd.func54, Tryd.ntmps54
  go_wp2
  go_ret
  exact ⟨rfl, rfl⟩
theorem fun_abn_a (p o j : Nat) (hj : j = o * 2 + 1) (ho : o < 16) (w : World) (hp : w.cell? ⟨p, 0, none⟩ = some (.int .u8 o)) (ht : w.cell? ⟨0, j, none⟩ = some (.string ⟨#[97, 98, 110]⟩)) : Calls Tryd.prog 53 #[.string ⟨#[97]⟩, .pointer (some ⟨p, 0, none⟩)] w fun e w' => e = .returned (.bool true) ∧ w = w' := by
  subst hj
  have ho1 : (o : Int) < 16 := by omega
  go_enter Tryd.func53, Tryd.ntmps53
  go_wp2_with (go_at_call 54; refine (has_abn_a _).mono ?_; rintro e w' ⟨rfl, rfl⟩)
  go_ret
  exact ⟨rfl, rfl⟩

set_option maxRecDepth 100000 in
theorem has_anb_b (w : World) : Calls Tryd.prog 54 #[.string ⟨#[97, 110, 98]⟩, .string ⟨#[98]⟩] w fun e w' => e = .returned (.bool true) ∧ w = w' := by
  have hi := run_indexByte
  go_enter Tryd.func54, Tryd.ntmps54
  go_wp2
  go_ret
  exact ⟨rfl, rfl⟩
theorem fun_anb_b (p o j : Nat) (hj : j = o * 2 + 1) (ho : o < 16) (w : World) (hp : w.cell? ⟨p, 0, none⟩ = some (.int .u8 o)) (ht : w.cell? ⟨0, j, none⟩ = some (.string ⟨#[97, 110, 98]⟩)) : Calls Tryd.prog 53 #[.string ⟨#[98]⟩, .pointer (some ⟨p, 0, none⟩)] w fun e w' => e = .returned (.bool true) ∧ w = w' := by
  subst hj
  have ho1 : (o : Int) < 16 := by omega
  go_enter Tryd.func53, Tryd.ntmps53
  go_wp2_with (go_at_call 54; refine (has_anb_b _).mono ?_; rintro e w' ⟨rfl, rfl⟩)
  go_ret
  exact ⟨rfl, rfl⟩

set_option maxRecDepth 100000 in
theorem has_anb_c (w : World) : Calls Tryd.prog 54 #[.string ⟨#[97, 110, 98]⟩, .string ⟨#[99]⟩] w fun e w' => e = .returned (.bool false) ∧ w = w' := by
  have hi := run_indexByte
  go_enter Tryd.func54, Tryd.ntmps54
  go_wp2
  go_ret
  exact ⟨rfl, rfl⟩
theorem fun_anb_c (p o j : Nat) (hj : j = o * 2 + 1) (ho : o < 16) (w : World) (hp : w.cell? ⟨p, 0, none⟩ = some (.int .u8 o)) (ht : w.cell? ⟨0, j, none⟩ = some (.string ⟨#[97, 110, 98]⟩)) : Calls Tryd.prog 53 #[.string ⟨#[99]⟩, .pointer (some ⟨p, 0, none⟩)] w fun e w' => e = .returned (.bool false) ∧ w = w' := by
  subst hj
  have ho1 : (o : Int) < 16 := by omega
  go_enter Tryd.func53, Tryd.ntmps53
  go_wp2_with (go_at_call 54; refine (has_anb_c _).mono ?_; rintro e w' ⟨rfl, rfl⟩)
  go_ret
  exact ⟨rfl, rfl⟩

set_option maxRecDepth 100000 in
theorem has_anb_n (w : World) : Calls Tryd.prog 54 #[.string ⟨#[97, 110, 98]⟩, .string ⟨#[110]⟩] w fun e w' => e = .returned (.bool true) ∧ w = w' := by
  have hi := run_indexByte
  go_enter Tryd.func54, Tryd.ntmps54
  go_wp2
  go_ret
  exact ⟨rfl, rfl⟩
theorem fun_anb_n (p o j : Nat) (hj : j = o * 2 + 1) (ho : o < 16) (w : World) (hp : w.cell? ⟨p, 0, none⟩ = some (.int .u8 o)) (ht : w.cell? ⟨0, j, none⟩ = some (.string ⟨#[97, 110, 98]⟩)) : Calls Tryd.prog 53 #[.string ⟨#[110]⟩, .pointer (some ⟨p, 0, none⟩)] w fun e w' => e = .returned (.bool true) ∧ w = w' := by
  subst hj
  have ho1 : (o : Int) < 16 := by omega
  go_enter Tryd.func53, Tryd.ntmps53
  go_wp2_with (go_at_call 54; refine (has_anb_n _).mono ?_; rintro e w' ⟨rfl, rfl⟩)
  go_ret
  exact ⟨rfl, rfl⟩

set_option maxRecDepth 100000 in
theorem has_anb_a (w : World) : Calls Tryd.prog 54 #[.string ⟨#[97, 110, 98]⟩, .string ⟨#[97]⟩] w fun e w' => e = .returned (.bool true) ∧ w = w' := by
  have hi := run_indexByte
  go_enter Tryd.func54, Tryd.ntmps54
  go_wp2
  go_ret
  exact ⟨rfl, rfl⟩
theorem fun_anb_a (p o j : Nat) (hj : j = o * 2 + 1) (ho : o < 16) (w : World) (hp : w.cell? ⟨p, 0, none⟩ = some (.int .u8 o)) (ht : w.cell? ⟨0, j, none⟩ = some (.string ⟨#[97, 110, 98]⟩)) : Calls Tryd.prog 53 #[.string ⟨#[97]⟩, .pointer (some ⟨p, 0, none⟩)] w fun e w' => e = .returned (.bool true) ∧ w = w' := by
  subst hj
  have ho1 : (o : Int) < 16 := by omega
  go_enter Tryd.func53, Tryd.ntmps53
  go_wp2_with (go_at_call 54; refine (has_anb_a _).mono ?_; rintro e w' ⟨rfl, rfl⟩)
  go_ret
  exact ⟨rfl, rfl⟩
end Go.Proofs.YtlemecdddhdagaaDoor.P
