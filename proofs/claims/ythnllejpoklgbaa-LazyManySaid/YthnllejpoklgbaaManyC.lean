/-
  LazyMany: the innermost loop: each value is made just if it was asked for.
-/
import Derived.Test.YthnllejpoklgbaaManyA
import Derived.BigQuiet
import Derived.Deep.QuietTactic
import Derived.Deep.DrawnRows
import Derived.Deep.RegionHeld3
import Derived.Deep.LoopGhost
import Derived.Lib.Hide
namespace Go.Proofs.Ythnllejpoklgbaa.lazyMany
open Go.RowKit
set_option linter.unusedVariables false
set_option linter.unusedSimpArgs false
attribute [local go_sem ↓] Go.wp_at_zero Go.wp_at_succ

/-- The loops of a function, in their order: their bodies. -/
def loopsOf : Code → List Code
  | .loop c => c :: loopsOf c
  | .seq a b => loopsOf a ++ loopsOf b
  | .block _ c => loopsOf c
  | .cond _ a b => loopsOf a ++ loopsOf b
  | _ => []
noncomputable def body3 : Code := ((Try.f5.body.map loopsOf).getD []).getD 2 .skip

set_option maxRecDepth 100000 in
set_option maxHeartbeats 3200000 in
theorem check_loop (w0 : World) (R D g m cp : Nat) (cur : Array Value) (bi bv : Nat → Nat) (As : Nat → Bool) (hm8 : m ≤ 8) (hcur : ∀ j, j < m → cur[j]? = some (.pointer (some ⟨bv j, 0, none⟩)))
    (Q0 : Exit → Act → World → Prop) (c0 c1 c2 c3 c4 c5 c8 c10 c11 c12 c13 c14 c15 c16 c17 c18 c19 c20 c21 c22 c23 c24 c25 c26 c27 c28 c29 c30 c31 c32 c33 c34 c35 c36 c37 c38 c39 c40 c41 c42 c43 c44 c45 c46 c47 c48 c49 c50 c51 c52 c53 c54 c55 c56 c57 c58 c59 c60 c61 c62 c63 c64 c65 c66 c67 c70 c71 c72 c73 c74 c75 c76 c77 c78 c79 c80 c81 c82 c83 c84 c85 c86 c87 c88 c89 c90 c91 c92 c93 c94 c95 c96 c97 c98 c99 c100 c101 c102 : Value)
    (hexit : ∀ (u4 u15 u69 u70 u71 u72 u73 u74 u75 u76 u77 u78 u79 u80 u81 u82 u83 u84 u85 u86 u87 u88 u89 u90 u91 u92 u93 u94 u95 u96 u97 u98 u99 u100 u101 : Value) (w' : World), All w0 w' R D g m cur bi bv As → Q0 (.exit 4) ⟨List.toArray (c0 :: c1 :: c2 :: c3 :: u4 :: c5 :: .pointer (some ⟨R + 1, 0, none⟩) :: .slice (some ⟨g, 0, none⟩) m cp :: c8 :: .slice (some ⟨D, 0, none⟩) m m :: c10 :: c11 :: c12 :: c13 :: c14 :: u15 :: c16 :: c17 :: c18 :: c19 :: c20 :: c21 :: c22 :: c23 :: c24 :: c25 :: c26 :: c27 :: c28 :: c29 :: c30 :: c31 :: c32 :: c33 :: c34 :: c35 :: c36 :: c37 :: c38 :: c39 :: c40 :: c41 :: c42 :: c43 :: c44 :: c45 :: c46 :: c47 :: c48 :: c49 :: c50 :: c51 :: c52 :: c53 :: c54 :: c55 :: c56 :: c57 :: c58 :: c59 :: c60 :: c61 :: c62 :: c63 :: c64 :: c65 :: c66 :: c67 :: .int .i64 (m : Int) :: u69 :: u70 :: u71 :: u72 :: u73 :: u74 :: u75 :: u76 :: u77 :: u78 :: u79 :: u80 :: u81 :: u82 :: u83 :: u84 :: u85 :: u86 :: u87 :: u88 :: u89 :: u90 :: u91 :: u92 :: u93 :: u94 :: u95 :: u96 :: u97 :: u98 :: u99 :: u100 :: u101 :: c102 :: []), []⟩ w')
    (wr : World) (hA : All w0 wr R D g m cur bi bv As) :
    Code.wp Try.prog (Code.loop body3) Q0 ⟨List.toArray (c0 :: c1 :: c2 :: c3 :: c4 :: c5 :: .pointer (some ⟨R + 1, 0, none⟩) :: .slice (some ⟨g, 0, none⟩) m cp :: c8 :: .slice (some ⟨D, 0, none⟩) m m :: c10 :: c11 :: c12 :: c13 :: c14 :: c15 :: c16 :: c17 :: c18 :: c19 :: c20 :: c21 :: c22 :: c23 :: c24 :: c25 :: c26 :: c27 :: c28 :: c29 :: c30 :: c31 :: c32 :: c33 :: c34 :: c35 :: c36 :: c37 :: c38 :: c39 :: c40 :: c41 :: c42 :: c43 :: c44 :: c45 :: c46 :: c47 :: c48 :: c49 :: c50 :: c51 :: c52 :: c53 :: c54 :: c55 :: c56 :: c57 :: c58 :: c59 :: c60 :: c61 :: c62 :: c63 :: c64 :: c65 :: c66 :: c67 :: .int .i64 (m : Int) :: .int .i64 0 :: c70 :: c71 :: c72 :: c73 :: c74 :: c75 :: c76 :: c77 :: c78 :: c79 :: c80 :: c81 :: c82 :: c83 :: c84 :: c85 :: c86 :: c87 :: c88 :: c89 :: c90 :: c91 :: c92 :: c93 :: c94 :: c95 :: c96 :: c97 :: c98 :: c99 :: c100 :: c101 :: c102 :: []), []⟩ wr := by
  have hnot : ∀ (x : Bool) (w : World), (Op.unary .not (.bool x)).run Try.prog w = .ok (.bool (!x)) w := fun _ _ => rfl
  conv =>
    arg 2
    arg 1
    whnf
  go_loopg [69] m (fun kq iv wr => ∃ (j : Nat), kq + j = m ∧ iv = .int .i64 j ∧ All w0 wr R D g m cur bi bv As)
  case atStart => exact ⟨0, Nat.add_zero _, rfl, hA⟩
  case round =>
    clear hA
    obtain ⟨j, hj, rfl, hA⟩ := hrel
    cases gk with
    | zero =>
      obtain rfl : j = m := by omega
      have hlt : decide ((j : Int) < (j : Int)) = false := decide_eq_false (by omega)
      have HX := Lib.hid hexit
      clear hexit
      go_wp2
      exact HX.out _ _ _ _ _ _ _ _ _ _ _ _ _ _ _ _ _ _ _ _ _ _ _ _ _ _ _ _ _ _ _ _ _ _ _ _ hA
    | succ gk =>
      clear hexit
      have hjm : j < m := by omega
      have hlt : decide ((j : Int) < (m : Int)) = true := decide_eq_true (by omega)
      have j0 : (0 ≤ (j : Int)) = True := eq_true (by omega)
      have j1 : ((j : Int) < (m : Int)) = True := eq_true (by omega)
      have e2 : wrap64 ((j : Int) + 1) = ((j + 1 : Nat) : Int) := wrap_succ hjm (by omega)
      have cC : wr.cell? ⟨R + 1, 0, none⟩ = some (.slice (some ⟨R, 0, none⟩) m m) := (hA.st.box.cell 0).trans rfl
      have cR : wr.cell? ⟨R, j, none⟩ = some (cv As j) := hA.st.row.cell hjm
      have cD : wr.cell? ⟨D, j, none⟩ = some (.bool (As j)) := hA.ask.cell hjm
      have cG : wr.cell? ⟨g, j, none⟩ = some (.pointer (some ⟨bv j, 0, none⟩)) := (hA.vs.cell j).trans (hcur j hjm)
      have hA2 : All w0 wr.drew R D g m cur bi bv As := hA.idle (Own.refl _ wr).drew
      have mv := made_val (R + 1) R m j bi bv As wr.drew hjm hA2.st
      clear hA
      have two : As j = true ∨ As j = false := by cases As j <;> simp
      rcases two with hAs | hAs
      · have cv0 : wr.cell? ⟨R, j, none⟩ = some (.int .i64 1) := by
          rw [cR]
          unfold cv
          rw [hAs]
          rfl
        rw [hAs] at cD mv
        go_wp2_with fail
        go_region_held3 (fun w' => w'.cell? ⟨R + 1, 0, none⟩ = some (.slice (some ⟨R, 0, none⟩) m m) ∧ w'.cell? ⟨R, j, none⟩ = some (.int .i64 1) ∧ w'.cell? ⟨D, j, none⟩ = some (.bool true) ∧ w'.cell? ⟨g, j, none⟩ = some (.pointer (some ⟨bv j, 0, none⟩))) (first | (go_keep; done) | exact ⟨cC, cv0, cD, cG⟩) ((go_at_call 26; refine mv.mono ?_; rintro e w5 ⟨rfl, hw5⟩; subst hw5))
        all_goals go_wp2
        all_goals go_roundg gk
        case measure => omega
        case rel => exact ⟨j + 1, by omega, by first | rfl | rw [e2], hA2⟩
      · have cv0 : wr.cell? ⟨R, j, none⟩ = some (.int .i64 0) := by
          rw [cR]
          unfold cv
          rw [hAs]
          rfl
        rw [hAs] at cD mv
        go_wp2_with fail
        go_region_held3 (fun w' => w'.cell? ⟨R + 1, 0, none⟩ = some (.slice (some ⟨R, 0, none⟩) m m) ∧ w'.cell? ⟨R, j, none⟩ = some (.int .i64 0) ∧ w'.cell? ⟨D, j, none⟩ = some (.bool false) ∧ w'.cell? ⟨g, j, none⟩ = some (.pointer (some ⟨bv j, 0, none⟩))) (first | (go_keep; done) | exact ⟨cC, cv0, cD, cG⟩) ((go_at_call 26; refine mv.mono ?_; rintro e w5 ⟨rfl, hw5⟩; subst hw5))
        all_goals go_wp2
        all_goals go_roundg gk
        case measure => omega
        case rel => exact ⟨j + 1, by omega, by first | rfl | rw [e2], hA2⟩
end Go.Proofs.Ythnllejpoklgbaa.lazyMany
