/-
  PLAIN LEAN: a program without its stores.
-/
import Derived.Test.YtgfnpdfhdgenbaaDoorPlainA
namespace Go.Proofs.YtgfnpdfhdgenbaaDoor.P
open Go.RowKit Go.Proofs.YtgfnpdfhdgenbaaDoorW.PrintWords Go.Proofs.YtgfnpdfhdgenbaaDoorW.PrintLast Go.Proofs.YtgfnpdfhdgenbaaDoorW.PrintMore
set_option linter.unusedVariables false

/-- No store. -/
def fixI (x : S45) : S45 := if x.f0 = 11 ∨ x.f0 = 13 then ⟨14, 0, 0, 0, 0⟩ else x
theorem fix_op (x : S45) : ¬ ((fixI x).f0 = 11 ∨ (fixI x).f0 = 13) := by
  unfold fixI
  split
  · decide
  · assumption
theorem getD_fix (code : List S45) (i : Nat) : (code.map fixI).getD i z45 = if i < code.length then fixI (code.getD i z45) else z45 := by
  rw [List.getD_eq_getElem?_getD, List.getElem?_map, List.getD_eq_getElem?_getD]
  by_cases h : i < code.length
  · rw [List.getElem?_eq_getElem h, if_pos h]
    rfl
  · rw [List.getElem?_eq_none (by omega), if_neg h]
    rfl
theorem wf_fix {code : List S45} (h : Wf code) : Wf (code.map fixI) := fun i => by
  rw [getD_fix]
  split
  · unfold fixI
    split
    · unfold WfI U8 I64
      decide
    · exact h i
  · exact wf_z
theorem take_fix (code : List S45) (i : Nat) (h : i < code.length) : (code.take (i + 1)).map fixI = (code.take i).map fixI ++ [fixI (code.getD i z45)] := by
  rw [List.take_add_one, List.map_append, List.getD_eq_getElem?_getD, List.getElem?_eq_getElem h]
  rfl
end Go.Proofs.YtgfnpdfhdgenbaaDoor.P
