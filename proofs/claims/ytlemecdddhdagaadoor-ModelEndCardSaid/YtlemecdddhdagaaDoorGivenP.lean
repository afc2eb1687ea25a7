/-
  model.Step, where the state is not too great.
-/
import Derived.Test.YtlemecdddhdagaaDoorGivenR
namespace Go.Proofs.YtlemecdddhdagaaDoor.P
open Go.RowKit Go.Proofs.YtlemecdddhdagaaDoorW.PrintWords Go.Proofs.YtlemecdddhdagaaDoorW.PrintLast Go.Proofs.YtlemecdddhdagaaDoorW.PrintMore
set_option linter.unusedVariables false
open Classical in
noncomputable def stepS (k : Nat) (l0 : List ByteArray) (a1 a2 : ByteArray) (l3 : List S55) (s : St) : Option (St × Bool × Int) := if Small s then model_Step.f k l0 a1 a2 l3 s else none
theorem stepS_of {k : Nat} {l0 : List ByteArray} {a1 a2 : ByteArray} {l3 : List S55} {s : St} {r : St × Bool × Int} (h : stepS k l0 a1 a2 l3 s = some r) : Small s ∧ model_Step.f k l0 a1 a2 l3 s = some r := by
  unfold stepS at h
  split at h
  · exact ⟨‹_›, h⟩
  · cases h
end Go.Proofs.YtlemecdddhdagaaDoor.P
