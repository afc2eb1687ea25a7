/-
  LazyMany: the walk, as its row asks for it.
-/
import Derived.Test.YthnllejpoklgbaaManyB
namespace Go.Proofs.Ythnllejpoklgbaa.lazyMany
open Go.RowKit
theorem walk (n0 : Int) (A : Option Addr) (len cap : Nat) (zs : List Int) (w : World) (hn0 : (Lit.int .u8 n0).wf = true) (hl : len ≤ 9223372036854775807)
    (hz : ∀ k, k < len → ∃ x, A = some x ∧ x.block < w.heap.size ∧ w.cell? (x.add k) = some (.int .u8 (zs.getD k 0)) ∧ (Lit.int .u8 (zs.getD k 0)).wf = true) :
    Calls Try.prog 5 #[.int .u8 n0, .slice A len cap] w fun e w' => e = .returned (.bool true) ∧ Below w.heap.size w w' := walk0 n0 A len cap zs w (u8_range hn0) hl hz
end Go.Proofs.Ythnllejpoklgbaa.lazyMany
