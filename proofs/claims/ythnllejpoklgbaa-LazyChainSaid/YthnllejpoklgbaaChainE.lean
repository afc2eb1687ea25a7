/-
  LazyChain: the walk, as its row asks for it.
-/
import Derived.Test.YthnllejpoklgbaaChainD
namespace Go.Proofs.Ythnllejpoklgbaa.lazyChain
open Go.RowKit
theorem walk (A : Option Addr) (len cap : Nat) (zs : List Int) (n0 : Int) (w : World) (hl : len ≤ cap ∧ cap ≤ 9223372036854775807)
    (hz : ∀ k, k < len → ∃ x, A = some x ∧ x.block < w.heap.size ∧ w.cell? (x.add k) = some (.int .i8 (zs.getD k 0)) ∧ (Lit.int .i8 (zs.getD k 0)).wf = true) (hn0 : (Lit.int .u8 n0).wf = true) :
    Calls Try.prog 10 #[.slice A len cap, .int .u8 n0] w fun e w' => e = .returned (.bool true) ∧ Below w.heap.size w w' :=
  walk0 n0 A len cap zs w (by simp [Lit.wf] at hn0; exact hn0) hl.1 hl.2 (fun k hk => by
    obtain ⟨x, h1, h2, h3, h4⟩ := hz k hk
    exact ⟨x, h1, h2, h3, by simp [Lit.wf] at h4; exact h4⟩)
end Go.Proofs.Ythnllejpoklgbaa.lazyChain
