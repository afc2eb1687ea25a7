/-
  PLAIN LEAN: the document's Last, as a Lean function: what the walk (GivenLast) and the law (PlainE) both speak of.
-/
import Derived.Test.YtbmhmlgfpijmhaaDoorPx0
import Derived.Test.YtbmhmlgfpijmhaaDoorPx8
import Derived.Test.YtbmhmlgfpijmhaaDoorPx9
namespace Go.Proofs.YtbmhmlgfpijmhaaDoor.P
open Go.RowKit Go.Proofs.YtbmhmlgfpijmhaaDoorW.PrintWords Go.Proofs.YtbmhmlgfpijmhaaDoorW.PrintLast Go.Proofs.YtbmhmlgfpijmhaaDoorW.PrintMore

/-- An instruction that does nothing to what local a is. -/
def passB (x : S39) (a : Int) : Bool := x.f0 == 1 || x.f0 == 2 || x.f0 == 14 || x.f0 == 15 || ((x.f0 == 6 || x.f0 == 7) && !(x.f1 == a))
/-- How many fields are left, one more being written. -/
def leftOf (n : Nat) (left : Int) (h : Nat) : Int := if h.testBit n then left else wrap64 (left - 1)
/-- The document's loop: the bits of h are what was written. -/
def lastR (a : Int) (y : List S39) : Nat → Nat → Int → Nat → Option Int
  | 0, _, _, _ => some (-1)
  | d + 1, i, left, h =>
    if ((y.getD i z39).f0 = 9 ∨ (y.getD i z39).f0 = 11) ∧ (y.getD i z39).f1 = a then
      (if 0 ≤ (y.getD i z39).f4 ∧ (y.getD i z39).f4 < 6 then
        (if leftOf (y.getD i z39).f4.toNat left h = 0 then some (i : Int) else lastR a y d (i + 1) (leftOf (y.getD i z39).f4.toNat left h) (h ||| 2 ^ (y.getD i z39).f4.toNat))
      else none)
    else if passB (y.getD i z39) a = true then lastR a y d (i + 1) left h else some (-1)
def lockstitchref10_Last.f (k : Nat) (t : List ByteArray) (lo gl : ByteArray) (code : List S39) (at_ : Int) : Option Int :=
  if at_ < 0 then some (-1) else if (code.length : Int) ≤ at_ then some (-1) else if (rd_T39 code at_).f0 = 5 then
    (lockstitchref05_Local.f k t lo gl code (rd_T39 code at_).f1).bind fun i => (lockstitchref03_Size.f k t i).bind fun s => lastR (rd_T39 code at_).f1 code (code.length - (at_.toNat + 1)) (at_.toNat + 1) s 0
  else some (-1)
theorem lockstitchref10_Last.mono : ∀ a0 a1 a2 a3 a4 k, LeO (lockstitchref10_Last.f k a0 a1 a2 a3 a4) (lockstitchref10_Last.f (k + 1) a0 a1 a2 a3 a4) := by
  intro a0 a1 a2 a3 a4 k
  unfold lockstitchref10_Last.f
  repeat' with_reducible first | apply lockstitchref05_Local.mono | apply lockstitchref03_Size.mono | exact LeO.refl _ | exact LeO.none _ | refine LeO.ite ?_ ?_ | refine LeO.bind ?_ (fun _ => ?_)
end Go.Proofs.YtbmhmlgfpijmhaaDoor.P
