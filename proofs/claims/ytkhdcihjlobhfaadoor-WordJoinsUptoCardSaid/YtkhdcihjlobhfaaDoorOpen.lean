/-
  WHAT A ROW OF THIS SEAT HANDS: what the laid variables hold.
-/
import Derived.Test.YtkhdcihjlobhfaaDoorTie
import Derived.Test.YtkhdcihjlobhfaaDoorGiven
import Derived.WalkKit
import Derived.ProofKit
import Derived.OpenShut
import Derived.ShutString
import Derived.ChangeOld
import Derived.Below
import Derived.SliceStrings
import Derived.Deep.DeepHandedRow
import Derived.Lib.LaidTab
import Derived.Lib.SmallJoins
import Derived.LaidLaws
import Derived.Lay
namespace Go.Proofs.YtkhdcihjlobhfaaDoor.P
open Go.ChangeShapes Go.WideShapes Go.ChangeAt Go.RowKit Go.Joins Go.Proofs.YtkhdcihjlobhfaaDoorW.PrintWords Go.Proofs.YtkhdcihjlobhfaaDoorW.PrintLast Go.Proofs.YtkhdcihjlobhfaaDoorW.PrintMore
set_option linter.unusedVariables false

theorem own : ownKnob Tryd.prog.godebug = none := by kernel_rfl
noncomputable def laidAll : List (String × DataW Unit) := [("math/bits.deBruijn32tab", Rows.laid_math_bits_deBruijn32tab), ("math/bits.deBruijn64tab", Rows.laid_math_bits_deBruijn64tab), ("internal/strconv.uint64pow10", Rows.laid_internal_strconv_uint64pow10), ("unicode/utf8.acceptRanges", Rows.laid_unicode_utf8_acceptRanges), ("strconv.ErrRange", Rows.laid_strconv_ErrRange), ("strconv.ErrSyntax", Rows.laid_strconv_ErrSyntax), ("unicode/utf8.first", Rows.laid_unicode_utf8_first)]
theorem laid_mem {P : Program} {w : World} {n : String} {d : DataW Unit} : ∀ {l : List (String × DataW Unit)} {ps : List MemPlace}, DataW.LaidVars P w l ps → (n, d) ∈ l →
    ∃ g t cs fuel p, P.globalNamed n = some g ∧ (P.globals[g]?).map (·.type) = some t ∧ w.var? P n = some cs ∧ DataW.trod (fun _ => ()) P w 0 (fun _ => true) false fuel t cs.toList = some (d, p)
  | [], _, _, h => by cases h
  | (n', d') :: r, ps, ⟨g, t, cs, fuel, p, q, h1, h2, h3, h4, h5, _⟩, h => by
    rcases List.mem_cons.1 h with e | h
    · injection e with e1 e2
      subst e1 e2
      exact ⟨g, t, cs, fuel, p, h1, h2, h3, h4⟩
    · exact laid_mem h5 h
theorem pow_laid : (Rows.laid_internal_strconv_uint64pow10 : DataW Unit) = Lib.tabData .u64 Lib.pow10Tab := by kernel_rfl
theorem iface_var {w : World} {n : String} {nm : String} {d : DataW Unit} {ps : List MemPlace} (h : DataW.LaidVars Tryd.prog w laidAll ps) (hm : (n, .iface nm d) ∈ laidAll) {g ti : Nat} {ms : Array (String × TypeId)}
    (hg : Tryd.prog.globalNamed n = some g) (ht : (Tryd.prog.globals[g]?).map (·.type) = some ti) (hi : Tryd.prog.underlying ti = some (.interface ms)) : ∃ tp p, w.var? Tryd.prog n = some #[.iface tp p] := by
  obtain ⟨g', t', cs, fuel, p, h1, h2, h3, h4⟩ := laid_mem h hm
  obtain rfl := Option.some.inj (hg.symm.trans h1)
  obtain rfl := Option.some.inj (ht.symm.trans h2)
  obtain ⟨l⟩ := cs
  obtain ⟨_, u, v, rfl, _⟩ := iface_of_trod hi h4
  exact ⟨u, v, h3⟩
theorem cells97 : Tryd.prog.cellsOf 97 = 20 := by kernel_rfl
theorem cells62 : Tryd.prog.cellsOf 62 = 1 := by kernel_rfl
theorem gTabType : (Tryd.prog.globals[0]?).map (·.type) = some 97 := by kernel_rfl
theorem gSynType : (Tryd.prog.globals[2]?).map (·.type) = some 53 := by kernel_rfl
theorem gRngType : (Tryd.prog.globals[3]?).map (·.type) = some 53 := by kernel_rfl
set_option maxRecDepth 100000 in
theorem table {W : World} (hL : laidMetH Tryd.prog laidAll W) (hsh : W.ShapedOpen Tryd.prog) : Kd.C tabK W tabA tabL.length tabL := by
  rw [MakeChecks.laidMetH_plain _ _ _ (by kernel_rfl)] at hL
  obtain ⟨ps, h, _⟩ := hL
  refine tab_of ⟨?_, Tryd.laysM146.s1_3 W hsh, iface_var h (.tail _ (.tail _ (.tail _ (.tail _ (.tail _ (.head _)))))) gSyn gSynType Tryd.underlying53, iface_var h (.tail _ (.tail _ (.tail _ (.tail _ (.head _))))) gRng gRngType Tryd.underlying53⟩
  obtain ⟨g', t', cs, fuel, p, hg', ht', hvar, hd⟩ := laid_mem (n := "internal/strconv.uint64pow10") (d := Rows.laid_internal_strconv_uint64pow10) h (.tail _ (.tail _ (.head _)))
  obtain rfl := Option.some.inj (gTab.symm.trans hg')
  obtain rfl := Option.some.inj (gTabType.symm.trans ht')
  rw [pow_laid] at hd
  unfold Lib.TabIs
  rw [hvar, ← Lib.cells_of_tab Tryd.underlying97 Tryd.underlying62 cells62 cells97 hd]

/-- A WORLD FOR THE WITNESS: the listed variables laid. -/
noncomputable def laidWorld (os : Os) : World := World.laidAll Tryd.prog os laidAll
theorem laid_met (os : Os) (args : Array Value) : laidMet Tryd.prog laidAll ((laidWorld os).forCall (fun _ _ => 0) ⟨#[], args, []⟩).memory :=
  laidMet_laidAll args (by kernel_rfl) (by kernel_rfl)
end Go.Proofs.YtkhdcihjlobhfaaDoor.P
