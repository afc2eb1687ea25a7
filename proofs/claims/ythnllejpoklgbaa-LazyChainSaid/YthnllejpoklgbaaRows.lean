/-
  No cell of these rows narrows 'for every input' (looked for: loops, veiled, ifaces, maps, wideKeys, modest, calm, conditions, laid).
  DERIVED. THE GIVEN ROWS OF THIS SEAT. 9 by the template 'for every input the law returns true; each argument reads behind the call as it read before'; 0 by the template 'total and deterministic' (their statements: YthnllejpoklgbaaTotals.lean).
  GIVEN WITH THE SEED: the statements are not yours to turn. If you find one false, say at which input.
  Laid BY PROGRAM, IN A SANDBOX (cutbox-rows.mjs): the forced cells as the released guide's own fill.sh prints them over the translation 6b69bbc27a4a2ae8… (all of the seat's roots in one cut). By AI agents, Wed Nov 11 2026. No macro, syntax, notation, axiom, sorry.
-/
import Derived.Test.YthnllejpoklgbaaChecked
import GoSem.Claim
import GoSem.ClaimJoined
import GoSem.ClaimMapViews
import Derived.JoinedTies
import Derived.KernelRfl
namespace Go.Proofs.Ythnllejpoklgbaa
/- THE CELL 'sum', in the pinned program and in every row, IS THE sha256 OF THE DUMP (.gsa) THAT YthnllejpoklgbaaProg.lean LOADS. Nothing in Lean hashes anything: it is a label: what it is worth is what the hold of that sum in a sandbox is worth. -/
noncomputable def Try.pinned : Pinned := { name := "ythnllejpoklgbaa", sum := "6b69bbc27a4a2ae8b10f9ce2cc07dd68137b2b589864600be057a94addc9f086", checked := Try.checked }
namespace Rows
def none {H : Type} : Left H := { results := [], args := [] }

/-- 'lockstitchlaw01.LazyCounts': WHATEVER THE INPUT: true; the input reads as it did. -/
def lazyCountsSpec : ChangeSpec := { name := "lazyCounts", fn := fun _ => fun
  | [d] => { results := [.lit (.bool true)], args := [d] }
  | _ => none }
def lazyCountsRow : OpenClaim := { program := "ythnllejpoklgbaa", sum := "6b69bbc27a4a2ae8b10f9ce2cc07dd68137b2b589864600be057a94addc9f086", func := "lockstitch/lockstitchlaw01.LazyCounts", spec := "lazyCounts", inPlace := ["sync/atomic.LoadUint32", "sync/atomic.StoreUint32", "(*internal/sync.Mutex).Lock", "internal/race.Disable", "sync/atomic.CompareAndSwapInt32", "internal/race.Enable", "internal/race.Acquire", "(*internal/sync.Mutex).lockSlow", "internal/sync.runtime_canSpin", "internal/sync.runtime_doSpin", "internal/sync.throw", "internal/sync.runtime_nanotime", "internal/sync.runtime_SemacquireMutex", "sync/atomic.AddInt32", "(*internal/sync.Mutex).Unlock", "internal/race.ReleaseMerge", "(*internal/sync.Mutex).unlockSlow", "internal/sync.fatal", "internal/sync.runtime_Semrelease", "sync/atomic.AddInt64", "sync/atomic.SwapInt64", "sync/atomic.CompareAndSwapInt64", "sync/atomic.LoadInt64"], unfollowed := true, recurses := true, apart := false }
def LazyCountsSaid : Prop := lazyCountsRow.holds Try.pinned (OpenSpec.ofChange lazyCountsSpec)

/-- ITS FALSE NEIGHBOUR: 'it returns false'. Refute it at one input. -/
def lazyCountsWrong : ChangeSpec := { name := "lazyCounts", fn := fun _ => fun
  | [d] => { results := [.lit (.bool false)], args := [d] }
  | _ => none }
def LazyCountsWrongFalsely : Prop := lazyCountsRow.holds Try.pinned (OpenSpec.ofChange lazyCountsWrong)

/-- 'lockstitchlaw01.LazyOnce': WHATEVER THE INPUT: true; the input reads as it did. -/
def lazyOnceSpec : ChangeSpec := { name := "lazyOnce", fn := fun _ => fun
  | [d1, d2, d3] => { results := [.lit (.bool true)], args := [d1, d2, d3] }
  | _ => none }
def lazyOnceRow : OpenClaim := { program := "ythnllejpoklgbaa", sum := "6b69bbc27a4a2ae8b10f9ce2cc07dd68137b2b589864600be057a94addc9f086", func := "lockstitch/lockstitchlaw01.LazyOnce", spec := "lazyOnce", inPlace := ["sync/atomic.LoadUint32", "sync/atomic.StoreUint32", "(*internal/sync.Mutex).Lock", "internal/race.Disable", "sync/atomic.CompareAndSwapInt32", "internal/race.Enable", "internal/race.Acquire", "(*internal/sync.Mutex).lockSlow", "internal/sync.runtime_canSpin", "internal/sync.runtime_doSpin", "internal/sync.throw", "internal/sync.runtime_nanotime", "internal/sync.runtime_SemacquireMutex", "sync/atomic.AddInt32", "(*internal/sync.Mutex).Unlock", "internal/race.ReleaseMerge", "(*internal/sync.Mutex).unlockSlow", "internal/sync.fatal", "internal/sync.runtime_Semrelease", "sync/atomic.AddInt64", "sync/atomic.SwapInt64", "sync/atomic.CompareAndSwapInt64", "sync/atomic.LoadInt64"], unfollowed := true, recurses := true, apart := false }
def LazyOnceSaid : Prop := lazyOnceRow.holds Try.pinned (OpenSpec.ofChange lazyOnceSpec)

/-- ITS FALSE NEIGHBOUR: 'it returns false'. Refute it at one input. -/
def lazyOnceWrong : ChangeSpec := { name := "lazyOnce", fn := fun _ => fun
  | [d1, d2, d3] => { results := [.lit (.bool false)], args := [d1, d2, d3] }
  | _ => none }
def LazyOnceWrongFalsely : Prop := lazyOnceRow.holds Try.pinned (OpenSpec.ofChange lazyOnceWrong)

/-- 'lockstitchlaw01.LazyMany': WHATEVER THE INPUT: true; the input reads as it did. -/
def lazyManySpec : ChangeSpec := { name := "lazyMany", fn := fun _ => fun
  | [d1, d2] => { results := [.lit (.bool true)], args := [d1, d2] }
  | _ => none }
def lazyManyRow : OpenClaim := { program := "ythnllejpoklgbaa", sum := "6b69bbc27a4a2ae8b10f9ce2cc07dd68137b2b589864600be057a94addc9f086", func := "lockstitch/lockstitchlaw01.LazyMany", spec := "lazyMany", inPlace := ["sync/atomic.LoadUint32", "sync/atomic.StoreUint32", "(*internal/sync.Mutex).Lock", "internal/race.Disable", "sync/atomic.CompareAndSwapInt32", "internal/race.Enable", "internal/race.Acquire", "(*internal/sync.Mutex).lockSlow", "internal/sync.runtime_canSpin", "internal/sync.runtime_doSpin", "internal/sync.throw", "internal/sync.runtime_nanotime", "internal/sync.runtime_SemacquireMutex", "sync/atomic.AddInt32", "(*internal/sync.Mutex).Unlock", "internal/race.ReleaseMerge", "(*internal/sync.Mutex).unlockSlow", "internal/sync.fatal", "internal/sync.runtime_Semrelease", "sync/atomic.AddInt64", "sync/atomic.SwapInt64", "sync/atomic.CompareAndSwapInt64", "sync/atomic.LoadInt64"], unfollowed := true, recurses := true, apart := false }
def LazyManySaid : Prop := lazyManyRow.holds Try.pinned (OpenSpec.ofChange lazyManySpec)

/-- ITS FALSE NEIGHBOUR: 'it returns false'. Refute it at one input. -/
def lazyManyWrong : ChangeSpec := { name := "lazyMany", fn := fun _ => fun
  | [d1, d2] => { results := [.lit (.bool false)], args := [d1, d2] }
  | _ => none }
def LazyManyWrongFalsely : Prop := lazyManyRow.holds Try.pinned (OpenSpec.ofChange lazyManyWrong)

/-- 'lockstitchlaw01.LazyAdds': WHATEVER THE INPUT: true; the input reads as it did. -/
def lazyAddsSpec : ChangeSpec := { name := "lazyAdds", fn := fun _ => fun
  | [d1, d2, d3] => { results := [.lit (.bool true)], args := [d1, d2, d3] }
  | _ => none }
def lazyAddsRow : OpenClaim := { program := "ythnllejpoklgbaa", sum := "6b69bbc27a4a2ae8b10f9ce2cc07dd68137b2b589864600be057a94addc9f086", func := "lockstitch/lockstitchlaw01.LazyAdds", spec := "lazyAdds", inPlace := ["sync/atomic.LoadUint32", "sync/atomic.StoreUint32", "(*internal/sync.Mutex).Lock", "internal/race.Disable", "sync/atomic.CompareAndSwapInt32", "internal/race.Enable", "internal/race.Acquire", "(*internal/sync.Mutex).lockSlow", "internal/sync.runtime_canSpin", "internal/sync.runtime_doSpin", "internal/sync.throw", "internal/sync.runtime_nanotime", "internal/sync.runtime_SemacquireMutex", "sync/atomic.AddInt32", "(*internal/sync.Mutex).Unlock", "internal/race.ReleaseMerge", "(*internal/sync.Mutex).unlockSlow", "internal/sync.fatal", "internal/sync.runtime_Semrelease", "sync/atomic.AddInt64", "sync/atomic.SwapInt64", "sync/atomic.CompareAndSwapInt64", "sync/atomic.LoadInt64"], unfollowed := true, recurses := true, apart := false }
def LazyAddsSaid : Prop := lazyAddsRow.holds Try.pinned (OpenSpec.ofChange lazyAddsSpec)

/-- ITS FALSE NEIGHBOUR: 'it returns false'. Refute it at one input. -/
def lazyAddsWrong : ChangeSpec := { name := "lazyAdds", fn := fun _ => fun
  | [d1, d2, d3] => { results := [.lit (.bool false)], args := [d1, d2, d3] }
  | _ => none }
def LazyAddsWrongFalsely : Prop := lazyAddsRow.holds Try.pinned (OpenSpec.ofChange lazyAddsWrong)

/-- 'lockstitchlaw01.LazyMost': WHATEVER THE INPUT: true; the input reads as it did. -/
def lazyMostSpec : ChangeSpec := { name := "lazyMost", fn := fun _ => fun
  | [d] => { results := [.lit (.bool true)], args := [d] }
  | _ => none }
def lazyMostRow : OpenClaim := { program := "ythnllejpoklgbaa", sum := "6b69bbc27a4a2ae8b10f9ce2cc07dd68137b2b589864600be057a94addc9f086", func := "lockstitch/lockstitchlaw01.LazyMost", spec := "lazyMost", inPlace := ["sync/atomic.LoadUint32", "sync/atomic.StoreUint32", "(*internal/sync.Mutex).Lock", "internal/race.Disable", "sync/atomic.CompareAndSwapInt32", "internal/race.Enable", "internal/race.Acquire", "(*internal/sync.Mutex).lockSlow", "internal/sync.runtime_canSpin", "internal/sync.runtime_doSpin", "internal/sync.throw", "internal/sync.runtime_nanotime", "internal/sync.runtime_SemacquireMutex", "sync/atomic.AddInt32", "(*internal/sync.Mutex).Unlock", "internal/race.ReleaseMerge", "(*internal/sync.Mutex).unlockSlow", "internal/sync.fatal", "internal/sync.runtime_Semrelease", "sync/atomic.AddInt64", "sync/atomic.SwapInt64", "sync/atomic.CompareAndSwapInt64", "sync/atomic.LoadInt64"], unfollowed := true, recurses := true, apart := false }
def LazyMostSaid : Prop := lazyMostRow.holds Try.pinned (OpenSpec.ofChange lazyMostSpec)

/-- ITS FALSE NEIGHBOUR: 'it returns false'. Refute it at one input. -/
def lazyMostWrong : ChangeSpec := { name := "lazyMost", fn := fun _ => fun
  | [d] => { results := [.lit (.bool false)], args := [d] }
  | _ => none }
def LazyMostWrongFalsely : Prop := lazyMostRow.holds Try.pinned (OpenSpec.ofChange lazyMostWrong)

/-- 'lockstitchlaw01.LazyNobody': WHATEVER THE INPUT: true; the input reads as it did. -/
def lazyNobodySpec : ChangeSpec := { name := "lazyNobody", fn := fun _ => fun
  | [d] => { results := [.lit (.bool true)], args := [d] }
  | _ => none }
def lazyNobodyRow : OpenClaim := { program := "ythnllejpoklgbaa", sum := "6b69bbc27a4a2ae8b10f9ce2cc07dd68137b2b589864600be057a94addc9f086", func := "lockstitch/lockstitchlaw01.LazyNobody", spec := "lazyNobody", inPlace := ["sync/atomic.LoadUint32", "sync/atomic.StoreUint32", "(*internal/sync.Mutex).Lock", "internal/race.Disable", "sync/atomic.CompareAndSwapInt32", "internal/race.Enable", "internal/race.Acquire", "(*internal/sync.Mutex).lockSlow", "internal/sync.runtime_canSpin", "internal/sync.runtime_doSpin", "internal/sync.throw", "internal/sync.runtime_nanotime", "internal/sync.runtime_SemacquireMutex", "sync/atomic.AddInt32", "(*internal/sync.Mutex).Unlock", "internal/race.ReleaseMerge", "(*internal/sync.Mutex).unlockSlow", "internal/sync.fatal", "internal/sync.runtime_Semrelease", "sync/atomic.AddInt64", "sync/atomic.SwapInt64", "sync/atomic.CompareAndSwapInt64", "sync/atomic.LoadInt64"], unfollowed := true, recurses := true, apart := false }
def LazyNobodySaid : Prop := lazyNobodyRow.holds Try.pinned (OpenSpec.ofChange lazyNobodySpec)

/-- ITS FALSE NEIGHBOUR: 'it returns false'. Refute it at one input. -/
def lazyNobodyWrong : ChangeSpec := { name := "lazyNobody", fn := fun _ => fun
  | [d] => { results := [.lit (.bool false)], args := [d] }
  | _ => none }
def LazyNobodyWrongFalsely : Prop := lazyNobodyRow.holds Try.pinned (OpenSpec.ofChange lazyNobodyWrong)

/-- 'lockstitchlaw01.LazyTries': WHATEVER THE INPUT: true; the input reads as it did. -/
def lazyTriesSpec : ChangeSpec := { name := "lazyTries", fn := fun _ => fun
  | [d1, d2, d3] => { results := [.lit (.bool true)], args := [d1, d2, d3] }
  | _ => none }
def lazyTriesRow : OpenClaim := { program := "ythnllejpoklgbaa", sum := "6b69bbc27a4a2ae8b10f9ce2cc07dd68137b2b589864600be057a94addc9f086", func := "lockstitch/lockstitchlaw01.LazyTries", spec := "lazyTries", inPlace := ["sync/atomic.LoadUint32", "sync/atomic.StoreUint32", "(*internal/sync.Mutex).Lock", "internal/race.Disable", "sync/atomic.CompareAndSwapInt32", "internal/race.Enable", "internal/race.Acquire", "(*internal/sync.Mutex).lockSlow", "internal/sync.runtime_canSpin", "internal/sync.runtime_doSpin", "internal/sync.throw", "internal/sync.runtime_nanotime", "internal/sync.runtime_SemacquireMutex", "sync/atomic.AddInt32", "(*internal/sync.Mutex).Unlock", "internal/race.ReleaseMerge", "(*internal/sync.Mutex).unlockSlow", "internal/sync.fatal", "internal/sync.runtime_Semrelease", "sync/atomic.AddInt64", "sync/atomic.SwapInt64", "sync/atomic.CompareAndSwapInt64", "sync/atomic.LoadInt64"], unfollowed := true, recurses := true, apart := false }
def LazyTriesSaid : Prop := lazyTriesRow.holds Try.pinned (OpenSpec.ofChange lazyTriesSpec)

/-- ITS FALSE NEIGHBOUR: 'it returns false'. Refute it at one input. -/
def lazyTriesWrong : ChangeSpec := { name := "lazyTries", fn := fun _ => fun
  | [d1, d2, d3] => { results := [.lit (.bool false)], args := [d1, d2, d3] }
  | _ => none }
def LazyTriesWrongFalsely : Prop := lazyTriesRow.holds Try.pinned (OpenSpec.ofChange lazyTriesWrong)

/-- 'lockstitchlaw01.LazyChain': WHATEVER THE INPUT: true; the input reads as it did. -/
def lazyChainSpec : ChangeSpec := { name := "lazyChain", fn := fun _ => fun
  | [d1, d2] => { results := [.lit (.bool true)], args := [d1, d2] }
  | _ => none }
def lazyChainRow : OpenClaim := { program := "ythnllejpoklgbaa", sum := "6b69bbc27a4a2ae8b10f9ce2cc07dd68137b2b589864600be057a94addc9f086", func := "lockstitch/lockstitchlaw01.LazyChain", spec := "lazyChain", inPlace := ["sync/atomic.LoadUint32", "sync/atomic.StoreUint32", "(*internal/sync.Mutex).Lock", "internal/race.Disable", "sync/atomic.CompareAndSwapInt32", "internal/race.Enable", "internal/race.Acquire", "(*internal/sync.Mutex).lockSlow", "internal/sync.runtime_canSpin", "internal/sync.runtime_doSpin", "internal/sync.throw", "internal/sync.runtime_nanotime", "internal/sync.runtime_SemacquireMutex", "sync/atomic.AddInt32", "(*internal/sync.Mutex).Unlock", "internal/race.ReleaseMerge", "(*internal/sync.Mutex).unlockSlow", "internal/sync.fatal", "internal/sync.runtime_Semrelease", "sync/atomic.AddInt64", "sync/atomic.SwapInt64", "sync/atomic.CompareAndSwapInt64", "sync/atomic.LoadInt64"], unfollowed := true, recurses := true, apart := false }
def LazyChainSaid : Prop := lazyChainRow.holds Try.pinned (OpenSpec.ofChange lazyChainSpec)

/-- ITS FALSE NEIGHBOUR: 'it returns false'. Refute it at one input. -/
def lazyChainWrong : ChangeSpec := { name := "lazyChain", fn := fun _ => fun
  | [d1, d2] => { results := [.lit (.bool false)], args := [d1, d2] }
  | _ => none }
def LazyChainWrongFalsely : Prop := lazyChainRow.holds Try.pinned (OpenSpec.ofChange lazyChainWrong)

/-- 'lockstitchlaw01.LazyTypes': WHATEVER THE INPUT: true; the input reads as it did. -/
def lazyTypesSpec : ChangeSpec := { name := "lazyTypes", fn := fun _ => fun
  | [d1, d2] => { results := [.lit (.bool true)], args := [d1, d2] }
  | _ => none }
def lazyTypesRow : OpenClaim := { program := "ythnllejpoklgbaa", sum := "6b69bbc27a4a2ae8b10f9ce2cc07dd68137b2b589864600be057a94addc9f086", func := "lockstitch/lockstitchlaw01.LazyTypes", spec := "lazyTypes", inPlace := ["sync/atomic.LoadUint32", "sync/atomic.StoreUint32", "(*internal/sync.Mutex).Lock", "internal/race.Disable", "sync/atomic.CompareAndSwapInt32", "internal/race.Enable", "internal/race.Acquire", "(*internal/sync.Mutex).lockSlow", "internal/sync.runtime_canSpin", "internal/sync.runtime_doSpin", "internal/sync.throw", "internal/sync.runtime_nanotime", "internal/sync.runtime_SemacquireMutex", "sync/atomic.AddInt32", "(*internal/sync.Mutex).Unlock", "internal/race.ReleaseMerge", "(*internal/sync.Mutex).unlockSlow", "internal/sync.fatal", "internal/sync.runtime_Semrelease", "sync/atomic.AddInt64", "sync/atomic.SwapInt64", "sync/atomic.CompareAndSwapInt64", "sync/atomic.LoadInt64"], unfollowed := true, recurses := true, apart := false }
def LazyTypesSaid : Prop := lazyTypesRow.holds Try.pinned (OpenSpec.ofChange lazyTypesSpec)

/-- ITS FALSE NEIGHBOUR: 'it returns false'. Refute it at one input. -/
def lazyTypesWrong : ChangeSpec := { name := "lazyTypes", fn := fun _ => fun
  | [d1, d2] => { results := [.lit (.bool false)], args := [d1, d2] }
  | _ => none }
def LazyTypesWrongFalsely : Prop := lazyTypesRow.holds Try.pinned (OpenSpec.ofChange lazyTypesWrong)

/- THE SECOND FORM. 'bulk': how many values and letters a reading holds, each counted each time it is reached (what is shared counts as often as it is met; a slice's spare places count too). A statement '..UptoSaid' is the law's where the arguments, and the package variables that the reading takes, are together of bulk at most 1048576: NARROWER than '..Said'. Prove '..Said' where nothing that the law and all that it calls make is longer than what came in: it says more and counts as full. Else prove '..UptoSaid'. A law counts once. -/
mutual
def uptoBulk {H : Type} : DataW H → Nat
  | .lit (.string bytes) => bytes.length + 1
  | .lit _ => 1
  | .nil => 1
  | .ptr d => uptoBulk d + 1
  | .slice elems spare => uptoBulkAll elems + uptoBulkAll spare + 1
  | .agg parts => uptoBulkAll parts + 1
  | .iface _ d => uptoBulk d + 1
  | .map entries => uptoBulkEntries entries + 1
  | .held _ => 1
def uptoBulkAll {H : Type} : List (DataW H) → Nat
  | [] => 0
  | d :: r => uptoBulk d + uptoBulkAll r
def uptoBulkEntries {H : Type} : List (Lit × DataW H) → Nat
  | [] => 0
  | x :: r => uptoBulkEntry x + uptoBulkEntries r
def uptoBulkEntry {H : Type} : Lit × DataW H → Nat
  | (.string bytes, d) => bytes.length + uptoBulk d + 1
  | (_, d) => uptoBulk d + 1
 end
def uptoSmall : (H : Type) → List (DataW H) → Bool := fun _ ds => decide (uptoBulkAll ds ≤ 1048576)
def OpenSpec.upto (s : _root_.Go.ChangeSpec) : _root_.Go.OpenSpec := { _root_.Go.OpenSpec.ofChange s with cond := some uptoSmall }

/-- 'lockstitchlaw01.LazyCounts', WHERE WHAT IT READS IS OF BULK AT MOST 1048576: true; the input reads as it did. -/
def lazyCountsUptoRow : OpenClaim := { program := "ythnllejpoklgbaa", sum := "6b69bbc27a4a2ae8b10f9ce2cc07dd68137b2b589864600be057a94addc9f086", func := "lockstitch/lockstitchlaw01.LazyCounts", spec := "lazyCounts", inPlace := ["sync/atomic.LoadUint32", "sync/atomic.StoreUint32", "(*internal/sync.Mutex).Lock", "internal/race.Disable", "sync/atomic.CompareAndSwapInt32", "internal/race.Enable", "internal/race.Acquire", "(*internal/sync.Mutex).lockSlow", "internal/sync.runtime_canSpin", "internal/sync.runtime_doSpin", "internal/sync.throw", "internal/sync.runtime_nanotime", "internal/sync.runtime_SemacquireMutex", "sync/atomic.AddInt32", "(*internal/sync.Mutex).Unlock", "internal/race.ReleaseMerge", "(*internal/sync.Mutex).unlockSlow", "internal/sync.fatal", "internal/sync.runtime_Semrelease", "sync/atomic.AddInt64", "sync/atomic.SwapInt64", "sync/atomic.CompareAndSwapInt64", "sync/atomic.LoadInt64"], unfollowed := true, recurses := true, apart := false, narrowed := true }
def LazyCountsUptoSaid : Prop := lazyCountsUptoRow.holds Try.pinned (OpenSpec.upto lazyCountsSpec)

/-- 'lockstitchlaw01.LazyOnce', WHERE WHAT IT READS IS OF BULK AT MOST 1048576: true; the input reads as it did. -/
def lazyOnceUptoRow : OpenClaim := { program := "ythnllejpoklgbaa", sum := "6b69bbc27a4a2ae8b10f9ce2cc07dd68137b2b589864600be057a94addc9f086", func := "lockstitch/lockstitchlaw01.LazyOnce", spec := "lazyOnce", inPlace := ["sync/atomic.LoadUint32", "sync/atomic.StoreUint32", "(*internal/sync.Mutex).Lock", "internal/race.Disable", "sync/atomic.CompareAndSwapInt32", "internal/race.Enable", "internal/race.Acquire", "(*internal/sync.Mutex).lockSlow", "internal/sync.runtime_canSpin", "internal/sync.runtime_doSpin", "internal/sync.throw", "internal/sync.runtime_nanotime", "internal/sync.runtime_SemacquireMutex", "sync/atomic.AddInt32", "(*internal/sync.Mutex).Unlock", "internal/race.ReleaseMerge", "(*internal/sync.Mutex).unlockSlow", "internal/sync.fatal", "internal/sync.runtime_Semrelease", "sync/atomic.AddInt64", "sync/atomic.SwapInt64", "sync/atomic.CompareAndSwapInt64", "sync/atomic.LoadInt64"], unfollowed := true, recurses := true, apart := false, narrowed := true }
def LazyOnceUptoSaid : Prop := lazyOnceUptoRow.holds Try.pinned (OpenSpec.upto lazyOnceSpec)

/-- 'lockstitchlaw01.LazyMany', WHERE WHAT IT READS IS OF BULK AT MOST 1048576: true; the input reads as it did. -/
def lazyManyUptoRow : OpenClaim := { program := "ythnllejpoklgbaa", sum := "6b69bbc27a4a2ae8b10f9ce2cc07dd68137b2b589864600be057a94addc9f086", func := "lockstitch/lockstitchlaw01.LazyMany", spec := "lazyMany", inPlace := ["sync/atomic.LoadUint32", "sync/atomic.StoreUint32", "(*internal/sync.Mutex).Lock", "internal/race.Disable", "sync/atomic.CompareAndSwapInt32", "internal/race.Enable", "internal/race.Acquire", "(*internal/sync.Mutex).lockSlow", "internal/sync.runtime_canSpin", "internal/sync.runtime_doSpin", "internal/sync.throw", "internal/sync.runtime_nanotime", "internal/sync.runtime_SemacquireMutex", "sync/atomic.AddInt32", "(*internal/sync.Mutex).Unlock", "internal/race.ReleaseMerge", "(*internal/sync.Mutex).unlockSlow", "internal/sync.fatal", "internal/sync.runtime_Semrelease", "sync/atomic.AddInt64", "sync/atomic.SwapInt64", "sync/atomic.CompareAndSwapInt64", "sync/atomic.LoadInt64"], unfollowed := true, recurses := true, apart := false, narrowed := true }
def LazyManyUptoSaid : Prop := lazyManyUptoRow.holds Try.pinned (OpenSpec.upto lazyManySpec)

/-- 'lockstitchlaw01.LazyAdds', WHERE WHAT IT READS IS OF BULK AT MOST 1048576: true; the input reads as it did. -/
def lazyAddsUptoRow : OpenClaim := { program := "ythnllejpoklgbaa", sum := "6b69bbc27a4a2ae8b10f9ce2cc07dd68137b2b589864600be057a94addc9f086", func := "lockstitch/lockstitchlaw01.LazyAdds", spec := "lazyAdds", inPlace := ["sync/atomic.LoadUint32", "sync/atomic.StoreUint32", "(*internal/sync.Mutex).Lock", "internal/race.Disable", "sync/atomic.CompareAndSwapInt32", "internal/race.Enable", "internal/race.Acquire", "(*internal/sync.Mutex).lockSlow", "internal/sync.runtime_canSpin", "internal/sync.runtime_doSpin", "internal/sync.throw", "internal/sync.runtime_nanotime", "internal/sync.runtime_SemacquireMutex", "sync/atomic.AddInt32", "(*internal/sync.Mutex).Unlock", "internal/race.ReleaseMerge", "(*internal/sync.Mutex).unlockSlow", "internal/sync.fatal", "internal/sync.runtime_Semrelease", "sync/atomic.AddInt64", "sync/atomic.SwapInt64", "sync/atomic.CompareAndSwapInt64", "sync/atomic.LoadInt64"], unfollowed := true, recurses := true, apart := false, narrowed := true }
def LazyAddsUptoSaid : Prop := lazyAddsUptoRow.holds Try.pinned (OpenSpec.upto lazyAddsSpec)

/-- 'lockstitchlaw01.LazyMost', WHERE WHAT IT READS IS OF BULK AT MOST 1048576: true; the input reads as it did. -/
def lazyMostUptoRow : OpenClaim := { program := "ythnllejpoklgbaa", sum := "6b69bbc27a4a2ae8b10f9ce2cc07dd68137b2b589864600be057a94addc9f086", func := "lockstitch/lockstitchlaw01.LazyMost", spec := "lazyMost", inPlace := ["sync/atomic.LoadUint32", "sync/atomic.StoreUint32", "(*internal/sync.Mutex).Lock", "internal/race.Disable", "sync/atomic.CompareAndSwapInt32", "internal/race.Enable", "internal/race.Acquire", "(*internal/sync.Mutex).lockSlow", "internal/sync.runtime_canSpin", "internal/sync.runtime_doSpin", "internal/sync.throw", "internal/sync.runtime_nanotime", "internal/sync.runtime_SemacquireMutex", "sync/atomic.AddInt32", "(*internal/sync.Mutex).Unlock", "internal/race.ReleaseMerge", "(*internal/sync.Mutex).unlockSlow", "internal/sync.fatal", "internal/sync.runtime_Semrelease", "sync/atomic.AddInt64", "sync/atomic.SwapInt64", "sync/atomic.CompareAndSwapInt64", "sync/atomic.LoadInt64"], unfollowed := true, recurses := true, apart := false, narrowed := true }
def LazyMostUptoSaid : Prop := lazyMostUptoRow.holds Try.pinned (OpenSpec.upto lazyMostSpec)

/-- 'lockstitchlaw01.LazyNobody', WHERE WHAT IT READS IS OF BULK AT MOST 1048576: true; the input reads as it did. -/
def lazyNobodyUptoRow : OpenClaim := { program := "ythnllejpoklgbaa", sum := "6b69bbc27a4a2ae8b10f9ce2cc07dd68137b2b589864600be057a94addc9f086", func := "lockstitch/lockstitchlaw01.LazyNobody", spec := "lazyNobody", inPlace := ["sync/atomic.LoadUint32", "sync/atomic.StoreUint32", "(*internal/sync.Mutex).Lock", "internal/race.Disable", "sync/atomic.CompareAndSwapInt32", "internal/race.Enable", "internal/race.Acquire", "(*internal/sync.Mutex).lockSlow", "internal/sync.runtime_canSpin", "internal/sync.runtime_doSpin", "internal/sync.throw", "internal/sync.runtime_nanotime", "internal/sync.runtime_SemacquireMutex", "sync/atomic.AddInt32", "(*internal/sync.Mutex).Unlock", "internal/race.ReleaseMerge", "(*internal/sync.Mutex).unlockSlow", "internal/sync.fatal", "internal/sync.runtime_Semrelease", "sync/atomic.AddInt64", "sync/atomic.SwapInt64", "sync/atomic.CompareAndSwapInt64", "sync/atomic.LoadInt64"], unfollowed := true, recurses := true, apart := false, narrowed := true }
def LazyNobodyUptoSaid : Prop := lazyNobodyUptoRow.holds Try.pinned (OpenSpec.upto lazyNobodySpec)

/-- 'lockstitchlaw01.LazyTries', WHERE WHAT IT READS IS OF BULK AT MOST 1048576: true; the input reads as it did. -/
def lazyTriesUptoRow : OpenClaim := { program := "ythnllejpoklgbaa", sum := "6b69bbc27a4a2ae8b10f9ce2cc07dd68137b2b589864600be057a94addc9f086", func := "lockstitch/lockstitchlaw01.LazyTries", spec := "lazyTries", inPlace := ["sync/atomic.LoadUint32", "sync/atomic.StoreUint32", "(*internal/sync.Mutex).Lock", "internal/race.Disable", "sync/atomic.CompareAndSwapInt32", "internal/race.Enable", "internal/race.Acquire", "(*internal/sync.Mutex).lockSlow", "internal/sync.runtime_canSpin", "internal/sync.runtime_doSpin", "internal/sync.throw", "internal/sync.runtime_nanotime", "internal/sync.runtime_SemacquireMutex", "sync/atomic.AddInt32", "(*internal/sync.Mutex).Unlock", "internal/race.ReleaseMerge", "(*internal/sync.Mutex).unlockSlow", "internal/sync.fatal", "internal/sync.runtime_Semrelease", "sync/atomic.AddInt64", "sync/atomic.SwapInt64", "sync/atomic.CompareAndSwapInt64", "sync/atomic.LoadInt64"], unfollowed := true, recurses := true, apart := false, narrowed := true }
def LazyTriesUptoSaid : Prop := lazyTriesUptoRow.holds Try.pinned (OpenSpec.upto lazyTriesSpec)

/-- 'lockstitchlaw01.LazyChain', WHERE WHAT IT READS IS OF BULK AT MOST 1048576: true; the input reads as it did. -/
def lazyChainUptoRow : OpenClaim := { program := "ythnllejpoklgbaa", sum := "6b69bbc27a4a2ae8b10f9ce2cc07dd68137b2b589864600be057a94addc9f086", func := "lockstitch/lockstitchlaw01.LazyChain", spec := "lazyChain", inPlace := ["sync/atomic.LoadUint32", "sync/atomic.StoreUint32", "(*internal/sync.Mutex).Lock", "internal/race.Disable", "sync/atomic.CompareAndSwapInt32", "internal/race.Enable", "internal/race.Acquire", "(*internal/sync.Mutex).lockSlow", "internal/sync.runtime_canSpin", "internal/sync.runtime_doSpin", "internal/sync.throw", "internal/sync.runtime_nanotime", "internal/sync.runtime_SemacquireMutex", "sync/atomic.AddInt32", "(*internal/sync.Mutex).Unlock", "internal/race.ReleaseMerge", "(*internal/sync.Mutex).unlockSlow", "internal/sync.fatal", "internal/sync.runtime_Semrelease", "sync/atomic.AddInt64", "sync/atomic.SwapInt64", "sync/atomic.CompareAndSwapInt64", "sync/atomic.LoadInt64"], unfollowed := true, recurses := true, apart := false, narrowed := true }
def LazyChainUptoSaid : Prop := lazyChainUptoRow.holds Try.pinned (OpenSpec.upto lazyChainSpec)

/-- 'lockstitchlaw01.LazyTypes', WHERE WHAT IT READS IS OF BULK AT MOST 1048576: true; the input reads as it did. -/
def lazyTypesUptoRow : OpenClaim := { program := "ythnllejpoklgbaa", sum := "6b69bbc27a4a2ae8b10f9ce2cc07dd68137b2b589864600be057a94addc9f086", func := "lockstitch/lockstitchlaw01.LazyTypes", spec := "lazyTypes", inPlace := ["sync/atomic.LoadUint32", "sync/atomic.StoreUint32", "(*internal/sync.Mutex).Lock", "internal/race.Disable", "sync/atomic.CompareAndSwapInt32", "internal/race.Enable", "internal/race.Acquire", "(*internal/sync.Mutex).lockSlow", "internal/sync.runtime_canSpin", "internal/sync.runtime_doSpin", "internal/sync.throw", "internal/sync.runtime_nanotime", "internal/sync.runtime_SemacquireMutex", "sync/atomic.AddInt32", "(*internal/sync.Mutex).Unlock", "internal/race.ReleaseMerge", "(*internal/sync.Mutex).unlockSlow", "internal/sync.fatal", "internal/sync.runtime_Semrelease", "sync/atomic.AddInt64", "sync/atomic.SwapInt64", "sync/atomic.CompareAndSwapInt64", "sync/atomic.LoadInt64"], unfollowed := true, recurses := true, apart := false, narrowed := true }
def LazyTypesUptoSaid : Prop := lazyTypesUptoRow.holds Try.pinned (OpenSpec.upto lazyTypesSpec)

end Rows
end Go.Proofs.Ythnllejpoklgbaa
