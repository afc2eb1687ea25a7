/- Parts of the proof of FullTrue: what the functions that it reaches compute, and plain facts about that. -/
import Derived.Below
import Derived.Deep.Draws
import Derived.Deep.AppendLies
import Derived.Maps.AppendAt
import Derived.OwnWalk
import Derived.Laws.BytesArg
import Derived.Laws.MakeOwn
import Derived.Laws.OwnMore
import Derived.Deep.OwnRows
import Derived.Tactics
import Derived.Lib.ConvBytes
import Derived.Laws.Slices
import Derived.WalkKit
import Derived.KernelRfl
import Derived.RowKit3
import Derived.Deep.LoopGhost
import Derived.Deep.QuietTactic
import Derived.BigQuiet
import Derived.WideLaws
import Derived.Deep.DeepCutAuto
import Derived.Deep.CutBlock
import Derived.Deep.RegionHeld3
import Derived.Laws.Rows
import Derived.Lib.AppendStr
import Derived.ArgAppend
import Derived.Laws.IdiomCopy
import Derived.OrdersHeld
import Derived.Laws.BitsLemmas
import Derived.RowKit
import Derived.Laws.Externs
import Derived.Lib.Bytealg
import Derived.Laws.NewBlocks
import Derived.Lib.Hide
import Derived.Deep.DrawnRows
import Derived.LoopTactic
import Derived.RegionTactic
import Derived.StillTailTactics
import Derived.Lib.SliceRun
import Derived.Shelf.Lay
import Derived.Shelf.Strconv.Itoa3
import Derived.Lib.LaidTab
import Derived.Deep.MidRow
import Derived.ChangeKeysEq
import Derived.ProofKit
import Derived.OpenShut
import Derived.ShutString
import Derived.ChangeOld
import Derived.SliceStrings
import Derived.Deep.DeepHandedRow
import Derived.Lib.SmallJoins
import Derived.LaidLaws
import Derived.Lay
import Derived.Test.YtbmhmlgfpijmhaaDoorFak
import Derived.Test.YtbmhmlgfpijmhaaDoorFal
set_option linter.unusedVariables false
set_option linter.unusedSimpArgs false
section
section
namespace Go.Proofs.YtbmhmlgfpijmhaaDoor.P
open Go.RowKit Go.Proofs.af.bG Go.Proofs.af.dD Go.Proofs.af.dM
def letters (o:Int):List UInt8 :=
  if o=1 then [97,110]
  else if o=2 then [97,98,99]
  else if o=3 then [110]
  else if o=4 then [97,110]
  else if o=5 then [97]
  else if o=6 then [97]
  else if o=7 then [97,98]
  else if o=8 then [97,98,110]
  else if o=9 then [97,110,98]
  else if o=10 then [97,98,110]
  else if o=11 then [97,110,98]
  else if o=12 then [97,98]
  else if o=13 then [97,98]
  else if o=14 then [97]
  else if o=15 then [97,98,99]
  else []
def hasB (o:Int) (c:UInt8):Bool:=(letters o).contains c
end Go.Proofs.YtbmhmlgfpijmhaaDoor.P
end
section
namespace Go.Proofs.YtbmhmlgfpijmhaaDoor.P
open Go.RowKit Go.Proofs.af.bG Go.Proofs.af.dD Go.Proofs.af.dM
def Gm (t:List ByteArray) (i f:Int):Int:=if 0≤f∧f < jm t i then kX (bt (Nh t i) f) t.length else -1
def pI (t:List ByteArray) (a n:Int):Int × Bool:=if 0≤a∧0≤n∧n < jm t a then (Gm t a n,true) else (-1,false)
def ru (t:List ByteArray) (a n:Int):Bool:=(pI t a n).2 && decide ((pI t a n).1 < 0)
def o9 (l:List Int):Bool:=allB l.length fun i=>decide (rd l i < 8)
def qh (a b:Int):Bool:=decide (0≤a) && a == b
def qI (t:List ByteArray) (lo gl:ByteArray) (o a b c n:Int):Bool :=
  if o=7 then qh (df t lo a) (df t lo b)
  else if o=8 then (if o9 [a]=true then ru t (df t lo b) n else false)
  else if o=9 then (if o9 [b]=true then ru t (df t lo a) n else false)
  else if o=10 then qh (df t lo a) (pI t (df t lo b) n).1
  else if o=11 then qh (df t lo b) (pI t (df t lo a) n).1
  else if o=12 then qh (df t lo a) (df t gl b)
  else if o=13 then qh (df t lo b) (df t gl a)
  else if o=15 then (if o9 [a]=true then qh (df t lo b) (df t lo c) else false)
  else true
def oK (t:List ByteArray) (lo gl:ByteArray) (o a b c n:Int) (x:Bool):Bool :=
  if x=true then decide (df t lo a ≥ 0) else qI t lo gl o a b c n
def mX (t:List ByteArray) (lo gl:ByteArray) (o a b c n:Int) (x:Bool):Bool :=
  if x=true then o9 [a] else if o=2 then o9 [a,b,c]
  else if o=5 then oK t lo gl o a b c n (o == 5) else oK t lo gl o a b c n (o == 6)
def nY (t:List ByteArray) (lo gl:ByteArray) (o a b c n:Int):Bool :=
  if o=1 then mX t lo gl o a b c n (o == 1) else if o=4 then mX t lo gl o a b c n (o == 4) else mX t lo gl o a b c n (o == 14)
end Go.Proofs.YtbmhmlgfpijmhaaDoor.P
end
section
namespace Go.Proofs.YtbmhmlgfpijmhaaDoor.P
open Go.RowKit Go.Proofs.af.bG Go.Proofs.af.dD Go.Proofs.af.dM
def uf (x:iG):Bool:=if x.f0 < 1 then false else if x.f0 > 15 then false else
  ((hasB x.f0 98 || x.f2 == 0) && (hasB x.f0 99 || x.f3 == 0) && (hasB x.f0 110 || x.f4 == 0) && (hasB x.f0 97 || x.f1 == 0))
def wE (x:iG):Bool:=x.f0 == 3 || x.f0 == 4
def vI (t:List ByteArray) (lo gl:ByteArray) (x:iG):Bool:=nY t lo gl x.f0 x.f1 x.f2 x.f3 x.f4
def rH (t:List ByteArray) (lo gl:ByteArray) (n:Nat) (x:iG):Option Int :=
  if uf x=true then (if (wE x && (decide (x.f4 < 0) || decide (x.f4 > n)))=true then some 12 else if vI t lo gl x=true then none else some 5) else some 4
def headB (t:List ByteArray) (lo gl:ByteArray):Bool:=rf t (lo++gl) && (decide (lo.size≤8) && decide (gl.size≤4))
def xE (t:List ByteArray) (lo gl:ByteArray) (code:List iG):Int × Int :=
  scan (fun i=>(rH t lo gl code.length (code.getD i z39)).map fun e=>((i:Int),e)) (-1,0) code.length 0
def qP (t:List ByteArray) (lo gl:ByteArray) (code:List iG):Int × Int :=
  if headB t lo gl=true then (if 1≤code.length∧code.length≤200 then xE t lo gl code else (-1,3)) else (-1,5)
def Wf6 (code:List iG):Prop:=∀ i:Nat,(0≤(code.getD i z39).f1∧(code.getD i z39).f1≤255)∧(0≤(code.getD i z39).f2∧(code.getD i z39).f2≤255)∧(0≤(code.getD i z39).f3∧(code.getD i z39).f3≤255)
theorem Ez (t:List ByteArray) (lo gl:ByteArray) (code:List iG) :
    (xE t lo gl code=(-1,0)∧∀ j,j < code.length→rH t lo gl code.length (code.getD j z39)=none) ∨
    ∃ j e,j < code.length∧rH t lo gl code.length (code.getD j z39)=some e∧xE t lo gl code=((j:Int),e)∧∀ q,q < j→rH t lo gl code.length (code.getD q z39)=none:=by
  unfold xE
  rcases vz (bad:=fun i=>(rH t lo gl code.length (code.getD i z39)).map fun e=>((i:Int),e)) (fin:=((-1,0):Int × Int)) code.length 0 with ⟨h1,h2⟩|⟨j,b,_,h2,h3,h4,h5⟩
  · refine .inl ⟨h1,fun j hj=>?_⟩
    have:=h2 j (Nat.zero_le _) (by omega)
    rwa [Option.map_eq_none_iff] at this
  · rw [Option.map_eq_some_iff] at h3
    obtain ⟨e,h3,rfl⟩:=h3
    refine .inr ⟨j,e,by omega,h3,h4,fun q hq=>?_⟩
    have:=h5 q (Nat.zero_le _) hq
    rwa [Option.map_eq_none_iff] at this
theorem LY {t:List ByteArray} {lo gl:ByteArray} {n:Nat} {x:iG} {e:Int} (h:rH t lo gl n x=some e):e ≠ 0:=by
  unfold rH at h
  split at h
  · split at h
    · injection h;omega
    · split at h
      · cases h
      · injection h;omega
  · injection h;omega
theorem LU (t:List ByteArray) (lo gl:ByteArray) (code:List iG):(qP t lo gl code).2=0 ↔ headB t lo gl=true∧(1≤code.length∧code.length≤200)∧∀ j,j < code.length→rH t lo gl code.length (code.getD j z39)=none:=by
  unfold qP
  by_cases h1:headB t lo gl=true
  · rw [if_pos h1]
    by_cases h2:1≤code.length∧code.length≤200
    · rw [if_pos h2]
      rcases Ez t lo gl code with ⟨h3,h4⟩|⟨j,e,h3,h4,h5,_⟩
      · rw [h3]
        exact ⟨fun _=>⟨h1,h2,h4⟩,fun _=>rfl⟩
      · rw [h5]
        refine ⟨fun h=>absurd h (LY h4),fun h=>?_⟩
        rw [h.2.2 j h3] at h4
        cases h4
    · rw [if_neg h2]
      exact ⟨fun h=>by simp at h,fun h=>absurd h.2.1 h2⟩
  · rw [if_neg h1]
    exact ⟨fun h=>by simp at h,fun h=>absurd h.1 h1⟩
end Go.Proofs.YtbmhmlgfpijmhaaDoor.P
end
section
namespace Go.Proofs.YtbmhmlgfpijmhaaDoor.P
open Go.RowKit Go.Proofs.af.bG Go.Proofs.af.dD Go.Proofs.af.dM
theorem Ey {t:List ByteArray} (h:jM t=true) (i:Nat):jm t i≤6:=by
  by_cases hi:i < t.length
  · exact (zg h i hi).2
  · unfold jm Nh
    rw [if_neg (by simp;omega)]
    decide
theorem EY {t:List ByteArray} {lo gl:ByteArray} (h:headB t lo gl=true):jM t=true∧(∀ j,j < lo.size→0≤kX (bt lo j) t.length)∧(∀ j,j < gl.size→0≤kX (bt gl j) t.length)∧lo.size≤8∧gl.size≤4:=by
  unfold headB rf at h
  simp only [Bool.and_eq_true,decide_eq_true_eq] at h
  obtain ⟨⟨h1,h2⟩,h3,h4⟩:=h
  have hj:∀ j,j < (lo++gl).size→0≤kX (bt (lo++gl) j) t.length:=fun j hj=>of_decide_eq_true (nS.1 h1 j hj)
  have sz:(lo++gl).size=lo.size+gl.size:=by simp
  refine ⟨h2,fun j h=>?_,fun j h=>?_,h3,h4⟩
  · have:=hj j (by omega)
    rw [show bt (lo++gl) (j:Int)=bt lo j from ?_] at this
    · exact this
    · unfold bt
      rw [dif_pos (by rw [Int.toNat_natCast];omega),dif_pos (by rw [Int.toNat_natCast];omega)]
      congr 2
      exact ByteArray.getElem_append_left _
  · have:=hj (lo.size+j) (by omega)
    rw [show bt (lo++gl) ((lo.size+j:Nat):Int)=bt gl j from ?_] at this
    · exact this
    · unfold bt
      rw [dif_pos (by rw [Int.toNat_natCast];omega),dif_pos (by rw [Int.toNat_natCast];omega)]
      congr 2
      have:(lo++gl)[lo.size+j]'(by omega)=gl[lo.size+j - lo.size]'(by omega):=ByteArray.getElem_append_right (by omega)
      show (lo++gl)[lo.size+j]'(by omega)=gl[j]'(by omega)
      rw [this]
      congr 1
      omega
end Go.Proofs.YtbmhmlgfpijmhaaDoor.P
end
section
namespace Go.Proofs.YtbmhmlgfpijmhaaDoor.P
open Go.RowKit Go.Proofs.af.bG Go.Proofs.af.dD Go.Proofs.af.dM
structure St where
  x:Nat→Int
  p:Nat→Int
  g:Nat→Int
  bH:List (List Int)
  out:List Int
  pc:Int
  steps:Int
def upd (f:Nat→Int) (j:Nat) (v:Int):Nat→Int:=fun i=>if i=j then v else f i
def cellsS (s:St) (vO vU:Value):Array Value:=#[.int .i64 (s.x 0),.int .i64 (s.x 1),.int .i64 (s.x 2),.int .i64 (s.x 3),.int .i64 (s.x 4),.int .i64 (s.x 5),.int .i64 (s.x 6),.int .i64 (s.x 7),.int .i64 (s.p 0),.int .i64 (s.p 1),.int .i64 (s.p 2),.int .i64 (s.p 3),.int .i64 (s.p 4),.int .i64 (s.p 5),.int .i64 (s.p 6),.int .i64 (s.p 7),.int .i64 (s.g 0),.int .i64 (s.g 1),.int .i64 (s.g 2),.int .i64 (s.g 3),vO,vU,.int .i64 s.pc,.int .i64 s.steps]
section
variable {b:Nat} {s:St} {vO vU:Value} {w:World}
end
def bump (s:St):St:={ s with pc:=wrap64 (s.pc+1),steps:=wrap64 (s.steps+1) }
section
variable {b:Nat} {s:St} {vO vU:Value} {P I:Array Value} {w W:World}
end
end Go.Proofs.YtbmhmlgfpijmhaaDoor.P
end
section
namespace Go.Proofs.YtbmhmlgfpijmhaaDoor.P
open Go.RowKit Go.Proofs.af.bG Go.Proofs.af.dD Go.Proofs.af.dM
abbrev yh:Kd (List Int):=Kd.slice 2 (Kd.int .i64)
section
variable {b:Nat} {s:St} {vO vU:Value} {I:Array Value} {w W:World}
end
end Go.Proofs.YtbmhmlgfpijmhaaDoor.P
end
section
namespace Go.Proofs.YtbmhmlgfpijmhaaDoor.P
open Go.RowKit Go.Proofs.af.bG Go.Proofs.af.dD Go.Proofs.af.dM
def rowOf (s:St) (o:Int):List Int:=s.bH.getD (o - 1).toNat []
def Ep (s:St) (o n:Int):Prop:=1≤o∧o≤s.bH.length∧0≤n∧n < (rowOf s o).length
instance (s:St) (o n:Int):Decidable (Ep s o n):=inferInstanceAs (Decidable (1≤o∧o≤s.bH.length∧0≤n∧n < (rowOf s o).length))
def qJ (sz:Int→Option Int) (s:St) (op:Int) (a bb cc:Nat) (n:Int):Option (St × Int) :=
    if op=1 then if a < 8 then some ({ bump s with x:=upd s.x a n },0) else none
    else if op=2 then if a < 8∧bb < 8∧cc < 8 then some ({ bump s with x:=upd s.x a (wrap64 (s.x bb+s.x cc)) },0) else none
    else if op=3 then some ({ bump s with pc:=n },0)
    else if op=4 then if a < 8 then if s.x a=0 then some ({ bump s with pc:=n },0) else some (bump s,0) else none
    else if op=5 then if a < 8 then (sz a).bind fun z=>if 0≤z∧z≤1000000 then some ({ bump s with bH:=s.bH++[List.replicate z.toNat 0],p:=upd s.p a ((s.bH.length:Int)+1) },0) else none else none
    else if op=6 then if a < 8 then some ({ bump s with p:=upd s.p a 0 },0) else none
    else if op=7 then if a < 8∧bb < 8 then some ({ bump s with p:=upd s.p a (s.p bb) },0) else none
    else if op=8 then if a < 8∧bb < 8 then if s.p bb=0 then some (bump s,9) else if Ep s (s.p bb) n then some ({ bump s with x:=upd s.x a (rd (rowOf s (s.p bb)) n) },0) else none else none
    else if op=9 then if a < 8∧bb < 8 then if s.p a=0 then some (bump s,9) else if Ep s (s.p a) n then some ({ bump s with bH:=s.bH.set (s.p a - 1).toNat ((rowOf s (s.p a)).set n.toNat (s.x bb)) },0) else none else none
    else if op=10 then if a < 8∧bb < 8 then if s.p bb=0 then some (bump s,9) else if Ep s (s.p bb) n then some ({ bump s with p:=upd s.p a (rd (rowOf s (s.p bb)) n) },0) else none else none
    else if op=11 then if a < 8∧bb < 8 then if s.p a=0 then some (bump s,9) else if Ep s (s.p a) n then some ({ bump s with bH:=s.bH.set (s.p a - 1).toNat ((rowOf s (s.p a)).set n.toNat (s.p bb)) },0) else none else none
    else if op=12 then if a < 8∧bb < 4 then some ({ bump s with p:=upd s.p a (s.g bb) },0) else none
    else if op=13 then if a < 4∧bb < 8 then some ({ bump s with g:=upd s.g a (s.p bb) },0) else none
    else if op=14 then if a < 8 then some ({ bump s with out:=s.out++[s.x a] },0) else none
    else if op=15 then if a < 8∧bb < 8∧cc < 8 then some ({ bump s with x:=upd s.x a (if s.p bb=s.p cc then 1 else 0) },0) else none
    else none
def Uk (sz:Int→Option Int) (s:St) (i:iG):Option (St × Int) :=
  if 0≤i.f1∧0≤i.f2∧0≤i.f3∧s.bH.length≤1000000∧s.out.length≤1000000 then qJ sz s i.f0 i.f1.toNat i.f2.toNat i.f3.toNat i.f4 else none
section
variable {k b:Nat} {s s':St} {e:Int} {A0 A3:Option Addr} {c0 c3:Nat} {l0:List ByteArray} {a1 a2:ByteArray} {l3:List iG} {W0 w:World}
end
end Go.Proofs.YtbmhmlgfpijmhaaDoor.P
end
section
namespace Go.Proofs.YtbmhmlgfpijmhaaDoor.P
open Go.RowKit Go.Proofs.af.bG Go.Proofs.af.dD Go.Proofs.af.dM
def Yn:St:=⟨fun _=>0,fun _=>0,fun _=>0,[],[],0,0⟩
theorem Ou {sz sz':Int→Option Int} (h:∀ a,dN (sz a) (sz' a)) (s:St) (i:iG):dN (Uk sz s i) (Uk sz' s i):=by
  unfold Uk qJ
  repeat' first
      | (with_reducible exact dN.refl _)
      | (with_reducible refine dN.ite ?_ ?_)
      | (with_reducible refine dN.bind (h _) (fun _=>?_))
end Go.Proofs.YtbmhmlgfpijmhaaDoor.P
end
section
namespace Go.Proofs.YtbmhmlgfpijmhaaDoor.P
open Go.RowKit Go.Proofs.af.bG Go.Proofs.af.dD Go.Proofs.af.dM
structure vN (s:St):Prop where
  bH:s.bH.length≤1000000
  out:s.out.length≤1000000
  each:∀ j (hj:j < s.bH.length),(s.bH[j]).length≤1000000
end Go.Proofs.YtbmhmlgfpijmhaaDoor.P
end
section
namespace Go.Proofs.YtbmhmlgfpijmhaaDoor.P
open Go.RowKit Go.Proofs.af.bG Go.Proofs.af.dD Go.Proofs.af.dM
def vY (sz:Int→Option Int) (code:List iG) (chk:Int) (s:St):Option (St × Bool × Int) :=
  if chk=0 then
    if s.pc < 0 then some (s,false,2)
    else if (code.length:Int) < s.pc then some (s,false,2)
    else if s.pc=code.length then some (s,true,0)
    else (Uk sz s (aj code s.pc)).bind fun t=>if t.2=0 then some (t.1,false,0) else some (s,false,t.2)
  else some (s,false,2)
end Go.Proofs.YtbmhmlgfpijmhaaDoor.P
end
section
namespace Go.Proofs.YtbmhmlgfpijmhaaDoor.P
open Go.RowKit Go.Proofs.af.bG Go.Proofs.af.dD Go.Proofs.af.dM
structure Fine (t:List ByteArray) (lo gl:ByteArray) (n:Nat) (x:iG):Prop where
  op:1≤x.f0∧x.f0≤15
  jump:x.f0=3 ∨ x.f0=4→0≤x.f4∧x.f4≤n
  one:x.f0=1 ∨ x.f0=4 ∨ x.f0=14→x.f1 < 8
  add:x.f0=2→x.f1 < 8∧x.f2 < 8∧x.f3 < 8
  new:x.f0=5 ∨ x.f0=6→0≤df t lo x.f1
  move:x.f0=7→0≤df t lo x.f1∧df t lo x.f1=df t lo x.f2
  YT:x.f0=8→x.f1 < 8∧0≤df t lo x.f2∧0≤x.f4∧x.f4 < jm t (df t lo x.f2)
  VY:x.f0=9→x.f2 < 8∧0≤df t lo x.f1∧0≤x.f4∧x.f4 < jm t (df t lo x.f1)∧Gm t (df t lo x.f1) x.f4 < 0
  YS:x.f0=10→0≤df t lo x.f1∧0≤df t lo x.f2∧0≤x.f4∧x.f4 < jm t (df t lo x.f2)∧df t lo x.f1=Gm t (df t lo x.f2) x.f4
  VX:x.f0=11→0≤df t lo x.f2∧0≤df t lo x.f1∧0≤x.f4∧x.f4 < jm t (df t lo x.f1)∧df t lo x.f2=Gm t (df t lo x.f1) x.f4
  YU:x.f0=12→0≤df t lo x.f1∧df t lo x.f1=df t gl x.f2
  VZ:x.f0=13→0≤df t lo x.f2∧df t lo x.f2=df t gl x.f1
  same:x.f0=15→x.f1 < 8∧0≤df t lo x.f2∧df t lo x.f2=df t lo x.f3
theorem rQ {a b:Int}:qh a b=true ↔ 0≤a∧a=b:=by simp [qh]
theorem IJ {a:Int}:o9 [a]=true ↔ a < 8:=by
  unfold o9
  rw [nS]
  refine ⟨fun h=>of_decide_eq_true (h 0 (by simp)),fun h j hj=>?_⟩
  obtain rfl:j=0:=by simp at hj;omega
  exact decide_eq_true h
theorem YX {a b c:Int}:o9 [a,b,c]=true ↔ a < 8∧b < 8∧c < 8:=by
  unfold o9
  rw [nS]
  refine ⟨fun h=>⟨of_decide_eq_true (h 0 (by simp)),of_decide_eq_true (h 1 (by simp)),of_decide_eq_true (h 2 (by simp))⟩,fun h j hj=>?_⟩
  obtain rfl|rfl|rfl:j=0 ∨ j=1 ∨ j=2:=by simp at hj;omega
  · exact decide_eq_true h.1
  · exact decide_eq_true h.2.1
  · exact decide_eq_true h.2.2
theorem xu {t:List ByteArray} {a n:Int} (h:(pI t a n).2=true ∨ 0≤(pI t a n).1):0≤a∧0≤n∧n < jm t a∧(pI t a n).1=Gm t a n:=by
  unfold pI at h ⊢
  split
  · rename_i hc
    exact ⟨hc.1,hc.2.1,hc.2.2,rfl⟩
  · rename_i hc
    rw [if_neg hc] at h
    simp at h
theorem Uh {t:List ByteArray} {lo gl:ByteArray} {n:Nat} {x:iG} (h:rH t lo gl n x=none):Fine t lo gl n x:=by
  unfold rH at h
  split at h
  case isFalse=>cases h
  rename_i h1
  split at h
  case isTrue=>cases h
  rename_i h2
  split at h
  case isFalse=>cases h
  rename_i h3
  unfold uf at h1
  split at h1
  case isTrue=>cases h1
  rename_i q1
  split at h1
  case isTrue=>cases h1
  rename_i q2
  clear h h1
  have hk:nY t lo gl x.f0 x.f1 x.f2 x.f3 x.f4=true:=h3
  have hn:∀ {a m:Int},ru t a m=true→0≤a∧0≤m∧m < jm t a∧Gm t a m < 0:=fun {a m} hh=>by
    simp only [ru,Bool.and_eq_true,decide_eq_true_eq] at hh
    obtain ⟨y1,y2,y3,y4⟩:=xu (.inl hh.1)
    exact ⟨y1,y2,y3,y4 ▸ hh.2⟩
  refine ⟨⟨by omega,by omega⟩,fun hj=>?_,fun hj=>?_,fun hj=>?_,fun hj=>?_,fun hj=>?_,fun hj=>?_,fun hj=>?_,fun hj=>?_,fun hj=>?_,fun hj=>?_,fun hj=>?_,fun hj=>?_⟩
  · rcases hj with hj|hj <;> simp [wE,hj] at h2 <;> omega
  · rcases hj with hj|hj|hj <;> simp [nY,mX,hj] at hk <;> exact IJ.1 hk
  · simp [nY,mX,hj] at hk
    exact YX.1 hk
  · rcases hj with hj|hj <;> simp [nY,mX,oK,hj] at hk <;> exact hk
  · simp [nY,mX,oK,qI,hj] at hk
    exact rQ.1 hk
  · simp [nY,mX,oK,qI,hj] at hk
    obtain ⟨y1,y2,y3,_⟩:=hn hk.2
    exact ⟨IJ.1 hk.1,y1,y2,y3⟩
  · simp [nY,mX,oK,qI,hj] at hk
    exact ⟨IJ.1 hk.1,hn hk.2⟩
  · simp [nY,mX,oK,qI,hj] at hk
    obtain ⟨y0,y⟩:=rQ.1 hk
    obtain ⟨z1,z2,z3,z4⟩:=xu (.inr (y ▸ y0))
    exact ⟨y0,z1,z2,z3,y.trans z4⟩
  · simp [nY,mX,oK,qI,hj] at hk
    obtain ⟨y0,y⟩:=rQ.1 hk
    obtain ⟨z1,z2,z3,z4⟩:=xu (.inr (y ▸ y0))
    exact ⟨y0,z1,z2,z3,y.trans z4⟩
  · simp [nY,mX,oK,qI,hj] at hk
    exact rQ.1 hk
  · simp [nY,mX,oK,qI,hj] at hk
    exact rQ.1 hk
  · simp [nY,mX,oK,qI,hj] at hk
    exact ⟨IJ.1 hk.1,rQ.1 hk.2⟩
def Eh (ty:List Int) (v τ:Int):Prop:=v=0 ∨ (1≤v∧v≤ty.length∧ty.getD (v - 1).toNat (-1)=τ)
theorem Eh.more {ty:List Int} {v τ σ:Int} (h:Eh ty v τ):Eh (ty++[σ]) v τ:=by
  rcases h with h|⟨h1,h2,h3⟩
  · exact .inl h
  · refine .inr ⟨h1,by simp;omega,?_⟩
    rw [List.getD_eq_getElem?_getD,List.getElem?_append_left (by omega),← List.getD_eq_getElem?_getD]
    exact h3
structure Inv (t:List ByteArray) (lo gl:ByteArray) (n:Nat) (s:St) (ty:List Int):Prop where
  len:ty.length=s.bH.length
  size:∀ j:Nat,j < ty.length→((s.bH.getD j []).length:Int)=jm t (ty.getD j (-1))
  obj:∀ j f:Nat,j < ty.length→0≤Gm t (ty.getD j (-1)) f→Eh ty (rd (s.bH.getD j []) f) (Gm t (ty.getD j (-1)) f)
  p:∀ a:Nat,0≤df t lo a→Eh ty (s.p a) (df t lo a)
  g:∀ a:Nat,0≤df t gl a→Eh ty (s.g a) (df t gl a)
  few:s.bH.length≤n∧s.out.length≤n
section
variable {t:List ByteArray} {lo gl:ByteArray} {n:Nat} {s:St} {ty:List Int}
theorem inv0:Inv t lo gl 0 Yn [] :=
  ⟨rfl,fun j hj=>absurd hj (by simp),fun j f hj=>absurd hj (by simp),fun _ _=>.inl rfl,fun _ _=>.inl rfl,Nat.le_refl _,Nat.le_refl _⟩
theorem Inv.as {s':St} (h:Inv t lo gl n s ty) (e1:s'.bH=s.bH) (e2:s'.p=s.p) (e3:s'.g=s.g) (e4:s'.out.length≤n+1):Inv t lo gl (n+1) s' ty:=by
  refine ⟨by rw [e1];exact h.len,by rw [e1];exact h.size,by rw [e1];exact h.obj,by rw [e2];exact h.p,by rw [e3];exact h.g,by rw [e1];have:=h.few.1;omega,e4⟩
theorem Inv.P5 {s':St} (h:Inv t lo gl n s ty) (a:Nat) (v:Int) (e1:s'.bH=s.bH) (e2:s'.p=upd s.p a v) (e3:s'.g=s.g) (e4:s'.out=s.out) (hv:Eh ty v (df t lo a)):Inv t lo gl (n+1) s' ty:=by
  refine ⟨by rw [e1];exact h.len,by rw [e1];exact h.size,by rw [e1];exact h.obj,fun b hb=>?_,by rw [e3];exact h.g,by rw [e1];have:=h.few.1;omega,by rw [e4];have:=h.few.2;omega⟩
  rw [e2]
  unfold upd
  split
  · rename_i hba
    rw [hba]
    exact hv
  · exact h.p b hb
theorem Inv.af9 {s':St} (h:Inv t lo gl n s ty) (a:Nat) (v:Int) (e1:s'.bH=s.bH) (e2:s'.p=s.p) (e3:s'.g=upd s.g a v) (e4:s'.out=s.out) (hv:Eh ty v (df t gl a)):Inv t lo gl (n+1) s' ty:=by
  refine ⟨by rw [e1];exact h.len,by rw [e1];exact h.size,by rw [e1];exact h.obj,by rw [e2];exact h.p,fun b hb=>?_,by rw [e1];have:=h.few.1;omega,by rw [e4];have:=h.few.2;omega⟩
  rw [e3]
  unfold upd
  split
  · rename_i hba
    rw [hba]
    exact hv
  · exact h.g b hb
theorem Inv.YC {s':St} (h:Inv t lo gl n s ty) (o:Nat) (m:Nat) (v:Int) (ho:o < ty.length) (hm:(m:Int) < jm t (ty.getD o (-1))) (e1:s'.bH=s.bH.set o ((s.bH.getD o []).set m v)) (e2:s'.p=s.p) (e3:s'.g=s.g) (e4:s'.out=s.out)
    (hv:0≤Gm t (ty.getD o (-1)) m→Eh ty v (Gm t (ty.getD o (-1)) m)):Inv t lo gl (n+1) s' ty:=by
  have hlen:=h.len
  have hrow:∀ j,s'.bH.getD j []=if j=o then (s.bH.getD o []).set m v else s.bH.getD j []:=fun j=>by
    rw [e1,List.getD_eq_getElem?_getD,List.getElem?_set]
    split
    · rename_i hoj
      rw [if_pos hoj.symm,if_pos (by omega)]
      rfl
    · rename_i hoj
      rw [if_neg (fun he=>hoj he.symm),← List.getD_eq_getElem?_getD]
  refine ⟨by rw [e1,List.length_set];exact h.len,fun j hj=>?_,fun j f hj hf=>?_,by rw [e2];exact h.p,by rw [e3];exact h.g,by rw [e1,List.length_set];have:=h.few.1;omega,by rw [e4];have:=h.few.2;omega⟩
  · rw [hrow]
    split
    · rename_i hjo
      rw [List.length_set,hjo]
      exact h.size o ho
    · exact h.size j hj
  · rw [hrow]
    split
    · rename_i hjo
      rw [hjo] at hf ⊢
      have hs:=h.size o ho
      unfold rd
      rw [Int.toNat_natCast,List.getD_eq_getElem?_getD,List.getElem?_set]
      split
      · rename_i hmf
        rw [← hmf] at hf ⊢
        rw [if_pos (by omega)]
        exact hv hf
      · have:=h.obj o f ho hf
        unfold rd at this
        rw [Int.toNat_natCast,List.getD_eq_getElem?_getD] at this
        exact this
    · exact h.obj j f hj hf
theorem Inv.new {s':St} (h:Inv t lo gl n s ty) (a:Nat) (τ:Int) (hτ:df t lo a=τ) (e1:s'.bH=s.bH++[List.replicate (jm t τ).toNat 0]) (hz:0≤jm t τ) (e2:s'.p=upd s.p a ((s.bH.length:Int)+1)) (e3:s'.g=s.g) (e4:s'.out=s.out):Inv t lo gl (n+1) s' (ty++[τ]):=by
  have hlen:=h.len
  have hl:(ty++[τ]).length=ty.length+1:=by simp
  have hty:∀ j,j < ty.length→(ty++[τ]).getD j (-1)=ty.getD j (-1):=fun j hj=>by
    rw [List.getD_eq_getElem?_getD,List.getElem?_append_left hj,← List.getD_eq_getElem?_getD]
  have YZ:(ty++[τ]).getD ty.length (-1)=τ:=by
    rw [List.getD_eq_getElem?_getD,List.getElem?_append_right (Nat.le_refl _)]
    simp
  have hob:∀ j,j < ty.length→s'.bH.getD j []=s.bH.getD j []:=fun j hj=>by
    rw [e1,List.getD_eq_getElem?_getD,List.getElem?_append_left (by omega),← List.getD_eq_getElem?_getD]
  have Y2:s'.bH.getD ty.length []=List.replicate (jm t τ).toNat 0:=by
    rw [e1,hlen,List.getD_eq_getElem?_getD,List.getElem?_append_right (Nat.le_refl _)]
    simp
  have hr0:∀ (m:Nat) (i:Int),rd (List.replicate m (0:Int)) i=0:=fun m i=>by
    unfold rd
    rw [List.getD_eq_getElem?_getD,List.getElem?_replicate]
    split <;> rfl
  refine ⟨by rw [e1];simp [hlen],fun j hj=>?_,fun j f hj hf=>?_,fun b hb=>?_,fun b hb=>?_,by rw [e1];have:=h.few.1;simp;omega,by rw [e4];have:=h.few.2;omega⟩
  · by_cases hj2:j < ty.length
    · rw [hty j hj2,hob j hj2]
      exact h.size j hj2
    · obtain rfl:j=ty.length:=by omega
      rw [YZ,Y2,List.length_replicate]
      omega
  · by_cases hj2:j < ty.length
    · rw [hty j hj2] at hf ⊢
      rw [hob j hj2]
      exact (h.obj j f hj2 hf).more
    · obtain rfl:j=ty.length:=by omega
      rw [Y2,hr0]
      exact .inl rfl
  · rw [e2]
    unfold upd
    split
    · rename_i hba
      rw [hba,hτ]
      refine .inr ⟨by omega,by rw [hl,hlen];omega,?_⟩
      rw [show ((s.bH.length:Int)+1 - 1).toNat=ty.length by rw [hlen];omega]
      exact YZ
    · exact (h.p b hb).more
  · rw [e3]
    exact (h.g b hb).more
end
end Go.Proofs.YtbmhmlgfpijmhaaDoor.P
end
section
namespace Go.Proofs.YtbmhmlgfpijmhaaDoor.P
open Go.RowKit Go.Proofs.af.bG Go.Proofs.af.dD Go.Proofs.af.dM
def UI (t:List ByteArray) (lo:ByteArray) (a:Int):Option Int:=if 0≤a∧a≤255 then some (jm t (df t lo a)) else none
section
variable (sz:Int→Option Int) (s:St) (a b c:Nat) (n:Int)
theorem Vm:qJ sz s 1 a b c n=if a < 8 then some ({ bump s with x:=upd s.x a n },0) else none:=by unfold qJ;rfl
theorem Vl:qJ sz s 2 a b c n=if a < 8∧b < 8∧c < 8 then some ({ bump s with x:=upd s.x a (wrap64 (s.x b+s.x c)) },0) else none:=by unfold qJ;rfl
theorem ZK:qJ sz s 3 a b c n=some ({ bump s with pc:=n },0):=by unfold qJ;rfl
theorem ZJ:qJ sz s 4 a b c n=if a < 8 then if s.x a=0 then some ({ bump s with pc:=n },0) else some (bump s,0) else none:=by unfold qJ;rfl
theorem Vk:qJ sz s 5 a b c n=if a < 8 then (sz a).bind fun z=>if 0≤z∧z≤1000000 then some ({ bump s with bH:=s.bH++[List.replicate z.toNat 0],p:=upd s.p a ((s.bH.length:Int)+1) },0) else none else none:=by unfold qJ;rfl
theorem Vj:qJ sz s 6 a b c n=if a < 8 then some ({ bump s with p:=upd s.p a 0 },0) else none:=by unfold qJ;rfl
theorem Vh:qJ sz s 7 a b c n=if a < 8∧b < 8 then some ({ bump s with p:=upd s.p a (s.p b) },0) else none:=by unfold qJ;rfl
theorem ZI:qJ sz s 8 a b c n=if a < 8∧b < 8 then if s.p b=0 then some (bump s,9) else if Ep s (s.p b) n then some ({ bump s with x:=upd s.x a (rd (rowOf s (s.p b)) n) },0) else none else none:=by unfold qJ;rfl
theorem Vg:qJ sz s 9 a b c n=if a < 8∧b < 8 then if s.p a=0 then some (bump s,9) else if Ep s (s.p a) n then some ({ bump s with bH:=s.bH.set (s.p a - 1).toNat ((rowOf s (s.p a)).set n.toNat (s.x b)) },0) else none else none:=by unfold qJ;rfl
theorem XG:qJ sz s 10 a b c n=if a < 8∧b < 8 then if s.p b=0 then some (bump s,9) else if Ep s (s.p b) n then some ({ bump s with p:=upd s.p a (rd (rowOf s (s.p b)) n) },0) else none else none:=by unfold qJ;rfl
theorem Oq:qJ sz s 11 a b c n=if a < 8∧b < 8 then if s.p a=0 then some (bump s,9) else if Ep s (s.p a) n then some ({ bump s with bH:=s.bH.set (s.p a - 1).toNat ((rowOf s (s.p a)).set n.toNat (s.p b)) },0) else none else none:=by unfold qJ;rfl
theorem XF:qJ sz s 12 a b c n=if a < 8∧b < 4 then some ({ bump s with p:=upd s.p a (s.g b) },0) else none:=by unfold qJ;rfl
theorem XE:qJ sz s 13 a b c n=if a < 4∧b < 8 then some ({ bump s with g:=upd s.g a (s.p b) },0) else none:=by unfold qJ;rfl
theorem Oo:qJ sz s 14 a b c n=if a < 8 then some ({ bump s with out:=s.out++[s.x a] },0) else none:=by unfold qJ;rfl
theorem Om:qJ sz s 15 a b c n=if a < 8∧b < 8∧c < 8 then some ({ bump s with x:=upd s.x a (if s.p b=s.p c then 1 else 0) },0) else none:=by unfold qJ;rfl
end
structure Next (t:List ByteArray) (lo gl:ByteArray) (len n:Nat) (x:iG) (s s':St) (e:Int):Prop where
  code:e=0 ∨ e=9
  bad:e ≠ 0→s'=bump s
  inv:∃ ty',Inv t lo gl (n+1) s' ty'
  pc:e=0→0≤s'.pc∧s'.pc≤len
  steps:s'.steps=wrap64 (s.steps+1)
  out:s'.out=s.out++(if x.f0=14 then [s.x x.f1.toNat] else [])
  bH:s'.bH.length=s.bH.length+(if x.f0=5 then 1 else 0)
theorem Nr {t:List ByteArray} {lo:ByteArray} (hl:lo.size≤8) {a:Int} (h:0≤df t lo a):a < 8∧a < lo.size:=by
  unfold df at h
  split at h
  · omega
  · omega
theorem Ot {sz:Int→Option Int} {s:St} {i:iG} (h1:0≤i.f1) (h2:0≤i.f2) (h3:0≤i.f3) (h4:s.bH.length≤1000000) (h5:s.out.length≤1000000):Uk sz s i=qJ sz s i.f0 i.f1.toNat i.f2.toNat i.f3.toNat i.f4:=if_pos ⟨h1,h2,h3,h4,h5⟩
theorem step_ok {t:List ByteArray} {lo gl:ByteArray} {len n:Nat} {s:St} {ty:List Int} {x:iG} (hr:jM t=true) (hlo:lo.size≤8) (hgl:gl.size≤4) (hx:Fine t lo gl len x)
    (w1:0≤x.f1∧x.f1≤255) (w2:0≤x.f2∧x.f2≤255) (w3:0≤x.f3∧x.f3≤255) (hI:Inv t lo gl n s ty) (hn:n≤1000000) (hlen:len≤200) (h0:0≤s.pc) (h1:s.pc < len) :
    ∃ s' e,Uk (UI t lo) s x=some (s',e)∧Next t lo gl len n x s s' e:=by
  have hpc:wrap64 (s.pc+1)=s.pc+1:=by unfold wrap64;omega
  have hb:(bump s).pc=s.pc+1:=hpc
  have hfew:=hI.few
  rw [Ot w1.1 w2.1 w3.1 (by omega) (by omega)]
  obtain ⟨op,fa,fb,fc,n4⟩:=x
  obtain ⟨a,rfl⟩:=Int.eq_ofNat_of_zero_le w1.1
  obtain ⟨b,rfl⟩:=Int.eq_ofNat_of_zero_le w2.1
  obtain ⟨c,rfl⟩:=Int.eq_ofNat_of_zero_le w3.1
  simp only at w1 w2 w3 ⊢
  simp only [Int.toNat_natCast]
  have hop:=hx.op
  simp only at hop
  have hsz:∀ τ:Int,0≤jm t τ∧jm t τ≤6:=fun τ=>by
    by_cases hτ:0≤τ
    · obtain ⟨m,rfl⟩:=Int.eq_ofNat_of_zero_le hτ
      have:=Ey hr m
      unfold jm at this ⊢
      omega
    · unfold jm Nh
      rw [if_neg (by simp only [decide_eq_false hτ,Bool.false_and,Bool.and_false];decide)]
      exact ⟨by decide,by decide⟩
  have loc:∀ a:Nat,0≤df t lo a→a < 8:=fun a h=>by have:=(Nr hlo h).1;omega
  have glb:∀ a:Nat,0≤df t gl a→a < 4:=fun a h=>by
    have:((a:Nat):Int) < gl.size:=by
      unfold df at h
      split at h
      · assumption
      · omega
    omega
  have obj:∀ (b:Nat),0≤df t lo b→s.p b ≠ 0→1≤s.p b∧s.p b≤s.bH.length∧((s.p b - 1).toNat < ty.length)∧ty.getD (s.p b - 1).toNat (-1)=df t lo b∧((rowOf s (s.p b)).length:Int)=jm t (df t lo b):=fun b hb hne=>by
    rcases hI.p b hb with h|⟨q1,q2,q3⟩
    · exact absurd h hne
    · have hl:=hI.len
      have hlt:(s.p b - 1).toNat < ty.length:=by omega
      have:=hI.size _ hlt
      rw [q3] at this
      exact ⟨q1,by omega,hlt,q3,this⟩
  obtain h|h|h|h|h|h|h|h|h|h|h|h|h|h|h:op=1 ∨ op=2 ∨ op=3 ∨ op=4 ∨ op=5 ∨ op=6 ∨ op=7 ∨ op=8 ∨ op=9 ∨ op=10 ∨ op=11 ∨ op=12 ∨ op=13 ∨ op=14 ∨ op=15:=by omega
  all_goals subst h
  · have q:=hx.one (.inl rfl)
    simp only at q
    rw [Vm,if_pos (by omega)]
    exact ⟨_,_,rfl,.inl rfl,fun h=>absurd rfl h,⟨ty,hI.as rfl rfl rfl (by show s.out.length≤_;omega)⟩,fun _=>by show 0≤(bump s).pc∧(bump s).pc≤_;omega,rfl,(List.append_nil _).symm,rfl⟩
  · have q:=hx.add rfl
    simp only at q
    rw [Vl,if_pos (by omega)]
    exact ⟨_,_,rfl,.inl rfl,fun h=>absurd rfl h,⟨ty,hI.as rfl rfl rfl (by show s.out.length≤_;omega)⟩,fun _=>by show 0≤(bump s).pc∧(bump s).pc≤_;omega,rfl,(List.append_nil _).symm,rfl⟩
  · have q:=hx.jump (.inl rfl)
    rw [ZK]
    exact ⟨_,_,rfl,.inl rfl,fun h=>absurd rfl h,⟨ty,hI.as rfl rfl rfl (by show s.out.length≤_;omega)⟩,fun _=>q,rfl,(List.append_nil _).symm,rfl⟩
  · have q:=hx.jump (.inr rfl)
    have q1:=hx.one (.inr (.inl rfl))
    simp only at q1
    rw [ZJ,if_pos (by omega)]
    split
    · exact ⟨_,_,rfl,.inl rfl,fun h=>absurd rfl h,⟨ty,hI.as rfl rfl rfl (by show s.out.length≤_;omega)⟩,fun _=>q,rfl,(List.append_nil _).symm,rfl⟩
    · exact ⟨_,_,rfl,.inl rfl,fun h=>absurd rfl h,⟨ty,hI.as rfl rfl rfl (by show s.out.length≤_;omega)⟩,fun _=>by omega,rfl,(List.append_nil _).symm,rfl⟩
  · have q:=hx.new (.inl rfl)
    simp only at q
    have hs:=hsz (df t lo a)
    rw [Vk,if_pos (loc a q),UI,if_pos ⟨w1.1,w1.2⟩,Option.bind_some,if_pos (by omega)]
    exact ⟨_,_,rfl,.inl rfl,fun h=>absurd rfl h,⟨_,hI.new a _ rfl rfl hs.1 rfl rfl rfl⟩,fun _=>by show 0≤(bump s).pc∧(bump s).pc≤_;omega,rfl,(List.append_nil _).symm,List.length_append⟩
  · have q:=hx.new (.inr rfl)
    simp only at q
    rw [Vj,if_pos (loc a q)]
    exact ⟨_,_,rfl,.inl rfl,fun h=>absurd rfl h,⟨ty,hI.P5 a 0 rfl rfl rfl rfl (.inl rfl)⟩,fun _=>by show 0≤(bump s).pc∧(bump s).pc≤_;omega,rfl,(List.append_nil _).symm,rfl⟩
  · obtain ⟨q,q2⟩:=hx.move rfl
    simp only at q q2
    rw [Vh,if_pos ⟨loc a q,loc b (q2 ▸ q)⟩]
    exact ⟨_,_,rfl,.inl rfl,fun h=>absurd rfl h,⟨ty,hI.P5 a _ rfl rfl rfl rfl (q2 ▸ hI.p b (q2 ▸ q))⟩,fun _=>by show 0≤(bump s).pc∧(bump s).pc≤_;omega,rfl,(List.append_nil _).symm,rfl⟩
  · obtain ⟨q1,q2,q3,q4⟩:=hx.YT rfl
    simp only at q1 q2 q3 q4
    rw [ZI,if_pos ⟨by omega,loc b q2⟩]
    by_cases hz:s.p b=0
    · rw [if_pos hz]
      exact ⟨_,_,rfl,.inr rfl,fun _=>rfl,⟨ty,hI.as rfl rfl rfl (by show s.out.length≤_;omega)⟩,fun h=>absurd h (by decide),rfl,(List.append_nil _).symm,rfl⟩
    · obtain ⟨y1,y2,y3,y4,y5⟩:=obj b q2 hz
      rw [if_neg hz,if_pos ⟨y1,y2,q3,by omega⟩]
      exact ⟨_,_,rfl,.inl rfl,fun h=>absurd rfl h,⟨ty,hI.as rfl rfl rfl (by show s.out.length≤_;omega)⟩,fun _=>by show 0≤(bump s).pc∧(bump s).pc≤_;omega,rfl,(List.append_nil _).symm,rfl⟩
  · obtain ⟨q1,q2,q3,q4,q5⟩:=hx.VY rfl
    simp only at q1 q2 q3 q4 q5
    obtain ⟨m,rfl⟩:=Int.eq_ofNat_of_zero_le q3
    rw [Vg,if_pos ⟨loc a q2,by omega⟩]
    by_cases hz:s.p a=0
    · rw [if_pos hz]
      exact ⟨_,_,rfl,.inr rfl,fun _=>rfl,⟨ty,hI.as rfl rfl rfl (by show s.out.length≤_;omega)⟩,fun h=>absurd h (by decide),rfl,(List.append_nil _).symm,rfl⟩
    · obtain ⟨y1,y2,y3,y4,y5⟩:=obj a q2 hz
      rw [if_neg hz,if_pos ⟨y1,y2,q3,by omega⟩]
      exact ⟨_,_,rfl,.inl rfl,fun h=>absurd rfl h,⟨ty,hI.YC (s.p a - 1).toNat m _ y3 (by rw [y4];exact q4) rfl rfl rfl rfl (fun h=>by rw [y4] at h;omega)⟩,fun _=>by show 0≤(bump s).pc∧(bump s).pc≤_;omega,rfl,(List.append_nil _).symm,List.length_set⟩
  · obtain ⟨q1,q2,q3,q4,q5⟩:=hx.YS rfl
    simp only at q1 q2 q3 q4 q5
    obtain ⟨m,rfl⟩:=Int.eq_ofNat_of_zero_le q3
    rw [XG,if_pos ⟨loc a q1,loc b q2⟩]
    by_cases hz:s.p b=0
    · rw [if_pos hz]
      exact ⟨_,_,rfl,.inr rfl,fun _=>rfl,⟨ty,hI.as rfl rfl rfl (by show s.out.length≤_;omega)⟩,fun h=>absurd h (by decide),rfl,(List.append_nil _).symm,rfl⟩
    · obtain ⟨y1,y2,y3,y4,y5⟩:=obj b q2 hz
      rw [if_neg hz,if_pos ⟨y1,y2,q3,by omega⟩]
      have hv:=hI.obj (s.p b - 1).toNat m y3 (by rw [y4];omega)
      rw [y4,← q5] at hv
      exact ⟨_,_,rfl,.inl rfl,fun h=>absurd rfl h,⟨ty,hI.P5 a _ rfl rfl rfl rfl hv⟩,fun _=>by show 0≤(bump s).pc∧(bump s).pc≤_;omega,rfl,(List.append_nil _).symm,rfl⟩
  · obtain ⟨q1,q2,q3,q4,q5⟩:=hx.VX rfl
    simp only at q1 q2 q3 q4 q5
    obtain ⟨m,rfl⟩:=Int.eq_ofNat_of_zero_le q3
    rw [Oq,if_pos ⟨loc a q2,loc b q1⟩]
    by_cases hz:s.p a=0
    · rw [if_pos hz]
      exact ⟨_,_,rfl,.inr rfl,fun _=>rfl,⟨ty,hI.as rfl rfl rfl (by show s.out.length≤_;omega)⟩,fun h=>absurd h (by decide),rfl,(List.append_nil _).symm,rfl⟩
    · obtain ⟨y1,y2,y3,y4,y5⟩:=obj a q2 hz
      rw [if_neg hz,if_pos ⟨y1,y2,q3,by omega⟩]
      exact ⟨_,_,rfl,.inl rfl,fun h=>absurd rfl h,⟨ty,hI.YC (s.p a - 1).toNat m _ y3 (by rw [y4];exact q4) rfl rfl rfl rfl (fun _=>by rw [y4,← q5];exact hI.p b q1)⟩,fun _=>by show 0≤(bump s).pc∧(bump s).pc≤_;omega,rfl,(List.append_nil _).symm,List.length_set⟩
  · obtain ⟨q1,q2⟩:=hx.YU rfl
    simp only at q1 q2
    rw [XF,if_pos ⟨loc a q1,glb b (q2 ▸ q1)⟩]
    exact ⟨_,_,rfl,.inl rfl,fun h=>absurd rfl h,⟨ty,hI.P5 a _ rfl rfl rfl rfl (q2 ▸ hI.g b (q2 ▸ q1))⟩,fun _=>by show 0≤(bump s).pc∧(bump s).pc≤_;omega,rfl,(List.append_nil _).symm,rfl⟩
  · obtain ⟨q1,q2⟩:=hx.VZ rfl
    simp only at q1 q2
    rw [XE,if_pos ⟨glb a (q2 ▸ q1),loc b q1⟩]
    exact ⟨_,_,rfl,.inl rfl,fun h=>absurd rfl h,⟨ty,hI.af9 a _ rfl rfl rfl rfl (q2 ▸ hI.p b q1)⟩,fun _=>by show 0≤(bump s).pc∧(bump s).pc≤_;omega,rfl,(List.append_nil _).symm,rfl⟩
  · have q:=hx.one (.inr (.inr rfl))
    simp only at q
    rw [Oo,if_pos (by omega)]
    exact ⟨_,_,rfl,.inl rfl,fun h=>absurd rfl h,⟨ty,hI.as rfl rfl rfl (by show (s.out++[s.x a]).length≤_;simp;omega)⟩,fun _=>by show 0≤(bump s).pc∧(bump s).pc≤_;omega,rfl,rfl,rfl⟩
  · obtain ⟨q1,q2,q3⟩:=hx.same rfl
    simp only at q1 q2 q3
    rw [Om,if_pos ⟨by omega,loc b q2,loc c (q3 ▸ q2)⟩]
    exact ⟨_,_,rfl,.inl rfl,fun h=>absurd rfl h,⟨ty,hI.as rfl rfl rfl (by show s.out.length≤_;omega)⟩,fun _=>by show 0≤(bump s).pc∧(bump s).pc≤_;omega,rfl,(List.append_nil _).symm,rfl⟩
end Go.Proofs.YtbmhmlgfpijmhaaDoor.P
end
section
namespace Go.Proofs.YtbmhmlgfpijmhaaDoor.P
open Go.RowKit Go.Proofs.af.bG Go.Proofs.af.dD Go.Proofs.af.dM
structure Ok (t:List ByteArray) (lo gl:ByteArray) (code:List iG):Prop where
  right:jM t=true
  Py:lo.size≤8
  gl4:gl.size≤4
  len:1≤code.length∧code.length≤200
  fine:∀ j:Nat,j < code.length→Fine t lo gl code.length (code.getD j z39)
  wf:Wf6 code
theorem YN {t:List ByteArray} {lo gl:ByteArray} {code:List iG} (h:(qP t lo gl code).2=0) (hw:Wf6 code):Ok t lo gl code:=by
  obtain ⟨h1,h2,h3⟩:=(LU t lo gl code).1 h
  obtain ⟨q1,q2,q3,q4,q5⟩:=EY h1
  exact ⟨q1,q4,q5,h2,fun j hj=>Uh (h3 j hj),hw⟩
section
variable {t:List ByteArray} {lo gl:ByteArray} {code:List iG}
theorem Ok.step (h:Ok t lo gl code) {n:Nat} {s:St} {ty:List Int} (hI:Inv t lo gl n s ty) (hn:n≤1000000) (h0:0≤s.pc) (h1:s.pc < code.length) :
    ∃ s' e,Uk (UI t lo) s (aj code s.pc)=some (s',e)∧Next t lo gl code.length n (aj code s.pc) s s' e:=by
  have hw:=h.wf s.pc.toNat
  exact step_ok h.right h.Py h.gl4 (h.fine s.pc.toNat (by omega)) hw.1 hw.2.1 hw.2.2 hI hn h.len.2 h0 h1
end
end Go.Proofs.YtbmhmlgfpijmhaaDoor.P
end
section
namespace Go.Proofs.YtbmhmlgfpijmhaaDoor.P
open Go.RowKit Go.Proofs.af.bG Go.Proofs.af.dD Go.Proofs.af.dM
open Classical in
noncomputable def step0 (t:List ByteArray) (lo gl:ByteArray) (code:List iG) (s:St):Option (St × Bool × Int):=if vN s then vY (UI t lo) code (qP t lo gl code).2 s else none
section
variable {t:List ByteArray} {lo gl:ByteArray} {code:List iG}
theorem Gp {sz sz':Int→Option Int} (h:∀ a,dN (sz a) (sz' a)) (c:Int) (s:St):dN (vY sz code c s) (vY sz' code c s):=by
  unfold vY
  repeat' first
      | (with_reducible exact dN.refl _)
      | (with_reducible refine dN.ite ?_ ?_)
      | (with_reducible refine dN.bind (Ou h _ _) (fun _=>?_))
theorem Inv.small (hr:jM t=true) {n:Nat} {s:St} {ty:List Int} (h:Inv t lo gl n s ty) (hn:n≤1000000):vN s:=by
  have:=h.few
  have hl:=h.len
  refine ⟨by omega,by omega,fun j hj=>?_⟩
  have q:=h.size j (by omega)
  rw [List.getD_eq_getElem?_getD,List.getElem?_eq_getElem hj,Option.getD_some] at q
  have:jm t (ty.getD j (-1))≤6:=by
    by_cases hτ:0≤ty.getD j (-1)
    · obtain ⟨m,hm⟩:=Int.eq_ofNat_of_zero_le hτ
      rw [hm]
      exact Ey hr m
    · unfold jm Nh
      rw [if_neg (by simp only [decide_eq_false hτ,Bool.false_and,Bool.and_false];decide)]
      decide
  omega
theorem KW (hk0:(qP t lo gl code).2=0) {s s':St} {e:Int} (hsm:vN s) (h0:0≤s.pc) (hlt:s.pc < code.length) (hd:Uk (UI t lo) s (aj code s.pc)=some (s',e)):step0 t lo gl code s=if e=0 then some (s',false,0) else some (s,false,e):=by
  unfold step0 vY
  rw [if_pos hsm,if_pos hk0,if_neg (show ¬ s.pc < 0 by omega),if_neg (show ¬ (code.length:Int) < s.pc by omega),if_neg (show ¬ s.pc=code.length by omega),hd,Option.bind_some]
end
end Go.Proofs.YtbmhmlgfpijmhaaDoor.P
end
end
