/- Parts of the proof of CodeAgain: what the functions that it reaches compute, and plain facts about that. -/
import Derived.Test.YtkclndkbccbhaaaGreatDoorTaa
import Derived.Test.YtkclndkbccbhaaaGreatDoorTab
import Derived.Test.YtkclndkbccbhaaaGreatDoorProg
import Derived.Below
import Derived.Deep.Draws
import Derived.Deep.AppendLies
import Derived.Maps.AppendAt
import Derived.OwnWalk
import Derived.Laws.BytesArg
import Derived.Laws.MakeOwn
import Derived.Laws.OwnMore
import Derived.Deep.OwnRows
import Derived.Tactics
import Derived.Lib.ConvBytes
import Derived.Laws.Slices
import Derived.WalkKit
import Derived.KernelRfl
import Derived.RowKit3
import Derived.Deep.LoopGhost
import Derived.Deep.QuietTactic
import Derived.BigQuiet
import Derived.WideLaws
import Derived.Deep.DeepCutAuto
import Derived.Deep.CutBlock
import Derived.Deep.RegionHeld3
import Derived.Laws.Rows
import Derived.Lib.AppendStr
import Derived.ArgAppend
import Derived.Laws.IdiomCopy
import Derived.OrdersHeld
import Derived.Laws.BitsLemmas
import Derived.RowKit
import Derived.Shelf.Lay
import Derived.Shelf.Strconv.Itoa3
import Derived.Shelf.Strings.SplitShaped
import Derived.Shelf.Strings.Shaped
import Derived.Shelf.Strings.SlTrimAscii
import Derived.Lib.LaidTab
import Derived.Shelf.Strings.OnBuilder
import Derived.Lib.Hide
import Derived.LoopTactic
import Derived.Deep.DrawnRows
import Derived.Shelf.Strings.Prefix
import Derived.Shelf.Strconv.ErrVarParseInt
import Derived.Laws.Externs
import Derived.Lib.Bytealg
import Derived.Laws.NewBlocks
set_option linter.unusedVariables false
set_option linter.unusedSimpArgs false
section
namespace Go.Proofs.ae.dO
open Go.RowKit Go.Proofs.ae.bg
namespace Kd
open Go.Proofs.ae.bg.Kd
end Kd
namespace Kd
open Go.Proofs.ae.bg.Kd
section
variable {α:Type} {d:Kd α} {e base g N:Nat} {ok:Nat→Prop} {W w1:World} {u v:Value} {xs:List α}
end
end Kd
theorem jv (k k':IntKind) (x y:Int):Builtin.max2 (.int k x) (.int k' y)=pure (.int k (if x < y then y else x)):=by simp only [Builtin.max2,gt_iff_lt]
theorem jq (k k':IntKind) (x y:Int):Builtin.min2 (.int k x) (.int k' y)=pure (.int k (if y < x then y else x)):=by simp only [Builtin.min2]
theorem jW (ats:Array TypeId) (ty:TypeId) (a b:Value):Builtin.max_ ats ty #[a,b]=(Builtin.max2 a b >>= fun s=>pure s):=by simp only [Builtin.max_,List.foldlM_cons,List.foldlM_nil]
theorem jV (ats:Array TypeId) (ty:TypeId) (a b:Value):Builtin.min_ ats ty #[a,b]=(Builtin.min2 a b >>= fun s=>pure s):=by simp only [Builtin.min_,List.foldlM_cons,List.foldlM_nil]
theorem iQ (ats:Array TypeId) (ty:TypeId) (a b c:Value):Builtin.max_ ats ty #[a,b,c]=(Builtin.max2 a b >>= fun s=>Builtin.max2 s c >>= fun s=>pure s):=by simp only [Builtin.max_,List.foldlM_cons,List.foldlM_nil]
theorem iP (ats:Array TypeId) (ty:TypeId) (a b c:Value):Builtin.min_ ats ty #[a,b,c]=(Builtin.min2 a b >>= fun s=>Builtin.min2 s c >>= fun s=>pure s):=by simp only [Builtin.min_,List.foldlM_cons,List.foldlM_nil]
theorem jr (ats:Array TypeId) (ty:TypeId) (a b c d:Value):Builtin.max_ ats ty #[a,b,c,d]=(Builtin.max2 a b >>= fun s=>Builtin.max2 s c >>= fun s=>Builtin.max2 s d >>= fun s=>pure s):=by simp only [Builtin.max_,List.foldlM_cons,List.foldlM_nil]
theorem jo (ats:Array TypeId) (ty:TypeId) (a b c d:Value):Builtin.min_ ats ty #[a,b,c,d]=(Builtin.min2 a b >>= fun s=>Builtin.min2 s c >>= fun s=>Builtin.min2 s d >>= fun s=>pure s):=by simp only [Builtin.min_,List.foldlM_cons,List.foldlM_nil]
end Go.Proofs.ae.dO
namespace Go.Proofs.ae.bg
open Go.RowKit
section
variable {P:Program} {ops:Array Oper} {rest:List Oper} {o:Oper} {a:Act} {Q:Exit→Act→World→Prop} {W:World}
theorem bJ {f:FuncId} {aS:Array Operand} {ts:Array TypeId} (_ho:o.op=.call { callee:=.value (.func f),args:=aS,argTypes:=ts }) (h:wpList P ops Q (o :: rest) a W):wpList P ops Q (o :: rest) a W:=h
theorem iD {b:Builtin} {xs:Array Operand} {ts:Array TypeId} (_ho:o.op=.call { callee:=.builtin b,args:=xs,argTypes:=ts }) (h:wpList P ops Q (o :: rest) a W):wpList P ops Q (o :: rest) a W:=h
end
namespace Kd
section
variable {α:Type} {d:Kd α} {e base:Nat} {ok:Nat→Prop} {W w1:World} {v:Value} {xs:List α}
end
section
variable {α:Type} {d:Kd α} {e base g n cap:Nat} {ok Vr oG:Nat→Prop} {W:World} {xs:List α} {i:Int} {c:List Value}
end
section
variable {α:Type} {d:Kd α} {e base b b' g N:Nat} {ok ok1:Nat→Prop} {W W2 w1:World} {u v:Value} {xs ys:List α} {S:Nat→Prop}
end
end Kd
end Go.Proofs.ae.bg
namespace Go.Proofs.ae.bg
open Go.RowKit
namespace Kd
def V {α:Type} (d:Kd α) (_e:Nat) (W:World) (ae4:Nat) (ok:Nat→Prop) (v:Value) (xs:List α):Prop:=∃ A c,v=.slice A xs.length c∧xs.length≤c∧F d W ok A xs.length xs
section
variable {α β:Type} {d:Kd α} {e base base' n m c g N' lo hi:Nat} {ok ok' S:Nat→Prop} {w W w1:World} {A:Option Addr} {ad:Addr} {u v v1:Value} {xs:List α}
theorem wX (d:Kd α) (e:Nat) (W:World) (base:Nat) (ok:Nat→Prop):V d e W base ok (.slice none 0 0) []:=⟨none,0,rfl,Nat.le_refl _,Xz d W ok⟩
theorem Om (h:N d e W base (fun k=>ok k∧some k ≠ v.ownBlock) u xs) (hg:W.grownBy w1 v.ownBlock) (hat:v1.ownBlock=v.ownBlock ∨ ∃ b,v1.ownBlock=some b∧W.heap.size≤b):N d e w1 base (fun k=>ok k∧some k ≠ v1.ownBlock) u xs:=Rx h hg hat
theorem qB {l:List α} (hl:l.length≤c) (hf:F d W ok A l.length l):FK (Kd.slice e d) W ok l [.slice A l.length c]:=fun W' hW=>⟨A,c,rfl,hl,hf W' hW⟩
end
end Kd
end Go.Proofs.ae.bg
end
section
namespace Go.Proofs.YtkclndkbccbhaaaGreatDoor.P
open Go.RowKit Go.Proofs.ae.bg Go.Proofs.ae.dw Go.Proofs.ae.dO
attribute [local go_sem] jv jq jW jV iQ iP jr jo
def VI:Option Int→Value
  | none=>.nilIface
  | some c=>.iface 0 (.int .i64 c)
theorem bF:VI none=.nilIface:=rfl
theorem bD (c:Int):VI (some c)=.iface 0 (.int .i64 c):=rfl
theorem info9:(Tryz.prog.info? 9).map (fun i=>(i.zero,i.size,i.bytes))=some (some (.string ⟨#[]⟩),1,16):=by kernel_rfl
theorem info22:(Tryz.prog.info? 22).map (fun i=>(i.zero,i.size,i.bytes))=some (some (.slice none 0 0),1,24):=by kernel_rfl
theorem L6:(Tryz.prog.info? 27).map (fun i=>(i.zero,i.size,i.bytes))=some (some (.agg #[(.int .u8 0),(.int .u8 0),(.int .u8 0),(.int .u8 0),(.int .i64 0)]),5,16):=by kernel_rfl
structure iR where
  f0:Int
  f1:Int
  f2:Int
  f3:Int
  f4:Int
def z27:iR:=⟨(0:Int),(0:Int),(0:Int),(0:Int),(0:Int)⟩
def k27:Kd iR:=Kd.Vu (Kd.pair (Kd.int .u8) (Kd.pair (Kd.int .u8) (Kd.pair (Kd.int .u8) (Kd.pair (Kd.int .u8) (Kd.int .i64))))) (fun x:iR=>(x.f0,x.f1,x.f2,x.f3,x.f4))
theorem LU {w:World} {x:iR} {cs:List Value} (h:k27.K w x cs):cs=[.int .u8 x.f0,.int .u8 x.f1,.int .u8 x.f2,.int .u8 x.f3,.int .i64 x.f4]:=by
  obtain ⟨_,_,rfl,rfl,⟨_,_,rfl,rfl,⟨_,_,rfl,rfl,⟨_,_,rfl,rfl,rfl⟩⟩⟩⟩:=h
  exact rfl
theorem Ic (w:World) (base:Nat) (ok:Nat→Prop) (x:iR) :k27.M w base ok x [.int .u8 x.f0,.int .u8 x.f1,.int .u8 x.f2,.int .u8 x.f3,.int .i64 x.f4]:=⟨[.int .u8 x.f0],[.int .u8 x.f1,.int .u8 x.f2,.int .u8 x.f3,.int .i64 x.f4],rfl,rfl,⟨[.int .u8 x.f1],[.int .u8 x.f2,.int .u8 x.f3,.int .i64 x.f4],rfl,rfl,⟨[.int .u8 x.f2],[.int .u8 x.f3,.int .i64 x.f4],rfl,rfl,⟨[.int .u8 x.f3],[.int .i64 x.f4],rfl,rfl,rfl⟩⟩⟩⟩
def aJ (xs:List iR) (i:Int):iR:=xs.getD i.toNat z27
theorem sH {w:World} {A:Option Addr} {n:Nat} {xs:List iR} (h:Kd.C k27 w A n xs) (i:Int) (h0:0≤i) (h1:i < n):∃ ad ,A=some ad∧w.cell? (ad.add (i.toNat * 5))=some (.int .u8 (aJ xs i).f0)∧w.cell? ⟨(ad.add (i.toNat * 5)).block,(ad.add (i.toNat * 5)).off+1,none⟩=some (.int .u8 (aJ xs i).f1)∧w.cell? ⟨(ad.add (i.toNat * 5)).block,(ad.add (i.toNat * 5)).off+2,none⟩=some (.int .u8 (aJ xs i).f2)∧w.cell? ⟨(ad.add (i.toNat * 5)).block,(ad.add (i.toNat * 5)).off+3,none⟩=some (.int .u8 (aJ xs i).f3)∧w.cell? ⟨(ad.add (i.toNat * 5)).block,(ad.add (i.toNat * 5)).off+4,none⟩=some (.int .i64 (aJ xs i).f4):=by
  obtain ⟨ad,c,e,_,hK,hc0⟩:=Kd.FM h z27 i h0 h1
  have hc:∀ j u,c[j]? = some u→w.cell? (ad.add (i.toNat * 5+j))=some u:=hc0
  obtain rfl:=LU hK
  exact ⟨ad,e,hc 0 _ rfl,by rw [← uK _ _ 1 (by omega)];exact hc 1 _ rfl,by rw [← uK _ _ 2 (by omega)];exact hc 2 _ rfl,by rw [← uK _ _ 3 (by omega)];exact hc 3 _ rfl,by rw [← uK _ _ 4 (by omega)];exact hc 4 _ rfl⟩
def fM (xs:List (List ByteArray)) (i:Int):(List ByteArray):=xs.getD i.toNat ([]:List ByteArray)
theorem sN {w:World} {A:Option Addr} {n:Nat} {xs:List (List ByteArray)} (h:Kd.C (Kd.slice 9 Kd.string) w A n xs) (i:Int) (h0:0≤i) (h1:i < n):∃ ad A0 c0,A=some ad∧w.cell? (ad.add i.toNat)=some (.slice A0 (fM xs i).length c0)∧(fM xs i).length≤c0∧Kd.string.C w A0 (fM xs i).length (fM xs i):=by
  obtain ⟨ad,c,e,_,hK,hc0⟩:=Kd.FM h ([]:List ByteArray) i h0 h1
  have hc:∀ j u,c[j]? = some u→w.cell? (ad.add (i.toNat * 1+j))=some u:=hc0
  obtain ⟨A0,c0,rfl,l0,g0⟩:=hK
  exact ⟨ad,A0,c0,e,by have hq:=hc 0 _ rfl;rwa [Nat.mul_one,Nat.add_zero] at hq,l0,g0⟩
structure S25 where
  f0:(List ByteArray)
  f1:ByteArray
  f2:ByteArray
  f3:(List iR)
end Go.Proofs.YtkclndkbccbhaaaGreatDoor.P
end
section
namespace Go.Proofs
open Go.Shelf
shelf_lay LaysM.n246 Nm 246 at Tryz as Tryz.laysM246
shelf_lay LaysM.n146 Nm 146 at Tryz as Tryz.laysM146
shelf_lay LaysM.n145 Nm 145 at Tryz as Tryz.LP
shelf_lay Lays.n160 Nm 160 at Tryz as Tryz.lays160
end Go.Proofs
namespace Go.Proofs.YtkclndkbccbhaaaGreatDoor.P
open Go.RowKit Go.Sort Go.Lib Go.Proofs.ae.bg Go.Proofs.ae.dw Go.Proofs.ae.dO
theorem gTab:Tryz.prog.globalNamed "internal/strconv.uint64pow10"=some 2:=by kernel_rfl
theorem VC:Tryz.prog.globalNamed "strconv.ErrSyntax"=some 3:=by kernel_rfl
theorem VD:Tryz.prog.globalNamed "strconv.ErrRange"=some 4:=by kernel_rfl
def qG:Option Addr:=some ⟨0,0,none⟩
def opsL:List ByteArray:=[⟨#[]⟩,⟨#[]⟩,⟨#[115,101,116]⟩,⟨#[97,110]⟩,⟨#[97,100,100]⟩,⟨#[97,98,99]⟩,⟨#[106,117,109,112]⟩,⟨#[110]⟩,⟨#[122,101,114,111]⟩,⟨#[97,110]⟩,⟨#[110,101,119]⟩,⟨#[97]⟩,⟨#[110,105,108]⟩,⟨#[97]⟩,⟨#[109,111,118,101]⟩,⟨#[97,98]⟩,⟨#[108,111,97,100,105]⟩,⟨#[97,98,110]⟩,⟨#[115,116,111,114,101,105]⟩,⟨#[97,110,98]⟩,⟨#[108,111,97,100,112]⟩,⟨#[97,98,110]⟩,⟨#[115,116,111,114,101,112]⟩,⟨#[97,110,98]⟩,⟨#[108,111,97,100,103]⟩,⟨#[97,98]⟩,⟨#[115,116,111,114,101,103]⟩,⟨#[97,98]⟩,⟨#[112,114,105,110,116]⟩,⟨#[97]⟩,⟨#[115,97,109,101]⟩,⟨#[97,98,99]⟩]
structure Fq (w:World):Prop where
  pow:Lib.TabIs Tryz.prog w "internal/strconv.uint64pow10" .u64 Lib.pow10Tab
  most:∃ m,w.cell? ⟨1,0,none⟩=some (.int .i64 m)
  syn:∃ tp p,w.var? Tryz.prog "strconv.ErrSyntax"=some #[.iface tp p]
  rng:∃ tp p,w.var? Tryz.prog "strconv.ErrRange"=some #[.iface tp p]
  ops:Kd.C Kd.string w qG opsL.length opsL
theorem var_below {w w1:World} {n:String} {g:Nat} {cs:Array Value} (hg:Tryz.prog.globalNamed n=some g) (hb:Below w.heap.size w w1) (h:w.var? Tryz.prog n=some cs):w1.var? Tryz.prog n=some cs:=by
  unfold World.var? at h ⊢
  rw [hg] at h ⊢
  simp only [Option.bind_some] at h ⊢
  have hlt:g < w.heap.size:=by
    rcases Nat.lt_or_ge g w.heap.size with h1|h1
    · exact h1
    · rw [Array.getElem?_eq_none h1] at h
      cases h
  rw [hb.block g hlt]
  exact h
theorem zY {w w1:World} (hb:Below w.heap.size w w1) (h:Fq w):Fq w1:=by
  refine ⟨var_below gTab hb h.pow,?_,?_,?_,Kd.dU h.ops hb⟩
  · obtain ⟨m,hm⟩:=h.most
    exact ⟨m,(hb.cell (p:=⟨1,0,none⟩) (World.block_lt_of_cell? w _ hm)).trans hm⟩
  · obtain ⟨tp,p,hp⟩:=h.syn
    exact ⟨tp,p,var_below VC hb hp⟩
  · obtain ⟨tp,p,hp⟩:=h.rng
    exact ⟨tp,p,var_below VD hb hp⟩
abbrev tC:Kd Unit where
  sz:=1
  E:=[]
  K:=fun w _ cs=>cs=[.int .u64 1]∧Fq w
  M:=fun _ _ _ _ _=>False
  l9:=fun h=>by rw [h.1];rfl
  lS:=fun h u hu=>by
    rw [h.1] at hu
    rw [List.mem_singleton.1 hu]
    rfl
  jR:=fun hb h=>⟨h.1,zY hb h.2⟩
  jy:=fun h=>h.elim
  iF:=fun _ h=>h
  iO:=fun h=>h
  kM:=fun _ h=>h
  jQ:=fun _ h=>h
def tH:Option Addr:=some ⟨2,0,none⟩
def lH:List Unit:=[()]
theorem TN {w:World} (h:Fq w):Kd.C tC w tH lH.length lH:=by
  refine ⟨rfl,by decide,fun _=>⟨_,rfl,fun j p hj=>⟨[.int .u64 1],rfl,⟨rfl,h⟩,fun i u hu=>?_⟩⟩⟩
  have hj0:j=0:=by
    have:=(List.getElem?_eq_some_iff.1 hj).1
    have h1:lH.length=1:=rfl
    omega
  have hi:i=0:=by
    have:=(List.getElem?_eq_some_iff.1 hu).1
    simp at this
    exact this
  subst hj0 hi
  simp at hu
  subst hu
  exact h.pow.cell gTab 0 (by decide)
theorem tu {w:World} (h:Kd.C tC w tH lH.length lH):Fq w:=by
  obtain ⟨_,_,hc⟩:=h
  obtain ⟨_,_,hc⟩:=hc (by decide)
  obtain ⟨_,_,hk,_⟩:=hc 0 () rfl
  exact hk.2
def iH.f (n b:Int):Option ByteArray :=
  if b=10 then (if -9223372036854775808≤n∧n≤9223372036854775807 then some ⟨(Lib.itoa n).toArray⟩ else none) else none
theorem JW (n:Int) (h0:-9223372036854775808≤n) (h1:n≤9223372036854775807) (w:World) (h:Fq w) :
    Calls Tryz.prog 55 #[.int .i64 n,.int .i64 10] w fun e w'=>e=.returned (.string ⟨(Lib.itoa n).toArray⟩)∧Below w.heap.size w w':=by
  refine (Any.internal_strconv_FormatInt_10 Tryz.laysM246 n h0 h1 w h.pow).mono ?_
  rintro e w' ⟨rfl,k,os,rfl⟩
  refine ⟨rfl,?_⟩
  have h1:Below w.heap.size w (w.drewN k):=by
    exact ag (Below.refl _ _) k
  refine ⟨h1.os,h1.tape,h1.output,?_,fun i hi=>?_⟩
  · have:=h1.size
    unfold grow
    simp only [Array.size_append]
    omega
  · have:=h1.block i hi
    have hs:=h1.size
    rw [← this]
    unfold grow
    exact Array.getElem?_append_left (by omega)
set_option maxRecDepth 100000 in
set_option maxHeartbeats 3200000 in
theorem iH.calls (a0 a1:Int) (r:ByteArray) (w:World) (jm:Kd.C tC w tH lH.length lH) (h:iH.f a0 a1=some r) :
    Calls Tryz.prog 38 #[.int .i64 a0,.int .i64 a1] w fun e w'=>e=.returned (.string r)∧Below w.heap.size w w':=by
  unfold iH.f at h
  by_cases hb:a1=10
  · rw [if_pos hb] at h
    by_cases hn:-9223372036854775808≤a0∧a0≤9223372036854775807
    · rw [if_pos hn] at h
      obtain rfl:=Option.some.inj h
      subst hb
      have ht:=tu jm
      clear jm h
      go_enter Tryz.func38,Tryz.ntmps38
      go_wp2_with (go_at_call 55;refine (JW a0 hn.1 hn.2 _ ht).mono ?_;rintro e w' ⟨rfl,bel⟩)
      all_goals go_ret
      all_goals exact ⟨rfl,bel⟩
    · rw [if_neg hn] at h
      cases h
  · rw [if_neg hb] at h
    cases h
def strings_Split.f (s sep:ByteArray):Option (List ByteArray) :=
  if s.size < 4294967281∧1≤sep.size then some (Lib.splitB sep 0 (Lib.countB s sep) s) else none
theorem strings_Split.calls (a0 a1:ByteArray) (r:List ByteArray) (w:World) (jm:Kd.C tC w tH lH.length lH) (h:strings_Split.f a0 a1=some r) :
    Calls Tryz.prog 49 #[.string a0,.string a1] w fun e w'=>∃ AZ:Value,e=.returned (AZ)∧Kd.R Kd.string 9 w' w.heap.size (fun _=>True) AZ r∧Below w.heap.size w w':=by
  unfold strings_Split.f at h
  by_cases hc:a0.size < 4294967281∧1≤a1.size
  · rw [if_pos hc] at h
    obtain rfl:=Option.some.inj h
    obtain ⟨m,hm⟩:=(tu jm).most
    refine (Any.strings_Split { Tryz.laysM146 with } Tryz.laysM146.i9 a0 a1 m w hc.1 hm hc.2).mono ?_
    rintro e w' ⟨rfl,rfl⟩
    have hlen:=Lib.splitB_all a1 hc.2 0 (Lib.countB a0 a1) a0 rfl
    have hle:=Lib.countB_le a1 hc.2 a0.size a0 (Nat.le_refl _)
    refine ⟨_,rfl,?_,(Below.refl _ w).alloc (Nat.le_refl _) _⟩
    rw [← hlen]
    exact ⟨fun _ _=>trivial,jl.lit w w.heap.size (Kd.xW (enc:=Value.string) _) (Nat.le_refl _) (by rw [hlen];omega)⟩
  · rw [if_neg hc] at h
    cases h
def strings_Cut.f (s sep:ByteArray):Option (ByteArray × ByteArray × Bool) :=
  if s.size < 4294967281 then some (⟨(Lib.cut s.data.toList sep.data.toList).1.toArray⟩,⟨(Lib.cut s.data.toList sep.data.toList).2.1.toArray⟩,(Lib.cut s.data.toList sep.data.toList).2.2) else none
theorem strings_Cut.calls (a0 a1 r1 r2:ByteArray) (r3:Bool) (w:World) (jm:Kd.C tC w tH lH.length lH) (h:strings_Cut.f a0 a1=some (r1,r2,r3)) :
    Calls Tryz.prog 50 #[.string a0,.string a1] w fun e w'=>e=.returned (.tuple #[.string r1,.string r2,.bool r3])∧Below w.heap.size w w':=by
  unfold strings_Cut.f at h
  by_cases hc:a0.size < 4294967281
  · rw [if_pos hc] at h
    have h1:=Option.some.inj h
    simp only [Prod.mk.injEq] at h1
    obtain ⟨rfl,rfl,rfl⟩:=h1
    obtain ⟨m,hm⟩:=(tu jm).most
    refine (Any.strings_Cut { Tryz.LP with } a0 a1 m w hc hm).mono ?_
    rintro e w' ⟨rfl,n,rfl⟩
    exact ⟨rfl,ag (Below.refl _ _) n⟩
  · rw [if_neg hc] at h
    cases h
def gV.f (s cs:ByteArray):Option ByteArray :=
  if s.size≤9223372036854775807∧cs.size < 4294967281∧cs.data.toList.all (fun b=>decide (b.toNat < 128))=true then some ⟨(Lib.trimS s.data.toList cs.data.toList).toArray⟩ else none
theorem gV.calls (a0 a1 r:ByteArray) (w:World) (h:gV.f a0 a1=some r) :
    Calls Tryz.prog 54 #[.string a0,.string a1] w fun e w'=>e=.returned (.string r)∧Below w.heap.size w w':=by
  unfold gV.f at h
  by_cases hc:a0.size≤9223372036854775807∧a1.size < 4294967281∧a1.data.toList.all (fun b=>decide (b.toNat < 128))=true
  · rw [if_pos hc] at h
    obtain rfl:=Option.some.inj h
    exact Any.strings_Trim_laid Tryz.lays160 (by kernel_rfl) a0 a1 w hc.1 hc.2.1 (ascii_of_all hc.2.2)
  · rw [if_neg hc] at h
    cases h
end Go.Proofs.YtkclndkbccbhaaaGreatDoor.P
end
section
namespace Go.Proofs
open Go.Shelf
shelf_lay Lays.n156 Nm 156 at Tryz as Tryz.lays156
shelf_lay Lays.n169 Nm 169 at Tryz as Tryz.lays169
theorem Tryz.lays166:Lays.n166 Tryz.prog Tryz.lays156_ren:={ Tryz.lays156 with }
def Tryz.Lh:Ren:={ Tryz.lays156_ren with f:=fun x=>if x=167 then 41 else Tryz.lays156_ren.f x }
theorem Tryz.lays167:Lays.n167 Tryz.prog Tryz.Lh where
  mixed:=Tryz.lays156.mixed
  f167:=by kernel_rfl
  f240:=by kernel_rfl
  f276:=by kernel_rfl
  t0:=Tryz.lays156.t0
  a0:=Tryz.lays156.a0
  z0:=Tryz.lays156.z0
  v0:=Tryz.lays156.v0
  t4:=Tryz.lays156.t4
  a4:=Tryz.lays156.a4
  z4:=Tryz.lays156.z4
  v4:=Tryz.lays156.v4
  t5:=Tryz.underlying5
  a5:=Tryz.isAgg5
  z5:=Tryz.sizeOf5
  v5:=Tryz.zeroValue5
  t9:=Tryz.lays156.t9
  a9:=Tryz.lays156.a9
  z9:=Tryz.lays156.z9
  v9:=Tryz.lays156.v9
  t20:=Tryz.lays156.t20
  a20:=Tryz.lays156.a20
  z20:=Tryz.lays156.z20
  v20:=Tryz.lays156.v20
  t37:=Tryz.lays156.t37
  a37:=Tryz.lays156.a37
  z37:=Tryz.lays156.z37
  v37:=Tryz.lays156.v37
  t70:=Tryz.lays156.t70
  a70:=Tryz.lays156.a70
  z70:=Tryz.lays156.z70
  v70:=Tryz.lays156.v70
  t72:=Tryz.lays156.t72
  a72:=Tryz.lays156.a72
  z72:=Tryz.lays156.z72
  v72:=Tryz.lays156.v72
  t75:=Tryz.lays156.t75
  a75:=Tryz.lays156.a75
  z75:=Tryz.lays156.z75
  v75:=Tryz.lays156.v75
  t164:=Tryz.lays156.t164
  a164:=Tryz.lays156.a164
  z164:=Tryz.lays156.z164
  v164:=Tryz.lays156.v164
theorem Tryz.zT:Builder.Extra Tryz.prog Tryz.lays156_ren where
  sizeBuilder:=by kernel_rfl
  liesBuilder:=by kernel_rfl
  t5:=Tryz.underlying5
  a5:=Tryz.isAgg5
  z5:=Tryz.sizeOf5
  v5:=Tryz.zeroValue5
  infoByte:=by kernel_rfl
  cellsByte:=by kernel_rfl
  sizeByte:=by kernel_rfl
  neB5:=by decide
theorem Tryz.NI:Builder.Extra Tryz.prog Tryz.Lh where
  sizeBuilder:=by kernel_rfl
  liesBuilder:=by kernel_rfl
  t5:=Tryz.underlying5
  a5:=Tryz.isAgg5
  z5:=Tryz.sizeOf5
  v5:=Tryz.zeroValue5
  infoByte:=by kernel_rfl
  cellsByte:=by kernel_rfl
  sizeByte:=by kernel_rfl
  neB5:=by decide
theorem Tryz.NH:Builder.Extra Tryz.prog Tryz.lays169_ren where
  sizeBuilder:=by kernel_rfl
  liesBuilder:=by kernel_rfl
  t5:=Tryz.underlying5
  a5:=Tryz.isAgg5
  z5:=Tryz.sizeOf5
  v5:=Tryz.zeroValue5
  infoByte:=by kernel_rfl
  cellsByte:=by kernel_rfl
  sizeByte:=by kernel_rfl
  neB5:=by decide
end Go.Proofs
namespace Go.Proofs.YtkclndkbccbhaaaGreatDoor.P
open Go.RowKit Go.Sort Go.Lib Go.Proofs.ae.bg Go.Proofs.ae.dw Go.Proofs.ae.dO
attribute [local go_sem ↓] Go.wp_at_zero Go.wp_at_succ
def RY (x:List ByteArray):List UInt8:=Lib.join (x.map (·.data.toList)) [32]++[10]
def mQ (l:List (List ByteArray)):List UInt8:=(l.map RY).flatten
theorem Gy (l:List (List ByteArray)) (i:Nat) (x:List ByteArray) (h:l[i]? = some x):mQ (l.take (i+1))=mQ (l.take i)++Lib.join (x.map (·.data.toList)) [32]++[10]:=by
  unfold mQ
  rw [List.take_add_one,h]
  simp [RY]
theorem LW (l:List (List ByteArray)) (i:Nat):(mQ (l.take i)).length≤(mQ l).length:=by
  conv=>rhs;rw [← List.take_append_drop i l]
  unfold mQ
  rw [List.map_append,List.flatten_append,List.length_append]
  omega
def kH.f (l:List (List ByteArray)):Option ByteArray :=
  if l.length≤140737488355328∧(∀ x ∈ l,x.length≤140737488355328)∧(mQ l).length≤140737488355328 then some ⟨(mQ l).toArray⟩ else none
theorem JA {T e:TypeId} {B b:Nat} {bs:List Value} {w w1:World} (hb:Below w.heap.size w w1) (h:Lib.IsBuilder T e B b bs w):Lib.IsBuilder T e B b bs w1:=by
  have at_:∀ p,Lib.BuilderAt T e B b p bs w→Lib.BuilderAt T e B b p bs w1:=by
    rintro p h
    have hlt:=h.lt
    obtain ⟨hB,v,hv,hown,hne⟩:=h
    exact ⟨hB,v,(hb.block b hlt).trans hv,Es hown (fun k hk=>hb.block k (Gs hown k hk)),hne⟩
  rcases h with h|h
  · exact Or.inl (at_ _ h)
  · exact Or.inr (at_ _ h)
theorem Rj {w:World} {ad:Addr} {v:Value} (h:w.cell? ad=some v):ad=⟨ad.block,ad.off,none⟩:=by
  obtain ⟨b,o,s⟩:=ad
  cases s with
  | none=>rfl
  | some s =>
    exfalso
    simp only [World.cell?,Option.isSome_some] at h
    revert h
    split <;> simp
theorem NU {w:World} {b o:Nat} {x:List ByteArray} (hx:Kd.C Kd.string w (some ⟨b,o,none⟩) x.length x) (j:Nat) (z:ByteArray) (hz:x[j]? = some z):w.cell? ⟨b,o+j,none⟩=some (.string z):=by
  have hj:j < x.length:=(List.getElem?_eq_some_iff.1 hz).1
  obtain ⟨ad',e1,h1⟩:=Kd.fG hx (j:Int) (by omega) (by omega)
  injection e1 with e1
  subst e1
  have e2:eX ByteArray.empty x (j:Int)=z:=by
    unfold eX
    rw [Int.toNat_natCast,List.getD_eq_getElem?_getD,hz]
    rfl
  rw [e2,Int.toNat_natCast] at h1
  have e3:Addr.add ⟨b,o,none⟩ j=⟨b,o+j,none⟩:=by
    unfold Addr.add
    split
    · rename_i h;subst h;rfl
    · rfl
  rw [← e3]
  exact h1
theorem Gx (A:Option Addr) (c:Nat) (x:List ByteArray) (w:World) (hx:Kd.C Kd.string w A x.length x) (hc:x.length≤c) (hN:x.length≤140737488355328) (hl:(Lib.join (x.map (·.data.toList)) [32]).length≤140737488355328) :
    Calls Tryz.prog 40 #[.slice A x.length c,.string ⟨#[32]⟩] w fun e w'=>e=.returned (.string ⟨(Lib.join (x.map (·.data.toList)) [32]).toArray⟩)∧Below w.heap.size w w':=by
  by_cases h0:x=[]
  · subst h0
    exact (Any.strings_Join_none Tryz.lays156 Tryz.zT A c ⟨#[32]⟩ w).mono fun e w' ⟨he,hw⟩=>⟨he,hw ▸ Below.refl _ _⟩
  · have hp:0 < x.length:=List.length_pos_iff.2 h0
    obtain ⟨ad,e0,hy⟩:=Kd.fG hx 0 (by omega) (by omega)
    have ha:=Rj (ad:=ad) hy
    subst e0
    obtain ⟨b,o,s⟩:=ad
    simp only [Addr.mk.injEq,true_and] at ha
    subst ha
    exact Any.strings_Join Tryz.lays156 Tryz.zT b o c x ⟨#[32]⟩ w (NU hx) (World.block_lt_of_cell? w ⟨b,o,none⟩ hy) hN hc hl
theorem zn (s:List UInt8):Lib.strCells ⟨s.toArray⟩=Lib.byteCells s:=by
  rw [Lib.strCells_eq]
set_option maxRecDepth 100000 in
set_option maxHeartbeats 3200000 in
theorem kH.calls (A0:Option Addr) (c0:Nat) (l0:List (List ByteArray)) (r:ByteArray) (w:World) (hr0:Kd.C (Kd.slice 9 Kd.string) w A0 l0.length l0) (hc0:l0.length≤c0) (h:kH.f l0=some r) :
    Calls Tryz.prog 21 #[.slice A0 l0.length c0] w fun e w'=>e=.returned (.string r)∧Below w.heap.size w w':=by
  unfold kH.f at h
  by_cases hcnd:l0.length≤140737488355328∧(∀ x ∈ l0,x.length≤140737488355328)∧(mQ l0).length≤140737488355328
  · rw [if_pos hcnd] at h
    obtain rfl:=Option.some.inj h
    clear h
    obtain ⟨hn,hxs,hlen⟩:=hcnd
    have HXS:=af.mk hxs
    have HR0:=af.mk hr0
    clear hxs hr0
    have h0:Lib.IsBuilder 75 5 w.heap.size w.heap.size [] (w.alloc (.cells #[.pointer none,.slice none 0 0] 75)):=Lib.fresh_isBuilder 75 5 w
    have b0:Below w.heap.size w (w.alloc (.cells #[.pointer none,.slice none 0 0] 75)):=(Below.refl _ w).alloc (Nat.le_refl _) _
    have H0:=af.mk h0
    have B0:=af.mk b0
    clear h0 b0
    have HN:=af.mk hlen
    clear hlen
    go_enter Tryz.func21,Tryz.ntmps21
    go_wp2
    go_loopw [8] (fun v8 w'=>∃ i:Nat,i≤l0.length∧v8=.int .i64 i∧af (Lib.IsBuilder 75 5 w.heap.size w.heap.size (Lib.byteCells (mQ (l0.take i))) w')∧af (Below w.heap.size w w')) (fun v8 _=>l0.length - (RowKit.intOf v8).toNat)
    case atStart=>exact ⟨0,Nat.zero_le _,rfl,H0,B0⟩
    case round =>
      obtain ⟨i,hi,rfl,HB,HW⟩:=hrel
      clear H0 B0
      by_cases hlt:i < l0.length
      · obtain ⟨x,hx⟩:∃ x,l0[i]? = some x:=⟨_,List.getElem?_eq_getElem hlt⟩
        have hxm:x ∈ l0:=List.mem_of_getElem? hx
        have HT:=af.mk (Gy l0 i x hx)
        have HX:=af.mk hx
        have hxl:=HXS.out x hxm
        clear hxm hx
        have e1:fM l0 (i:Int)=x:=by
          unfold fM
          rw [Int.toNat_natCast,List.getD_eq_getElem?_getD,HX.out]
          rfl
        obtain ⟨ad,A1,c1,e0,hc1,hl1,hi1⟩:=sN (Kd.dU HR0.out HW.out) (i:Int) (by omega) (by omega)
        subst e0
        rw [e1] at hc1 hl1 hi1
        rw [Int.toNat_natCast] at hc1
        clear e1
        have HI1:=af.mk hi1
        clear hi1
        have hj:(Lib.join (x.map (·.data.toList)) [32]).length+(mQ (l0.take i)).length+1≤140737488355328:=by
          have h1:=LW l0 (i+1)
          rw [HT.out] at h1
          have:=HN.out
          simp only [List.length_append,List.length_cons,List.length_nil] at h1
          omega
        generalize hjg:Lib.join (x.map (·.data.toList)) [32]=jx at hj
        have HJ:=af.mk hjg
        clear hjg
        have hwz:=HW.out.size
        go_wp2_with (go_at_call 40;refine (Gx A1 c1 x _ HI1.out hl1 hxl (by rw [HJ.out];omega)).mono ?_)
        rintro e W1 ⟨rfl,b1⟩
        rw [HJ.out]
        have HB1:=JA b1 HB.out
        have hz1:=b1.size
        have es:(⟨jx.toArray⟩:ByteArray).size=jx.length:=by simp [ByteArray.size]
        go_wp2_with (go_at_call 39;refine (Any.Builder_WriteString Tryz.lays166 Tryz.zT w.heap.size w.heap.size _ ⟨jx.toArray⟩ W1 HB1 (by rw [Lib.byteCells_length,es];omega) (by omega)).mono ?_)
        rintro e W2 ⟨rfl,hb2,b2⟩
        have HB2:af (Lib.IsBuilder 75 5 w.heap.size w.heap.size (Lib.byteCells (mQ (l0.take i)++jx)) W2):=⟨by
          rw [zn,← Lib.byteCells_append] at hb2
          exact Or.inr hb2⟩
        clear hb2
        have hz2:=b2.size
        go_wp2_with (go_at_call 41;refine (Any.Builder_WriteByte Tryz.lays167 Tryz.NI w.heap.size w.heap.size _ 10 W2 HB2.out (by rw [Lib.byteCells_length,List.length_append];omega) (by omega)).mono ?_)
        rintro e W3 ⟨rfl,hb3,b3⟩
        have HB3:af (Lib.IsBuilder 75 5 w.heap.size w.heap.size (Lib.byteCells (mQ (l0.take (i+1)))) W3):=⟨by
          have e10:(Lib.byteCells (mQ (l0.take i)++jx)++[Value.int .u8 10])=Lib.byteCells (mQ (l0.take (i+1))):=by
            rw [HT.out,HJ.out,Lib.byteCells_append _ [10]]
            rfl
          rw [← e10]
          exact Or.inr hb3⟩
        clear hb3
        have HW3:af (Below w.heap.size w W3):=⟨((HW.out.trans (b1.mono hwz)).trans b2).trans b3⟩
        clear b1 b2 b3 HB HB1 HB2 HW hc1
        go_wp2
        go_roundw
        case rel=>exact ⟨i+1,by omega,by go_num,HB3,HW3⟩
        case measure=>simp [RowKit.intOf];omega
      · have e:i=l0.length:=by omega
        subst e
        have HB1:af (Lib.IsBuilder 75 5 w.heap.size w.heap.size (Lib.byteCells (mQ l0)) _):=⟨by
          have:=HB.out
          rw [List.take_length] at this
          exact this⟩
        clear HB
        have hwz:=HW.out.size
        go_wp2_with (go_at_call 42;refine (Any.Builder_String_any Tryz.lays169 Tryz.NH w.heap.size w.heap.size (mQ l0) _ HB1.out hwz).mono ?_)
        rintro e W2 ⟨rfl,b2⟩
        go_wp2
        go_ret
        exact ⟨rfl,HW.out.trans b2⟩
  · rw [if_neg hcnd] at h
    cases h
end Go.Proofs.YtkclndkbccbhaaaGreatDoor.P
end
section
namespace Go.Proofs
open Go.Shelf
shelf_lay Lays.n101 Nm 101 at Tryz as Tryz.lays101
shelf_lay LaysC.n174 Nm 174 at Tryz as Tryz.zJ
end Go.Proofs
namespace Go.Proofs.YtkclndkbccbhaaaGreatDoor.P
open Go.RowKit Go.Sort Go.Lib Go.Proofs.ae.bg Go.Proofs.ae.dw Go.Proofs.ae.dO
attribute [local go_sem ↓] Go.wp_at_zero Go.wp_at_succ
def unsigned (w:List UInt8):List UInt8:=Lib.trimPrefix w [45]
def pR (w:List UInt8):Bool:=!(unsigned w).isEmpty && (Lib.trimS (unsigned w) [48,49,50,51,52,53,54,55,56,57]).isEmpty && !((unsigned w).head? == some 48 && !(w == [48]))
def numOf (w:List UInt8):Int × Int:=match Lib.parseIntB 64 w with
  | .ok v=>(v,0)
  | _=>(0,3)
def jP.f (w:ByteArray):Option (Int × Int) :=
  if w.size≤281474976 then (if pR w.data.toList then some (numOf w.data.toList) else some (0,4)) else none
theorem trimPrefix_le (l p:List UInt8):(Lib.trimPrefix l p).length≤l.length:=by
  unfold Lib.trimPrefix
  split
  · rw [List.length_drop];omega
  · exact Nat.le_refl _
theorem tX (s:ByteArray):∀ W,Calls Tryz.prog 63 #[.string s,.string ⟨#[45]⟩] W fun e w'=>e=.returned (.string ⟨(unsigned s.data.toList).toArray⟩)∧W=w':=fun W =>
  (Any.strings_TrimPrefix Tryz.lays101 s ⟨#[45]⟩ W).mono fun e w' ⟨he,hw⟩=>⟨he,hw.symm⟩
theorem DI (s:ByteArray) (d t:List UInt8) (hs:s.size≤281474976) (hd:unsigned s.data.toList=d) (ht:Lib.trimS d [48,49,50,51,52,53,54,55,56,57]=t) :
    ∀ W,Calls Tryz.prog 54 #[.string ⟨d.toArray⟩,.string ⟨#[48,49,50,51,52,53,54,55,56,57]⟩] W fun e w'=>e=.returned (.string ⟨t.toArray⟩)∧Below W.heap.size W w':=fun W=>by
  have h1:=trimPrefix_le s.data.toList [45]
  have h2:(unsigned s.data.toList).length≤s.data.toList.length:=h1
  rw [hd,← Lib.size_eq] at h2
  refine (gV.calls _ _ ⟨(Lib.trimS d [48,49,50,51,52,53,54,55,56,57]).toArray⟩ W ?_).mono fun e w' h=>?_
  · unfold gV.f
    rw [if_pos]
    refine ⟨?_,by decide,by decide⟩
    show d.toArray.size≤_
    rw [List.size_toArray]
    omega
  · rw [ht] at h
    exact h
theorem Q9 (s:ByteArray) (v:Int) (hs:s.size≤281474976) (hv:Lib.parseIntB 64 s.data.toList=.ok v) :
    ∀ W,Calls Tryz.prog 64 #[.string s,.int .i64 10,.int .i64 64] W fun e w'=>e=.returned (.tuple #[.int .i64 v,.nilIface])∧Below W.heap.size W w':=fun W=>by
  refine (Any.strconv_ParseInt_10_at64_ok Tryz.zJ s (by omega) v hv W).mono ?_
  rintro e w' ⟨he,rfl|⟨t,rfl⟩⟩
  · exact ⟨he,Below.refl _ _⟩
  · exact ⟨he,Lib.bytesWorld_below _ _ _⟩
def Rn (W:World) (e:Ending) (w':World):Prop:=∃ (n:Int) (t:TypeId) (b:Nat),e=.returned (.tuple #[.int .i64 n,.iface t (.pointer (some ⟨b,0,none⟩))])∧Below W.heap.size W w'
theorem UG (s:ByteArray) (hs:s.size≤281474976) (hv:∀ v,Lib.parseIntB 64 s.data.toList ≠ .ok v) (W:World) (ht:Fq W) :
    Calls Tryz.prog 64 #[.string s,.int .i64 10,.int .i64 64] W (Rn W):=by
  match h:Lib.parseIntB 64 s.data.toList with
  | .ok v=>exact absurd h (hv v)
  | .«syntax» =>
    obtain ⟨tp,p,hp⟩:=ht.syn
    refine (Any.strconv_ParseInt_10_at64_syntax_var Tryz.zJ s (by omega) h tp p W hp).mono ?_
    rintro e w' ⟨b,he,_,_,hb⟩
    exact ⟨_,_,b,he,hb⟩
  | .range =>
    obtain ⟨tp,p,hp⟩:=ht.rng
    refine (Any.strconv_ParseInt_10_at64_range_var Tryz.zJ s (by omega) h tp p W hp).mono ?_
    rintro e w' ⟨b,he,_,_,hb⟩
    exact ⟨_,_,b,he,hb⟩
set_option maxRecDepth 100000 in
set_option maxHeartbeats 3200000 in
theorem Ew (s:ByteArray) (w:World) (h0:unsigned s.data.toList=[]) :
    Calls Tryz.prog 53 #[.string s] w fun e w'=>e=.returned (.tuple #[.int .i64 0,.int .i64 4])∧Below w.heap.size w w':=by
  have c29:=tX s
  rw [h0] at c29
  have RJ:=Lib.hid c29
  clear c29 h0
  go_enter Tryz.func53,Tryz.ntmps53
  go_wp2_with (go_at_call 63;refine (RJ.out _).mono ?_;rintro e w' ⟨rfl,rfl⟩)
  go_ret2
  exact ⟨rfl,Below.refl _ _⟩
set_option maxRecDepth 100000 in
set_option maxHeartbeats 3200000 in
theorem Ez (s:ByteArray) (w:World) (hs:s.size≤281474976) (c:UInt8) (d:List UInt8) (h0:unsigned s.data.toList=c :: d) (x:UInt8) (t:List UInt8) (ht:Lib.trimS (c :: d) [48,49,50,51,52,53,54,55,56,57]=x :: t) :
    Calls Tryz.prog 53 #[.string s] w fun e w'=>e=.returned (.tuple #[.int .i64 0,.int .i64 4])∧Below w.heap.size w w':=by
  have c29:=tX s
  have NW:=DI s (c :: d) (x :: t) hs h0 ht
  rw [h0] at c29
  have RJ:=Lib.hid c29
  have UT:=Lib.hid NW
  clear c29 NW h0 ht
  go_enter Tryz.func53,Tryz.ntmps53
  go_wp2_with (first|(go_at_call 63;refine (RJ.out _).mono ?_;rintro e w' ⟨rfl,rfl⟩)|(go_at_call 54;refine (UT.out _).mono ?_;rintro e w' ⟨rfl,hb⟩))
  go_ret2
  exact ⟨rfl,hb⟩
theorem Oa {s:ByteArray} {c:UInt8} {d:List UInt8} {p:0 < (⟨(c :: d).toArray⟩:ByteArray).size} (h1:(((⟨(c :: d).toArray⟩:ByteArray)[0]'p).toNat:Int)=48) (h2:(!s.toList == [48])=true) (hg:¬ (c=48∧s.data.toList ≠ [48])):False:=by
  have h1':((c.toNat:Nat):Int)=48:=h1
  refine hg ⟨UInt8.toNat_inj.1 (by show c.toNat=48;omega),fun e=>?_⟩
  rw [ByteArray.toList_eq,e] at h2
  exact absurd h2 (by decide)
theorem Py {s:ByteArray} (hn:s.data.toList ≠ [48]):(!s.toList == [48])=true:=by
  rw [ByteArray.toList_eq]
  simpa using hn
set_option maxRecDepth 100000 in
set_option maxHeartbeats 3200000 in
theorem Eu (s:ByteArray) (w:World) (hs:s.size≤281474976) (d:List UInt8) (h0:unsigned s.data.toList=48 :: d) (ht:Lib.trimS (48 :: d) [48,49,50,51,52,53,54,55,56,57]=[]) (hn:s.data.toList ≠ [48]) :
    Calls Tryz.prog 53 #[.string s] w fun e w'=>e=.returned (.tuple #[.int .i64 0,.int .i64 4])∧Below w.heap.size w w':=by
  have c29:=tX s
  have NW:=DI s (48 :: d) [] hs h0 ht
  rw [h0] at c29
  have RJ:=Lib.hid c29
  have UT:=Lib.hid NW
  have hq:=Py hn
  clear c29 NW h0 ht
  go_enter Tryz.func53,Tryz.ntmps53
  go_wp2_with (first|(go_at_call 63;refine (RJ.out _).mono ?_;rintro e w' ⟨rfl,rfl⟩)|(go_at_call 54;refine (UT.out _).mono ?_;rintro e w' ⟨rfl,hb⟩))
  all_goals first|(go_ret2;exact ⟨rfl,hb⟩)|(exfalso;rename_i h1 h2;first|exact absurd h1 (by decide)|exact absurd h2 (by decide)|(rw [hq] at h2;cases h2)|exact absurd rfl h2|exact absurd rfl h1)
set_option maxRecDepth 100000 in
set_option maxHeartbeats 3200000 in
theorem Jp (s:ByteArray) (w:World) (hs:s.size≤281474976) (c:UInt8) (d:List UInt8) (h0:unsigned s.data.toList=c :: d) (ht:Lib.trimS (c :: d) [48,49,50,51,52,53,54,55,56,57]=[]) (hg:¬ (c=48∧s.data.toList ≠ [48])) (v:Int) (hv:Lib.parseIntB 64 s.data.toList=.ok v) :
    Calls Tryz.prog 53 #[.string s] w fun e w'=>e=.returned (.tuple #[.int .i64 v,.int .i64 0])∧Below w.heap.size w w':=by
  have c29:=tX s
  have NW:=DI s (c :: d) [] hs h0 ht
  have c31:=Q9 s v hs hv
  rw [h0] at c29
  have RJ:=Lib.hid c29
  have UT:=Lib.hid NW
  have C31:=Lib.hid c31
  have HG:=Lib.hid hg
  clear c29 NW c31 h0 ht hv hg
  go_enter Tryz.func53,Tryz.ntmps53
  go_wp2_with (first|(go_at_call 63;refine (RJ.out _).mono ?_;rintro e w' ⟨rfl,rfl⟩)|(go_at_call 54;refine (UT.out _).mono ?_;rintro e w' ⟨rfl,hb⟩)|(go_at_call 64;refine (C31.out _).mono ?_;rintro e w' ⟨rfl,hb1⟩))
  all_goals first|(rename_i h1 h2;exact (Oa h1 h2 HG.out).elim)|(go_ret2;exact ⟨rfl,hb.trans (hb1.mono hb.size)⟩)
set_option maxRecDepth 100000 in
set_option maxHeartbeats 3200000 in
theorem zB (s:ByteArray) (w:World) (HT:af (Fq w)) (hs:s.size≤281474976) (c:UInt8) (d:List UInt8) (h0:unsigned s.data.toList=c :: d) (ht:Lib.trimS (c :: d) [48,49,50,51,52,53,54,55,56,57]=[]) (hg:¬ (c=48∧s.data.toList ≠ [48])) (hv:∀ v,Lib.parseIntB 64 s.data.toList ≠ .ok v) :
    Calls Tryz.prog 53 #[.string s] w fun e w'=>e=.returned (.tuple #[.int .i64 0,.int .i64 3])∧Below w.heap.size w w':=by
  have c29:=tX s
  have NW:=DI s (c :: d) [] hs h0 ht
  have c31:=UG s hs hv
  rw [h0] at c29
  have RJ:=Lib.hid c29
  have UT:=Lib.hid NW
  have C31:=Lib.hid c31
  have HG:=Lib.hid hg
  clear c29 NW c31 h0 ht hv hg
  go_enter Tryz.func53,Tryz.ntmps53
  go_wp2_with (first|(go_at_call 63;refine (RJ.out _).mono ?_;rintro e w' ⟨rfl,rfl⟩)|(go_at_call 54;refine (UT.out _).mono ?_;rintro e w' ⟨rfl,hb⟩)|(go_at_call 64;refine (C31.out _ (zY hb HT.out)).mono ?_;rintro e w' ⟨n1,t1,b1,rfl,hb1⟩))
  all_goals first|(rename_i h1 h2;exact (Oa h1 h2 HG.out).elim)|(go_ret2;exact ⟨rfl,hb.trans (hb1.mono hb.size)⟩)
theorem jP.calls (a0:ByteArray) (r1 r2:Int) (w:World) (jm:Kd.C tC w tH lH.length lH) (h:jP.f a0=some (r1,r2)) :
    Calls Tryz.prog 53 #[.string a0] w fun e w'=>e=.returned (.tuple #[.int .i64 r1,.int .i64 r2])∧Below w.heap.size w w':=by
  unfold jP.f at h
  by_cases hs:a0.size≤281474976
  · rw [if_pos hs] at h
    cases h0:unsigned a0.data.toList with
    | nil =>
      have e:pR a0.data.toList=false:=by simp [pR,h0]
      rw [e] at h
      injection h with h
      injection h with h1 h2
      subst h1 h2
      exact Ew a0 w h0
    | cons c d =>
      cases ht:Lib.trimS (c :: d) [48,49,50,51,52,53,54,55,56,57] with
      | cons x t =>
        have e:pR a0.data.toList=false:=by simp [pR,h0,ht]
        rw [e] at h
        injection h with h
        injection h with h1 h2
        subst h1 h2
        exact Ez a0 w hs c d h0 x t ht
      | nil =>
        by_cases hg:c=48∧a0.data.toList ≠ [48]
        · obtain ⟨rfl,hn⟩:=hg
          have e:pR a0.data.toList=false:=by simp [pR,h0,hn]
          rw [e] at h
          injection h with h
          injection h with h1 h2
          subst h1 h2
          exact Eu a0 w hs d h0 ht hn
        · have e:pR a0.data.toList=true:=by
            unfold pR
            rw [h0,ht]
            by_cases hc:c=48
            · have:a0.data.toList=[48]:=Classical.byContradiction fun hn=>hg ⟨hc,hn⟩
              simp [this]
            · simp [hc]
          rw [e] at h
          injection h with h
          unfold numOf at h
          match hv:Lib.parseIntB 64 a0.data.toList with
          | .ok v =>
            rw [hv] at h
            injection h with h1 h2
            subst h1 h2
            exact Jp a0 w hs c d h0 ht hg v hv
          | .«syntax» =>
            rw [hv] at h
            injection h with h1 h2
            subst h1 h2
            exact zB a0 w ⟨tu jm⟩ hs c d h0 ht hg (fun v e=>by rw [hv] at e;cases e)
          | .range =>
            rw [hv] at h
            injection h with h1 h2
            subst h1 h2
            exact zB a0 w ⟨tu jm⟩ hs c d h0 ht hg (fun v e=>by rw [hv] at e;cases e)
  · rw [if_neg hs] at h
    cases h
end Go.Proofs.YtkclndkbccbhaaaGreatDoor.P
end
section
namespace Go.Proofs.YtkclndkbccbhaaaGreatDoor.P
open Go.RowKit Go.Proofs.ae.bg Go.Proofs.ae.dw Go.Proofs.ae.dO
def letters (o:Int):List UInt8 :=
  if o=1 then [97,110]
  else if o=2 then [97,98,99]
  else if o=3 then [110]
  else if o=4 then [97,110]
  else if o=5 then [97]
  else if o=6 then [97]
  else if o=7 then [97,98]
  else if o=8 then [97,98,110]
  else if o=9 then [97,110,98]
  else if o=10 then [97,98,110]
  else if o=11 then [97,110,98]
  else if o=12 then [97,98]
  else if o=13 then [97,98]
  else if o=14 then [97]
  else if o=15 then [97,98,99]
  else []
def hasB (o:Int) (c:UInt8):Bool:=(letters o).contains c
def dQ.f (jf:Int) (bU:Int) (bQ:Int) (gQ:Int) (iy:Int):Option (Bool) :=
  if jf < 1 then some false else if jf > 15 then some false else
  some ((hasB jf 98 || bQ == 0) && (hasB jf 99 || gQ == 0) && (hasB jf 110 || iy == 0) && (hasB jf 97 || bU == 0))
theorem dm (s:ByteArray) (c:Int) (w:World):(callFunc 97 #[.string s,.int .u8 c]).run Tryz.prog w=.ok (.value (.int .i64 (Lib.indexByte s.data.toList c.toNat.toUInt8))) w:=by
  rw [run_callFunc_extern Tryz.func97 (by kernel_rfl) (by kernel_rfl) (by kernel_rfl) (e:=Extern.BytealgIndexByte.indexByte) (by kernel_rfl),Lib.run_indexByteString]
  rfl
theorem wo {w:World} (h:Kd.C Kd.string w qG opsL.length opsL) (i:Nat) (hi:i < 32):w.cell? ⟨0,i,none⟩=some (.string (opsL.getD i ByteArray.empty)):=by
  obtain ⟨ad,e,hc⟩:=Kd.fG h i (by omega) (by show (i:Int) < 32;omega)
  injection e with e
  subst e
  rw [Int.toNat_natCast] at hc
  rw [show eX ByteArray.empty opsL (i:Int)=opsL.getD i ByteArray.empty from by simp [eX]] at hc
  rw [← hc]
  unfold Addr.add
  split
  · rename_i h0
    subst h0
    rfl
  · simp
theorem jd {w:World} (h:Kd.C Kd.string w qG opsL.length opsL) (o:Obj) (i:Nat) (hi:i < 32) (s:ByteArray) (hs:opsL.getD i ByteArray.empty=s):(w.alloc o).cell? ⟨0,i,none⟩=some (.string s):=by
  have hc:=wo h i hi
  rw [World.cell?_alloc_past _ _ _ (World.block_lt_of_cell? w _ hc),hc,hs]
set_option maxRecDepth 100000 in
theorem Nl (w:World):Calls Tryz.prog 26 #[.string ⟨#[97,110]⟩,.string ⟨#[98]⟩] w fun e w'=>e=.returned (.bool false)∧w=w':=by
  have hi:=dm
  go_enter Tryz.func26,Tryz.ntmps26
  go_wp2
  go_ret
  exact ⟨rfl,rfl⟩
theorem qO (p o j:Nat) (hj:j=o * 2+1) (ho:o < 16) (w:World) (hp:w.cell? ⟨p,0,none⟩=some (.int .u8 o)) (ht:w.cell? ⟨0,j,none⟩=some (.string ⟨#[97,110]⟩)):Calls Tryz.prog 25 #[.string ⟨#[98]⟩,.pointer (some ⟨p,0,none⟩)] w fun e w'=>e=.returned (.bool false)∧w=w':=by
  subst hj
  have ho1:(o:Int) < 16:=by omega
  go_enter Tryz.func25,Tryz.ntmps25
  go_wp2_with (go_at_call 26;refine (Nl _).mono ?_;rintro e w' ⟨rfl,rfl⟩)
  go_ret
  exact ⟨rfl,rfl⟩
set_option maxRecDepth 100000 in
theorem Nk (w:World):Calls Tryz.prog 26 #[.string ⟨#[97,110]⟩,.string ⟨#[99]⟩] w fun e w'=>e=.returned (.bool false)∧w=w':=by
  have hi:=dm
  go_enter Tryz.func26,Tryz.ntmps26
  go_wp2
  go_ret
  exact ⟨rfl,rfl⟩
theorem wJ (p o j:Nat) (hj:j=o * 2+1) (ho:o < 16) (w:World) (hp:w.cell? ⟨p,0,none⟩=some (.int .u8 o)) (ht:w.cell? ⟨0,j,none⟩=some (.string ⟨#[97,110]⟩)):Calls Tryz.prog 25 #[.string ⟨#[99]⟩,.pointer (some ⟨p,0,none⟩)] w fun e w'=>e=.returned (.bool false)∧w=w':=by
  subst hj
  have ho1:(o:Int) < 16:=by omega
  go_enter Tryz.func25,Tryz.ntmps25
  go_wp2_with (go_at_call 26;refine (Nk _).mono ?_;rintro e w' ⟨rfl,rfl⟩)
  go_ret
  exact ⟨rfl,rfl⟩
set_option maxRecDepth 100000 in
theorem Nh (w:World):Calls Tryz.prog 26 #[.string ⟨#[97,110]⟩,.string ⟨#[110]⟩] w fun e w'=>e=.returned (.bool true)∧w=w':=by
  have hi:=dm
  go_enter Tryz.func26,Tryz.ntmps26
  go_wp2
  go_ret
  exact ⟨rfl,rfl⟩
theorem ET (p o j:Nat) (hj:j=o * 2+1) (ho:o < 16) (w:World) (hp:w.cell? ⟨p,0,none⟩=some (.int .u8 o)) (ht:w.cell? ⟨0,j,none⟩=some (.string ⟨#[97,110]⟩)):Calls Tryz.prog 25 #[.string ⟨#[110]⟩,.pointer (some ⟨p,0,none⟩)] w fun e w'=>e=.returned (.bool true)∧w=w':=by
  subst hj
  have ho1:(o:Int) < 16:=by omega
  go_enter Tryz.func25,Tryz.ntmps25
  go_wp2_with (go_at_call 26;refine (Nh _).mono ?_;rintro e w' ⟨rfl,rfl⟩)
  go_ret
  exact ⟨rfl,rfl⟩
set_option maxRecDepth 100000 in
theorem Np (w:World):Calls Tryz.prog 26 #[.string ⟨#[97,110]⟩,.string ⟨#[97]⟩] w fun e w'=>e=.returned (.bool true)∧w=w':=by
  have hi:=dm
  go_enter Tryz.func26,Tryz.ntmps26
  go_wp2
  go_ret
  exact ⟨rfl,rfl⟩
theorem EU (p o j:Nat) (hj:j=o * 2+1) (ho:o < 16) (w:World) (hp:w.cell? ⟨p,0,none⟩=some (.int .u8 o)) (ht:w.cell? ⟨0,j,none⟩=some (.string ⟨#[97,110]⟩)):Calls Tryz.prog 25 #[.string ⟨#[97]⟩,.pointer (some ⟨p,0,none⟩)] w fun e w'=>e=.returned (.bool true)∧w=w':=by
  subst hj
  have ho1:(o:Int) < 16:=by omega
  go_enter Tryz.func25,Tryz.ntmps25
  go_wp2_with (go_at_call 26;refine (Np _).mono ?_;rintro e w' ⟨rfl,rfl⟩)
  go_ret
  exact ⟨rfl,rfl⟩
set_option maxRecDepth 100000 in
theorem JS (w:World):Calls Tryz.prog 26 #[.string ⟨#[97,98,99]⟩,.string ⟨#[98]⟩] w fun e w'=>e=.returned (.bool true)∧w=w':=by
  have hi:=dm
  go_enter Tryz.func26,Tryz.ntmps26
  go_wp2
  go_ret
  exact ⟨rfl,rfl⟩
theorem uG (p o j:Nat) (hj:j=o * 2+1) (ho:o < 16) (w:World) (hp:w.cell? ⟨p,0,none⟩=some (.int .u8 o)) (ht:w.cell? ⟨0,j,none⟩=some (.string ⟨#[97,98,99]⟩)):Calls Tryz.prog 25 #[.string ⟨#[98]⟩,.pointer (some ⟨p,0,none⟩)] w fun e w'=>e=.returned (.bool true)∧w=w':=by
  subst hj
  have ho1:(o:Int) < 16:=by omega
  go_enter Tryz.func25,Tryz.ntmps25
  go_wp2_with (go_at_call 26;refine (JS _).mono ?_;rintro e w' ⟨rfl,rfl⟩)
  go_ret
  exact ⟨rfl,rfl⟩
set_option maxRecDepth 100000 in
theorem JR (w:World):Calls Tryz.prog 26 #[.string ⟨#[97,98,99]⟩,.string ⟨#[99]⟩] w fun e w'=>e=.returned (.bool true)∧w=w':=by
  have hi:=dm
  go_enter Tryz.func26,Tryz.ntmps26
  go_wp2
  go_ret
  exact ⟨rfl,rfl⟩
theorem uF (p o j:Nat) (hj:j=o * 2+1) (ho:o < 16) (w:World) (hp:w.cell? ⟨p,0,none⟩=some (.int .u8 o)) (ht:w.cell? ⟨0,j,none⟩=some (.string ⟨#[97,98,99]⟩)):Calls Tryz.prog 25 #[.string ⟨#[99]⟩,.pointer (some ⟨p,0,none⟩)] w fun e w'=>e=.returned (.bool true)∧w=w':=by
  subst hj
  have ho1:(o:Int) < 16:=by omega
  go_enter Tryz.func25,Tryz.ntmps25
  go_wp2_with (go_at_call 26;refine (JR _).mono ?_;rintro e w' ⟨rfl,rfl⟩)
  go_ret
  exact ⟨rfl,rfl⟩
set_option maxRecDepth 100000 in
theorem JQ (w:World):Calls Tryz.prog 26 #[.string ⟨#[97,98,99]⟩,.string ⟨#[110]⟩] w fun e w'=>e=.returned (.bool false)∧w=w':=by
  have hi:=dm
  go_enter Tryz.func26,Tryz.ntmps26
  go_wp2
  go_ret
  exact ⟨rfl,rfl⟩
theorem uD (p o j:Nat) (hj:j=o * 2+1) (ho:o < 16) (w:World) (hp:w.cell? ⟨p,0,none⟩=some (.int .u8 o)) (ht:w.cell? ⟨0,j,none⟩=some (.string ⟨#[97,98,99]⟩)):Calls Tryz.prog 25 #[.string ⟨#[110]⟩,.pointer (some ⟨p,0,none⟩)] w fun e w'=>e=.returned (.bool false)∧w=w':=by
  subst hj
  have ho1:(o:Int) < 16:=by omega
  go_enter Tryz.func25,Tryz.ntmps25
  go_wp2_with (go_at_call 26;refine (JQ _).mono ?_;rintro e w' ⟨rfl,rfl⟩)
  go_ret
  exact ⟨rfl,rfl⟩
set_option maxRecDepth 100000 in
theorem JU (w:World):Calls Tryz.prog 26 #[.string ⟨#[97,98,99]⟩,.string ⟨#[97]⟩] w fun e w'=>e=.returned (.bool true)∧w=w':=by
  have hi:=dm
  go_enter Tryz.func26,Tryz.ntmps26
  go_wp2
  go_ret
  exact ⟨rfl,rfl⟩
theorem BO (p o j:Nat) (hj:j=o * 2+1) (ho:o < 16) (w:World) (hp:w.cell? ⟨p,0,none⟩=some (.int .u8 o)) (ht:w.cell? ⟨0,j,none⟩=some (.string ⟨#[97,98,99]⟩)):Calls Tryz.prog 25 #[.string ⟨#[97]⟩,.pointer (some ⟨p,0,none⟩)] w fun e w'=>e=.returned (.bool true)∧w=w':=by
  subst hj
  have ho1:(o:Int) < 16:=by omega
  go_enter Tryz.func25,Tryz.ntmps25
  go_wp2_with (go_at_call 26;refine (JU _).mono ?_;rintro e w' ⟨rfl,rfl⟩)
  go_ret
  exact ⟨rfl,rfl⟩
set_option maxRecDepth 100000 in
theorem QQ (w:World):Calls Tryz.prog 26 #[.string ⟨#[110]⟩,.string ⟨#[98]⟩] w fun e w'=>e=.returned (.bool false)∧w=w':=by
  have hi:=dm
  go_enter Tryz.func26,Tryz.ntmps26
  go_wp2
  go_ret
  exact ⟨rfl,rfl⟩
theorem yS (p o j:Nat) (hj:j=o * 2+1) (ho:o < 16) (w:World) (hp:w.cell? ⟨p,0,none⟩=some (.int .u8 o)) (ht:w.cell? ⟨0,j,none⟩=some (.string ⟨#[110]⟩)):Calls Tryz.prog 25 #[.string ⟨#[98]⟩,.pointer (some ⟨p,0,none⟩)] w fun e w'=>e=.returned (.bool false)∧w=w':=by
  subst hj
  have ho1:(o:Int) < 16:=by omega
  go_enter Tryz.func25,Tryz.ntmps25
  go_wp2_with (go_at_call 26;refine (QQ _).mono ?_;rintro e w' ⟨rfl,rfl⟩)
  go_ret
  exact ⟨rfl,rfl⟩
set_option maxRecDepth 100000 in
theorem QP (w:World):Calls Tryz.prog 26 #[.string ⟨#[110]⟩,.string ⟨#[99]⟩] w fun e w'=>e=.returned (.bool false)∧w=w':=by
  have hi:=dm
  go_enter Tryz.func26,Tryz.ntmps26
  go_wp2
  go_ret
  exact ⟨rfl,rfl⟩
theorem Dy (p o j:Nat) (hj:j=o * 2+1) (ho:o < 16) (w:World) (hp:w.cell? ⟨p,0,none⟩=some (.int .u8 o)) (ht:w.cell? ⟨0,j,none⟩=some (.string ⟨#[110]⟩)):Calls Tryz.prog 25 #[.string ⟨#[99]⟩,.pointer (some ⟨p,0,none⟩)] w fun e w'=>e=.returned (.bool false)∧w=w':=by
  subst hj
  have ho1:(o:Int) < 16:=by omega
  go_enter Tryz.func25,Tryz.ntmps25
  go_wp2_with (go_at_call 26;refine (QP _).mono ?_;rintro e w' ⟨rfl,rfl⟩)
  go_ret
  exact ⟨rfl,rfl⟩
set_option maxRecDepth 100000 in
theorem QO (w:World):Calls Tryz.prog 26 #[.string ⟨#[110]⟩,.string ⟨#[110]⟩] w fun e w'=>e=.returned (.bool true)∧w=w':=by
  have hi:=dm
  go_enter Tryz.func26,Tryz.ntmps26
  go_wp2
  go_ret
  exact ⟨rfl,rfl⟩
theorem IA (p o j:Nat) (hj:j=o * 2+1) (ho:o < 16) (w:World) (hp:w.cell? ⟨p,0,none⟩=some (.int .u8 o)) (ht:w.cell? ⟨0,j,none⟩=some (.string ⟨#[110]⟩)):Calls Tryz.prog 25 #[.string ⟨#[110]⟩,.pointer (some ⟨p,0,none⟩)] w fun e w'=>e=.returned (.bool true)∧w=w':=by
  subst hj
  have ho1:(o:Int) < 16:=by omega
  go_enter Tryz.func25,Tryz.ntmps25
  go_wp2_with (go_at_call 26;refine (QO _).mono ?_;rintro e w' ⟨rfl,rfl⟩)
  go_ret
  exact ⟨rfl,rfl⟩
set_option maxRecDepth 100000 in
theorem QR (w:World):Calls Tryz.prog 26 #[.string ⟨#[110]⟩,.string ⟨#[97]⟩] w fun e w'=>e=.returned (.bool false)∧w=w':=by
  have hi:=dm
  go_enter Tryz.func26,Tryz.ntmps26
  go_wp2
  go_ret
  exact ⟨rfl,rfl⟩
theorem IB (p o j:Nat) (hj:j=o * 2+1) (ho:o < 16) (w:World) (hp:w.cell? ⟨p,0,none⟩=some (.int .u8 o)) (ht:w.cell? ⟨0,j,none⟩=some (.string ⟨#[110]⟩)):Calls Tryz.prog 25 #[.string ⟨#[97]⟩,.pointer (some ⟨p,0,none⟩)] w fun e w'=>e=.returned (.bool false)∧w=w':=by
  subst hj
  have ho1:(o:Int) < 16:=by omega
  go_enter Tryz.func25,Tryz.ntmps25
  go_wp2_with (go_at_call 26;refine (QR _).mono ?_;rintro e w' ⟨rfl,rfl⟩)
  go_ret
  exact ⟨rfl,rfl⟩
set_option maxRecDepth 100000 in
theorem QU (w:World):Calls Tryz.prog 26 #[.string ⟨#[97]⟩,.string ⟨#[98]⟩] w fun e w'=>e=.returned (.bool false)∧w=w':=by
  have hi:=dm
  go_enter Tryz.func26,Tryz.ntmps26
  go_wp2
  go_ret
  exact ⟨rfl,rfl⟩
theorem mr (p o j:Nat) (hj:j=o * 2+1) (ho:o < 16) (w:World) (hp:w.cell? ⟨p,0,none⟩=some (.int .u8 o)) (ht:w.cell? ⟨0,j,none⟩=some (.string ⟨#[97]⟩)):Calls Tryz.prog 25 #[.string ⟨#[98]⟩,.pointer (some ⟨p,0,none⟩)] w fun e w'=>e=.returned (.bool false)∧w=w':=by
  subst hj
  have ho1:(o:Int) < 16:=by omega
  go_enter Tryz.func25,Tryz.ntmps25
  go_wp2_with (go_at_call 26;refine (QU _).mono ?_;rintro e w' ⟨rfl,rfl⟩)
  go_ret
  exact ⟨rfl,rfl⟩
set_option maxRecDepth 100000 in
theorem QT (w:World):Calls Tryz.prog 26 #[.string ⟨#[97]⟩,.string ⟨#[99]⟩] w fun e w'=>e=.returned (.bool false)∧w=w':=by
  have hi:=dm
  go_enter Tryz.func26,Tryz.ntmps26
  go_wp2
  go_ret
  exact ⟨rfl,rfl⟩
theorem o9 (p o j:Nat) (hj:j=o * 2+1) (ho:o < 16) (w:World) (hp:w.cell? ⟨p,0,none⟩=some (.int .u8 o)) (ht:w.cell? ⟨0,j,none⟩=some (.string ⟨#[97]⟩)):Calls Tryz.prog 25 #[.string ⟨#[99]⟩,.pointer (some ⟨p,0,none⟩)] w fun e w'=>e=.returned (.bool false)∧w=w':=by
  subst hj
  have ho1:(o:Int) < 16:=by omega
  go_enter Tryz.func25,Tryz.ntmps25
  go_wp2_with (go_at_call 26;refine (QT _).mono ?_;rintro e w' ⟨rfl,rfl⟩)
  go_ret
  exact ⟨rfl,rfl⟩
set_option maxRecDepth 100000 in
theorem QS (w:World):Calls Tryz.prog 26 #[.string ⟨#[97]⟩,.string ⟨#[110]⟩] w fun e w'=>e=.returned (.bool false)∧w=w':=by
  have hi:=dm
  go_enter Tryz.func26,Tryz.ntmps26
  go_wp2
  go_ret
  exact ⟨rfl,rfl⟩
theorem uH (p o j:Nat) (hj:j=o * 2+1) (ho:o < 16) (w:World) (hp:w.cell? ⟨p,0,none⟩=some (.int .u8 o)) (ht:w.cell? ⟨0,j,none⟩=some (.string ⟨#[97]⟩)):Calls Tryz.prog 25 #[.string ⟨#[110]⟩,.pointer (some ⟨p,0,none⟩)] w fun e w'=>e=.returned (.bool false)∧w=w':=by
  subst hj
  have ho1:(o:Int) < 16:=by omega
  go_enter Tryz.func25,Tryz.ntmps25
  go_wp2_with (go_at_call 26;refine (QS _).mono ?_;rintro e w' ⟨rfl,rfl⟩)
  go_ret
  exact ⟨rfl,rfl⟩
set_option maxRecDepth 100000 in
theorem QV (w:World):Calls Tryz.prog 26 #[.string ⟨#[97]⟩,.string ⟨#[97]⟩] w fun e w'=>e=.returned (.bool true)∧w=w':=by
  have hi:=dm
  go_enter Tryz.func26,Tryz.ntmps26
  go_wp2
  go_ret
  exact ⟨rfl,rfl⟩
theorem Dz (p o j:Nat) (hj:j=o * 2+1) (ho:o < 16) (w:World) (hp:w.cell? ⟨p,0,none⟩=some (.int .u8 o)) (ht:w.cell? ⟨0,j,none⟩=some (.string ⟨#[97]⟩)):Calls Tryz.prog 25 #[.string ⟨#[97]⟩,.pointer (some ⟨p,0,none⟩)] w fun e w'=>e=.returned (.bool true)∧w=w':=by
  subst hj
  have ho1:(o:Int) < 16:=by omega
  go_enter Tryz.func25,Tryz.ntmps25
  go_wp2_with (go_at_call 26;refine (QV _).mono ?_;rintro e w' ⟨rfl,rfl⟩)
  go_ret
  exact ⟨rfl,rfl⟩
set_option maxRecDepth 100000 in
theorem Nu (w:World):Calls Tryz.prog 26 #[.string ⟨#[97,98]⟩,.string ⟨#[98]⟩] w fun e w'=>e=.returned (.bool true)∧w=w':=by
  have hi:=dm
  go_enter Tryz.func26,Tryz.ntmps26
  go_wp2
  go_ret
  exact ⟨rfl,rfl⟩
theorem nP (p o j:Nat) (hj:j=o * 2+1) (ho:o < 16) (w:World) (hp:w.cell? ⟨p,0,none⟩=some (.int .u8 o)) (ht:w.cell? ⟨0,j,none⟩=some (.string ⟨#[97,98]⟩)):Calls Tryz.prog 25 #[.string ⟨#[98]⟩,.pointer (some ⟨p,0,none⟩)] w fun e w'=>e=.returned (.bool true)∧w=w':=by
  subst hj
  have ho1:(o:Int) < 16:=by omega
  go_enter Tryz.func25,Tryz.ntmps25
  go_wp2_with (go_at_call 26;refine (Nu _).mono ?_;rintro e w' ⟨rfl,rfl⟩)
  go_ret
  exact ⟨rfl,rfl⟩
set_option maxRecDepth 100000 in
theorem Ns (w:World):Calls Tryz.prog 26 #[.string ⟨#[97,98]⟩,.string ⟨#[99]⟩] w fun e w'=>e=.returned (.bool false)∧w=w':=by
  have hi:=dm
  go_enter Tryz.func26,Tryz.ntmps26
  go_wp2
  go_ret
  exact ⟨rfl,rfl⟩
theorem nO (p o j:Nat) (hj:j=o * 2+1) (ho:o < 16) (w:World) (hp:w.cell? ⟨p,0,none⟩=some (.int .u8 o)) (ht:w.cell? ⟨0,j,none⟩=some (.string ⟨#[97,98]⟩)):Calls Tryz.prog 25 #[.string ⟨#[99]⟩,.pointer (some ⟨p,0,none⟩)] w fun e w'=>e=.returned (.bool false)∧w=w':=by
  subst hj
  have ho1:(o:Int) < 16:=by omega
  go_enter Tryz.func25,Tryz.ntmps25
  go_wp2_with (go_at_call 26;refine (Ns _).mono ?_;rintro e w' ⟨rfl,rfl⟩)
  go_ret
  exact ⟨rfl,rfl⟩
set_option maxRecDepth 100000 in
theorem Nr (w:World):Calls Tryz.prog 26 #[.string ⟨#[97,98]⟩,.string ⟨#[110]⟩] w fun e w'=>e=.returned (.bool false)∧w=w':=by
  have hi:=dm
  go_enter Tryz.func26,Tryz.ntmps26
  go_wp2
  go_ret
  exact ⟨rfl,rfl⟩
theorem qP (p o j:Nat) (hj:j=o * 2+1) (ho:o < 16) (w:World) (hp:w.cell? ⟨p,0,none⟩=some (.int .u8 o)) (ht:w.cell? ⟨0,j,none⟩=some (.string ⟨#[97,98]⟩)):Calls Tryz.prog 25 #[.string ⟨#[110]⟩,.pointer (some ⟨p,0,none⟩)] w fun e w'=>e=.returned (.bool false)∧w=w':=by
  subst hj
  have ho1:(o:Int) < 16:=by omega
  go_enter Tryz.func25,Tryz.ntmps25
  go_wp2_with (go_at_call 26;refine (Nr _).mono ?_;rintro e w' ⟨rfl,rfl⟩)
  go_ret
  exact ⟨rfl,rfl⟩
set_option maxRecDepth 100000 in
theorem Nv (w:World):Calls Tryz.prog 26 #[.string ⟨#[97,98]⟩,.string ⟨#[97]⟩] w fun e w'=>e=.returned (.bool true)∧w=w':=by
  have hi:=dm
  go_enter Tryz.func26,Tryz.ntmps26
  go_wp2
  go_ret
  exact ⟨rfl,rfl⟩
theorem zO (p o j:Nat) (hj:j=o * 2+1) (ho:o < 16) (w:World) (hp:w.cell? ⟨p,0,none⟩=some (.int .u8 o)) (ht:w.cell? ⟨0,j,none⟩=some (.string ⟨#[97,98]⟩)):Calls Tryz.prog 25 #[.string ⟨#[97]⟩,.pointer (some ⟨p,0,none⟩)] w fun e w'=>e=.returned (.bool true)∧w=w':=by
  subst hj
  have ho1:(o:Int) < 16:=by omega
  go_enter Tryz.func25,Tryz.ntmps25
  go_wp2_with (go_at_call 26;refine (Nv _).mono ?_;rintro e w' ⟨rfl,rfl⟩)
  go_ret
  exact ⟨rfl,rfl⟩
set_option maxRecDepth 100000 in
theorem JO (w:World):Calls Tryz.prog 26 #[.string ⟨#[97,98,110]⟩,.string ⟨#[98]⟩] w fun e w'=>e=.returned (.bool true)∧w=w':=by
  have hi:=dm
  go_enter Tryz.func26,Tryz.ntmps26
  go_wp2
  go_ret
  exact ⟨rfl,rfl⟩
theorem uC (p o j:Nat) (hj:j=o * 2+1) (ho:o < 16) (w:World) (hp:w.cell? ⟨p,0,none⟩=some (.int .u8 o)) (ht:w.cell? ⟨0,j,none⟩=some (.string ⟨#[97,98,110]⟩)):Calls Tryz.prog 25 #[.string ⟨#[98]⟩,.pointer (some ⟨p,0,none⟩)] w fun e w'=>e=.returned (.bool true)∧w=w':=by
  subst hj
  have ho1:(o:Int) < 16:=by omega
  go_enter Tryz.func25,Tryz.ntmps25
  go_wp2_with (go_at_call 26;refine (JO _).mono ?_;rintro e w' ⟨rfl,rfl⟩)
  go_ret
  exact ⟨rfl,rfl⟩
set_option maxRecDepth 100000 in
theorem JM (w:World):Calls Tryz.prog 26 #[.string ⟨#[97,98,110]⟩,.string ⟨#[99]⟩] w fun e w'=>e=.returned (.bool false)∧w=w':=by
  have hi:=dm
  go_enter Tryz.func26,Tryz.ntmps26
  go_wp2
  go_ret
  exact ⟨rfl,rfl⟩
theorem uB (p o j:Nat) (hj:j=o * 2+1) (ho:o < 16) (w:World) (hp:w.cell? ⟨p,0,none⟩=some (.int .u8 o)) (ht:w.cell? ⟨0,j,none⟩=some (.string ⟨#[97,98,110]⟩)):Calls Tryz.prog 25 #[.string ⟨#[99]⟩,.pointer (some ⟨p,0,none⟩)] w fun e w'=>e=.returned (.bool false)∧w=w':=by
  subst hj
  have ho1:(o:Int) < 16:=by omega
  go_enter Tryz.func25,Tryz.ntmps25
  go_wp2_with (go_at_call 26;refine (JM _).mono ?_;rintro e w' ⟨rfl,rfl⟩)
  go_ret
  exact ⟨rfl,rfl⟩
set_option maxRecDepth 100000 in
theorem JL (w:World):Calls Tryz.prog 26 #[.string ⟨#[97,98,110]⟩,.string ⟨#[110]⟩] w fun e w'=>e=.returned (.bool true)∧w=w':=by
  have hi:=dm
  go_enter Tryz.func26,Tryz.ntmps26
  go_wp2
  go_ret
  exact ⟨rfl,rfl⟩
theorem BM (p o j:Nat) (hj:j=o * 2+1) (ho:o < 16) (w:World) (hp:w.cell? ⟨p,0,none⟩=some (.int .u8 o)) (ht:w.cell? ⟨0,j,none⟩=some (.string ⟨#[97,98,110]⟩)):Calls Tryz.prog 25 #[.string ⟨#[110]⟩,.pointer (some ⟨p,0,none⟩)] w fun e w'=>e=.returned (.bool true)∧w=w':=by
  subst hj
  have ho1:(o:Int) < 16:=by omega
  go_enter Tryz.func25,Tryz.ntmps25
  go_wp2_with (go_at_call 26;refine (JL _).mono ?_;rintro e w' ⟨rfl,rfl⟩)
  go_ret
  exact ⟨rfl,rfl⟩
set_option maxRecDepth 100000 in
theorem JP (w:World):Calls Tryz.prog 26 #[.string ⟨#[97,98,110]⟩,.string ⟨#[97]⟩] w fun e w'=>e=.returned (.bool true)∧w=w':=by
  have hi:=dm
  go_enter Tryz.func26,Tryz.ntmps26
  go_wp2
  go_ret
  exact ⟨rfl,rfl⟩
theorem BN (p o j:Nat) (hj:j=o * 2+1) (ho:o < 16) (w:World) (hp:w.cell? ⟨p,0,none⟩=some (.int .u8 o)) (ht:w.cell? ⟨0,j,none⟩=some (.string ⟨#[97,98,110]⟩)):Calls Tryz.prog 25 #[.string ⟨#[97]⟩,.pointer (some ⟨p,0,none⟩)] w fun e w'=>e=.returned (.bool true)∧w=w':=by
  subst hj
  have ho1:(o:Int) < 16:=by omega
  go_enter Tryz.func25,Tryz.ntmps25
  go_wp2_with (go_at_call 26;refine (JP _).mono ?_;rintro e w' ⟨rfl,rfl⟩)
  go_ret
  exact ⟨rfl,rfl⟩
set_option maxRecDepth 100000 in
theorem JJ (w:World):Calls Tryz.prog 26 #[.string ⟨#[97,110,98]⟩,.string ⟨#[98]⟩] w fun e w'=>e=.returned (.bool true)∧w=w':=by
  have hi:=dm
  go_enter Tryz.func26,Tryz.ntmps26
  go_wp2
  go_ret
  exact ⟨rfl,rfl⟩
theorem uA (p o j:Nat) (hj:j=o * 2+1) (ho:o < 16) (w:World) (hp:w.cell? ⟨p,0,none⟩=some (.int .u8 o)) (ht:w.cell? ⟨0,j,none⟩=some (.string ⟨#[97,110,98]⟩)):Calls Tryz.prog 25 #[.string ⟨#[98]⟩,.pointer (some ⟨p,0,none⟩)] w fun e w'=>e=.returned (.bool true)∧w=w':=by
  subst hj
  have ho1:(o:Int) < 16:=by omega
  go_enter Tryz.func25,Tryz.ntmps25
  go_wp2_with (go_at_call 26;refine (JJ _).mono ?_;rintro e w' ⟨rfl,rfl⟩)
  go_ret
  exact ⟨rfl,rfl⟩
set_option maxRecDepth 100000 in
theorem JI (w:World):Calls Tryz.prog 26 #[.string ⟨#[97,110,98]⟩,.string ⟨#[99]⟩] w fun e w'=>e=.returned (.bool false)∧w=w':=by
  have hi:=dm
  go_enter Tryz.func26,Tryz.ntmps26
  go_wp2
  go_ret
  exact ⟨rfl,rfl⟩
theorem uz (p o j:Nat) (hj:j=o * 2+1) (ho:o < 16) (w:World) (hp:w.cell? ⟨p,0,none⟩=some (.int .u8 o)) (ht:w.cell? ⟨0,j,none⟩=some (.string ⟨#[97,110,98]⟩)):Calls Tryz.prog 25 #[.string ⟨#[99]⟩,.pointer (some ⟨p,0,none⟩)] w fun e w'=>e=.returned (.bool false)∧w=w':=by
  subst hj
  have ho1:(o:Int) < 16:=by omega
  go_enter Tryz.func25,Tryz.ntmps25
  go_wp2_with (go_at_call 26;refine (JI _).mono ?_;rintro e w' ⟨rfl,rfl⟩)
  go_ret
  exact ⟨rfl,rfl⟩
set_option maxRecDepth 100000 in
theorem JH (w:World):Calls Tryz.prog 26 #[.string ⟨#[97,110,98]⟩,.string ⟨#[110]⟩] w fun e w'=>e=.returned (.bool true)∧w=w':=by
  have hi:=dm
  go_enter Tryz.func26,Tryz.ntmps26
  go_wp2
  go_ret
  exact ⟨rfl,rfl⟩
theorem BK (p o j:Nat) (hj:j=o * 2+1) (ho:o < 16) (w:World) (hp:w.cell? ⟨p,0,none⟩=some (.int .u8 o)) (ht:w.cell? ⟨0,j,none⟩=some (.string ⟨#[97,110,98]⟩)):Calls Tryz.prog 25 #[.string ⟨#[110]⟩,.pointer (some ⟨p,0,none⟩)] w fun e w'=>e=.returned (.bool true)∧w=w':=by
  subst hj
  have ho1:(o:Int) < 16:=by omega
  go_enter Tryz.func25,Tryz.ntmps25
  go_wp2_with (go_at_call 26;refine (JH _).mono ?_;rintro e w' ⟨rfl,rfl⟩)
  go_ret
  exact ⟨rfl,rfl⟩
set_option maxRecDepth 100000 in
theorem JK (w:World):Calls Tryz.prog 26 #[.string ⟨#[97,110,98]⟩,.string ⟨#[97]⟩] w fun e w'=>e=.returned (.bool true)∧w=w':=by
  have hi:=dm
  go_enter Tryz.func26,Tryz.ntmps26
  go_wp2
  go_ret
  exact ⟨rfl,rfl⟩
theorem BL (p o j:Nat) (hj:j=o * 2+1) (ho:o < 16) (w:World) (hp:w.cell? ⟨p,0,none⟩=some (.int .u8 o)) (ht:w.cell? ⟨0,j,none⟩=some (.string ⟨#[97,110,98]⟩)):Calls Tryz.prog 25 #[.string ⟨#[97]⟩,.pointer (some ⟨p,0,none⟩)] w fun e w'=>e=.returned (.bool true)∧w=w':=by
  subst hj
  have ho1:(o:Int) < 16:=by omega
  go_enter Tryz.func25,Tryz.ntmps25
  go_wp2_with (go_at_call 26;refine (JK _).mono ?_;rintro e w' ⟨rfl,rfl⟩)
  go_ret
  exact ⟨rfl,rfl⟩
end Go.Proofs.YtkclndkbccbhaaaGreatDoor.P
end
