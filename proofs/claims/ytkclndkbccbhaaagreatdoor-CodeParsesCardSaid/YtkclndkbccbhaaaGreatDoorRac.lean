/- Parts of the proof of CodeParses: what the functions that it reaches compute, and plain facts about that. -/
import Derived.Test.YtkclndkbccbhaaaGreatDoorRaa
import Derived.Test.YtkclndkbccbhaaaGreatDoorRab
import Derived.Test.YtkclndkbccbhaaaGreatDoorProg
import Derived.Below
import Derived.Deep.Draws
import Derived.Deep.AppendLies
import Derived.Maps.AppendAt
import Derived.OwnWalk
import Derived.Laws.BytesArg
import Derived.Laws.MakeOwn
import Derived.Laws.OwnMore
import Derived.Deep.OwnRows
import Derived.Tactics
import Derived.Lib.ConvBytes
import Derived.Laws.Slices
import Derived.WalkKit
import Derived.KernelRfl
import Derived.RowKit3
import Derived.Deep.LoopGhost
import Derived.Deep.QuietTactic
import Derived.BigQuiet
import Derived.WideLaws
import Derived.Deep.DeepCutAuto
import Derived.Deep.CutBlock
import Derived.Deep.RegionHeld3
import Derived.Laws.Rows
import Derived.Lib.AppendStr
import Derived.ArgAppend
import Derived.Laws.IdiomCopy
import Derived.OrdersHeld
import Derived.Laws.BitsLemmas
import Derived.RowKit
import Derived.Shelf.Lay
import Derived.Shelf.Strconv.Itoa3
import Derived.Shelf.Strings.SplitShaped
import Derived.Shelf.Strings.Shaped
import Derived.Shelf.Strings.SlTrimAscii
import Derived.Lib.LaidTab
import Derived.Shelf.Strings.OnBuilder
import Derived.Lib.Hide
import Derived.LoopTactic
import Derived.Deep.DrawnRows
import Derived.Shelf.Strings.Prefix
import Derived.Shelf.Strconv.ErrVarParseInt
import Derived.Laws.Externs
import Derived.Lib.Bytealg
import Derived.Laws.NewBlocks
set_option linter.unusedVariables false
set_option linter.unusedSimpArgs false
section
namespace Go.Proofs.ag.fE
open Go.RowKit Go.Proofs.ag.bK
namespace Kd
open Go.Proofs.ag.bK.Kd
end Kd
namespace Kd
open Go.Proofs.ag.bK.Kd
section
variable {α:Type} {d:Kd α} {e base g N:Nat} {ok:Nat→Prop} {W w1:World} {u v:Value} {xs:List α}
end
end Kd
theorem lI (k k':IntKind) (x y:Int):Builtin.max2 (.int k x) (.int k' y)=pure (.int k (if x < y then y else x)):=by simp only [Builtin.max2,gt_iff_lt]
theorem lG (k k':IntKind) (x y:Int):Builtin.min2 (.int k x) (.int k' y)=pure (.int k (if y < x then y else x)):=by simp only [Builtin.min2]
theorem ny (ats:Array TypeId) (ty:TypeId) (a b:Value):Builtin.max_ ats ty #[a,b]=(Builtin.max2 a b >>= fun s=>pure s):=by simp only [Builtin.max_,List.foldlM_cons,List.foldlM_nil]
theorem ni (ats:Array TypeId) (ty:TypeId) (a b:Value):Builtin.min_ ats ty #[a,b]=(Builtin.min2 a b >>= fun s=>pure s):=by simp only [Builtin.min_,List.foldlM_cons,List.foldlM_nil]
theorem jW (ats:Array TypeId) (ty:TypeId) (a b c:Value):Builtin.max_ ats ty #[a,b,c]=(Builtin.max2 a b >>= fun s=>Builtin.max2 s c >>= fun s=>pure s):=by simp only [Builtin.max_,List.foldlM_cons,List.foldlM_nil]
theorem jV (ats:Array TypeId) (ty:TypeId) (a b c:Value):Builtin.min_ ats ty #[a,b,c]=(Builtin.min2 a b >>= fun s=>Builtin.min2 s c >>= fun s=>pure s):=by simp only [Builtin.min_,List.foldlM_cons,List.foldlM_nil]
theorem lH (ats:Array TypeId) (ty:TypeId) (a b c d:Value):Builtin.max_ ats ty #[a,b,c,d]=(Builtin.max2 a b >>= fun s=>Builtin.max2 s c >>= fun s=>Builtin.max2 s d >>= fun s=>pure s):=by simp only [Builtin.max_,List.foldlM_cons,List.foldlM_nil]
theorem lF (ats:Array TypeId) (ty:TypeId) (a b c d:Value):Builtin.min_ ats ty #[a,b,c,d]=(Builtin.min2 a b >>= fun s=>Builtin.min2 s c >>= fun s=>Builtin.min2 s d >>= fun s=>pure s):=by simp only [Builtin.min_,List.foldlM_cons,List.foldlM_nil]
end Go.Proofs.ag.fE
namespace Go.Proofs.ag.bK
open Go.RowKit
section
variable {P:Program} {ops:Array Oper} {rest:List Oper} {o:Oper} {a:Act} {Q:Exit→Act→World→Prop} {W:World}
theorem bQ {f:FuncId} {aS:Array Operand} {ts:Array TypeId} (_ho:o.op=.call { callee:=.value (.func f),args:=aS,argTypes:=ts }) (h:wpList P ops Q (o :: rest) a W):wpList P ops Q (o :: rest) a W:=h
theorem jm {b:Builtin} {xs:Array Operand} {ts:Array TypeId} (_ho:o.op=.call { callee:=.builtin b,args:=xs,argTypes:=ts }) (h:wpList P ops Q (o :: rest) a W):wpList P ops Q (o :: rest) a W:=h
end
theorem mY (w:World) (n:Nat):w.drewN n=w.drewN n:=rfl
namespace Kd
section
variable {α:Type} {d:Kd α} {e base:Nat} {ok:Nat→Prop} {W w1:World} {v:Value} {xs:List α}
end
section
variable {α:Type} {d:Kd α} {e base g n cap:Nat} {ok oki rD:Nat→Prop} {W:World} {xs:List α} {i:Int} {c:List Value}
end
section
variable {α:Type} {d:Kd α} {e base b b' g N:Nat} {ok ok1:Nat→Prop} {W W2 w1:World} {u v:Value} {xs ys:List α} {S:Nat→Prop}
end
end Kd
end Go.Proofs.ag.bK
namespace Go.Proofs.ag.bK
open Go.RowKit
namespace Kd
def V {α:Type} (d:Kd α) (_e:Nat) (W:World) (al9:Nat) (ok:Nat→Prop) (v:Value) (xs:List α):Prop:=∃ A c,v=.slice A xs.length c∧xs.length≤c∧F d W ok A xs.length xs
section
variable {α β:Type} {d:Kd α} {e base base' n m c g N' lo hi:Nat} {ok ok' S:Nat→Prop} {w W w1:World} {A:Option Addr} {ad:Addr} {u v v1:Value} {xs:List α}
theorem oQ (d:Kd α) (e:Nat) (W:World) (base:Nat) (ok:Nat→Prop):V d e W base ok (.slice none 0 0) []:=⟨none,0,rfl,Nat.le_refl _,adu d W ok⟩
theorem SG (h:N d e W base (fun k=>ok k∧some k ≠ v.ownBlock) u xs) (hg:W.grownBy w1 v.ownBlock) (hat:v1.ownBlock=v.ownBlock ∨ ∃ b,v1.ownBlock=some b∧W.heap.size≤b):N d e w1 base (fun k=>ok k∧some k ≠ v1.ownBlock) u xs:=XR h hg hat
theorem uO {l:List α} (hl:l.length≤c) (hf:F d W ok A l.length l):FK (Kd.slice e d) W ok l [.slice A l.length c]:=fun W' hW=>⟨A,c,rfl,hl,hf W' hW⟩
end
end Kd
end Go.Proofs.ag.bK
end
section
namespace Go.Proofs.YtkclndkbccbhaaaGreatDoor.P
open Go.RowKit Go.Proofs.ag.bK Go.Proofs.ag.dV Go.Proofs.ag.fE
attribute [local go_sem] lI lG ny ni jW jV lH lF
def ab4:Option Int→Value
  | none=>.nilIface
  | some c=>.iface 0 (.int .i64 c)
theorem bF:ab4 none=.nilIface:=rfl
theorem bD (c:Int):ab4 (some c)=.iface 0 (.int .i64 c):=rfl
theorem info9:(Tryz.prog.info? 9).map (fun i=>(i.zero,i.size,i.bytes))=some (some (.string ⟨#[]⟩),1,16):=by kernel_rfl
theorem info22:(Tryz.prog.info? 22).map (fun i=>(i.zero,i.size,i.bytes))=some (some (.slice none 0 0),1,24):=by kernel_rfl
theorem JQ:(Tryz.prog.info? 27).map (fun i=>(i.zero,i.size,i.bytes))=some (some (.agg #[(.int .u8 0),(.int .u8 0),(.int .u8 0),(.int .u8 0),(.int .i64 0)]),5,16):=by kernel_rfl
structure jR where
  f0:Int
  f1:Int
  f2:Int
  f3:Int
  f4:Int
def z27:jR:=⟨(0:Int),(0:Int),(0:Int),(0:Int),(0:Int)⟩
def k27:Kd jR:=Kd.iso (Kd.pair (Kd.int .u8) (Kd.pair (Kd.int .u8) (Kd.pair (Kd.int .u8) (Kd.pair (Kd.int .u8) (Kd.int .i64))))) (fun x:jR=>(x.f0,x.f1,x.f2,x.f3,x.f4))
theorem Ql {w:World} {x:jR} {cs:List Value} (h:k27.K w x cs):cs=[.int .u8 x.f0,.int .u8 x.f1,.int .u8 x.f2,.int .u8 x.f3,.int .i64 x.f4]:=by
  obtain ⟨_,_,rfl,rfl,⟨_,_,rfl,rfl,⟨_,_,rfl,rfl,⟨_,_,rfl,rfl,rfl⟩⟩⟩⟩:=h
  exact rfl
theorem Gh (w:World) (base:Nat) (ok:Nat→Prop) (x:jR) :k27.M w base ok x [.int .u8 x.f0,.int .u8 x.f1,.int .u8 x.f2,.int .u8 x.f3,.int .i64 x.f4]:=⟨[.int .u8 x.f0],[.int .u8 x.f1,.int .u8 x.f2,.int .u8 x.f3,.int .i64 x.f4],rfl,rfl,⟨[.int .u8 x.f1],[.int .u8 x.f2,.int .u8 x.f3,.int .i64 x.f4],rfl,rfl,⟨[.int .u8 x.f2],[.int .u8 x.f3,.int .i64 x.f4],rfl,rfl,⟨[.int .u8 x.f3],[.int .i64 x.f4],rfl,rfl,rfl⟩⟩⟩⟩
def aU (xs:List jR) (i:Int):jR:=xs.getD i.toNat z27
theorem xe {w:World} {A:Option Addr} {n:Nat} {xs:List jR} (h:Kd.C k27 w A n xs) (i:Int) (h0:0≤i) (h1:i < n):∃ ad ,A=some ad∧w.cell? (ad.add (i.toNat * 5))=some (.int .u8 (aU xs i).f0)∧w.cell? ⟨(ad.add (i.toNat * 5)).block,(ad.add (i.toNat * 5)).off+1,none⟩=some (.int .u8 (aU xs i).f1)∧w.cell? ⟨(ad.add (i.toNat * 5)).block,(ad.add (i.toNat * 5)).off+2,none⟩=some (.int .u8 (aU xs i).f2)∧w.cell? ⟨(ad.add (i.toNat * 5)).block,(ad.add (i.toNat * 5)).off+3,none⟩=some (.int .u8 (aU xs i).f3)∧w.cell? ⟨(ad.add (i.toNat * 5)).block,(ad.add (i.toNat * 5)).off+4,none⟩=some (.int .i64 (aU xs i).f4):=by
  obtain ⟨ad,c,e,_,hK,hc0⟩:=Kd.Jf h z27 i h0 h1
  have hc:∀ j u,c[j]? = some u→w.cell? (ad.add (i.toNat * 5+j))=some u:=hc0
  obtain rfl:=Ql hK
  exact ⟨ad,e,hc 0 _ rfl,by rw [← yJ _ _ 1 (by omega)];exact hc 1 _ rfl,by rw [← yJ _ _ 2 (by omega)];exact hc 2 _ rfl,by rw [← yJ _ _ 3 (by omega)];exact hc 3 _ rfl,by rw [← yJ _ _ 4 (by omega)];exact hc 4 _ rfl⟩
def dZ (xs:List (List ByteArray)) (i:Int):(List ByteArray):=xs.getD i.toNat ([]:List ByteArray)
theorem rX {w:World} {A:Option Addr} {n:Nat} {xs:List (List ByteArray)} (h:Kd.C (Kd.slice 9 Kd.string) w A n xs) (i:Int) (h0:0≤i) (h1:i < n):∃ ad A0 c0,A=some ad∧w.cell? (ad.add i.toNat)=some (.slice A0 (dZ xs i).length c0)∧(dZ xs i).length≤c0∧Kd.string.C w A0 (dZ xs i).length (dZ xs i):=by
  obtain ⟨ad,c,e,_,hK,hc0⟩:=Kd.Jf h ([]:List ByteArray) i h0 h1
  have hc:∀ j u,c[j]? = some u→w.cell? (ad.add (i.toNat * 1+j))=some u:=hc0
  obtain ⟨A0,c0,rfl,l0,g0⟩:=hK
  exact ⟨ad,A0,c0,e,by have hq:=hc 0 _ rfl;rwa [Nat.mul_one,Nat.add_zero] at hq,l0,g0⟩
structure S25 where
  f0:(List ByteArray)
  f1:ByteArray
  f2:ByteArray
  f3:(List jR)
end Go.Proofs.YtkclndkbccbhaaaGreatDoor.P
end
section
namespace Go.Proofs
open Go.Shelf
shelf_lay LaysM.n246 Nm 246 at Tryz as Tryz.laysM246
shelf_lay LaysM.n146 Nm 146 at Tryz as Tryz.laysM146
shelf_lay LaysM.n145 Nm 145 at Tryz as Tryz.Qj
shelf_lay Lays.n160 Nm 160 at Tryz as Tryz.lays160
end Go.Proofs
namespace Go.Proofs.YtkclndkbccbhaaaGreatDoor.P
open Go.RowKit Go.Sort Go.Lib Go.Proofs.ag.bK Go.Proofs.ag.dV Go.Proofs.ag.fE
theorem gTab:Tryz.prog.globalNamed "internal/strconv.uint64pow10"=some 2:=by kernel_rfl
theorem abX:Tryz.prog.globalNamed "strconv.ErrSyntax"=some 3:=by kernel_rfl
theorem abY:Tryz.prog.globalNamed "strconv.ErrRange"=some 4:=by kernel_rfl
def uQ:Option Addr:=some ⟨0,0,none⟩
def opsL:List ByteArray:=[⟨#[]⟩,⟨#[]⟩,⟨#[115,101,116]⟩,⟨#[97,110]⟩,⟨#[97,100,100]⟩,⟨#[97,98,99]⟩,⟨#[106,117,109,112]⟩,⟨#[110]⟩,⟨#[122,101,114,111]⟩,⟨#[97,110]⟩,⟨#[110,101,119]⟩,⟨#[97]⟩,⟨#[110,105,108]⟩,⟨#[97]⟩,⟨#[109,111,118,101]⟩,⟨#[97,98]⟩,⟨#[108,111,97,100,105]⟩,⟨#[97,98,110]⟩,⟨#[115,116,111,114,101,105]⟩,⟨#[97,110,98]⟩,⟨#[108,111,97,100,112]⟩,⟨#[97,98,110]⟩,⟨#[115,116,111,114,101,112]⟩,⟨#[97,110,98]⟩,⟨#[108,111,97,100,103]⟩,⟨#[97,98]⟩,⟨#[115,116,111,114,101,103]⟩,⟨#[97,98]⟩,⟨#[112,114,105,110,116]⟩,⟨#[97]⟩,⟨#[115,97,109,101]⟩,⟨#[97,98,99]⟩]
structure I7 (w:World):Prop where
  pow:Lib.TabIs Tryz.prog w "internal/strconv.uint64pow10" .u64 Lib.pow10Tab
  most:∃ m,w.cell? ⟨1,0,none⟩=some (.int .i64 m)
  syn:∃ tp p,w.var? Tryz.prog "strconv.ErrSyntax"=some #[.iface tp p]
  rng:∃ tp p,w.var? Tryz.prog "strconv.ErrRange"=some #[.iface tp p]
  ops:Kd.C Kd.string w uQ opsL.length opsL
theorem var_below {w w1:World} {n:String} {g:Nat} {cs:Array Value} (hg:Tryz.prog.globalNamed n=some g) (hb:Below w.heap.size w w1) (h:w.var? Tryz.prog n=some cs):w1.var? Tryz.prog n=some cs:=by
  unfold World.var? at h ⊢
  rw [hg] at h ⊢
  simp only [Option.bind_some] at h ⊢
  have hlt:g < w.heap.size:=by
    rcases Nat.lt_or_ge g w.heap.size with h1|h1
    · exact h1
    · rw [Array.getElem?_eq_none h1] at h
      cases h
  rw [hb.block g hlt]
  exact h
theorem Ea {w w1:World} (hb:Below w.heap.size w w1) (h:I7 w):I7 w1:=by
  refine ⟨var_below gTab hb h.pow,?_,?_,?_,Kd.gY h.ops hb⟩
  · obtain ⟨m,hm⟩:=h.most
    exact ⟨m,(hb.cell (p:=⟨1,0,none⟩) (World.block_lt_of_cell? w _ hm)).trans hm⟩
  · obtain ⟨tp,p,hp⟩:=h.syn
    exact ⟨tp,p,var_below abX hb hp⟩
  · obtain ⟨tp,p,hp⟩:=h.rng
    exact ⟨tp,p,var_below abY hb hp⟩
abbrev xE:Kd Unit where
  sz:=1
  E:=[]
  K:=fun w _ cs=>cs=[.int .u64 1]∧I7 w
  M:=fun _ _ _ _ _=>False
  pV:=fun h=>by rw [h.1];rfl
  pG:=fun h u hu=>by
    rw [h.1] at hu
    rw [List.mem_singleton.1 hu]
    rfl
  mP:=fun hb h=>⟨h.1,Ea hb h.2⟩
  lL:=fun h=>h.elim
  jA:=fun _ h=>h
  jS:=fun h=>h
  nS:=fun _ h=>h
  mO:=fun _ h=>h
def xG:Option Addr:=some ⟨2,0,none⟩
def oL:List Unit:=[()]
theorem Y9 {w:World} (h:I7 w):Kd.C xE w xG oL.length oL:=by
  refine ⟨rfl,by decide,fun _=>⟨_,rfl,fun j p hj=>⟨[.int .u64 1],rfl,⟨rfl,h⟩,fun i u hu=>?_⟩⟩⟩
  have hj0:j=0:=by
    have:=(List.getElem?_eq_some_iff.1 hj).1
    have h1:oL.length=1:=rfl
    omega
  have hi:i=0:=by
    have:=(List.getElem?_eq_some_iff.1 hu).1
    simp at this
    exact this
  subst hj0 hi
  simp at hu
  subst hu
  exact h.pow.cell gTab 0 (by decide)
theorem xC {w:World} (h:Kd.C xE w xG oL.length oL):I7 w:=by
  obtain ⟨_,_,hc⟩:=h
  obtain ⟨_,_,hc⟩:=hc (by decide)
  obtain ⟨_,_,hk,_⟩:=hc 0 () rfl
  exact hk.2
def jI.f (n b:Int):Option ByteArray :=
  if b=10 then (if -9223372036854775808≤n∧n≤9223372036854775807 then some ⟨(Lib.itoa n).toArray⟩ else none) else none
theorem O0 (n:Int) (h0:-9223372036854775808≤n) (h1:n≤9223372036854775807) (w:World) (h:I7 w) :
    Calls Tryz.prog 55 #[.int .i64 n,.int .i64 10] w fun e w'=>e=.returned (.string ⟨(Lib.itoa n).toArray⟩)∧Below w.heap.size w w':=by
  refine (Any.internal_strconv_FormatInt_10 Tryz.laysM246 n h0 h1 w h.pow).mono ?_
  rintro e w' ⟨rfl,k,os,rfl⟩
  refine ⟨rfl,?_⟩
  have h1:Below w.heap.size w (w.drewN k):=by
    exact af (Below.refl _ _) k
  refine ⟨h1.os,h1.tape,h1.output,?_,fun i hi=>?_⟩
  · have:=h1.size
    unfold grow
    simp only [Array.size_append]
    omega
  · have:=h1.block i hi
    have hs:=h1.size
    rw [← this]
    unfold grow
    exact Array.getElem?_append_left (by omega)
set_option maxRecDepth 100000 in
set_option maxHeartbeats 3200000 in
theorem jI.calls (a0 a1:Int) (r:ByteArray) (w:World) (lC:Kd.C xE w xG oL.length oL) (h:jI.f a0 a1=some r) :
    Calls Tryz.prog 38 #[.int .i64 a0,.int .i64 a1] w fun e w'=>e=.returned (.string r)∧Below w.heap.size w w':=by
  unfold jI.f at h
  by_cases hb:a1=10
  · rw [if_pos hb] at h
    by_cases hn:-9223372036854775808≤a0∧a0≤9223372036854775807
    · rw [if_pos hn] at h
      obtain rfl:=Option.some.inj h
      subst hb
      have ht:=xC lC
      clear lC h
      go_enter Tryz.func38,Tryz.ntmps38
      go_wp2_with (go_at_call 55;refine (O0 a0 hn.1 hn.2 _ ht).mono ?_;rintro e w' ⟨rfl,bel⟩)
      all_goals go_ret
      all_goals exact ⟨rfl,bel⟩
    · rw [if_neg hn] at h
      cases h
  · rw [if_neg hb] at h
    cases h
def strings_Split.f (s sep:ByteArray):Option (List ByteArray) :=
  if s.size < 4294967281∧1≤sep.size then some (Lib.splitB sep 0 (Lib.countB s sep) s) else none
theorem strings_Split.calls (a0 a1:ByteArray) (r:List ByteArray) (w:World) (lC:Kd.C xE w xG oL.length oL) (h:strings_Split.f a0 a1=some r) :
    Calls Tryz.prog 49 #[.string a0,.string a1] w fun e w'=>∃ Df:Value,e=.returned (Df)∧Kd.R Kd.string 9 w' w.heap.size (fun _=>True) Df r∧Below w.heap.size w w':=by
  unfold strings_Split.f at h
  by_cases hc:a0.size < 4294967281∧1≤a1.size
  · rw [if_pos hc] at h
    obtain rfl:=Option.some.inj h
    obtain ⟨m,hm⟩:=(xC lC).most
    refine (Any.strings_Split { Tryz.laysM146 with } Tryz.laysM146.i9 a0 a1 m w hc.1 hm hc.2).mono ?_
    rintro e w' ⟨rfl,rfl⟩
    have hlen:=Lib.splitB_all a1 hc.2 0 (Lib.countB a0 a1) a0 rfl
    have hle:=Lib.countB_le a1 hc.2 a0.size a0 (Nat.le_refl _)
    refine ⟨_,rfl,?_,(Below.refl _ w).alloc (Nat.le_refl _) _⟩
    rw [← hlen]
    exact ⟨fun _ _=>trivial,kY.lit w w.heap.size (Kd.Bo (enc:=Value.string) _) (Nat.le_refl _) (by rw [hlen];omega)⟩
  · rw [if_neg hc] at h
    cases h
def strings_Cut.f (s sep:ByteArray):Option (ByteArray × ByteArray × Bool) :=
  if s.size < 4294967281 then some (⟨(Lib.cut s.data.toList sep.data.toList).1.toArray⟩,⟨(Lib.cut s.data.toList sep.data.toList).2.1.toArray⟩,(Lib.cut s.data.toList sep.data.toList).2.2) else none
theorem strings_Cut.calls (a0 a1 r1 r2:ByteArray) (r3:Bool) (w:World) (lC:Kd.C xE w xG oL.length oL) (h:strings_Cut.f a0 a1=some (r1,r2,r3)) :
    Calls Tryz.prog 50 #[.string a0,.string a1] w fun e w'=>e=.returned (.tuple #[.string r1,.string r2,.bool r3])∧Below w.heap.size w w':=by
  unfold strings_Cut.f at h
  by_cases hc:a0.size < 4294967281
  · rw [if_pos hc] at h
    have h1:=Option.some.inj h
    simp only [Prod.mk.injEq] at h1
    obtain ⟨rfl,rfl,rfl⟩:=h1
    obtain ⟨m,hm⟩:=(xC lC).most
    refine (Any.strings_Cut { Tryz.Qj with } a0 a1 m w hc hm).mono ?_
    rintro e w' ⟨rfl,n,rfl⟩
    exact ⟨rfl,af (Below.refl _ _) n⟩
  · rw [if_neg hc] at h
    cases h
def jw.f (s cs:ByteArray):Option ByteArray :=
  if s.size≤9223372036854775807∧cs.size < 4294967281∧cs.data.toList.all (fun b=>decide (b.toNat < 128))=true then some ⟨(Lib.trimS s.data.toList cs.data.toList).toArray⟩ else none
theorem jw.calls (a0 a1 r:ByteArray) (w:World) (h:jw.f a0 a1=some r) :
    Calls Tryz.prog 54 #[.string a0,.string a1] w fun e w'=>e=.returned (.string r)∧Below w.heap.size w w':=by
  unfold jw.f at h
  by_cases hc:a0.size≤9223372036854775807∧a1.size < 4294967281∧a1.data.toList.all (fun b=>decide (b.toNat < 128))=true
  · rw [if_pos hc] at h
    obtain rfl:=Option.some.inj h
    exact Any.strings_Trim_laid Tryz.lays160 (by kernel_rfl) a0 a1 w hc.1 hc.2.1 (ascii_of_all hc.2.2)
  · rw [if_neg hc] at h
    cases h
end Go.Proofs.YtkclndkbccbhaaaGreatDoor.P
end
section
namespace Go.Proofs
open Go.Shelf
shelf_lay Lays.n156 Nm 156 at Tryz as Tryz.lays156
shelf_lay Lays.n169 Nm 169 at Tryz as Tryz.lays169
theorem Tryz.lays166:Lays.n166 Tryz.prog Tryz.lays156_ren:={ Tryz.lays156 with }
def Tryz.PV:Ren:={ Tryz.lays156_ren with f:=fun x=>if x=167 then 41 else Tryz.lays156_ren.f x }
theorem Tryz.lays167:Lays.n167 Tryz.prog Tryz.PV where
  mixed:=Tryz.lays156.mixed
  f167:=by kernel_rfl
  f240:=by kernel_rfl
  f276:=by kernel_rfl
  t0:=Tryz.lays156.t0
  a0:=Tryz.lays156.a0
  z0:=Tryz.lays156.z0
  v0:=Tryz.lays156.v0
  t4:=Tryz.lays156.t4
  a4:=Tryz.lays156.a4
  z4:=Tryz.lays156.z4
  v4:=Tryz.lays156.v4
  t5:=Tryz.underlying5
  a5:=Tryz.isAgg5
  z5:=Tryz.sizeOf5
  v5:=Tryz.zeroValue5
  t9:=Tryz.lays156.t9
  a9:=Tryz.lays156.a9
  z9:=Tryz.lays156.z9
  v9:=Tryz.lays156.v9
  t20:=Tryz.lays156.t20
  a20:=Tryz.lays156.a20
  z20:=Tryz.lays156.z20
  v20:=Tryz.lays156.v20
  t37:=Tryz.lays156.t37
  a37:=Tryz.lays156.a37
  z37:=Tryz.lays156.z37
  v37:=Tryz.lays156.v37
  t70:=Tryz.lays156.t70
  a70:=Tryz.lays156.a70
  z70:=Tryz.lays156.z70
  v70:=Tryz.lays156.v70
  t72:=Tryz.lays156.t72
  a72:=Tryz.lays156.a72
  z72:=Tryz.lays156.z72
  v72:=Tryz.lays156.v72
  t75:=Tryz.lays156.t75
  a75:=Tryz.lays156.a75
  z75:=Tryz.lays156.z75
  v75:=Tryz.lays156.v75
  t164:=Tryz.lays156.t164
  a164:=Tryz.lays156.a164
  z164:=Tryz.lays156.z164
  v164:=Tryz.lays156.v164
theorem Tryz.DY:Builder.Extra Tryz.prog Tryz.lays156_ren where
  sizeBuilder:=by kernel_rfl
  liesBuilder:=by kernel_rfl
  t5:=Tryz.underlying5
  a5:=Tryz.isAgg5
  z5:=Tryz.sizeOf5
  v5:=Tryz.zeroValue5
  infoByte:=by kernel_rfl
  cellsByte:=by kernel_rfl
  sizeByte:=by kernel_rfl
  neB5:=by decide
theorem Tryz.Rx:Builder.Extra Tryz.prog Tryz.PV where
  sizeBuilder:=by kernel_rfl
  liesBuilder:=by kernel_rfl
  t5:=Tryz.underlying5
  a5:=Tryz.isAgg5
  z5:=Tryz.sizeOf5
  v5:=Tryz.zeroValue5
  infoByte:=by kernel_rfl
  cellsByte:=by kernel_rfl
  sizeByte:=by kernel_rfl
  neB5:=by decide
theorem Tryz.Rw:Builder.Extra Tryz.prog Tryz.lays169_ren where
  sizeBuilder:=by kernel_rfl
  liesBuilder:=by kernel_rfl
  t5:=Tryz.underlying5
  a5:=Tryz.isAgg5
  z5:=Tryz.sizeOf5
  v5:=Tryz.zeroValue5
  infoByte:=by kernel_rfl
  cellsByte:=by kernel_rfl
  sizeByte:=by kernel_rfl
  neB5:=by decide
end Go.Proofs
namespace Go.Proofs.YtkclndkbccbhaaaGreatDoor.P
open Go.RowKit Go.Sort Go.Lib Go.Proofs.ag.bK Go.Proofs.ag.dV Go.Proofs.ag.fE
attribute [local go_sem ↓] Go.wp_at_zero Go.wp_at_succ
def Yd (x:List ByteArray):List UInt8:=Lib.join (x.map (·.data.toList)) [32]++[10]
def rQ (l:List (List ByteArray)):List UInt8:=(l.map Yd).flatten
theorem JP (l:List (List ByteArray)) (i:Nat) (x:List ByteArray) (h:l[i]? = some x):rQ (l.take (i+1))=rQ (l.take i)++Lib.join (x.map (·.data.toList)) [32]++[10]:=by
  unfold rQ
  rw [List.take_add_one,h]
  simp [Yd]
theorem Qm (l:List (List ByteArray)) (i:Nat):(rQ (l.take i)).length≤(rQ l).length:=by
  conv=>rhs;rw [← List.take_append_drop i l]
  unfold rQ
  rw [List.map_append,List.flatten_append,List.length_append]
  omega
def uX.f (l:List (List ByteArray)):Option ByteArray :=
  if l.length≤140737488355328∧(∀ x ∈ l,x.length≤140737488355328)∧(rQ l).length≤140737488355328 then some ⟨(rQ l).toArray⟩ else none
theorem Ox {T e:TypeId} {B b:Nat} {bs:List Value} {w w1:World} (hb:Below w.heap.size w w1) (h:Lib.IsBuilder T e B b bs w):Lib.IsBuilder T e B b bs w1:=by
  have at_:∀ p,Lib.BuilderAt T e B b p bs w→Lib.BuilderAt T e B b p bs w1:=by
    rintro p h
    have hlt:=h.lt
    obtain ⟨hB,v,hv,hown,hne⟩:=h
    exact ⟨hB,v,(hb.block b hlt).trans hv,Ic hown (fun k hk=>hb.block k (JH hown k hk)),hne⟩
  rcases h with h|h
  · exact Or.inl (at_ _ h)
  · exact Or.inr (at_ _ h)
theorem XI {w:World} {ad:Addr} {v:Value} (h:w.cell? ad=some v):ad=⟨ad.block,ad.off,none⟩:=by
  obtain ⟨b,o,s⟩:=ad
  cases s with
  | none=>rfl
  | some s =>
    exfalso
    simp only [World.cell?,Option.isSome_some] at h
    revert h
    split <;> simp
theorem RJ {w:World} {b o:Nat} {x:List ByteArray} (hx:Kd.C Kd.string w (some ⟨b,o,none⟩) x.length x) (j:Nat) (z:ByteArray) (hz:x[j]? = some z):w.cell? ⟨b,o+j,none⟩=some (.string z):=by
  have hj:j < x.length:=(List.getElem?_eq_some_iff.1 hz).1
  obtain ⟨ad',e1,h1⟩:=Kd.fO hx (j:Int) (by omega) (by omega)
  injection e1 with e1
  subst e1
  have e2:eF ByteArray.empty x (j:Int)=z:=by
    unfold eF
    rw [Int.toNat_natCast,List.getD_eq_getElem?_getD,hz]
    rfl
  rw [e2,Int.toNat_natCast] at h1
  have e3:Addr.add ⟨b,o,none⟩ j=⟨b,o+j,none⟩:=by
    unfold Addr.add
    split
    · rename_i h;subst h;rfl
    · rfl
  rw [← e3]
  exact h1
theorem JM (A:Option Addr) (c:Nat) (x:List ByteArray) (w:World) (hx:Kd.C Kd.string w A x.length x) (hc:x.length≤c) (hN:x.length≤140737488355328) (hl:(Lib.join (x.map (·.data.toList)) [32]).length≤140737488355328) :
    Calls Tryz.prog 40 #[.slice A x.length c,.string ⟨#[32]⟩] w fun e w'=>e=.returned (.string ⟨(Lib.join (x.map (·.data.toList)) [32]).toArray⟩)∧Below w.heap.size w w':=by
  by_cases h0:x=[]
  · subst h0
    exact (Any.strings_Join_none Tryz.lays156 Tryz.DY A c ⟨#[32]⟩ w).mono fun e w' ⟨he,hw⟩=>⟨he,hw ▸ Below.refl _ _⟩
  · have hp:0 < x.length:=List.length_pos_iff.2 h0
    obtain ⟨ad,e0,hy⟩:=Kd.fO hx 0 (by omega) (by omega)
    have ha:=XI (ad:=ad) hy
    subst e0
    obtain ⟨b,o,s⟩:=ad
    simp only [Addr.mk.injEq,true_and] at ha
    subst ha
    exact Any.strings_Join Tryz.lays156 Tryz.DY b o c x ⟨#[32]⟩ w (RJ hx) (World.block_lt_of_cell? w ⟨b,o,none⟩ hy) hN hc hl
theorem Dk (s:List UInt8):Lib.strCells ⟨s.toArray⟩=Lib.byteCells s:=by
  rw [Lib.strCells_eq]
set_option maxRecDepth 100000 in
set_option maxHeartbeats 3200000 in
theorem uX.calls (A0:Option Addr) (c0:Nat) (l0:List (List ByteArray)) (r:ByteArray) (w:World) (hr0:Kd.C (Kd.slice 9 Kd.string) w A0 l0.length l0) (hc0:l0.length≤c0) (h:uX.f l0=some r) :
    Calls Tryz.prog 21 #[.slice A0 l0.length c0] w fun e w'=>e=.returned (.string r)∧Below w.heap.size w w':=by
  unfold uX.f at h
  by_cases hcnd:l0.length≤140737488355328∧(∀ x ∈ l0,x.length≤140737488355328)∧(rQ l0).length≤140737488355328
  · rw [if_pos hcnd] at h
    obtain rfl:=Option.some.inj h
    clear h
    obtain ⟨hn,hxs,hlen⟩:=hcnd
    have HXS:=ae.mk hxs
    have HR0:=ae.mk hr0
    clear hxs hr0
    have h0:Lib.IsBuilder 75 5 w.heap.size w.heap.size [] (w.alloc (.cells #[.pointer none,.slice none 0 0] 75)):=Lib.fresh_isBuilder 75 5 w
    have b0:Below w.heap.size w (w.alloc (.cells #[.pointer none,.slice none 0 0] 75)):=(Below.refl _ w).alloc (Nat.le_refl _) _
    have H0:=ae.mk h0
    have B0:=ae.mk b0
    clear h0 b0
    have HN:=ae.mk hlen
    clear hlen
    go_enter Tryz.func21,Tryz.ntmps21
    go_wp2
    go_loopw [8] (fun v8 w'=>∃ i:Nat,i≤l0.length∧v8=.int .i64 i∧ae (Lib.IsBuilder 75 5 w.heap.size w.heap.size (Lib.byteCells (rQ (l0.take i))) w')∧ae (Below w.heap.size w w')) (fun v8 _=>l0.length - (RowKit.intOf v8).toNat)
    case atStart=>exact ⟨0,Nat.zero_le _,rfl,H0,B0⟩
    case round =>
      obtain ⟨i,hi,rfl,HB,HW⟩:=hrel
      clear H0 B0
      by_cases hlt:i < l0.length
      · obtain ⟨x,hx⟩:∃ x,l0[i]? = some x:=⟨_,List.getElem?_eq_getElem hlt⟩
        have hxm:x ∈ l0:=List.mem_of_getElem? hx
        have HT:=ae.mk (JP l0 i x hx)
        have HX:=ae.mk hx
        have hxl:=HXS.out x hxm
        clear hxm hx
        have e1:dZ l0 (i:Int)=x:=by
          unfold dZ
          rw [Int.toNat_natCast,List.getD_eq_getElem?_getD,HX.out]
          rfl
        obtain ⟨ad,A1,c1,e0,hc1,hl1,hi1⟩:=rX (Kd.gY HR0.out HW.out) (i:Int) (by omega) (by omega)
        subst e0
        rw [e1] at hc1 hl1 hi1
        rw [Int.toNat_natCast] at hc1
        clear e1
        have HI1:=ae.mk hi1
        clear hi1
        have hj:(Lib.join (x.map (·.data.toList)) [32]).length+(rQ (l0.take i)).length+1≤140737488355328:=by
          have h1:=Qm l0 (i+1)
          rw [HT.out] at h1
          have:=HN.out
          simp only [List.length_append,List.length_cons,List.length_nil] at h1
          omega
        generalize hjg:Lib.join (x.map (·.data.toList)) [32]=jx at hj
        have HJ:=ae.mk hjg
        clear hjg
        have hwz:=HW.out.size
        go_wp2_with (go_at_call 40;refine (JM A1 c1 x _ HI1.out hl1 hxl (by rw [HJ.out];omega)).mono ?_)
        rintro e W1 ⟨rfl,b1⟩
        rw [HJ.out]
        have HB1:=Ox b1 HB.out
        have hz1:=b1.size
        have es:(⟨jx.toArray⟩:ByteArray).size=jx.length:=by simp [ByteArray.size]
        go_wp2_with (go_at_call 39;refine (Any.Builder_WriteString Tryz.lays166 Tryz.DY w.heap.size w.heap.size _ ⟨jx.toArray⟩ W1 HB1 (by rw [Lib.byteCells_length,es];omega) (by omega)).mono ?_)
        rintro e W2 ⟨rfl,hb2,b2⟩
        have HB2:ae (Lib.IsBuilder 75 5 w.heap.size w.heap.size (Lib.byteCells (rQ (l0.take i)++jx)) W2):=⟨by
          rw [Dk,← Lib.byteCells_append] at hb2
          exact Or.inr hb2⟩
        clear hb2
        have hz2:=b2.size
        go_wp2_with (go_at_call 41;refine (Any.Builder_WriteByte Tryz.lays167 Tryz.Rx w.heap.size w.heap.size _ 10 W2 HB2.out (by rw [Lib.byteCells_length,List.length_append];omega) (by omega)).mono ?_)
        rintro e W3 ⟨rfl,hb3,b3⟩
        have HB3:ae (Lib.IsBuilder 75 5 w.heap.size w.heap.size (Lib.byteCells (rQ (l0.take (i+1)))) W3):=⟨by
          have e10:(Lib.byteCells (rQ (l0.take i)++jx)++[Value.int .u8 10])=Lib.byteCells (rQ (l0.take (i+1))):=by
            rw [HT.out,HJ.out,Lib.byteCells_append _ [10]]
            rfl
          rw [← e10]
          exact Or.inr hb3⟩
        clear hb3
        have HW3:ae (Below w.heap.size w W3):=⟨((HW.out.trans (b1.mono hwz)).trans b2).trans b3⟩
        clear b1 b2 b3 HB HB1 HB2 HW hc1
        go_wp2
        go_roundw
        case rel=>exact ⟨i+1,by omega,by go_num,HB3,HW3⟩
        case measure=>simp [RowKit.intOf];omega
      · have e:i=l0.length:=by omega
        subst e
        have HB1:ae (Lib.IsBuilder 75 5 w.heap.size w.heap.size (Lib.byteCells (rQ l0)) _):=⟨by
          have:=HB.out
          rw [List.take_length] at this
          exact this⟩
        clear HB
        have hwz:=HW.out.size
        go_wp2_with (go_at_call 42;refine (Any.Builder_String_any Tryz.lays169 Tryz.Rw w.heap.size w.heap.size (rQ l0) _ HB1.out hwz).mono ?_)
        rintro e W2 ⟨rfl,b2⟩
        go_wp2
        go_ret
        exact ⟨rfl,HW.out.trans b2⟩
  · rw [if_neg hcnd] at h
    cases h
end Go.Proofs.YtkclndkbccbhaaaGreatDoor.P
end
section
namespace Go.Proofs
open Go.Shelf
shelf_lay Lays.n101 Nm 101 at Tryz as Tryz.lays101
shelf_lay LaysC.n174 Nm 174 at Tryz as Tryz.DR
end Go.Proofs
namespace Go.Proofs.YtkclndkbccbhaaaGreatDoor.P
open Go.RowKit Go.Sort Go.Lib Go.Proofs.ag.bK Go.Proofs.ag.dV Go.Proofs.ag.fE
attribute [local go_sem ↓] Go.wp_at_zero Go.wp_at_succ
def unsigned (w:List UInt8):List UInt8:=Lib.trimPrefix w [45]
def rM (w:List UInt8):Bool:=!(unsigned w).isEmpty && (Lib.trimS (unsigned w) [48,49,50,51,52,53,54,55,56,57]).isEmpty && !((unsigned w).head? == some 48 && !(w == [48]))
def numOf (w:List UInt8):Int × Int:=match Lib.parseIntB 64 w with
  | .ok v=>(v,0)
  | _=>(0,3)
def nX.f (w:ByteArray):Option (Int × Int) :=
  if w.size≤281474976 then (if rM w.data.toList then some (numOf w.data.toList) else some (0,4)) else none
theorem trimPrefix_le (l p:List UInt8):(Lib.trimPrefix l p).length≤l.length:=by
  unfold Lib.trimPrefix
  split
  · rw [List.length_drop];omega
  · exact Nat.le_refl _
theorem xQ (s:ByteArray):∀ W,Calls Tryz.prog 63 #[.string s,.string ⟨#[45]⟩] W fun e w'=>e=.returned (.string ⟨(unsigned s.data.toList).toArray⟩)∧W=w':=fun W =>
  (Any.strings_TrimPrefix Tryz.lays101 s ⟨#[45]⟩ W).mono fun e w' ⟨he,hw⟩=>⟨he,hw.symm⟩
theorem GN (s:ByteArray) (d t:List UInt8) (hs:s.size≤281474976) (hd:unsigned s.data.toList=d) (ht:Lib.trimS d [48,49,50,51,52,53,54,55,56,57]=t) :
    ∀ W,Calls Tryz.prog 54 #[.string ⟨d.toArray⟩,.string ⟨#[48,49,50,51,52,53,54,55,56,57]⟩] W fun e w'=>e=.returned (.string ⟨t.toArray⟩)∧Below W.heap.size W w':=fun W=>by
  have h1:=trimPrefix_le s.data.toList [45]
  have h2:(unsigned s.data.toList).length≤s.data.toList.length:=h1
  rw [hd,← Lib.size_eq] at h2
  refine (jw.calls _ _ ⟨(Lib.trimS d [48,49,50,51,52,53,54,55,56,57]).toArray⟩ W ?_).mono fun e w' h=>?_
  · unfold jw.f
    rw [if_pos]
    refine ⟨?_,by decide,by decide⟩
    show d.toArray.size≤_
    rw [List.size_toArray]
    omega
  · rw [ht] at h
    exact h
theorem XE (s:ByteArray) (v:Int) (hs:s.size≤281474976) (hv:Lib.parseIntB 64 s.data.toList=.ok v) :
    ∀ W,Calls Tryz.prog 64 #[.string s,.int .i64 10,.int .i64 64] W fun e w'=>e=.returned (.tuple #[.int .i64 v,.nilIface])∧Below W.heap.size W w':=fun W=>by
  refine (Any.strconv_ParseInt_10_at64_ok Tryz.DR s (by omega) v hv W).mono ?_
  rintro e w' ⟨he,rfl|⟨t,rfl⟩⟩
  · exact ⟨he,Below.refl _ _⟩
  · exact ⟨he,Lib.bytesWorld_below _ _ _⟩
def XL (W:World) (e:Ending) (w':World):Prop:=∃ (n:Int) (t:TypeId) (b:Nat),e=.returned (.tuple #[.int .i64 n,.iface t (.pointer (some ⟨b,0,none⟩))])∧Below W.heap.size W w'
theorem aan (s:ByteArray) (hs:s.size≤281474976) (hv:∀ v,Lib.parseIntB 64 s.data.toList ≠ .ok v) (W:World) (ht:I7 W) :
    Calls Tryz.prog 64 #[.string s,.int .i64 10,.int .i64 64] W (XL W):=by
  match h:Lib.parseIntB 64 s.data.toList with
  | .ok v=>exact absurd h (hv v)
  | .«syntax» =>
    obtain ⟨tp,p,hp⟩:=ht.syn
    refine (Any.strconv_ParseInt_10_at64_syntax_var Tryz.DR s (by omega) h tp p W hp).mono ?_
    rintro e w' ⟨b,he,_,_,hb⟩
    exact ⟨_,_,b,he,hb⟩
  | .range =>
    obtain ⟨tp,p,hp⟩:=ht.rng
    refine (Any.strconv_ParseInt_10_at64_range_var Tryz.DR s (by omega) h tp p W hp).mono ?_
    rintro e w' ⟨b,he,_,_,hb⟩
    exact ⟨_,_,b,he,hb⟩
set_option maxRecDepth 100000 in
set_option maxHeartbeats 3200000 in
theorem Ig (s:ByteArray) (w:World) (h0:unsigned s.data.toList=[]) :
    Calls Tryz.prog 53 #[.string s] w fun e w'=>e=.returned (.tuple #[.int .i64 0,.int .i64 4])∧Below w.heap.size w w':=by
  have c29:=xQ s
  rw [h0] at c29
  have X0:=Lib.hid c29
  clear c29 h0
  go_enter Tryz.func53,Tryz.ntmps53
  go_wp2_with (go_at_call 63;refine (X0.out _).mono ?_;rintro e w' ⟨rfl,rfl⟩)
  go_ret2
  exact ⟨rfl,Below.refl _ _⟩
set_option maxRecDepth 100000 in
set_option maxHeartbeats 3200000 in
theorem Ih (s:ByteArray) (w:World) (hs:s.size≤281474976) (c:UInt8) (d:List UInt8) (h0:unsigned s.data.toList=c :: d) (x:UInt8) (t:List UInt8) (ht:Lib.trimS (c :: d) [48,49,50,51,52,53,54,55,56,57]=x :: t) :
    Calls Tryz.prog 53 #[.string s] w fun e w'=>e=.returned (.tuple #[.int .i64 0,.int .i64 4])∧Below w.heap.size w w':=by
  have c29:=xQ s
  have RV:=GN s (c :: d) (x :: t) hs h0 ht
  rw [h0] at c29
  have X0:=Lib.hid c29
  have C30:=Lib.hid RV
  clear c29 RV h0 ht
  go_enter Tryz.func53,Tryz.ntmps53
  go_wp2_with (first|(go_at_call 63;refine (X0.out _).mono ?_;rintro e w' ⟨rfl,rfl⟩)|(go_at_call 54;refine (C30.out _).mono ?_;rintro e w' ⟨rfl,hb⟩))
  go_ret2
  exact ⟨rfl,hb⟩
theorem Sm {s:ByteArray} {c:UInt8} {d:List UInt8} {p:0 < (⟨(c :: d).toArray⟩:ByteArray).size} (h1:(((⟨(c :: d).toArray⟩:ByteArray)[0]'p).toNat:Int)=48) (h2:(!s.toList == [48])=true) (hg:¬ (c=48∧s.data.toList ≠ [48])):False:=by
  have h1':((c.toNat:Nat):Int)=48:=h1
  refine hg ⟨UInt8.toNat_inj.1 (by show c.toNat=48;omega),fun e=>?_⟩
  rw [ByteArray.toList_eq,e] at h2
  exact absurd h2 (by decide)
theorem Ug {s:ByteArray} (hn:s.data.toList ≠ [48]):(!s.toList == [48])=true:=by
  rw [ByteArray.toList_eq]
  simpa using hn
set_option maxRecDepth 100000 in
set_option maxHeartbeats 3200000 in
theorem Ie (s:ByteArray) (w:World) (hs:s.size≤281474976) (d:List UInt8) (h0:unsigned s.data.toList=48 :: d) (ht:Lib.trimS (48 :: d) [48,49,50,51,52,53,54,55,56,57]=[]) (hn:s.data.toList ≠ [48]) :
    Calls Tryz.prog 53 #[.string s] w fun e w'=>e=.returned (.tuple #[.int .i64 0,.int .i64 4])∧Below w.heap.size w w':=by
  have c29:=xQ s
  have RV:=GN s (48 :: d) [] hs h0 ht
  rw [h0] at c29
  have X0:=Lib.hid c29
  have C30:=Lib.hid RV
  have hq:=Ug hn
  clear c29 RV h0 ht
  go_enter Tryz.func53,Tryz.ntmps53
  go_wp2_with (first|(go_at_call 63;refine (X0.out _).mono ?_;rintro e w' ⟨rfl,rfl⟩)|(go_at_call 54;refine (C30.out _).mono ?_;rintro e w' ⟨rfl,hb⟩))
  all_goals first|(go_ret2;exact ⟨rfl,hb⟩)|(exfalso;rename_i h1 h2;first|exact absurd h1 (by decide)|exact absurd h2 (by decide)|(rw [hq] at h2;cases h2)|exact absurd rfl h2|exact absurd rfl h1)
set_option maxRecDepth 100000 in
set_option maxHeartbeats 3200000 in
theorem Oi (s:ByteArray) (w:World) (hs:s.size≤281474976) (c:UInt8) (d:List UInt8) (h0:unsigned s.data.toList=c :: d) (ht:Lib.trimS (c :: d) [48,49,50,51,52,53,54,55,56,57]=[]) (hg:¬ (c=48∧s.data.toList ≠ [48])) (v:Int) (hv:Lib.parseIntB 64 s.data.toList=.ok v) :
    Calls Tryz.prog 53 #[.string s] w fun e w'=>e=.returned (.tuple #[.int .i64 v,.int .i64 0])∧Below w.heap.size w w':=by
  have c29:=xQ s
  have RV:=GN s (c :: d) [] hs h0 ht
  have c31:=XE s v hs hv
  rw [h0] at c29
  have X0:=Lib.hid c29
  have C30:=Lib.hid RV
  have C31:=Lib.hid c31
  have HG:=Lib.hid hg
  clear c29 RV c31 h0 ht hv hg
  go_enter Tryz.func53,Tryz.ntmps53
  go_wp2_with (first|(go_at_call 63;refine (X0.out _).mono ?_;rintro e w' ⟨rfl,rfl⟩)|(go_at_call 54;refine (C30.out _).mono ?_;rintro e w' ⟨rfl,hb⟩)|(go_at_call 64;refine (C31.out _).mono ?_;rintro e w' ⟨rfl,hb1⟩))
  all_goals first|(rename_i h1 h2;exact (Sm h1 h2 HG.out).elim)|(go_ret2;exact ⟨rfl,hb.trans (hb1.mono hb.size)⟩)
set_option maxRecDepth 100000 in
set_option maxHeartbeats 3200000 in
theorem DF (s:ByteArray) (w:World) (HT:ae (I7 w)) (hs:s.size≤281474976) (c:UInt8) (d:List UInt8) (h0:unsigned s.data.toList=c :: d) (ht:Lib.trimS (c :: d) [48,49,50,51,52,53,54,55,56,57]=[]) (hg:¬ (c=48∧s.data.toList ≠ [48])) (hv:∀ v,Lib.parseIntB 64 s.data.toList ≠ .ok v) :
    Calls Tryz.prog 53 #[.string s] w fun e w'=>e=.returned (.tuple #[.int .i64 0,.int .i64 3])∧Below w.heap.size w w':=by
  have c29:=xQ s
  have RV:=GN s (c :: d) [] hs h0 ht
  have c31:=aan s hs hv
  rw [h0] at c29
  have X0:=Lib.hid c29
  have C30:=Lib.hid RV
  have C31:=Lib.hid c31
  have HG:=Lib.hid hg
  clear c29 RV c31 h0 ht hv hg
  go_enter Tryz.func53,Tryz.ntmps53
  go_wp2_with (first|(go_at_call 63;refine (X0.out _).mono ?_;rintro e w' ⟨rfl,rfl⟩)|(go_at_call 54;refine (C30.out _).mono ?_;rintro e w' ⟨rfl,hb⟩)|(go_at_call 64;refine (C31.out _ (Ea hb HT.out)).mono ?_;rintro e w' ⟨n1,t1,b1,rfl,hb1⟩))
  all_goals first|(rename_i h1 h2;exact (Sm h1 h2 HG.out).elim)|(go_ret2;exact ⟨rfl,hb.trans (hb1.mono hb.size)⟩)
theorem nX.calls (a0:ByteArray) (r1 r2:Int) (w:World) (lC:Kd.C xE w xG oL.length oL) (h:nX.f a0=some (r1,r2)) :
    Calls Tryz.prog 53 #[.string a0] w fun e w'=>e=.returned (.tuple #[.int .i64 r1,.int .i64 r2])∧Below w.heap.size w w':=by
  unfold nX.f at h
  by_cases hs:a0.size≤281474976
  · rw [if_pos hs] at h
    cases h0:unsigned a0.data.toList with
    | nil =>
      have e:rM a0.data.toList=false:=by simp [rM,h0]
      rw [e] at h
      injection h with h
      injection h with h1 h2
      subst h1 h2
      exact Ig a0 w h0
    | cons c d =>
      cases ht:Lib.trimS (c :: d) [48,49,50,51,52,53,54,55,56,57] with
      | cons x t =>
        have e:rM a0.data.toList=false:=by simp [rM,h0,ht]
        rw [e] at h
        injection h with h
        injection h with h1 h2
        subst h1 h2
        exact Ih a0 w hs c d h0 x t ht
      | nil =>
        by_cases hg:c=48∧a0.data.toList ≠ [48]
        · obtain ⟨rfl,hn⟩:=hg
          have e:rM a0.data.toList=false:=by simp [rM,h0,hn]
          rw [e] at h
          injection h with h
          injection h with h1 h2
          subst h1 h2
          exact Ie a0 w hs d h0 ht hn
        · have e:rM a0.data.toList=true:=by
            unfold rM
            rw [h0,ht]
            by_cases hc:c=48
            · have:a0.data.toList=[48]:=Classical.byContradiction fun hn=>hg ⟨hc,hn⟩
              simp [this]
            · simp [hc]
          rw [e] at h
          injection h with h
          unfold numOf at h
          match hv:Lib.parseIntB 64 a0.data.toList with
          | .ok v =>
            rw [hv] at h
            injection h with h1 h2
            subst h1 h2
            exact Oi a0 w hs c d h0 ht hg v hv
          | .«syntax» =>
            rw [hv] at h
            injection h with h1 h2
            subst h1 h2
            exact DF a0 w ⟨xC lC⟩ hs c d h0 ht hg (fun v e=>by rw [hv] at e;cases e)
          | .range =>
            rw [hv] at h
            injection h with h1 h2
            subst h1 h2
            exact DF a0 w ⟨xC lC⟩ hs c d h0 ht hg (fun v e=>by rw [hv] at e;cases e)
  · rw [if_neg hs] at h
    cases h
end Go.Proofs.YtkclndkbccbhaaaGreatDoor.P
end
section
namespace Go.Proofs.YtkclndkbccbhaaaGreatDoor.P
open Go.RowKit Go.Proofs.ag.bK Go.Proofs.ag.dV Go.Proofs.ag.fE
def letters (o:Int):List UInt8 :=
  if o=1 then [97,110]
  else if o=2 then [97,98,99]
  else if o=3 then [110]
  else if o=4 then [97,110]
  else if o=5 then [97]
  else if o=6 then [97]
  else if o=7 then [97,98]
  else if o=8 then [97,98,110]
  else if o=9 then [97,110,98]
  else if o=10 then [97,98,110]
  else if o=11 then [97,110,98]
  else if o=12 then [97,98]
  else if o=13 then [97,98]
  else if o=14 then [97]
  else if o=15 then [97,98,99]
  else []
def hasB (o:Int) (c:UInt8):Bool:=(letters o).contains c
def ig.f (gW:Int) (bU:Int) (bV:Int) (ik:Int) (iI:Int):Option (Bool) :=
  if gW < 1 then some false else if gW > 15 then some false else
  some ((hasB gW 98 || bV == 0) && (hasB gW 99 || ik == 0) && (hasB gW 110 || iI == 0) && (hasB gW 97 || bU == 0))
theorem dX (s:ByteArray) (c:Int) (w:World):(callFunc 97 #[.string s,.int .u8 c]).run Tryz.prog w=.ok (.value (.int .i64 (Lib.indexByte s.data.toList c.toNat.toUInt8))) w:=by
  rw [run_callFunc_extern Tryz.func97 (by kernel_rfl) (by kernel_rfl) (by kernel_rfl) (e:=Extern.BytealgIndexByte.indexByte) (by kernel_rfl),Lib.run_indexByteString]
  rfl
theorem zJ {w:World} (h:Kd.C Kd.string w uQ opsL.length opsL) (i:Nat) (hi:i < 32):w.cell? ⟨0,i,none⟩=some (.string (opsL.getD i ByteArray.empty)):=by
  obtain ⟨ad,e,hc⟩:=Kd.fO h i (by omega) (by show (i:Int) < 32;omega)
  injection e with e
  subst e
  rw [Int.toNat_natCast] at hc
  rw [show eF ByteArray.empty opsL (i:Int)=opsL.getD i ByteArray.empty from by simp [eF]] at hc
  rw [← hc]
  unfold Addr.add
  split
  · rename_i h0
    subst h0
    rfl
  · simp
theorem kN {w:World} (h:Kd.C Kd.string w uQ opsL.length opsL) (o:Obj) (i:Nat) (hi:i < 32) (s:ByteArray) (hs:opsL.getD i ByteArray.empty=s):(w.alloc o).cell? ⟨0,i,none⟩=some (.string s):=by
  have hc:=zJ h i hi
  rw [World.cell?_alloc_past _ _ _ (World.block_lt_of_cell? w _ hc),hc,hs]
set_option maxRecDepth 100000 in
theorem QZ (w:World):Calls Tryz.prog 26 #[.string ⟨#[97,110]⟩,.string ⟨#[98]⟩] w fun e w'=>e=.returned (.bool false)∧w=w':=by
  have hi:=dX
  go_enter Tryz.func26,Tryz.ntmps26
  go_wp2
  go_ret
  exact ⟨rfl,rfl⟩
theorem vw (p o j:Nat) (hj:j=o * 2+1) (ho:o < 16) (w:World) (hp:w.cell? ⟨p,0,none⟩=some (.int .u8 o)) (ht:w.cell? ⟨0,j,none⟩=some (.string ⟨#[97,110]⟩)):Calls Tryz.prog 25 #[.string ⟨#[98]⟩,.pointer (some ⟨p,0,none⟩)] w fun e w'=>e=.returned (.bool false)∧w=w':=by
  subst hj
  have ho1:(o:Int) < 16:=by omega
  go_enter Tryz.func25,Tryz.ntmps25
  go_wp2_with (go_at_call 26;refine (QZ _).mono ?_;rintro e w' ⟨rfl,rfl⟩)
  go_ret
  exact ⟨rfl,rfl⟩
set_option maxRecDepth 100000 in
theorem QY (w:World):Calls Tryz.prog 26 #[.string ⟨#[97,110]⟩,.string ⟨#[99]⟩] w fun e w'=>e=.returned (.bool false)∧w=w':=by
  have hi:=dX
  go_enter Tryz.func26,Tryz.ntmps26
  go_wp2
  go_ret
  exact ⟨rfl,rfl⟩
theorem zZ (p o j:Nat) (hj:j=o * 2+1) (ho:o < 16) (w:World) (hp:w.cell? ⟨p,0,none⟩=some (.int .u8 o)) (ht:w.cell? ⟨0,j,none⟩=some (.string ⟨#[97,110]⟩)):Calls Tryz.prog 25 #[.string ⟨#[99]⟩,.pointer (some ⟨p,0,none⟩)] w fun e w'=>e=.returned (.bool false)∧w=w':=by
  subst hj
  have ho1:(o:Int) < 16:=by omega
  go_enter Tryz.func25,Tryz.ntmps25
  go_wp2_with (go_at_call 26;refine (QY _).mono ?_;rintro e w' ⟨rfl,rfl⟩)
  go_ret
  exact ⟨rfl,rfl⟩
set_option maxRecDepth 100000 in
theorem QX (w:World):Calls Tryz.prog 26 #[.string ⟨#[97,110]⟩,.string ⟨#[110]⟩] w fun e w'=>e=.returned (.bool true)∧w=w':=by
  have hi:=dX
  go_enter Tryz.func26,Tryz.ntmps26
  go_wp2
  go_ret
  exact ⟨rfl,rfl⟩
theorem II (p o j:Nat) (hj:j=o * 2+1) (ho:o < 16) (w:World) (hp:w.cell? ⟨p,0,none⟩=some (.int .u8 o)) (ht:w.cell? ⟨0,j,none⟩=some (.string ⟨#[97,110]⟩)):Calls Tryz.prog 25 #[.string ⟨#[110]⟩,.pointer (some ⟨p,0,none⟩)] w fun e w'=>e=.returned (.bool true)∧w=w':=by
  subst hj
  have ho1:(o:Int) < 16:=by omega
  go_enter Tryz.func25,Tryz.ntmps25
  go_wp2_with (go_at_call 26;refine (QX _).mono ?_;rintro e w' ⟨rfl,rfl⟩)
  go_ret
  exact ⟨rfl,rfl⟩
set_option maxRecDepth 100000 in
theorem Q3 (w:World):Calls Tryz.prog 26 #[.string ⟨#[97,110]⟩,.string ⟨#[97]⟩] w fun e w'=>e=.returned (.bool true)∧w=w':=by
  have hi:=dX
  go_enter Tryz.func26,Tryz.ntmps26
  go_wp2
  go_ret
  exact ⟨rfl,rfl⟩
theorem IJ (p o j:Nat) (hj:j=o * 2+1) (ho:o < 16) (w:World) (hp:w.cell? ⟨p,0,none⟩=some (.int .u8 o)) (ht:w.cell? ⟨0,j,none⟩=some (.string ⟨#[97,110]⟩)):Calls Tryz.prog 25 #[.string ⟨#[97]⟩,.pointer (some ⟨p,0,none⟩)] w fun e w'=>e=.returned (.bool true)∧w=w':=by
  subst hj
  have ho1:(o:Int) < 16:=by omega
  go_enter Tryz.func25,Tryz.ntmps25
  go_wp2_with (go_at_call 26;refine (Q3 _).mono ?_;rintro e w' ⟨rfl,rfl⟩)
  go_ret
  exact ⟨rfl,rfl⟩
set_option maxRecDepth 100000 in
theorem OW (w:World):Calls Tryz.prog 26 #[.string ⟨#[97,98,99]⟩,.string ⟨#[98]⟩] w fun e w'=>e=.returned (.bool true)∧w=w':=by
  have hi:=dX
  go_enter Tryz.func26,Tryz.ntmps26
  go_wp2
  go_ret
  exact ⟨rfl,rfl⟩
theorem yG (p o j:Nat) (hj:j=o * 2+1) (ho:o < 16) (w:World) (hp:w.cell? ⟨p,0,none⟩=some (.int .u8 o)) (ht:w.cell? ⟨0,j,none⟩=some (.string ⟨#[97,98,99]⟩)):Calls Tryz.prog 25 #[.string ⟨#[98]⟩,.pointer (some ⟨p,0,none⟩)] w fun e w'=>e=.returned (.bool true)∧w=w':=by
  subst hj
  have ho1:(o:Int) < 16:=by omega
  go_enter Tryz.func25,Tryz.ntmps25
  go_wp2_with (go_at_call 26;refine (OW _).mono ?_;rintro e w' ⟨rfl,rfl⟩)
  go_ret
  exact ⟨rfl,rfl⟩
set_option maxRecDepth 100000 in
theorem OV (w:World):Calls Tryz.prog 26 #[.string ⟨#[97,98,99]⟩,.string ⟨#[99]⟩] w fun e w'=>e=.returned (.bool true)∧w=w':=by
  have hi:=dX
  go_enter Tryz.func26,Tryz.ntmps26
  go_wp2
  go_ret
  exact ⟨rfl,rfl⟩
theorem yF (p o j:Nat) (hj:j=o * 2+1) (ho:o < 16) (w:World) (hp:w.cell? ⟨p,0,none⟩=some (.int .u8 o)) (ht:w.cell? ⟨0,j,none⟩=some (.string ⟨#[97,98,99]⟩)):Calls Tryz.prog 25 #[.string ⟨#[99]⟩,.pointer (some ⟨p,0,none⟩)] w fun e w'=>e=.returned (.bool true)∧w=w':=by
  subst hj
  have ho1:(o:Int) < 16:=by omega
  go_enter Tryz.func25,Tryz.ntmps25
  go_wp2_with (go_at_call 26;refine (OV _).mono ?_;rintro e w' ⟨rfl,rfl⟩)
  go_ret
  exact ⟨rfl,rfl⟩
set_option maxRecDepth 100000 in
theorem OU (w:World):Calls Tryz.prog 26 #[.string ⟨#[97,98,99]⟩,.string ⟨#[110]⟩] w fun e w'=>e=.returned (.bool false)∧w=w':=by
  have hi:=dX
  go_enter Tryz.func26,Tryz.ntmps26
  go_wp2
  go_ret
  exact ⟨rfl,rfl⟩
theorem yE (p o j:Nat) (hj:j=o * 2+1) (ho:o < 16) (w:World) (hp:w.cell? ⟨p,0,none⟩=some (.int .u8 o)) (ht:w.cell? ⟨0,j,none⟩=some (.string ⟨#[97,98,99]⟩)):Calls Tryz.prog 25 #[.string ⟨#[110]⟩,.pointer (some ⟨p,0,none⟩)] w fun e w'=>e=.returned (.bool false)∧w=w':=by
  subst hj
  have ho1:(o:Int) < 16:=by omega
  go_enter Tryz.func25,Tryz.ntmps25
  go_wp2_with (go_at_call 26;refine (OU _).mono ?_;rintro e w' ⟨rfl,rfl⟩)
  go_ret
  exact ⟨rfl,rfl⟩
set_option maxRecDepth 100000 in
theorem OX (w:World):Calls Tryz.prog 26 #[.string ⟨#[97,98,99]⟩,.string ⟨#[97]⟩] w fun e w'=>e=.returned (.bool true)∧w=w':=by
  have hi:=dX
  go_enter Tryz.func26,Tryz.ntmps26
  go_wp2
  go_ret
  exact ⟨rfl,rfl⟩
theorem Fg (p o j:Nat) (hj:j=o * 2+1) (ho:o < 16) (w:World) (hp:w.cell? ⟨p,0,none⟩=some (.int .u8 o)) (ht:w.cell? ⟨0,j,none⟩=some (.string ⟨#[97,98,99]⟩)):Calls Tryz.prog 25 #[.string ⟨#[97]⟩,.pointer (some ⟨p,0,none⟩)] w fun e w'=>e=.returned (.bool true)∧w=w':=by
  subst hj
  have ho1:(o:Int) < 16:=by omega
  go_enter Tryz.func25,Tryz.ntmps25
  go_wp2_with (go_at_call 26;refine (OX _).mono ?_;rintro e w' ⟨rfl,rfl⟩)
  go_ret
  exact ⟨rfl,rfl⟩
set_option maxRecDepth 100000 in
theorem Xo (w:World):Calls Tryz.prog 26 #[.string ⟨#[110]⟩,.string ⟨#[98]⟩] w fun e w'=>e=.returned (.bool false)∧w=w':=by
  have hi:=dX
  go_enter Tryz.func26,Tryz.ntmps26
  go_wp2
  go_ret
  exact ⟨rfl,rfl⟩
theorem CU (p o j:Nat) (hj:j=o * 2+1) (ho:o < 16) (w:World) (hp:w.cell? ⟨p,0,none⟩=some (.int .u8 o)) (ht:w.cell? ⟨0,j,none⟩=some (.string ⟨#[110]⟩)):Calls Tryz.prog 25 #[.string ⟨#[98]⟩,.pointer (some ⟨p,0,none⟩)] w fun e w'=>e=.returned (.bool false)∧w=w':=by
  subst hj
  have ho1:(o:Int) < 16:=by omega
  go_enter Tryz.func25,Tryz.ntmps25
  go_wp2_with (go_at_call 26;refine (Xo _).mono ?_;rintro e w' ⟨rfl,rfl⟩)
  go_ret
  exact ⟨rfl,rfl⟩
set_option maxRecDepth 100000 in
theorem Xn (w:World):Calls Tryz.prog 26 #[.string ⟨#[110]⟩,.string ⟨#[99]⟩] w fun e w'=>e=.returned (.bool false)∧w=w':=by
  have hi:=dX
  go_enter Tryz.func26,Tryz.ntmps26
  go_wp2
  go_ret
  exact ⟨rfl,rfl⟩
theorem GH (p o j:Nat) (hj:j=o * 2+1) (ho:o < 16) (w:World) (hp:w.cell? ⟨p,0,none⟩=some (.int .u8 o)) (ht:w.cell? ⟨0,j,none⟩=some (.string ⟨#[110]⟩)):Calls Tryz.prog 25 #[.string ⟨#[99]⟩,.pointer (some ⟨p,0,none⟩)] w fun e w'=>e=.returned (.bool false)∧w=w':=by
  subst hj
  have ho1:(o:Int) < 16:=by omega
  go_enter Tryz.func25,Tryz.ntmps25
  go_wp2_with (go_at_call 26;refine (Xn _).mono ?_;rintro e w' ⟨rfl,rfl⟩)
  go_ret
  exact ⟨rfl,rfl⟩
set_option maxRecDepth 100000 in
theorem Xm (w:World):Calls Tryz.prog 26 #[.string ⟨#[110]⟩,.string ⟨#[110]⟩] w fun e w'=>e=.returned (.bool true)∧w=w':=by
  have hi:=dX
  go_enter Tryz.func26,Tryz.ntmps26
  go_wp2
  go_ret
  exact ⟨rfl,rfl⟩
theorem Nb (p o j:Nat) (hj:j=o * 2+1) (ho:o < 16) (w:World) (hp:w.cell? ⟨p,0,none⟩=some (.int .u8 o)) (ht:w.cell? ⟨0,j,none⟩=some (.string ⟨#[110]⟩)):Calls Tryz.prog 25 #[.string ⟨#[110]⟩,.pointer (some ⟨p,0,none⟩)] w fun e w'=>e=.returned (.bool true)∧w=w':=by
  subst hj
  have ho1:(o:Int) < 16:=by omega
  go_enter Tryz.func25,Tryz.ntmps25
  go_wp2_with (go_at_call 26;refine (Xm _).mono ?_;rintro e w' ⟨rfl,rfl⟩)
  go_ret
  exact ⟨rfl,rfl⟩
set_option maxRecDepth 100000 in
theorem Xp (w:World):Calls Tryz.prog 26 #[.string ⟨#[110]⟩,.string ⟨#[97]⟩] w fun e w'=>e=.returned (.bool false)∧w=w':=by
  have hi:=dX
  go_enter Tryz.func26,Tryz.ntmps26
  go_wp2
  go_ret
  exact ⟨rfl,rfl⟩
theorem Nc (p o j:Nat) (hj:j=o * 2+1) (ho:o < 16) (w:World) (hp:w.cell? ⟨p,0,none⟩=some (.int .u8 o)) (ht:w.cell? ⟨0,j,none⟩=some (.string ⟨#[110]⟩)):Calls Tryz.prog 25 #[.string ⟨#[97]⟩,.pointer (some ⟨p,0,none⟩)] w fun e w'=>e=.returned (.bool false)∧w=w':=by
  subst hj
  have ho1:(o:Int) < 16:=by omega
  go_enter Tryz.func25,Tryz.ntmps25
  go_wp2_with (go_at_call 26;refine (Xp _).mono ?_;rintro e w' ⟨rfl,rfl⟩)
  go_ret
  exact ⟨rfl,rfl⟩
set_option maxRecDepth 100000 in
theorem Xt (w:World):Calls Tryz.prog 26 #[.string ⟨#[97]⟩,.string ⟨#[98]⟩] w fun e w'=>e=.returned (.bool false)∧w=w':=by
  have hi:=dX
  go_enter Tryz.func26,Tryz.ntmps26
  go_wp2
  go_ret
  exact ⟨rfl,rfl⟩
theorem qc (p o j:Nat) (hj:j=o * 2+1) (ho:o < 16) (w:World) (hp:w.cell? ⟨p,0,none⟩=some (.int .u8 o)) (ht:w.cell? ⟨0,j,none⟩=some (.string ⟨#[97]⟩)):Calls Tryz.prog 25 #[.string ⟨#[98]⟩,.pointer (some ⟨p,0,none⟩)] w fun e w'=>e=.returned (.bool false)∧w=w':=by
  subst hj
  have ho1:(o:Int) < 16:=by omega
  go_enter Tryz.func25,Tryz.ntmps25
  go_wp2_with (go_at_call 26;refine (Xt _).mono ?_;rintro e w' ⟨rfl,rfl⟩)
  go_ret
  exact ⟨rfl,rfl⟩
set_option maxRecDepth 100000 in
theorem Xr (w:World):Calls Tryz.prog 26 #[.string ⟨#[97]⟩,.string ⟨#[99]⟩] w fun e w'=>e=.returned (.bool false)∧w=w':=by
  have hi:=dX
  go_enter Tryz.func26,Tryz.ntmps26
  go_wp2
  go_ret
  exact ⟨rfl,rfl⟩
theorem tq (p o j:Nat) (hj:j=o * 2+1) (ho:o < 16) (w:World) (hp:w.cell? ⟨p,0,none⟩=some (.int .u8 o)) (ht:w.cell? ⟨0,j,none⟩=some (.string ⟨#[97]⟩)):Calls Tryz.prog 25 #[.string ⟨#[99]⟩,.pointer (some ⟨p,0,none⟩)] w fun e w'=>e=.returned (.bool false)∧w=w':=by
  subst hj
  have ho1:(o:Int) < 16:=by omega
  go_enter Tryz.func25,Tryz.ntmps25
  go_wp2_with (go_at_call 26;refine (Xr _).mono ?_;rintro e w' ⟨rfl,rfl⟩)
  go_ret
  exact ⟨rfl,rfl⟩
set_option maxRecDepth 100000 in
theorem Xq (w:World):Calls Tryz.prog 26 #[.string ⟨#[97]⟩,.string ⟨#[110]⟩] w fun e w'=>e=.returned (.bool false)∧w=w':=by
  have hi:=dX
  go_enter Tryz.func26,Tryz.ntmps26
  go_wp2
  go_ret
  exact ⟨rfl,rfl⟩
theorem yH (p o j:Nat) (hj:j=o * 2+1) (ho:o < 16) (w:World) (hp:w.cell? ⟨p,0,none⟩=some (.int .u8 o)) (ht:w.cell? ⟨0,j,none⟩=some (.string ⟨#[97]⟩)):Calls Tryz.prog 25 #[.string ⟨#[110]⟩,.pointer (some ⟨p,0,none⟩)] w fun e w'=>e=.returned (.bool false)∧w=w':=by
  subst hj
  have ho1:(o:Int) < 16:=by omega
  go_enter Tryz.func25,Tryz.ntmps25
  go_wp2_with (go_at_call 26;refine (Xq _).mono ?_;rintro e w' ⟨rfl,rfl⟩)
  go_ret
  exact ⟨rfl,rfl⟩
set_option maxRecDepth 100000 in
theorem Xu (w:World):Calls Tryz.prog 26 #[.string ⟨#[97]⟩,.string ⟨#[97]⟩] w fun e w'=>e=.returned (.bool true)∧w=w':=by
  have hi:=dX
  go_enter Tryz.func26,Tryz.ntmps26
  go_wp2
  go_ret
  exact ⟨rfl,rfl⟩
theorem GI (p o j:Nat) (hj:j=o * 2+1) (ho:o < 16) (w:World) (hp:w.cell? ⟨p,0,none⟩=some (.int .u8 o)) (ht:w.cell? ⟨0,j,none⟩=some (.string ⟨#[97]⟩)):Calls Tryz.prog 25 #[.string ⟨#[97]⟩,.pointer (some ⟨p,0,none⟩)] w fun e w'=>e=.returned (.bool true)∧w=w':=by
  subst hj
  have ho1:(o:Int) < 16:=by omega
  go_enter Tryz.func25,Tryz.ntmps25
  go_wp2_with (go_at_call 26;refine (Xu _).mono ?_;rintro e w' ⟨rfl,rfl⟩)
  go_ret
  exact ⟨rfl,rfl⟩
set_option maxRecDepth 100000 in
theorem Q8 (w:World):Calls Tryz.prog 26 #[.string ⟨#[97,98]⟩,.string ⟨#[98]⟩] w fun e w'=>e=.returned (.bool true)∧w=w':=by
  have hi:=dX
  go_enter Tryz.func26,Tryz.ntmps26
  go_wp2
  go_ret
  exact ⟨rfl,rfl⟩
theorem qO (p o j:Nat) (hj:j=o * 2+1) (ho:o < 16) (w:World) (hp:w.cell? ⟨p,0,none⟩=some (.int .u8 o)) (ht:w.cell? ⟨0,j,none⟩=some (.string ⟨#[97,98]⟩)):Calls Tryz.prog 25 #[.string ⟨#[98]⟩,.pointer (some ⟨p,0,none⟩)] w fun e w'=>e=.returned (.bool true)∧w=w':=by
  subst hj
  have ho1:(o:Int) < 16:=by omega
  go_enter Tryz.func25,Tryz.ntmps25
  go_wp2_with (go_at_call 26;refine (Q8 _).mono ?_;rintro e w' ⟨rfl,rfl⟩)
  go_ret
  exact ⟨rfl,rfl⟩
set_option maxRecDepth 100000 in
theorem Q7 (w:World):Calls Tryz.prog 26 #[.string ⟨#[97,98]⟩,.string ⟨#[99]⟩] w fun e w'=>e=.returned (.bool false)∧w=w':=by
  have hi:=dX
  go_enter Tryz.func26,Tryz.ntmps26
  go_wp2
  go_ret
  exact ⟨rfl,rfl⟩
theorem qN (p o j:Nat) (hj:j=o * 2+1) (ho:o < 16) (w:World) (hp:w.cell? ⟨p,0,none⟩=some (.int .u8 o)) (ht:w.cell? ⟨0,j,none⟩=some (.string ⟨#[97,98]⟩)):Calls Tryz.prog 25 #[.string ⟨#[99]⟩,.pointer (some ⟨p,0,none⟩)] w fun e w'=>e=.returned (.bool false)∧w=w':=by
  subst hj
  have ho1:(o:Int) < 16:=by omega
  go_enter Tryz.func25,Tryz.ntmps25
  go_wp2_with (go_at_call 26;refine (Q7 _).mono ?_;rintro e w' ⟨rfl,rfl⟩)
  go_ret
  exact ⟨rfl,rfl⟩
set_option maxRecDepth 100000 in
theorem Q5 (w:World):Calls Tryz.prog 26 #[.string ⟨#[97,98]⟩,.string ⟨#[110]⟩] w fun e w'=>e=.returned (.bool false)∧w=w':=by
  have hi:=dX
  go_enter Tryz.func26,Tryz.ntmps26
  go_wp2
  go_ret
  exact ⟨rfl,rfl⟩
theorem vz (p o j:Nat) (hj:j=o * 2+1) (ho:o < 16) (w:World) (hp:w.cell? ⟨p,0,none⟩=some (.int .u8 o)) (ht:w.cell? ⟨0,j,none⟩=some (.string ⟨#[97,98]⟩)):Calls Tryz.prog 25 #[.string ⟨#[110]⟩,.pointer (some ⟨p,0,none⟩)] w fun e w'=>e=.returned (.bool false)∧w=w':=by
  subst hj
  have ho1:(o:Int) < 16:=by omega
  go_enter Tryz.func25,Tryz.ntmps25
  go_wp2_with (go_at_call 26;refine (Q5 _).mono ?_;rintro e w' ⟨rfl,rfl⟩)
  go_ret
  exact ⟨rfl,rfl⟩
set_option maxRecDepth 100000 in
theorem Q9 (w:World):Calls Tryz.prog 26 #[.string ⟨#[97,98]⟩,.string ⟨#[97]⟩] w fun e w'=>e=.returned (.bool true)∧w=w':=by
  have hi:=dX
  go_enter Tryz.func26,Tryz.ntmps26
  go_wp2
  go_ret
  exact ⟨rfl,rfl⟩
theorem DX (p o j:Nat) (hj:j=o * 2+1) (ho:o < 16) (w:World) (hp:w.cell? ⟨p,0,none⟩=some (.int .u8 o)) (ht:w.cell? ⟨0,j,none⟩=some (.string ⟨#[97,98]⟩)):Calls Tryz.prog 25 #[.string ⟨#[97]⟩,.pointer (some ⟨p,0,none⟩)] w fun e w'=>e=.returned (.bool true)∧w=w':=by
  subst hj
  have ho1:(o:Int) < 16:=by omega
  go_enter Tryz.func25,Tryz.ntmps25
  go_wp2_with (go_at_call 26;refine (Q9 _).mono ?_;rintro e w' ⟨rfl,rfl⟩)
  go_ret
  exact ⟨rfl,rfl⟩
set_option maxRecDepth 100000 in
theorem OQ (w:World):Calls Tryz.prog 26 #[.string ⟨#[97,98,110]⟩,.string ⟨#[98]⟩] w fun e w'=>e=.returned (.bool true)∧w=w':=by
  have hi:=dX
  go_enter Tryz.func26,Tryz.ntmps26
  go_wp2
  go_ret
  exact ⟨rfl,rfl⟩
theorem yD (p o j:Nat) (hj:j=o * 2+1) (ho:o < 16) (w:World) (hp:w.cell? ⟨p,0,none⟩=some (.int .u8 o)) (ht:w.cell? ⟨0,j,none⟩=some (.string ⟨#[97,98,110]⟩)):Calls Tryz.prog 25 #[.string ⟨#[98]⟩,.pointer (some ⟨p,0,none⟩)] w fun e w'=>e=.returned (.bool true)∧w=w':=by
  subst hj
  have ho1:(o:Int) < 16:=by omega
  go_enter Tryz.func25,Tryz.ntmps25
  go_wp2_with (go_at_call 26;refine (OQ _).mono ?_;rintro e w' ⟨rfl,rfl⟩)
  go_ret
  exact ⟨rfl,rfl⟩
set_option maxRecDepth 100000 in
theorem OO (w:World):Calls Tryz.prog 26 #[.string ⟨#[97,98,110]⟩,.string ⟨#[99]⟩] w fun e w'=>e=.returned (.bool false)∧w=w':=by
  have hi:=dX
  go_enter Tryz.func26,Tryz.ntmps26
  go_wp2
  go_ret
  exact ⟨rfl,rfl⟩
theorem yC (p o j:Nat) (hj:j=o * 2+1) (ho:o < 16) (w:World) (hp:w.cell? ⟨p,0,none⟩=some (.int .u8 o)) (ht:w.cell? ⟨0,j,none⟩=some (.string ⟨#[97,98,110]⟩)):Calls Tryz.prog 25 #[.string ⟨#[99]⟩,.pointer (some ⟨p,0,none⟩)] w fun e w'=>e=.returned (.bool false)∧w=w':=by
  subst hj
  have ho1:(o:Int) < 16:=by omega
  go_enter Tryz.func25,Tryz.ntmps25
  go_wp2_with (go_at_call 26;refine (OO _).mono ?_;rintro e w' ⟨rfl,rfl⟩)
  go_ret
  exact ⟨rfl,rfl⟩
set_option maxRecDepth 100000 in
theorem OM (w:World):Calls Tryz.prog 26 #[.string ⟨#[97,98,110]⟩,.string ⟨#[110]⟩] w fun e w'=>e=.returned (.bool true)∧w=w':=by
  have hi:=dX
  go_enter Tryz.func26,Tryz.ntmps26
  go_wp2
  go_ret
  exact ⟨rfl,rfl⟩
theorem Fe (p o j:Nat) (hj:j=o * 2+1) (ho:o < 16) (w:World) (hp:w.cell? ⟨p,0,none⟩=some (.int .u8 o)) (ht:w.cell? ⟨0,j,none⟩=some (.string ⟨#[97,98,110]⟩)):Calls Tryz.prog 25 #[.string ⟨#[110]⟩,.pointer (some ⟨p,0,none⟩)] w fun e w'=>e=.returned (.bool true)∧w=w':=by
  subst hj
  have ho1:(o:Int) < 16:=by omega
  go_enter Tryz.func25,Tryz.ntmps25
  go_wp2_with (go_at_call 26;refine (OM _).mono ?_;rintro e w' ⟨rfl,rfl⟩)
  go_ret
  exact ⟨rfl,rfl⟩
set_option maxRecDepth 100000 in
theorem OT (w:World):Calls Tryz.prog 26 #[.string ⟨#[97,98,110]⟩,.string ⟨#[97]⟩] w fun e w'=>e=.returned (.bool true)∧w=w':=by
  have hi:=dX
  go_enter Tryz.func26,Tryz.ntmps26
  go_wp2
  go_ret
  exact ⟨rfl,rfl⟩
theorem Ff (p o j:Nat) (hj:j=o * 2+1) (ho:o < 16) (w:World) (hp:w.cell? ⟨p,0,none⟩=some (.int .u8 o)) (ht:w.cell? ⟨0,j,none⟩=some (.string ⟨#[97,98,110]⟩)):Calls Tryz.prog 25 #[.string ⟨#[97]⟩,.pointer (some ⟨p,0,none⟩)] w fun e w'=>e=.returned (.bool true)∧w=w':=by
  subst hj
  have ho1:(o:Int) < 16:=by omega
  go_enter Tryz.func25,Tryz.ntmps25
  go_wp2_with (go_at_call 26;refine (OT _).mono ?_;rintro e w' ⟨rfl,rfl⟩)
  go_ret
  exact ⟨rfl,rfl⟩
set_option maxRecDepth 100000 in
theorem OJ (w:World):Calls Tryz.prog 26 #[.string ⟨#[97,110,98]⟩,.string ⟨#[98]⟩] w fun e w'=>e=.returned (.bool true)∧w=w':=by
  have hi:=dX
  go_enter Tryz.func26,Tryz.ntmps26
  go_wp2
  go_ret
  exact ⟨rfl,rfl⟩
theorem yB (p o j:Nat) (hj:j=o * 2+1) (ho:o < 16) (w:World) (hp:w.cell? ⟨p,0,none⟩=some (.int .u8 o)) (ht:w.cell? ⟨0,j,none⟩=some (.string ⟨#[97,110,98]⟩)):Calls Tryz.prog 25 #[.string ⟨#[98]⟩,.pointer (some ⟨p,0,none⟩)] w fun e w'=>e=.returned (.bool true)∧w=w':=by
  subst hj
  have ho1:(o:Int) < 16:=by omega
  go_enter Tryz.func25,Tryz.ntmps25
  go_wp2_with (go_at_call 26;refine (OJ _).mono ?_;rintro e w' ⟨rfl,rfl⟩)
  go_ret
  exact ⟨rfl,rfl⟩
set_option maxRecDepth 100000 in
theorem OI (w:World):Calls Tryz.prog 26 #[.string ⟨#[97,110,98]⟩,.string ⟨#[99]⟩] w fun e w'=>e=.returned (.bool false)∧w=w':=by
  have hi:=dX
  go_enter Tryz.func26,Tryz.ntmps26
  go_wp2
  go_ret
  exact ⟨rfl,rfl⟩
theorem yA (p o j:Nat) (hj:j=o * 2+1) (ho:o < 16) (w:World) (hp:w.cell? ⟨p,0,none⟩=some (.int .u8 o)) (ht:w.cell? ⟨0,j,none⟩=some (.string ⟨#[97,110,98]⟩)):Calls Tryz.prog 25 #[.string ⟨#[99]⟩,.pointer (some ⟨p,0,none⟩)] w fun e w'=>e=.returned (.bool false)∧w=w':=by
  subst hj
  have ho1:(o:Int) < 16:=by omega
  go_enter Tryz.func25,Tryz.ntmps25
  go_wp2_with (go_at_call 26;refine (OI _).mono ?_;rintro e w' ⟨rfl,rfl⟩)
  go_ret
  exact ⟨rfl,rfl⟩
set_option maxRecDepth 100000 in
theorem OH (w:World):Calls Tryz.prog 26 #[.string ⟨#[97,110,98]⟩,.string ⟨#[110]⟩] w fun e w'=>e=.returned (.bool true)∧w=w':=by
  have hi:=dX
  go_enter Tryz.func26,Tryz.ntmps26
  go_wp2
  go_ret
  exact ⟨rfl,rfl⟩
theorem Fa (p o j:Nat) (hj:j=o * 2+1) (ho:o < 16) (w:World) (hp:w.cell? ⟨p,0,none⟩=some (.int .u8 o)) (ht:w.cell? ⟨0,j,none⟩=some (.string ⟨#[97,110,98]⟩)):Calls Tryz.prog 25 #[.string ⟨#[110]⟩,.pointer (some ⟨p,0,none⟩)] w fun e w'=>e=.returned (.bool true)∧w=w':=by
  subst hj
  have ho1:(o:Int) < 16:=by omega
  go_enter Tryz.func25,Tryz.ntmps25
  go_wp2_with (go_at_call 26;refine (OH _).mono ?_;rintro e w' ⟨rfl,rfl⟩)
  go_ret
  exact ⟨rfl,rfl⟩
set_option maxRecDepth 100000 in
theorem OL (w:World):Calls Tryz.prog 26 #[.string ⟨#[97,110,98]⟩,.string ⟨#[97]⟩] w fun e w'=>e=.returned (.bool true)∧w=w':=by
  have hi:=dX
  go_enter Tryz.func26,Tryz.ntmps26
  go_wp2
  go_ret
  exact ⟨rfl,rfl⟩
theorem Fb (p o j:Nat) (hj:j=o * 2+1) (ho:o < 16) (w:World) (hp:w.cell? ⟨p,0,none⟩=some (.int .u8 o)) (ht:w.cell? ⟨0,j,none⟩=some (.string ⟨#[97,110,98]⟩)):Calls Tryz.prog 25 #[.string ⟨#[97]⟩,.pointer (some ⟨p,0,none⟩)] w fun e w'=>e=.returned (.bool true)∧w=w':=by
  subst hj
  have ho1:(o:Int) < 16:=by omega
  go_enter Tryz.func25,Tryz.ntmps25
  go_wp2_with (go_at_call 26;refine (OL _).mono ?_;rintro e w' ⟨rfl,rfl⟩)
  go_ret
  exact ⟨rfl,rfl⟩
end Go.Proofs.YtkclndkbccbhaaaGreatDoor.P
end
