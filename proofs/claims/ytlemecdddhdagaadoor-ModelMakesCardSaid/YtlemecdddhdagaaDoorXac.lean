/- Parts of the proof of ModelMakes: what the functions that it reaches compute, and plain facts about that. -/
import Derived.Laws.Externs
import Derived.Lib.Bytealg
import Derived.Laws.NewBlocks
import Derived.Test.YtlemecdddhdagaaDoorXab
import Derived.Shelf.Lay
import Derived.Shelf.Strconv.Itoa3
import Derived.Lib.LaidTab
import Derived.Test.YtlemecdddhdagaaDoorTie
import Derived.WalkKit
import Derived.ProofKit
import Derived.OpenShut
import Derived.ShutString
import Derived.ChangeOld
import Derived.Below
import Derived.SliceStrings
import Derived.Deep.DeepHandedRow
import Derived.Lib.SmallJoins
import Derived.LaidLaws
import Derived.Lay
set_option linter.unusedVariables false
set_option linter.unusedSimpArgs false
section
namespace Go.Proofs.YtlemecdddhdagaaDoor.P
open Go.RowKit Go.Proofs.ag.bH Go.Proofs.ag.dM Go.Proofs.ag.dY
def qo:Option Addr:=some ⟨0,0,none⟩
def jX:List ByteArray:=[⟨#[]⟩,⟨#[]⟩,⟨#[115,101,116]⟩,⟨#[97,110]⟩,⟨#[97,100,100]⟩,⟨#[97,98,99]⟩,⟨#[106,117,109,112]⟩,⟨#[110]⟩,⟨#[122,101,114,111]⟩,⟨#[97,110]⟩,⟨#[110,101,119]⟩,⟨#[97]⟩,⟨#[110,105,108]⟩,⟨#[97]⟩,⟨#[109,111,118,101]⟩,⟨#[97,98]⟩,⟨#[108,111,97,100,105]⟩,⟨#[97,98,110]⟩,⟨#[115,116,111,114,101,105]⟩,⟨#[97,110,98]⟩,⟨#[108,111,97,100,112]⟩,⟨#[97,98,110]⟩,⟨#[115,116,111,114,101,112]⟩,⟨#[97,110,98]⟩,⟨#[108,111,97,100,103]⟩,⟨#[97,98]⟩,⟨#[115,116,111,114,101,103]⟩,⟨#[97,98]⟩,⟨#[112,114,105,110,116]⟩,⟨#[97]⟩,⟨#[115,97,109,101]⟩,⟨#[97,98,99]⟩]
def letters (o:Int):List UInt8 :=
  if o=1 then [97,110]
  else if o=2 then [97,98,99]
  else if o=3 then [110]
  else if o=4 then [97,110]
  else if o=5 then [97]
  else if o=6 then [97]
  else if o=7 then [97,98]
  else if o=8 then [97,98,110]
  else if o=9 then [97,110,98]
  else if o=10 then [97,98,110]
  else if o=11 then [97,110,98]
  else if o=12 then [97,98]
  else if o=13 then [97,98]
  else if o=14 then [97]
  else if o=15 then [97,98,99]
  else []
def hasB (o:Int) (c:UInt8):Bool:=(letters o).contains c
def lV.f (dA:Int) (aT:Int) (aU:Int) (eY:Int) (fF:Int):Option (Bool) :=
  if dA < 1 then some false else if dA > 15 then some false else
  some ((hasB dA 98 || aU == 0) && (hasB dA 99 || eY == 0) && (hasB dA 110 || fF == 0) && (hasB dA 97 || aT == 0))
theorem eX (s:ByteArray) (c:Int) (w:World):(callFunc 87 #[.string s,.int .u8 c]).run Tryd.prog w=.ok (.value (.int .i64 (Lib.indexByte s.data.toList c.toNat.toUInt8))) w:=by
  rw [run_callFunc_extern Tryd.func87 (by kernel_rfl) (by kernel_rfl) (by kernel_rfl) (e:=Extern.BytealgIndexByte.indexByte) (by kernel_rfl),Lib.run_indexByteString]
  rfl
theorem MQ {w:World} (h:Kd.C Kd.string w qo jX.length jX) (i:Nat) (hi:i < 32):w.cell? ⟨0,i,none⟩=some (.string (jX.getD i ByteArray.empty)):=by
  obtain ⟨ad,e,hc⟩:=Kd.kC h i (by omega) (by show (i:Int) < 32;omega)
  injection e with e
  subst e
  rw [Int.toNat_natCast] at hc
  rw [show dV ByteArray.empty jX (i:Int)=jX.getD i ByteArray.empty from by simp [dV]] at hc
  rw [← hc]
  unfold Addr.add
  split
  · rename_i h0
    subst h0
    rfl
  · simp
theorem jJ {w:World} (h:Kd.C Kd.string w qo jX.length jX) (o:Obj) (i:Nat) (hi:i < 32) (s:ByteArray) (hs:jX.getD i ByteArray.empty=s):(w.alloc o).cell? ⟨0,i,none⟩=some (.string s):=by
  have hc:=MQ h i hi
  rw [World.cell?_alloc_past _ _ _ (World.block_lt_of_cell? w _ hc),hc,hs]
set_option maxRecDepth 100000 in
theorem OI (w:World):Calls Tryd.prog 54 #[.string ⟨#[97,110]⟩,.string ⟨#[98]⟩] w fun e w'=>e=.returned (.bool false)∧w=w':=by
  have hi:=eX
  go_enter Tryd.func54,Tryd.ntmps54
  go_wp2
  go_ret
  exact ⟨rfl,rfl⟩
theorem rC (p o j:Nat) (hj:j=o * 2+1) (ho:o < 16) (w:World) (hp:w.cell? ⟨p,0,none⟩=some (.int .u8 o)) (ht:w.cell? ⟨0,j,none⟩=some (.string ⟨#[97,110]⟩)):Calls Tryd.prog 53 #[.string ⟨#[98]⟩,.pointer (some ⟨p,0,none⟩)] w fun e w'=>e=.returned (.bool false)∧w=w':=by
  subst hj
  have ho1:(o:Int) < 16:=by omega
  go_enter Tryd.func53,Tryd.ntmps53
  go_wp2_with (go_at_call 54;refine (OI _).mono ?_;rintro e w' ⟨rfl,rfl⟩)
  go_ret
  exact ⟨rfl,rfl⟩
set_option maxRecDepth 100000 in
theorem OH (w:World):Calls Tryd.prog 54 #[.string ⟨#[97,110]⟩,.string ⟨#[99]⟩] w fun e w'=>e=.returned (.bool false)∧w=w':=by
  have hi:=eX
  go_enter Tryd.func54,Tryd.ntmps54
  go_wp2
  go_ret
  exact ⟨rfl,rfl⟩
theorem wU (p o j:Nat) (hj:j=o * 2+1) (ho:o < 16) (w:World) (hp:w.cell? ⟨p,0,none⟩=some (.int .u8 o)) (ht:w.cell? ⟨0,j,none⟩=some (.string ⟨#[97,110]⟩)):Calls Tryd.prog 53 #[.string ⟨#[99]⟩,.pointer (some ⟨p,0,none⟩)] w fun e w'=>e=.returned (.bool false)∧w=w':=by
  subst hj
  have ho1:(o:Int) < 16:=by omega
  go_enter Tryd.func53,Tryd.ntmps53
  go_wp2_with (go_at_call 54;refine (OH _).mono ?_;rintro e w' ⟨rfl,rfl⟩)
  go_ret
  exact ⟨rfl,rfl⟩
set_option maxRecDepth 100000 in
theorem OG (w:World):Calls Tryd.prog 54 #[.string ⟨#[97,110]⟩,.string ⟨#[110]⟩] w fun e w'=>e=.returned (.bool true)∧w=w':=by
  have hi:=eX
  go_enter Tryd.func54,Tryd.ntmps54
  go_wp2
  go_ret
  exact ⟨rfl,rfl⟩
theorem EK (p o j:Nat) (hj:j=o * 2+1) (ho:o < 16) (w:World) (hp:w.cell? ⟨p,0,none⟩=some (.int .u8 o)) (ht:w.cell? ⟨0,j,none⟩=some (.string ⟨#[97,110]⟩)):Calls Tryd.prog 53 #[.string ⟨#[110]⟩,.pointer (some ⟨p,0,none⟩)] w fun e w'=>e=.returned (.bool true)∧w=w':=by
  subst hj
  have ho1:(o:Int) < 16:=by omega
  go_enter Tryd.func53,Tryd.ntmps53
  go_wp2_with (go_at_call 54;refine (OG _).mono ?_;rintro e w' ⟨rfl,rfl⟩)
  go_ret
  exact ⟨rfl,rfl⟩
set_option maxRecDepth 100000 in
theorem OJ (w:World):Calls Tryd.prog 54 #[.string ⟨#[97,110]⟩,.string ⟨#[97]⟩] w fun e w'=>e=.returned (.bool true)∧w=w':=by
  have hi:=eX
  go_enter Tryd.func54,Tryd.ntmps54
  go_wp2
  go_ret
  exact ⟨rfl,rfl⟩
theorem EL (p o j:Nat) (hj:j=o * 2+1) (ho:o < 16) (w:World) (hp:w.cell? ⟨p,0,none⟩=some (.int .u8 o)) (ht:w.cell? ⟨0,j,none⟩=some (.string ⟨#[97,110]⟩)):Calls Tryd.prog 53 #[.string ⟨#[97]⟩,.pointer (some ⟨p,0,none⟩)] w fun e w'=>e=.returned (.bool true)∧w=w':=by
  subst hj
  have ho1:(o:Int) < 16:=by omega
  go_enter Tryd.func53,Tryd.ntmps53
  go_wp2_with (go_at_call 54;refine (OJ _).mono ?_;rintro e w' ⟨rfl,rfl⟩)
  go_ret
  exact ⟨rfl,rfl⟩
set_option maxRecDepth 100000 in
theorem LJ (w:World):Calls Tryd.prog 54 #[.string ⟨#[97,98,99]⟩,.string ⟨#[98]⟩] w fun e w'=>e=.returned (.bool true)∧w=w':=by
  have hi:=eX
  go_enter Tryd.func54,Tryd.ntmps54
  go_wp2
  go_ret
  exact ⟨rfl,rfl⟩
theorem uS (p o j:Nat) (hj:j=o * 2+1) (ho:o < 16) (w:World) (hp:w.cell? ⟨p,0,none⟩=some (.int .u8 o)) (ht:w.cell? ⟨0,j,none⟩=some (.string ⟨#[97,98,99]⟩)):Calls Tryd.prog 53 #[.string ⟨#[98]⟩,.pointer (some ⟨p,0,none⟩)] w fun e w'=>e=.returned (.bool true)∧w=w':=by
  subst hj
  have ho1:(o:Int) < 16:=by omega
  go_enter Tryd.func53,Tryd.ntmps53
  go_wp2_with (go_at_call 54;refine (LJ _).mono ?_;rintro e w' ⟨rfl,rfl⟩)
  go_ret
  exact ⟨rfl,rfl⟩
set_option maxRecDepth 100000 in
theorem LH (w:World):Calls Tryd.prog 54 #[.string ⟨#[97,98,99]⟩,.string ⟨#[99]⟩] w fun e w'=>e=.returned (.bool true)∧w=w':=by
  have hi:=eX
  go_enter Tryd.func54,Tryd.ntmps54
  go_wp2
  go_ret
  exact ⟨rfl,rfl⟩
theorem uQ (p o j:Nat) (hj:j=o * 2+1) (ho:o < 16) (w:World) (hp:w.cell? ⟨p,0,none⟩=some (.int .u8 o)) (ht:w.cell? ⟨0,j,none⟩=some (.string ⟨#[97,98,99]⟩)):Calls Tryd.prog 53 #[.string ⟨#[99]⟩,.pointer (some ⟨p,0,none⟩)] w fun e w'=>e=.returned (.bool true)∧w=w':=by
  subst hj
  have ho1:(o:Int) < 16:=by omega
  go_enter Tryd.func53,Tryd.ntmps53
  go_wp2_with (go_at_call 54;refine (LH _).mono ?_;rintro e w' ⟨rfl,rfl⟩)
  go_ret
  exact ⟨rfl,rfl⟩
set_option maxRecDepth 100000 in
theorem LG (w:World):Calls Tryd.prog 54 #[.string ⟨#[97,98,99]⟩,.string ⟨#[110]⟩] w fun e w'=>e=.returned (.bool false)∧w=w':=by
  have hi:=eX
  go_enter Tryd.func54,Tryd.ntmps54
  go_wp2
  go_ret
  exact ⟨rfl,rfl⟩
theorem uP (p o j:Nat) (hj:j=o * 2+1) (ho:o < 16) (w:World) (hp:w.cell? ⟨p,0,none⟩=some (.int .u8 o)) (ht:w.cell? ⟨0,j,none⟩=some (.string ⟨#[97,98,99]⟩)):Calls Tryd.prog 53 #[.string ⟨#[110]⟩,.pointer (some ⟨p,0,none⟩)] w fun e w'=>e=.returned (.bool false)∧w=w':=by
  subst hj
  have ho1:(o:Int) < 16:=by omega
  go_enter Tryd.func53,Tryd.ntmps53
  go_wp2_with (go_at_call 54;refine (LG _).mono ?_;rintro e w' ⟨rfl,rfl⟩)
  go_ret
  exact ⟨rfl,rfl⟩
set_option maxRecDepth 100000 in
theorem LK (w:World):Calls Tryd.prog 54 #[.string ⟨#[97,98,99]⟩,.string ⟨#[97]⟩] w fun e w'=>e=.returned (.bool true)∧w=w':=by
  have hi:=eX
  go_enter Tryd.func54,Tryd.ntmps54
  go_wp2
  go_ret
  exact ⟨rfl,rfl⟩
theorem BH (p o j:Nat) (hj:j=o * 2+1) (ho:o < 16) (w:World) (hp:w.cell? ⟨p,0,none⟩=some (.int .u8 o)) (ht:w.cell? ⟨0,j,none⟩=some (.string ⟨#[97,98,99]⟩)):Calls Tryd.prog 53 #[.string ⟨#[97]⟩,.pointer (some ⟨p,0,none⟩)] w fun e w'=>e=.returned (.bool true)∧w=w':=by
  subst hj
  have ho1:(o:Int) < 16:=by omega
  go_enter Tryd.func53,Tryd.ntmps53
  go_wp2_with (go_at_call 54;refine (LK _).mono ?_;rintro e w' ⟨rfl,rfl⟩)
  go_ret
  exact ⟨rfl,rfl⟩
set_option maxRecDepth 100000 in
theorem Vs (w:World):Calls Tryd.prog 54 #[.string ⟨#[110]⟩,.string ⟨#[98]⟩] w fun e w'=>e=.returned (.bool false)∧w=w':=by
  have hi:=eX
  go_enter Tryd.func54,Tryd.ntmps54
  go_wp2
  go_ret
  exact ⟨rfl,rfl⟩
theorem yX (p o j:Nat) (hj:j=o * 2+1) (ho:o < 16) (w:World) (hp:w.cell? ⟨p,0,none⟩=some (.int .u8 o)) (ht:w.cell? ⟨0,j,none⟩=some (.string ⟨#[110]⟩)):Calls Tryd.prog 53 #[.string ⟨#[98]⟩,.pointer (some ⟨p,0,none⟩)] w fun e w'=>e=.returned (.bool false)∧w=w':=by
  subst hj
  have ho1:(o:Int) < 16:=by omega
  go_enter Tryd.func53,Tryd.ntmps53
  go_wp2_with (go_at_call 54;refine (Vs _).mono ?_;rintro e w' ⟨rfl,rfl⟩)
  go_ret
  exact ⟨rfl,rfl⟩
set_option maxRecDepth 100000 in
theorem Vr (w:World):Calls Tryd.prog 54 #[.string ⟨#[110]⟩,.string ⟨#[99]⟩] w fun e w'=>e=.returned (.bool false)∧w=w':=by
  have hi:=eX
  go_enter Tryd.func54,Tryd.ntmps54
  go_wp2
  go_ret
  exact ⟨rfl,rfl⟩
theorem Dw (p o j:Nat) (hj:j=o * 2+1) (ho:o < 16) (w:World) (hp:w.cell? ⟨p,0,none⟩=some (.int .u8 o)) (ht:w.cell? ⟨0,j,none⟩=some (.string ⟨#[110]⟩)):Calls Tryd.prog 53 #[.string ⟨#[99]⟩,.pointer (some ⟨p,0,none⟩)] w fun e w'=>e=.returned (.bool false)∧w=w':=by
  subst hj
  have ho1:(o:Int) < 16:=by omega
  go_enter Tryd.func53,Tryd.ntmps53
  go_wp2_with (go_at_call 54;refine (Vr _).mono ?_;rintro e w' ⟨rfl,rfl⟩)
  go_ret
  exact ⟨rfl,rfl⟩
set_option maxRecDepth 100000 in
theorem Vq (w:World):Calls Tryd.prog 54 #[.string ⟨#[110]⟩,.string ⟨#[110]⟩] w fun e w'=>e=.returned (.bool true)∧w=w':=by
  have hi:=eX
  go_enter Tryd.func54,Tryd.ntmps54
  go_wp2
  go_ret
  exact ⟨rfl,rfl⟩
theorem JV (p o j:Nat) (hj:j=o * 2+1) (ho:o < 16) (w:World) (hp:w.cell? ⟨p,0,none⟩=some (.int .u8 o)) (ht:w.cell? ⟨0,j,none⟩=some (.string ⟨#[110]⟩)):Calls Tryd.prog 53 #[.string ⟨#[110]⟩,.pointer (some ⟨p,0,none⟩)] w fun e w'=>e=.returned (.bool true)∧w=w':=by
  subst hj
  have ho1:(o:Int) < 16:=by omega
  go_enter Tryd.func53,Tryd.ntmps53
  go_wp2_with (go_at_call 54;refine (Vq _).mono ?_;rintro e w' ⟨rfl,rfl⟩)
  go_ret
  exact ⟨rfl,rfl⟩
set_option maxRecDepth 100000 in
theorem Vt (w:World):Calls Tryd.prog 54 #[.string ⟨#[110]⟩,.string ⟨#[97]⟩] w fun e w'=>e=.returned (.bool false)∧w=w':=by
  have hi:=eX
  go_enter Tryd.func54,Tryd.ntmps54
  go_wp2
  go_ret
  exact ⟨rfl,rfl⟩
theorem JW (p o j:Nat) (hj:j=o * 2+1) (ho:o < 16) (w:World) (hp:w.cell? ⟨p,0,none⟩=some (.int .u8 o)) (ht:w.cell? ⟨0,j,none⟩=some (.string ⟨#[110]⟩)):Calls Tryd.prog 53 #[.string ⟨#[97]⟩,.pointer (some ⟨p,0,none⟩)] w fun e w'=>e=.returned (.bool false)∧w=w':=by
  subst hj
  have ho1:(o:Int) < 16:=by omega
  go_enter Tryd.func53,Tryd.ntmps53
  go_wp2_with (go_at_call 54;refine (Vt _).mono ?_;rintro e w' ⟨rfl,rfl⟩)
  go_ret
  exact ⟨rfl,rfl⟩
set_option maxRecDepth 100000 in
theorem Vx (w:World):Calls Tryd.prog 54 #[.string ⟨#[97]⟩,.string ⟨#[98]⟩] w fun e w'=>e=.returned (.bool false)∧w=w':=by
  have hi:=eX
  go_enter Tryd.func54,Tryd.ntmps54
  go_wp2
  go_ret
  exact ⟨rfl,rfl⟩
theorem nO (p o j:Nat) (hj:j=o * 2+1) (ho:o < 16) (w:World) (hp:w.cell? ⟨p,0,none⟩=some (.int .u8 o)) (ht:w.cell? ⟨0,j,none⟩=some (.string ⟨#[97]⟩)):Calls Tryd.prog 53 #[.string ⟨#[98]⟩,.pointer (some ⟨p,0,none⟩)] w fun e w'=>e=.returned (.bool false)∧w=w':=by
  subst hj
  have ho1:(o:Int) < 16:=by omega
  go_enter Tryd.func53,Tryd.ntmps53
  go_wp2_with (go_at_call 54;refine (Vx _).mono ?_;rintro e w' ⟨rfl,rfl⟩)
  go_ret
  exact ⟨rfl,rfl⟩
set_option maxRecDepth 100000 in
theorem Vw (w:World):Calls Tryd.prog 54 #[.string ⟨#[97]⟩,.string ⟨#[99]⟩] w fun e w'=>e=.returned (.bool false)∧w=w':=by
  have hi:=eX
  go_enter Tryd.func54,Tryd.ntmps54
  go_wp2
  go_ret
  exact ⟨rfl,rfl⟩
theorem qp (p o j:Nat) (hj:j=o * 2+1) (ho:o < 16) (w:World) (hp:w.cell? ⟨p,0,none⟩=some (.int .u8 o)) (ht:w.cell? ⟨0,j,none⟩=some (.string ⟨#[97]⟩)):Calls Tryd.prog 53 #[.string ⟨#[99]⟩,.pointer (some ⟨p,0,none⟩)] w fun e w'=>e=.returned (.bool false)∧w=w':=by
  subst hj
  have ho1:(o:Int) < 16:=by omega
  go_enter Tryd.func53,Tryd.ntmps53
  go_wp2_with (go_at_call 54;refine (Vw _).mono ?_;rintro e w' ⟨rfl,rfl⟩)
  go_ret
  exact ⟨rfl,rfl⟩
set_option maxRecDepth 100000 in
theorem Vu (w:World):Calls Tryd.prog 54 #[.string ⟨#[97]⟩,.string ⟨#[110]⟩] w fun e w'=>e=.returned (.bool false)∧w=w':=by
  have hi:=eX
  go_enter Tryd.func54,Tryd.ntmps54
  go_wp2
  go_ret
  exact ⟨rfl,rfl⟩
theorem uT (p o j:Nat) (hj:j=o * 2+1) (ho:o < 16) (w:World) (hp:w.cell? ⟨p,0,none⟩=some (.int .u8 o)) (ht:w.cell? ⟨0,j,none⟩=some (.string ⟨#[97]⟩)):Calls Tryd.prog 53 #[.string ⟨#[110]⟩,.pointer (some ⟨p,0,none⟩)] w fun e w'=>e=.returned (.bool false)∧w=w':=by
  subst hj
  have ho1:(o:Int) < 16:=by omega
  go_enter Tryd.func53,Tryd.ntmps53
  go_wp2_with (go_at_call 54;refine (Vu _).mono ?_;rintro e w' ⟨rfl,rfl⟩)
  go_ret
  exact ⟨rfl,rfl⟩
set_option maxRecDepth 100000 in
theorem Vy (w:World):Calls Tryd.prog 54 #[.string ⟨#[97]⟩,.string ⟨#[97]⟩] w fun e w'=>e=.returned (.bool true)∧w=w':=by
  have hi:=eX
  go_enter Tryd.func54,Tryd.ntmps54
  go_wp2
  go_ret
  exact ⟨rfl,rfl⟩
theorem Dx (p o j:Nat) (hj:j=o * 2+1) (ho:o < 16) (w:World) (hp:w.cell? ⟨p,0,none⟩=some (.int .u8 o)) (ht:w.cell? ⟨0,j,none⟩=some (.string ⟨#[97]⟩)):Calls Tryd.prog 53 #[.string ⟨#[97]⟩,.pointer (some ⟨p,0,none⟩)] w fun e w'=>e=.returned (.bool true)∧w=w':=by
  subst hj
  have ho1:(o:Int) < 16:=by omega
  go_enter Tryd.func53,Tryd.ntmps53
  go_wp2_with (go_at_call 54;refine (Vy _).mono ?_;rintro e w' ⟨rfl,rfl⟩)
  go_ret
  exact ⟨rfl,rfl⟩
set_option maxRecDepth 100000 in
theorem OQ (w:World):Calls Tryd.prog 54 #[.string ⟨#[97,98]⟩,.string ⟨#[98]⟩] w fun e w'=>e=.returned (.bool true)∧w=w':=by
  have hi:=eX
  go_enter Tryd.func54,Tryd.ntmps54
  go_wp2
  go_ret
  exact ⟨rfl,rfl⟩
theorem oC (p o j:Nat) (hj:j=o * 2+1) (ho:o < 16) (w:World) (hp:w.cell? ⟨p,0,none⟩=some (.int .u8 o)) (ht:w.cell? ⟨0,j,none⟩=some (.string ⟨#[97,98]⟩)):Calls Tryd.prog 53 #[.string ⟨#[98]⟩,.pointer (some ⟨p,0,none⟩)] w fun e w'=>e=.returned (.bool true)∧w=w':=by
  subst hj
  have ho1:(o:Int) < 16:=by omega
  go_enter Tryd.func53,Tryd.ntmps53
  go_wp2_with (go_at_call 54;refine (OQ _).mono ?_;rintro e w' ⟨rfl,rfl⟩)
  go_ret
  exact ⟨rfl,rfl⟩
set_option maxRecDepth 100000 in
theorem OO (w:World):Calls Tryd.prog 54 #[.string ⟨#[97,98]⟩,.string ⟨#[99]⟩] w fun e w'=>e=.returned (.bool false)∧w=w':=by
  have hi:=eX
  go_enter Tryd.func54,Tryd.ntmps54
  go_wp2
  go_ret
  exact ⟨rfl,rfl⟩
theorem oz (p o j:Nat) (hj:j=o * 2+1) (ho:o < 16) (w:World) (hp:w.cell? ⟨p,0,none⟩=some (.int .u8 o)) (ht:w.cell? ⟨0,j,none⟩=some (.string ⟨#[97,98]⟩)):Calls Tryd.prog 53 #[.string ⟨#[99]⟩,.pointer (some ⟨p,0,none⟩)] w fun e w'=>e=.returned (.bool false)∧w=w':=by
  subst hj
  have ho1:(o:Int) < 16:=by omega
  go_enter Tryd.func53,Tryd.ntmps53
  go_wp2_with (go_at_call 54;refine (OO _).mono ?_;rintro e w' ⟨rfl,rfl⟩)
  go_ret
  exact ⟨rfl,rfl⟩
set_option maxRecDepth 100000 in
theorem OM (w:World):Calls Tryd.prog 54 #[.string ⟨#[97,98]⟩,.string ⟨#[110]⟩] w fun e w'=>e=.returned (.bool false)∧w=w':=by
  have hi:=eX
  go_enter Tryd.func54,Tryd.ntmps54
  go_wp2
  go_ret
  exact ⟨rfl,rfl⟩
theorem rD (p o j:Nat) (hj:j=o * 2+1) (ho:o < 16) (w:World) (hp:w.cell? ⟨p,0,none⟩=some (.int .u8 o)) (ht:w.cell? ⟨0,j,none⟩=some (.string ⟨#[97,98]⟩)):Calls Tryd.prog 53 #[.string ⟨#[110]⟩,.pointer (some ⟨p,0,none⟩)] w fun e w'=>e=.returned (.bool false)∧w=w':=by
  subst hj
  have ho1:(o:Int) < 16:=by omega
  go_enter Tryd.func53,Tryd.ntmps53
  go_wp2_with (go_at_call 54;refine (OM _).mono ?_;rintro e w' ⟨rfl,rfl⟩)
  go_ret
  exact ⟨rfl,rfl⟩
set_option maxRecDepth 100000 in
theorem OT (w:World):Calls Tryd.prog 54 #[.string ⟨#[97,98]⟩,.string ⟨#[97]⟩] w fun e w'=>e=.returned (.bool true)∧w=w':=by
  have hi:=eX
  go_enter Tryd.func54,Tryd.ntmps54
  go_wp2
  go_ret
  exact ⟨rfl,rfl⟩
theorem zY (p o j:Nat) (hj:j=o * 2+1) (ho:o < 16) (w:World) (hp:w.cell? ⟨p,0,none⟩=some (.int .u8 o)) (ht:w.cell? ⟨0,j,none⟩=some (.string ⟨#[97,98]⟩)):Calls Tryd.prog 53 #[.string ⟨#[97]⟩,.pointer (some ⟨p,0,none⟩)] w fun e w'=>e=.returned (.bool true)∧w=w':=by
  subst hj
  have ho1:(o:Int) < 16:=by omega
  go_enter Tryd.func53,Tryd.ntmps53
  go_wp2_with (go_at_call 54;refine (OT _).mono ?_;rintro e w' ⟨rfl,rfl⟩)
  go_ret
  exact ⟨rfl,rfl⟩
set_option maxRecDepth 100000 in
theorem LC (w:World):Calls Tryd.prog 54 #[.string ⟨#[97,98,110]⟩,.string ⟨#[98]⟩] w fun e w'=>e=.returned (.bool true)∧w=w':=by
  have hi:=eX
  go_enter Tryd.func54,Tryd.ntmps54
  go_wp2
  go_ret
  exact ⟨rfl,rfl⟩
theorem uO (p o j:Nat) (hj:j=o * 2+1) (ho:o < 16) (w:World) (hp:w.cell? ⟨p,0,none⟩=some (.int .u8 o)) (ht:w.cell? ⟨0,j,none⟩=some (.string ⟨#[97,98,110]⟩)):Calls Tryd.prog 53 #[.string ⟨#[98]⟩,.pointer (some ⟨p,0,none⟩)] w fun e w'=>e=.returned (.bool true)∧w=w':=by
  subst hj
  have ho1:(o:Int) < 16:=by omega
  go_enter Tryd.func53,Tryd.ntmps53
  go_wp2_with (go_at_call 54;refine (LC _).mono ?_;rintro e w' ⟨rfl,rfl⟩)
  go_ret
  exact ⟨rfl,rfl⟩
set_option maxRecDepth 100000 in
theorem Lu (w:World):Calls Tryd.prog 54 #[.string ⟨#[97,98,110]⟩,.string ⟨#[99]⟩] w fun e w'=>e=.returned (.bool false)∧w=w':=by
  have hi:=eX
  go_enter Tryd.func54,Tryd.ntmps54
  go_wp2
  go_ret
  exact ⟨rfl,rfl⟩
theorem uN (p o j:Nat) (hj:j=o * 2+1) (ho:o < 16) (w:World) (hp:w.cell? ⟨p,0,none⟩=some (.int .u8 o)) (ht:w.cell? ⟨0,j,none⟩=some (.string ⟨#[97,98,110]⟩)):Calls Tryd.prog 53 #[.string ⟨#[99]⟩,.pointer (some ⟨p,0,none⟩)] w fun e w'=>e=.returned (.bool false)∧w=w':=by
  subst hj
  have ho1:(o:Int) < 16:=by omega
  go_enter Tryd.func53,Tryd.ntmps53
  go_wp2_with (go_at_call 54;refine (Lu _).mono ?_;rintro e w' ⟨rfl,rfl⟩)
  go_ret
  exact ⟨rfl,rfl⟩
set_option maxRecDepth 100000 in
theorem Lt (w:World):Calls Tryd.prog 54 #[.string ⟨#[97,98,110]⟩,.string ⟨#[110]⟩] w fun e w'=>e=.returned (.bool true)∧w=w':=by
  have hi:=eX
  go_enter Tryd.func54,Tryd.ntmps54
  go_wp2
  go_ret
  exact ⟨rfl,rfl⟩
theorem BF (p o j:Nat) (hj:j=o * 2+1) (ho:o < 16) (w:World) (hp:w.cell? ⟨p,0,none⟩=some (.int .u8 o)) (ht:w.cell? ⟨0,j,none⟩=some (.string ⟨#[97,98,110]⟩)):Calls Tryd.prog 53 #[.string ⟨#[110]⟩,.pointer (some ⟨p,0,none⟩)] w fun e w'=>e=.returned (.bool true)∧w=w':=by
  subst hj
  have ho1:(o:Int) < 16:=by omega
  go_enter Tryd.func53,Tryd.ntmps53
  go_wp2_with (go_at_call 54;refine (Lt _).mono ?_;rintro e w' ⟨rfl,rfl⟩)
  go_ret
  exact ⟨rfl,rfl⟩
set_option maxRecDepth 100000 in
theorem LD (w:World):Calls Tryd.prog 54 #[.string ⟨#[97,98,110]⟩,.string ⟨#[97]⟩] w fun e w'=>e=.returned (.bool true)∧w=w':=by
  have hi:=eX
  go_enter Tryd.func54,Tryd.ntmps54
  go_wp2
  go_ret
  exact ⟨rfl,rfl⟩
theorem BG (p o j:Nat) (hj:j=o * 2+1) (ho:o < 16) (w:World) (hp:w.cell? ⟨p,0,none⟩=some (.int .u8 o)) (ht:w.cell? ⟨0,j,none⟩=some (.string ⟨#[97,98,110]⟩)):Calls Tryd.prog 53 #[.string ⟨#[97]⟩,.pointer (some ⟨p,0,none⟩)] w fun e w'=>e=.returned (.bool true)∧w=w':=by
  subst hj
  have ho1:(o:Int) < 16:=by omega
  go_enter Tryd.func53,Tryd.ntmps53
  go_wp2_with (go_at_call 54;refine (LD _).mono ?_;rintro e w' ⟨rfl,rfl⟩)
  go_ret
  exact ⟨rfl,rfl⟩
set_option maxRecDepth 100000 in
theorem Lr (w:World):Calls Tryd.prog 54 #[.string ⟨#[97,110,98]⟩,.string ⟨#[98]⟩] w fun e w'=>e=.returned (.bool true)∧w=w':=by
  have hi:=eX
  go_enter Tryd.func54,Tryd.ntmps54
  go_wp2
  go_ret
  exact ⟨rfl,rfl⟩
theorem uM (p o j:Nat) (hj:j=o * 2+1) (ho:o < 16) (w:World) (hp:w.cell? ⟨p,0,none⟩=some (.int .u8 o)) (ht:w.cell? ⟨0,j,none⟩=some (.string ⟨#[97,110,98]⟩)):Calls Tryd.prog 53 #[.string ⟨#[98]⟩,.pointer (some ⟨p,0,none⟩)] w fun e w'=>e=.returned (.bool true)∧w=w':=by
  subst hj
  have ho1:(o:Int) < 16:=by omega
  go_enter Tryd.func53,Tryd.ntmps53
  go_wp2_with (go_at_call 54;refine (Lr _).mono ?_;rintro e w' ⟨rfl,rfl⟩)
  go_ret
  exact ⟨rfl,rfl⟩
set_option maxRecDepth 100000 in
theorem Lp (w:World):Calls Tryd.prog 54 #[.string ⟨#[97,110,98]⟩,.string ⟨#[99]⟩] w fun e w'=>e=.returned (.bool false)∧w=w':=by
  have hi:=eX
  go_enter Tryd.func54,Tryd.ntmps54
  go_wp2
  go_ret
  exact ⟨rfl,rfl⟩
theorem uK (p o j:Nat) (hj:j=o * 2+1) (ho:o < 16) (w:World) (hp:w.cell? ⟨p,0,none⟩=some (.int .u8 o)) (ht:w.cell? ⟨0,j,none⟩=some (.string ⟨#[97,110,98]⟩)):Calls Tryd.prog 53 #[.string ⟨#[99]⟩,.pointer (some ⟨p,0,none⟩)] w fun e w'=>e=.returned (.bool false)∧w=w':=by
  subst hj
  have ho1:(o:Int) < 16:=by omega
  go_enter Tryd.func53,Tryd.ntmps53
  go_wp2_with (go_at_call 54;refine (Lp _).mono ?_;rintro e w' ⟨rfl,rfl⟩)
  go_ret
  exact ⟨rfl,rfl⟩
set_option maxRecDepth 100000 in
theorem Lm (w:World):Calls Tryd.prog 54 #[.string ⟨#[97,110,98]⟩,.string ⟨#[110]⟩] w fun e w'=>e=.returned (.bool true)∧w=w':=by
  have hi:=eX
  go_enter Tryd.func54,Tryd.ntmps54
  go_wp2
  go_ret
  exact ⟨rfl,rfl⟩
theorem BC (p o j:Nat) (hj:j=o * 2+1) (ho:o < 16) (w:World) (hp:w.cell? ⟨p,0,none⟩=some (.int .u8 o)) (ht:w.cell? ⟨0,j,none⟩=some (.string ⟨#[97,110,98]⟩)):Calls Tryd.prog 53 #[.string ⟨#[110]⟩,.pointer (some ⟨p,0,none⟩)] w fun e w'=>e=.returned (.bool true)∧w=w':=by
  subst hj
  have ho1:(o:Int) < 16:=by omega
  go_enter Tryd.func53,Tryd.ntmps53
  go_wp2_with (go_at_call 54;refine (Lm _).mono ?_;rintro e w' ⟨rfl,rfl⟩)
  go_ret
  exact ⟨rfl,rfl⟩
set_option maxRecDepth 100000 in
theorem Ls (w:World):Calls Tryd.prog 54 #[.string ⟨#[97,110,98]⟩,.string ⟨#[97]⟩] w fun e w'=>e=.returned (.bool true)∧w=w':=by
  have hi:=eX
  go_enter Tryd.func54,Tryd.ntmps54
  go_wp2
  go_ret
  exact ⟨rfl,rfl⟩
theorem BD (p o j:Nat) (hj:j=o * 2+1) (ho:o < 16) (w:World) (hp:w.cell? ⟨p,0,none⟩=some (.int .u8 o)) (ht:w.cell? ⟨0,j,none⟩=some (.string ⟨#[97,110,98]⟩)):Calls Tryd.prog 53 #[.string ⟨#[97]⟩,.pointer (some ⟨p,0,none⟩)] w fun e w'=>e=.returned (.bool true)∧w=w':=by
  subst hj
  have ho1:(o:Int) < 16:=by omega
  go_enter Tryd.func53,Tryd.ntmps53
  go_wp2_with (go_at_call 54;refine (Ls _).mono ?_;rintro e w' ⟨rfl,rfl⟩)
  go_ret
  exact ⟨rfl,rfl⟩
end Go.Proofs.YtlemecdddhdagaaDoor.P
end
section
namespace Go.Proofs
open Go.Shelf
shelf_lay LaysM.n246 Nm 246 at Tryd as Tryd.laysM246
end Go.Proofs
namespace Go.Proofs.YtlemecdddhdagaaDoor.P
open Go.RowKit Go.Sort Go.Lib Go.Proofs.ag.bH Go.Proofs.ag.dM Go.Proofs.ag.dY
theorem OY:Tryd.prog.globalNamed "internal/strconv.uint64pow10"=some 2:=by kernel_rfl
def Fe (w:World):Prop:=Lib.TabIs Tryd.prog w "internal/strconv.uint64pow10" .u64 Lib.pow10Tab
theorem GI {w w1:World} (hb:Below w.heap.size w w1) (h:Fe w):Fe w1:=by
  unfold Fe Lib.TabIs World.var? at h ⊢
  rw [OY] at h ⊢
  simp only [Option.bind_some] at h ⊢
  have hg:2 < w.heap.size:=by
    rcases Nat.lt_or_ge 2 w.heap.size with h1|h1
    · exact h1
    · rw [Array.getElem?_eq_none h1] at h
      cases h
  rw [hb.block 2 hg]
  exact h
abbrev xM:Kd Unit where
  sz:=1
  E:=[]
  K:=fun w _ cs=>cs=[.int .u64 1]∧Fe w
  M:=fun _ _ _ _ _=>False
  pK:=fun h=>by rw [h.1];rfl
  pJ:=fun h u hu=>by
    rw [h.1] at hu
    rw [List.mem_singleton.1 hu]
    rfl
  lY:=fun hb h=>⟨h.1,GI hb h.2⟩
  lq:=fun h=>h.elim
  iW:=fun _ h=>h
  jV:=fun h=>h
  lJ:=fun _ h=>h
  lW:=fun _ h=>h
def xN:Option Addr:=some ⟨2,0,none⟩
def pg:List Unit:=[()]
theorem Qq {w:World} (h:Fe w):Kd.C xM w xN pg.length pg:=by
  refine ⟨rfl,by decide,fun _=>⟨_,rfl,fun j p hj=>⟨[.int .u64 1],rfl,⟨rfl,h⟩,fun i u hu=>?_⟩⟩⟩
  have hj0:j=0:=by
    have:=(List.getElem?_eq_some_iff.1 hj).1
    have h1:pg.length=1:=rfl
    omega
  have hi:i=0:=by
    have:=(List.getElem?_eq_some_iff.1 hu).1
    simp at this
    exact this
  subst hj0 hi
  simp at hu
  subst hu
  exact h.cell OY 0 (by decide)
theorem Qr {w:World} (h:Kd.C xM w xN pg.length pg):Fe w:=by
  obtain ⟨_,_,hc⟩:=h
  obtain ⟨_,_,hc⟩:=hc (by decide)
  obtain ⟨_,_,hk,_⟩:=hc 0 () rfl
  exact hk.2
def ja.f (n b:Int):Option ByteArray :=
  if b=10 then (if -9223372036854775808≤n∧n≤9223372036854775807 then some ⟨(Lib.itoa n).toArray⟩ else none) else none
theorem LP (n:Int) (h0:-9223372036854775808≤n) (h1:n≤9223372036854775807) (w:World) (h:Fe w) :
    Calls Tryd.prog 72 #[.int .i64 n,.int .i64 10] w fun e w'=>e=.returned (.string ⟨(Lib.itoa n).toArray⟩)∧Below w.heap.size w w':=by
  refine (Any.internal_strconv_FormatInt_10 Tryd.laysM246 n h0 h1 w h).mono ?_
  rintro e w' ⟨rfl,k,os,rfl⟩
  refine ⟨rfl,?_⟩
  have h1:Below w.heap.size w (w.drewN k):=by
    exact af (Below.refl _ _) k
  refine ⟨h1.os,h1.tape,h1.output,?_,fun i hi=>?_⟩
  · have:=h1.size
    unfold grow
    simp only [Array.size_append]
    omega
  · have:=h1.block i hi
    have hs:=h1.size
    rw [← this]
    unfold grow
    exact Array.getElem?_append_left (by omega)
set_option maxRecDepth 100000 in
set_option maxHeartbeats 3200000 in
theorem ja.calls (a0 a1:Int) (r:ByteArray) (w:World) (kX:Kd.C xM w xN pg.length pg) (h:ja.f a0 a1=some r) :
    Calls Tryd.prog 66 #[.int .i64 a0,.int .i64 a1] w fun e w'=>e=.returned (.string r)∧Below w.heap.size w w':=by
  unfold ja.f at h
  by_cases hb:a1=10
  · rw [if_pos hb] at h
    by_cases hn:-9223372036854775808≤a0∧a0≤9223372036854775807
    · rw [if_pos hn] at h
      obtain rfl:=Option.some.inj h
      subst hb
      have ht:=Qr kX
      clear kX h
      go_enter Tryd.func66,Tryd.ntmps66
      go_wp2_with (go_at_call 72;refine (LP a0 hn.1 hn.2 _ ht).mono ?_;rintro e w' ⟨rfl,bel⟩)
      all_goals go_ret
      all_goals exact ⟨rfl,bel⟩
    · rw [if_neg hn] at h
      cases h
  · rw [if_neg hb] at h
    cases h
end Go.Proofs.YtlemecdddhdagaaDoor.P
end
section
namespace Go.Proofs.YtlemecdddhdagaaDoor.P
open Go.ChangeShapes Go.WideShapes Go.ChangeAt Go.RowKit Go.Joins Go.Proofs.ag.bH Go.Proofs.ag.dM Go.Proofs.ag.dY
theorem own:ownKnob Tryd.prog.godebug=none:=by kernel_rfl
theorem gTab:Tryd.prog.globalNamed "lockstitch/code.ops"=some 0:=by kernel_rfl
theorem OX:(Tryd.prog.globals[0]?).map (·.type)=some 88:=by kernel_rfl
theorem VG:Tryd.prog.cellsOf 88=32:=by kernel_rfl
theorem VH:Tryd.prog.cellsOf 87=2:=by kernel_rfl
theorem cells9:Tryd.prog.cellsOf 9=1:=by kernel_rfl
theorem cells5:Tryd.prog.cellsOf 5=1:=by kernel_rfl
theorem cells2:Tryd.prog.cellsOf 2=1:=by kernel_rfl
theorem cells22:Tryd.prog.cellsOf 22=1:=by kernel_rfl
theorem cells23:Tryd.prog.cellsOf 23=1:=by kernel_rfl
theorem cells25:Tryd.prog.cellsOf 25=4:=by kernel_rfl
theorem cells55:Tryd.prog.cellsOf 55=5:=by kernel_rfl
def pairs:List (List UInt8 × List UInt8):=[([],[]),([115,101,116],[97,110]),([97,100,100],[97,98,99]),([106,117,109,112],[110]),([122,101,114,111],[97,110]),([110,101,119],[97]),([110,105,108],[97]),([109,111,118,101],[97,98]),([108,111,97,100,105],[97,98,110]),([115,116,111,114,101,105],[97,110,98]),([108,111,97,100,112],[97,98,110]),([115,116,111,114,101,112],[97,110,98]),([108,111,97,100,103],[97,98]),([115,116,111,114,101,103],[97,98]),([112,114,105,110,116],[97]),([115,97,109,101],[97,98,99])]
def Ed {H:Type} (p:List UInt8 × List UInt8):DataW H:=.agg [.lit (.string p.1),.lit (.string p.2)]
def flat:List (List UInt8 × List UInt8)→List Value
  | []=>[]
  | p :: r=>.string ⟨p.1.toArray⟩ :: .string ⟨p.2.toArray⟩ :: flat r
theorem JX:∀ (ps:List (List UInt8 × List UInt8)) (cs:List Value),cs.length=2 * ps.length →
    (∀ i p,ps[i]? = some p→cs[2 * i]? = some (.string ⟨p.1.toArray⟩)∧cs[2 * i+1]? = some (.string ⟨p.2.toArray⟩))→cs=flat ps
  | [],cs,hl,_=>by
    simp at hl
    exact hl
  | p :: r,c0 :: c1 :: cs,hl,h=>by
    obtain ⟨h0,h1⟩:=h 0 p rfl
    simp at h0 h1
    rw [JX r cs (by simp at hl;omega) fun i q hq=>?_,h0,h1]
    · rfl
    · have:=h (i+1) q (by simpa using hq)
      rw [show 2 * (i+1)=2 * i+2 from by omega,show 2 * i+2+1=2 * i+1+2 from by omega] at this
      simpa using this
  | p :: r,[c0],hl,h=>by simp at hl;omega
  | p :: r,[],hl,h=>by simp at hl
theorem J8 {s:ByteArray} {l:List UInt8} (h:s.data.toList=l):s=⟨l.toArray⟩:=by
  cases s
  subst h
  simp
theorem DY {H:Type} {enc:TypeId × Value→H} {w:World} {base:Nat} {sp:Nat→Bool} {held:Bool} {fuel:Nat} {cs:List Value} {p:List MemPlace}
    (h:DataW.trod enc Tryd.prog w base sp held fuel 88 cs=some (.agg (pairs.map Ed),p)):cs=flat pairs:=by
  cases fuel with
  | zero=>simp [DataW.trod] at h
  | succ fuel =>
    simp only [DataW.trod,Tryd.underlying88,VH,VG] at h
    split at h
    · rename_i hl
      obtain ⟨xs,hm,hx⟩:=Option.map_eq_some_iff.1 h
      have hxs:xs.map (·.1)=pairs.map (Ed (H:=H)):=by
        have:=congrArg Prod.fst hx
        simpa using this
      refine JX pairs cs hl fun i q hq=>?_
      have hi:i < 16:=(List.getElem?_eq_some_iff.1 hq).1
      obtain ⟨b,hb,hf⟩:=Lib.mapM_at hm i i (by simp [hi])
      have hb1:b.1=Ed q:=by
        have:(xs.map (·.1))[i]? = some b.1:=by simp [hb]
        rw [hxs] at this
        simp [hq] at this
        exact this.symm
      obtain ⟨y0,y1,n,rfl,_,t0,t1⟩:=trod_struct2 Tryd.underlying87 hf
      simp only [cells9] at t0 t1
      obtain ⟨s0,e0,rfl,_⟩:=DataW.trod_string Tryd.underlying9 t0
      obtain ⟨s1,e1,rfl,_⟩:=DataW.trod_string Tryd.underlying9 t1
      unfold Ed at hb1
      simp at hb1
      constructor
      · have:=congrArg (·[0]?) e0
        simp [List.getElem?_drop] at this
        rw [Nat.mul_comm,this,J8 hb1.1]
      · have:=congrArg (·[0]?) e1
        simp [List.getElem?_drop] at this
        rw [Nat.mul_comm,this,J8 hb1.2]
    · cases h
theorem QM {H:Type}:(Rows.laid_lockstitch_code_ops:DataW H)=.agg (pairs.map Ed):=rfl
theorem OZ:flat pairs=jX.map Value.string:=rfl
noncomputable def laidAll:List (String × DataW Unit):=[("math/bits.deBruijn32tab",Rows.laid_math_bits_deBruijn32tab),("math/bits.deBruijn64tab",Rows.laid_math_bits_deBruijn64tab),("internal/strconv.uint64pow10",Rows.laid_internal_strconv_uint64pow10),("lockstitch/code.ops",Rows.laid_lockstitch_code_ops)]
theorem zJ {P:Program} {w:World} {n:String} {d:DataW Unit}:∀ {l:List (String × DataW Unit)} {ps:List MemPlace},DataW.LaidVars P w l ps→(n,d) ∈ l →
    ∃ g t cs fuel p,P.globalNamed n=some g∧(P.globals[g]?).map (·.type)=some t∧w.var? P n=some cs∧DataW.trod (fun _=>()) P w 0 (fun _=>true) false fuel t cs.toList=some (d,p)
  | [],_,_,h=>by cases h
  | (n',d') :: r,ps,⟨g,t,cs,fuel,p,q,h1,h2,h3,h4,h5,_⟩,h=>by
    rcases List.mem_cons.1 h with e|h
    · injection e with e1 e2
      subst e1 e2
      exact ⟨g,t,cs,fuel,p,h1,h2,h3,h4⟩
    · exact zJ h5 h
theorem Nu:(Rows.laid_internal_strconv_uint64pow10:DataW Unit)=Lib.tabData .u64 Lib.pow10Tab:=by kernel_rfl
theorem Pe:Tryd.prog.cellsOf 114=20:=by kernel_rfl
theorem Pg:Tryd.prog.cellsOf 112=1:=by kernel_rfl
theorem LM:(Tryd.prog.globals[2]?).map (·.type)=some 114:=by kernel_rfl
set_option maxRecDepth 100000 in
theorem Xw {W:World} (hL:laidMetH Tryd.prog laidAll W):Kd.C xM W xN pg.length pg:=by
  rw [MakeChecks.laidMetH_plain _ _ _ (by kernel_rfl)] at hL
  obtain ⟨ps,h,_⟩:=hL
  refine Qq ?_
  obtain ⟨g',t',cs,fuel,p,hg',ht',hvar,hd⟩:=zJ (n:="internal/strconv.uint64pow10") (d:=Rows.laid_internal_strconv_uint64pow10) h (.tail _ (.tail _ (.head _)))
  obtain rfl:=Option.some.inj (OY.symm.trans hg')
  obtain rfl:=Option.some.inj (LM.symm.trans ht')
  rw [Nu] at hd
  unfold Fe Lib.TabIs
  rw [hvar,← Lib.cells_of_tab Tryd.underlying114 Tryd.underlying112 Pg Pe hd]
set_option maxRecDepth 100000 in
theorem table {W:World} (hL:laidMetH Tryd.prog laidAll W):Kd.C Kd.string W qo jX.length jX:=by
  rw [MakeChecks.laidMetH_plain _ _ _ (by kernel_rfl)] at hL
  obtain ⟨ps,h,_⟩:=hL
  obtain ⟨g',t',cs,fuel,p,hg',ht',hvar,hd⟩:=zJ (n:="lockstitch/code.ops") (d:=Rows.laid_lockstitch_code_ops) h (.tail _ (.tail _ (.tail _ (.head _))))
  obtain rfl:=Option.some.inj (gTab.symm.trans hg')
  obtain rfl:=Option.some.inj (OX.symm.trans ht')
  rw [QM] at hd
  have e:=DY hd
  rw [OZ] at e
  refine ⟨rfl,by decide,fun _=>⟨_,rfl,fun j p hj=>⟨[.string p],rfl,rfl,fun i u hu=>?_⟩⟩⟩
  have hi:i=0:=by
    have:=(List.getElem?_eq_some_iff.1 hu).1
    simp at this
    exact this
  subst hi
  simp at hu
  subst hu
  have:=World.var?_cell gTab hvar j
  show W.cell? ((⟨0,0,none⟩:Addr).add (j * 1+0))=_
  rw [show (⟨0,0,none⟩:Addr).add (j * 1+0)=⟨0,j,none⟩ from (by simp [Addr.add];omega),this,← Array.getElem?_toList,e,List.getElem?_map,hj]
  rfl
noncomputable def laidWorld (os:Os):World:=World.laidAll Tryd.prog os laidAll
set_option maxRecDepth 100000 in
theorem laid_met (os:Os) (args:Array Value):laidMet Tryd.prog laidAll ((laidWorld os).forCall (fun _ _=>0) ⟨#[],args,[]⟩).memory :=
  laidMet_laidAll args (by kernel_rfl) (by kernel_rfl)
section
variable {H:Type} {enc:TypeId × Value→H} {w:World} {base:Nat} {sp:Nat→Bool} {held:Bool}
theorem F8 {fuel:Nat} {v:Value} {x:DataW H × List MemPlace} (h:DataW.trod enc Tryd.prog w base sp held fuel 22 [v]=some x) :
    ∃ (A:Option Addr) (c:Nat) (t:List ByteArray),v=.slice A t.length c∧t.length≤c∧Kd.C Kd.string w A t.length t∧∀ i:Int,(dV ByteArray.empty t i).size≤9223372036854775807:=by
  rcases open_strings Tryd.underlying22 Tryd.underlying9 cells9 h with ⟨hcs,_⟩|⟨a,len,cap,ss,hcs,_,hl,hm,hss,_,hcell,hsz⟩
  · injection hcs with hcs
    subst hcs
    exact ⟨none,0,[],rfl,Nat.le_refl _,⟨rfl,by decide,fun h=>absurd h (Nat.lt_irrefl _)⟩,fun i=>by unfold dV;simp⟩
  · injection hcs with hcs
    subst hcs
    have hle:len≤ss.length:=by rw [hss];split <;> omega
    have hlen:(ss.take len).length=len:=by rw [List.length_take];omega
    refine ⟨some a,cap,ss.take len,by rw [hlen],by rw [hlen];exact hl,⟨rfl,by rw [hlen];unfold maxLen at hm;omega,fun _=>⟨a,rfl,fun j p hj=>⟨[.string p],rfl,rfl,fun i u hu=>?_⟩⟩⟩,fun i=>?_⟩
    rotate_left
    · unfold dV
      rw [List.getD_eq_getElem?_getD]
      cases hx:(ss.take len)[i.toNat]? with
      | none=>decide
      | some x =>
        have:=hsz x (List.mem_of_mem_take (List.mem_of_getElem? hx))
        unfold maxLen at this
        exact this
    have hjl:j < len:=by
      have:=(List.getElem?_eq_some_iff.1 hj).1
      omega
    have hi:i=0:=by
      have:=(List.getElem?_eq_some_iff.1 hu).1
      simp at this
      exact this
    subst hi
    simp at hu
    subst hu
    show w.cell? (a.add (j * 1+0))=_
    rw [show j * 1+0=j from by omega,hcell j (by omega),List.getD_eq_getElem?_getD]
    rw [List.getElem?_take,if_pos hjl] at hj
    rw [hj]
    rfl
def PM (w:World) (a:Addr) (i:Nat) (x:gY):Prop :=
  (∀ q u,([.int .u8 x.f0,.int .u8 x.f1,.int .u8 x.f2,.int .u8 x.f3,.int .i64 x.f4]:List Value)[q]? = some u→w.cell? (a.add (i * 5+q))=some u) ∧
  (0≤x.f0∧x.f0≤255)∧(0≤x.f1∧x.f1≤255)∧(0≤x.f2∧x.f2≤255)∧(0≤x.f3∧x.f3≤255)∧(-9223372036854775808≤x.f4∧x.f4≤9223372036854775807)
theorem X9 {n:Int} (h:(Lit.int .i64 n).wf=true):-9223372036854775808≤n∧n≤9223372036854775807:=by
  simp only [Lit.wf,Bool.and_eq_true,decide_eq_true_eq] at h
  exact h
theorem DW {n:Int} (h:(Lit.int .u8 n).wf=true):0≤n∧n≤255:=by
  simp only [Lit.wf,Bool.and_eq_true,decide_eq_true_eq] at h
  exact h
theorem L6 {w:World} {base:Nat} {a:Addr} {n:Nat} {cs:List Value} (h:w.cells? base a n=some cs):cs.length=n∧∀ q,q < n→w.cell? (a.add q)=cs[q]?:=by
  unfold World.cells? at h
  split at h
  · exact ⟨by simpa using mapM_some_length h,fun q hq=>mapM_some_get h q q (by simp [hq])⟩
  · cases h
theorem zD {cs:List Value} {k:Nat} {v:Value} (h:(cs.drop k).take 1=[v]):cs[k]? = some v:=by
  have:=congrArg (·[0]?) h
  simpa [List.getElem?_take,List.getElem?_drop] using this
theorem Nz {fuel:Nat} {a:Addr} {i:Nat} {y:DataW H × List MemPlace} (h:(w.cells? base (a.add (i * 5)) 5).bind (DataW.trod enc Tryd.prog w base sp held fuel 55)=some y):∃ x,PM w a i x:=by
  rw [Option.bind_eq_some_iff] at h
  obtain ⟨cs,hc,h⟩:=h
  obtain ⟨hl,hcell⟩:=L6 hc
  obtain ⟨xs,n,_,_,_,hxl,hf⟩:=DataW.trod_struct Tryd.underlying55 h
  match xs,hxl with
  | [y0,y1,y2,y3,y4],_ =>
    have f0:DataW.trod enc Tryd.prog w base sp held n 5 ((cs.drop 0).take (Tryd.prog.cellsOf 5))=some y0:=hf 0 _ rfl
    have f1:DataW.trod enc Tryd.prog w base sp held n 5 ((cs.drop 1).take (Tryd.prog.cellsOf 5))=some y1:=hf 1 _ rfl
    have f2:DataW.trod enc Tryd.prog w base sp held n 5 ((cs.drop 2).take (Tryd.prog.cellsOf 5))=some y2:=hf 2 _ rfl
    have f3:DataW.trod enc Tryd.prog w base sp held n 5 ((cs.drop 3).take (Tryd.prog.cellsOf 5))=some y3:=hf 3 _ rfl
    have f4:DataW.trod enc Tryd.prog w base sp held n 2 ((cs.drop 4).take (Tryd.prog.cellsOf 2))=some y4:=hf 4 _ rfl
    rw [cells5] at f0 f1 f2 f3
    rw [cells2] at f4
    obtain ⟨n0,e0,_,w0⟩:=DataW.trod_int Tryd.underlying5 f0
    obtain ⟨n1,e1,_,w1⟩:=DataW.trod_int Tryd.underlying5 f1
    obtain ⟨n2,e2,_,w2⟩:=DataW.trod_int Tryd.underlying5 f2
    obtain ⟨n3,e3,_,w3⟩:=DataW.trod_int Tryd.underlying5 f3
    obtain ⟨n4,e4,_,w4⟩:=DataW.trod_int Tryd.underlying2 f4
    refine ⟨⟨n0,n1,n2,n3,n4⟩,fun q u hu=>?_,DW w0,DW w1,DW w2,DW w3,X9 w4⟩
    rw [← Addr.add_add]
    match q,hu with
    | 0,hu=>rw [hcell 0 (by omega),zD e0];exact hu
    | 1,hu=>rw [hcell 1 (by omega),zD e1];exact hu
    | 2,hu=>rw [hcell 2 (by omega),zD e2];exact hu
    | 3,hu=>rw [hcell 3 (by omega),zD e3];exact hu
    | 4,hu=>rw [hcell 4 (by omega),zD e4];exact hu
    | q+5,hu=>simp at hu
end
def WfX (x:gY):Prop:=(0≤x.f0∧x.f0≤255)∧(0≤x.f1∧x.f1≤255)∧(0≤x.f2∧x.f2≤255)∧(0≤x.f3∧x.f3≤255)∧(-9223372036854775808≤x.f4∧x.f4≤9223372036854775807)
def WfC (code:List gY):Prop:=∀ i:Nat,WfX (code.getD i z55)
section
variable {H:Type} {enc:TypeId × Value→H} {w:World} {base:Nat} {sp:Nat→Bool} {held:Bool}
theorem La {fuel:Nat} {v:Value} {x:DataW H × List MemPlace} (h:DataW.trod enc Tryd.prog w base sp held fuel 23 [v]=some x) :
    ∃ (A:Option Addr) (c:Nat) (code:List gY),v=.slice A code.length c∧code.length≤c∧Kd.C tu w A code.length code∧WfC code:=by
  have z:WfX z55:=by unfold WfX;decide
  rcases DataW.trod_slice Tryd.underlying23 h with ⟨hcs,_⟩|⟨a,len,cap,elems,rest,n,_,hcs,_,_,hl,hm,hlen,hel,_⟩
  · injection hcs with hcs
    subst hcs
    exact ⟨none,0,[],rfl,Nat.le_refl _,⟨rfl,by decide,fun h=>absurd h (Nat.lt_irrefl _)⟩,fun i=>z⟩
  · injection hcs with hcs
    subst hcs
    have each:∀ i,∃ x:gY,i < len→PM w a i x:=fun i=>by
      by_cases hi:i < len
      · have:=hel i hi
        rw [cells55,List.getElem?_eq_getElem (by omega)] at this
        obtain ⟨x,hx⟩:=Nz this
        exact ⟨x,fun _=>hx⟩
      · exact ⟨z55,fun h=>absurd h hi⟩
    let f:=fun i=>Classical.choose (each i)
    have hf:∀ i,i < len→PM w a i (f i):=fun i=>Classical.choose_spec (each i)
    have hlen:((List.range len).map f).length=len:=by simp
    have get:∀ j p,((List.range len).map f)[j]? = some p→j < len∧p=f j:=fun j p hj=>by
      have:=(List.getElem?_eq_some_iff.1 hj).1
      rw [hlen] at this
      rw [List.getElem?_map,List.getElem?_range this] at hj
      exact ⟨this,(Option.some.inj hj).symm⟩
    refine ⟨some a,cap,(List.range len).map f,by rw [hlen],by rw [hlen];exact hl,⟨rfl,by rw [hlen];unfold maxLen at hm;omega,fun _=>⟨a,rfl,fun j p hj=>?_⟩⟩,fun i=>?_⟩
    · obtain ⟨hjl,rfl⟩:=get j p hj
      exact ⟨_,rfl,X4 w (f j),(hf j hjl).1⟩
    · by_cases hi:i < len
      · rw [List.getD_eq_getElem?_getD,List.getElem?_map,List.getElem?_range hi]
        exact (hf i hi).2
      · rw [List.getD_eq_getElem?_getD,List.getElem?_eq_none (by omega)]
        exact z
set_option maxRecDepth 20000 in
theorem KZ {r:Reach} {b0:Nat} {v:Value} {d:DataW H} {p:List MemPlace} (hv:Value.okWide Tryd.prog w r b0 25 v) (h:DataW.Trod enc Tryd.prog w base sp held 25 v d p) :
    ∃ (A0:Option Addr) (c0:Nat) (t:List ByteArray) (lo gl:ByteArray) (A3:Option Addr) (c3:Nat) (code:List gY) (d0 d3:DataW H),
      v=.agg #[.slice A0 t.length c0,.string lo,.string gl,.slice A3 code.length c3]∧d=.agg [d0,.lit (.string lo.data.toList),.lit (.string gl.data.toList),d3] ∧
      Kd.C Kd.string w A0 t.length t∧t.length≤c0∧Kd.C tu w A3 code.length code∧code.length≤c3∧WfC code∧∀ i:Int,(dV ByteArray.empty t i).size≤9223372036854775807:=by
  obtain ⟨cs,rfl,hsz⟩:=okWide_struct Tryd.underlying25 hv
  rw [cells25] at hsz
  obtain ⟨v0,v1,v2,v3,rfl⟩:=array4 hsz
  obtain ⟨fuel,h⟩:=h
  obtain ⟨y0,y1,y2,y3,n,he,_,f0,f1,f2,f3⟩:=trod_struct4 Tryd.underlying25 h
  injection he with he _
  subst he
  dsimp only at f0 f1 f2 f3
  rw [cells22] at f0
  rw [cells9] at f1 f2
  rw [cells23] at f3
  obtain ⟨A0,c0,t,rfl,ht,hT,hts⟩:=F8 f0
  obtain ⟨lo,e1,rfl,_⟩:=DataW.trod_string Tryd.underlying9 f1
  obtain ⟨gl,e2,rfl,_⟩:=DataW.trod_string Tryd.underlying9 f2
  obtain ⟨A3,c3,code,rfl,hc,hC,hw⟩:=La f3
  have e1':v1=.string lo:=by
    have:[v1]=[Value.string lo]:=e1
    injection this
  have e2':v2=.string gl:=by
    have:[v2]=[Value.string gl]:=e2
    injection this
  subst e1' e2'
  exact ⟨A0,c0,t,lo,gl,A3,c3,code,_,_,rfl,rfl,hT,ht,hC,hc,hw,hts⟩
end
theorem KW {H:Type} {lo gl:ByteArray} {d0 d3:DataW H} {ts:List TypeId} {ds:List (DataW H)}
    (h:(DataW.weightsEach Tryd.prog (25 :: ts) (.agg [d0,.lit (.string lo.data.toList),.lit (.string gl.data.toList),d3] :: ds)).all (·≤reachBytes)=true):lo.size≤reachBytes∧gl.size≤reachBytes:=by
  simp only [DataW.weightsEach,DataW.weights,Tryd.underlying25,List.all_append,Bool.and_eq_true,List.map,List.all_cons,List.all_nil,decide_eq_true_eq] at h
  obtain ⟨⟨_,h1,h2,_⟩,_⟩:=h
  exact ⟨h1.1,h2.1⟩
end Go.Proofs.YtlemecdddhdagaaDoor.P
end
