/- Parts of the proof of ModelRight: what the functions that it reaches compute, and plain facts about that. -/
import Derived.Laws.Externs
import Derived.Lib.Bytealg
import Derived.Laws.NewBlocks
import Derived.Test.YtlemecdddhdagaaDoorVab
import Derived.Shelf.Lay
import Derived.Shelf.Strconv.Itoa3
import Derived.Lib.LaidTab
import Derived.Test.YtlemecdddhdagaaDoorTie
import Derived.WalkKit
import Derived.ProofKit
import Derived.OpenShut
import Derived.ShutString
import Derived.ChangeOld
import Derived.Below
import Derived.SliceStrings
import Derived.Deep.DeepHandedRow
import Derived.Lib.SmallJoins
import Derived.LaidLaws
import Derived.Lay
set_option linter.unusedVariables false
set_option linter.unusedSimpArgs false
section
namespace Go.Proofs.YtlemecdddhdagaaDoor.P
open Go.RowKit Go.Proofs.ag.bI Go.Proofs.ag.dM Go.Proofs.ag.dZ
def qx:Option Addr:=some ⟨0,0,none⟩
def ku:List ByteArray:=[⟨#[]⟩,⟨#[]⟩,⟨#[115,101,116]⟩,⟨#[97,110]⟩,⟨#[97,100,100]⟩,⟨#[97,98,99]⟩,⟨#[106,117,109,112]⟩,⟨#[110]⟩,⟨#[122,101,114,111]⟩,⟨#[97,110]⟩,⟨#[110,101,119]⟩,⟨#[97]⟩,⟨#[110,105,108]⟩,⟨#[97]⟩,⟨#[109,111,118,101]⟩,⟨#[97,98]⟩,⟨#[108,111,97,100,105]⟩,⟨#[97,98,110]⟩,⟨#[115,116,111,114,101,105]⟩,⟨#[97,110,98]⟩,⟨#[108,111,97,100,112]⟩,⟨#[97,98,110]⟩,⟨#[115,116,111,114,101,112]⟩,⟨#[97,110,98]⟩,⟨#[108,111,97,100,103]⟩,⟨#[97,98]⟩,⟨#[115,116,111,114,101,103]⟩,⟨#[97,98]⟩,⟨#[112,114,105,110,116]⟩,⟨#[97]⟩,⟨#[115,97,109,101]⟩,⟨#[97,98,99]⟩]
def letters (o:Int):List UInt8 :=
  if o=1 then [97,110]
  else if o=2 then [97,98,99]
  else if o=3 then [110]
  else if o=4 then [97,110]
  else if o=5 then [97]
  else if o=6 then [97]
  else if o=7 then [97,98]
  else if o=8 then [97,98,110]
  else if o=9 then [97,110,98]
  else if o=10 then [97,98,110]
  else if o=11 then [97,110,98]
  else if o=12 then [97,98]
  else if o=13 then [97,98]
  else if o=14 then [97]
  else if o=15 then [97,98,99]
  else []
def hasB (o:Int) (c:UInt8):Bool:=(letters o).contains c
def lX.f (dC:Int) (aU:Int) (aV:Int) (fD:Int) (fK:Int):Option (Bool) :=
  if dC < 1 then some false else if dC > 15 then some false else
  some ((hasB dC 98 || aV == 0) && (hasB dC 99 || fD == 0) && (hasB dC 110 || fK == 0) && (hasB dC 97 || aU == 0))
theorem fC (s:ByteArray) (c:Int) (w:World):(callFunc 87 #[.string s,.int .u8 c]).run Tryd.prog w=.ok (.value (.int .i64 (Lib.indexByte s.data.toList c.toNat.toUInt8))) w:=by
  rw [run_callFunc_extern Tryd.func87 (by kernel_rfl) (by kernel_rfl) (by kernel_rfl) (e:=Extern.BytealgIndexByte.indexByte) (by kernel_rfl),Lib.run_indexByteString]
  rfl
theorem NJ {w:World} (h:Kd.C Kd.string w qx ku.length ku) (i:Nat) (hi:i < 32):w.cell? ⟨0,i,none⟩=some (.string (ku.getD i ByteArray.empty)):=by
  obtain ⟨ad,e,hc⟩:=Kd.jD h i (by omega) (by show (i:Int) < 32;omega)
  injection e with e
  subst e
  rw [Int.toNat_natCast] at hc
  rw [show dW ByteArray.empty ku (i:Int)=ku.getD i ByteArray.empty from by simp [dW]] at hc
  rw [← hc]
  unfold Addr.add
  split
  · rename_i h0
    subst h0
    rfl
  · simp
theorem jQ {w:World} (h:Kd.C Kd.string w qx ku.length ku) (o:Obj) (i:Nat) (hi:i < 32) (s:ByteArray) (hs:ku.getD i ByteArray.empty=s):(w.alloc o).cell? ⟨0,i,none⟩=some (.string s):=by
  have hc:=NJ h i hi
  rw [World.cell?_alloc_past _ _ _ (World.block_lt_of_cell? w _ hc),hc,hs]
set_option maxRecDepth 100000 in
theorem Px (w:World):Calls Tryd.prog 54 #[.string ⟨#[97,110]⟩,.string ⟨#[98]⟩] w fun e w'=>e=.returned (.bool false)∧w=w':=by
  have hi:=fC
  go_enter Tryd.func54,Tryd.ntmps54
  go_wp2
  go_ret
  exact ⟨rfl,rfl⟩
theorem rF (p o j:Nat) (hj:j=o * 2+1) (ho:o < 16) (w:World) (hp:w.cell? ⟨p,0,none⟩=some (.int .u8 o)) (ht:w.cell? ⟨0,j,none⟩=some (.string ⟨#[97,110]⟩)):Calls Tryd.prog 53 #[.string ⟨#[98]⟩,.pointer (some ⟨p,0,none⟩)] w fun e w'=>e=.returned (.bool false)∧w=w':=by
  subst hj
  have ho1:(o:Int) < 16:=by omega
  go_enter Tryd.func53,Tryd.ntmps53
  go_wp2_with (go_at_call 54;refine (Px _).mono ?_;rintro e w' ⟨rfl,rfl⟩)
  go_ret
  exact ⟨rfl,rfl⟩
set_option maxRecDepth 100000 in
theorem Pv (w:World):Calls Tryd.prog 54 #[.string ⟨#[97,110]⟩,.string ⟨#[99]⟩] w fun e w'=>e=.returned (.bool false)∧w=w':=by
  have hi:=fC
  go_enter Tryd.func54,Tryd.ntmps54
  go_wp2
  go_ret
  exact ⟨rfl,rfl⟩
theorem xh (p o j:Nat) (hj:j=o * 2+1) (ho:o < 16) (w:World) (hp:w.cell? ⟨p,0,none⟩=some (.int .u8 o)) (ht:w.cell? ⟨0,j,none⟩=some (.string ⟨#[97,110]⟩)):Calls Tryd.prog 53 #[.string ⟨#[99]⟩,.pointer (some ⟨p,0,none⟩)] w fun e w'=>e=.returned (.bool false)∧w=w':=by
  subst hj
  have ho1:(o:Int) < 16:=by omega
  go_enter Tryd.func53,Tryd.ntmps53
  go_wp2_with (go_at_call 54;refine (Pv _).mono ?_;rintro e w' ⟨rfl,rfl⟩)
  go_ret
  exact ⟨rfl,rfl⟩
set_option maxRecDepth 100000 in
theorem Pq (w:World):Calls Tryd.prog 54 #[.string ⟨#[97,110]⟩,.string ⟨#[110]⟩] w fun e w'=>e=.returned (.bool true)∧w=w':=by
  have hi:=fC
  go_enter Tryd.func54,Tryd.ntmps54
  go_wp2
  go_ret
  exact ⟨rfl,rfl⟩
theorem Fg (p o j:Nat) (hj:j=o * 2+1) (ho:o < 16) (w:World) (hp:w.cell? ⟨p,0,none⟩=some (.int .u8 o)) (ht:w.cell? ⟨0,j,none⟩=some (.string ⟨#[97,110]⟩)):Calls Tryd.prog 53 #[.string ⟨#[110]⟩,.pointer (some ⟨p,0,none⟩)] w fun e w'=>e=.returned (.bool true)∧w=w':=by
  subst hj
  have ho1:(o:Int) < 16:=by omega
  go_enter Tryd.func53,Tryd.ntmps53
  go_wp2_with (go_at_call 54;refine (Pq _).mono ?_;rintro e w' ⟨rfl,rfl⟩)
  go_ret
  exact ⟨rfl,rfl⟩
set_option maxRecDepth 100000 in
theorem Py (w:World):Calls Tryd.prog 54 #[.string ⟨#[97,110]⟩,.string ⟨#[97]⟩] w fun e w'=>e=.returned (.bool true)∧w=w':=by
  have hi:=fC
  go_enter Tryd.func54,Tryd.ntmps54
  go_wp2
  go_ret
  exact ⟨rfl,rfl⟩
theorem Fh (p o j:Nat) (hj:j=o * 2+1) (ho:o < 16) (w:World) (hp:w.cell? ⟨p,0,none⟩=some (.int .u8 o)) (ht:w.cell? ⟨0,j,none⟩=some (.string ⟨#[97,110]⟩)):Calls Tryd.prog 53 #[.string ⟨#[97]⟩,.pointer (some ⟨p,0,none⟩)] w fun e w'=>e=.returned (.bool true)∧w=w':=by
  subst hj
  have ho1:(o:Int) < 16:=by omega
  go_enter Tryd.func53,Tryd.ntmps53
  go_wp2_with (go_at_call 54;refine (Py _).mono ?_;rintro e w' ⟨rfl,rfl⟩)
  go_ret
  exact ⟨rfl,rfl⟩
set_option maxRecDepth 100000 in
theorem MM (w:World):Calls Tryd.prog 54 #[.string ⟨#[97,98,99]⟩,.string ⟨#[98]⟩] w fun e w'=>e=.returned (.bool true)∧w=w':=by
  have hi:=fC
  go_enter Tryd.func54,Tryd.ntmps54
  go_wp2
  go_ret
  exact ⟨rfl,rfl⟩
theorem vg (p o j:Nat) (hj:j=o * 2+1) (ho:o < 16) (w:World) (hp:w.cell? ⟨p,0,none⟩=some (.int .u8 o)) (ht:w.cell? ⟨0,j,none⟩=some (.string ⟨#[97,98,99]⟩)):Calls Tryd.prog 53 #[.string ⟨#[98]⟩,.pointer (some ⟨p,0,none⟩)] w fun e w'=>e=.returned (.bool true)∧w=w':=by
  subst hj
  have ho1:(o:Int) < 16:=by omega
  go_enter Tryd.func53,Tryd.ntmps53
  go_wp2_with (go_at_call 54;refine (MM _).mono ?_;rintro e w' ⟨rfl,rfl⟩)
  go_ret
  exact ⟨rfl,rfl⟩
set_option maxRecDepth 100000 in
theorem ML (w:World):Calls Tryd.prog 54 #[.string ⟨#[97,98,99]⟩,.string ⟨#[99]⟩] w fun e w'=>e=.returned (.bool true)∧w=w':=by
  have hi:=fC
  go_enter Tryd.func54,Tryd.ntmps54
  go_wp2
  go_ret
  exact ⟨rfl,rfl⟩
theorem uZ (p o j:Nat) (hj:j=o * 2+1) (ho:o < 16) (w:World) (hp:w.cell? ⟨p,0,none⟩=some (.int .u8 o)) (ht:w.cell? ⟨0,j,none⟩=some (.string ⟨#[97,98,99]⟩)):Calls Tryd.prog 53 #[.string ⟨#[99]⟩,.pointer (some ⟨p,0,none⟩)] w fun e w'=>e=.returned (.bool true)∧w=w':=by
  subst hj
  have ho1:(o:Int) < 16:=by omega
  go_enter Tryd.func53,Tryd.ntmps53
  go_wp2_with (go_at_call 54;refine (ML _).mono ?_;rintro e w' ⟨rfl,rfl⟩)
  go_ret
  exact ⟨rfl,rfl⟩
set_option maxRecDepth 100000 in
theorem MK (w:World):Calls Tryd.prog 54 #[.string ⟨#[97,98,99]⟩,.string ⟨#[110]⟩] w fun e w'=>e=.returned (.bool false)∧w=w':=by
  have hi:=fC
  go_enter Tryd.func54,Tryd.ntmps54
  go_wp2
  go_ret
  exact ⟨rfl,rfl⟩
theorem uY (p o j:Nat) (hj:j=o * 2+1) (ho:o < 16) (w:World) (hp:w.cell? ⟨p,0,none⟩=some (.int .u8 o)) (ht:w.cell? ⟨0,j,none⟩=some (.string ⟨#[97,98,99]⟩)):Calls Tryd.prog 53 #[.string ⟨#[110]⟩,.pointer (some ⟨p,0,none⟩)] w fun e w'=>e=.returned (.bool false)∧w=w':=by
  subst hj
  have ho1:(o:Int) < 16:=by omega
  go_enter Tryd.func53,Tryd.ntmps53
  go_wp2_with (go_at_call 54;refine (MK _).mono ?_;rintro e w' ⟨rfl,rfl⟩)
  go_ret
  exact ⟨rfl,rfl⟩
set_option maxRecDepth 100000 in
theorem MN (w:World):Calls Tryd.prog 54 #[.string ⟨#[97,98,99]⟩,.string ⟨#[97]⟩] w fun e w'=>e=.returned (.bool true)∧w=w':=by
  have hi:=fC
  go_enter Tryd.func54,Tryd.ntmps54
  go_wp2
  go_ret
  exact ⟨rfl,rfl⟩
theorem Ce (p o j:Nat) (hj:j=o * 2+1) (ho:o < 16) (w:World) (hp:w.cell? ⟨p,0,none⟩=some (.int .u8 o)) (ht:w.cell? ⟨0,j,none⟩=some (.string ⟨#[97,98,99]⟩)):Calls Tryd.prog 53 #[.string ⟨#[97]⟩,.pointer (some ⟨p,0,none⟩)] w fun e w'=>e=.returned (.bool true)∧w=w':=by
  subst hj
  have ho1:(o:Int) < 16:=by omega
  go_enter Tryd.func53,Tryd.ntmps53
  go_wp2_with (go_at_call 54;refine (MN _).mono ?_;rintro e w' ⟨rfl,rfl⟩)
  go_ret
  exact ⟨rfl,rfl⟩
set_option maxRecDepth 100000 in
theorem V5 (w:World):Calls Tryd.prog 54 #[.string ⟨#[110]⟩,.string ⟨#[98]⟩] w fun e w'=>e=.returned (.bool false)∧w=w':=by
  have hi:=fC
  go_enter Tryd.func54,Tryd.ntmps54
  go_wp2
  go_ret
  exact ⟨rfl,rfl⟩
theorem zq (p o j:Nat) (hj:j=o * 2+1) (ho:o < 16) (w:World) (hp:w.cell? ⟨p,0,none⟩=some (.int .u8 o)) (ht:w.cell? ⟨0,j,none⟩=some (.string ⟨#[110]⟩)):Calls Tryd.prog 53 #[.string ⟨#[98]⟩,.pointer (some ⟨p,0,none⟩)] w fun e w'=>e=.returned (.bool false)∧w=w':=by
  subst hj
  have ho1:(o:Int) < 16:=by omega
  go_enter Tryd.func53,Tryd.ntmps53
  go_wp2_with (go_at_call 54;refine (V5 _).mono ?_;rintro e w' ⟨rfl,rfl⟩)
  go_ret
  exact ⟨rfl,rfl⟩
set_option maxRecDepth 100000 in
theorem V4 (w:World):Calls Tryd.prog 54 #[.string ⟨#[110]⟩,.string ⟨#[99]⟩] w fun e w'=>e=.returned (.bool false)∧w=w':=by
  have hi:=fC
  go_enter Tryd.func54,Tryd.ntmps54
  go_wp2
  go_ret
  exact ⟨rfl,rfl⟩
theorem D5 (p o j:Nat) (hj:j=o * 2+1) (ho:o < 16) (w:World) (hp:w.cell? ⟨p,0,none⟩=some (.int .u8 o)) (ht:w.cell? ⟨0,j,none⟩=some (.string ⟨#[110]⟩)):Calls Tryd.prog 53 #[.string ⟨#[99]⟩,.pointer (some ⟨p,0,none⟩)] w fun e w'=>e=.returned (.bool false)∧w=w':=by
  subst hj
  have ho1:(o:Int) < 16:=by omega
  go_enter Tryd.func53,Tryd.ntmps53
  go_wp2_with (go_at_call 54;refine (V4 _).mono ?_;rintro e w' ⟨rfl,rfl⟩)
  go_ret
  exact ⟨rfl,rfl⟩
set_option maxRecDepth 100000 in
theorem V3 (w:World):Calls Tryd.prog 54 #[.string ⟨#[110]⟩,.string ⟨#[110]⟩] w fun e w'=>e=.returned (.bool true)∧w=w':=by
  have hi:=fC
  go_enter Tryd.func54,Tryd.ntmps54
  go_wp2
  go_ret
  exact ⟨rfl,rfl⟩
theorem KG (p o j:Nat) (hj:j=o * 2+1) (ho:o < 16) (w:World) (hp:w.cell? ⟨p,0,none⟩=some (.int .u8 o)) (ht:w.cell? ⟨0,j,none⟩=some (.string ⟨#[110]⟩)):Calls Tryd.prog 53 #[.string ⟨#[110]⟩,.pointer (some ⟨p,0,none⟩)] w fun e w'=>e=.returned (.bool true)∧w=w':=by
  subst hj
  have ho1:(o:Int) < 16:=by omega
  go_enter Tryd.func53,Tryd.ntmps53
  go_wp2_with (go_at_call 54;refine (V3 _).mono ?_;rintro e w' ⟨rfl,rfl⟩)
  go_ret
  exact ⟨rfl,rfl⟩
set_option maxRecDepth 100000 in
theorem V6 (w:World):Calls Tryd.prog 54 #[.string ⟨#[110]⟩,.string ⟨#[97]⟩] w fun e w'=>e=.returned (.bool false)∧w=w':=by
  have hi:=fC
  go_enter Tryd.func54,Tryd.ntmps54
  go_wp2
  go_ret
  exact ⟨rfl,rfl⟩
theorem KH (p o j:Nat) (hj:j=o * 2+1) (ho:o < 16) (w:World) (hp:w.cell? ⟨p,0,none⟩=some (.int .u8 o)) (ht:w.cell? ⟨0,j,none⟩=some (.string ⟨#[110]⟩)):Calls Tryd.prog 53 #[.string ⟨#[97]⟩,.pointer (some ⟨p,0,none⟩)] w fun e w'=>e=.returned (.bool false)∧w=w':=by
  subst hj
  have ho1:(o:Int) < 16:=by omega
  go_enter Tryd.func53,Tryd.ntmps53
  go_wp2_with (go_at_call 54;refine (V6 _).mono ?_;rintro e w' ⟨rfl,rfl⟩)
  go_ret
  exact ⟨rfl,rfl⟩
set_option maxRecDepth 100000 in
theorem V9 (w:World):Calls Tryd.prog 54 #[.string ⟨#[97]⟩,.string ⟨#[98]⟩] w fun e w'=>e=.returned (.bool false)∧w=w':=by
  have hi:=fC
  go_enter Tryd.func54,Tryd.ntmps54
  go_wp2
  go_ret
  exact ⟨rfl,rfl⟩
theorem nT (p o j:Nat) (hj:j=o * 2+1) (ho:o < 16) (w:World) (hp:w.cell? ⟨p,0,none⟩=some (.int .u8 o)) (ht:w.cell? ⟨0,j,none⟩=some (.string ⟨#[97]⟩)):Calls Tryd.prog 53 #[.string ⟨#[98]⟩,.pointer (some ⟨p,0,none⟩)] w fun e w'=>e=.returned (.bool false)∧w=w':=by
  subst hj
  have ho1:(o:Int) < 16:=by omega
  go_enter Tryd.func53,Tryd.ntmps53
  go_wp2_with (go_at_call 54;refine (V9 _).mono ?_;rintro e w' ⟨rfl,rfl⟩)
  go_ret
  exact ⟨rfl,rfl⟩
set_option maxRecDepth 100000 in
theorem V8 (w:World):Calls Tryd.prog 54 #[.string ⟨#[97]⟩,.string ⟨#[99]⟩] w fun e w'=>e=.returned (.bool false)∧w=w':=by
  have hi:=fC
  go_enter Tryd.func54,Tryd.ntmps54
  go_wp2
  go_ret
  exact ⟨rfl,rfl⟩
theorem qy (p o j:Nat) (hj:j=o * 2+1) (ho:o < 16) (w:World) (hp:w.cell? ⟨p,0,none⟩=some (.int .u8 o)) (ht:w.cell? ⟨0,j,none⟩=some (.string ⟨#[97]⟩)):Calls Tryd.prog 53 #[.string ⟨#[99]⟩,.pointer (some ⟨p,0,none⟩)] w fun e w'=>e=.returned (.bool false)∧w=w':=by
  subst hj
  have ho1:(o:Int) < 16:=by omega
  go_enter Tryd.func53,Tryd.ntmps53
  go_wp2_with (go_at_call 54;refine (V8 _).mono ?_;rintro e w' ⟨rfl,rfl⟩)
  go_ret
  exact ⟨rfl,rfl⟩
set_option maxRecDepth 100000 in
theorem V7 (w:World):Calls Tryd.prog 54 #[.string ⟨#[97]⟩,.string ⟨#[110]⟩] w fun e w'=>e=.returned (.bool false)∧w=w':=by
  have hi:=fC
  go_enter Tryd.func54,Tryd.ntmps54
  go_wp2
  go_ret
  exact ⟨rfl,rfl⟩
theorem vk (p o j:Nat) (hj:j=o * 2+1) (ho:o < 16) (w:World) (hp:w.cell? ⟨p,0,none⟩=some (.int .u8 o)) (ht:w.cell? ⟨0,j,none⟩=some (.string ⟨#[97]⟩)):Calls Tryd.prog 53 #[.string ⟨#[110]⟩,.pointer (some ⟨p,0,none⟩)] w fun e w'=>e=.returned (.bool false)∧w=w':=by
  subst hj
  have ho1:(o:Int) < 16:=by omega
  go_enter Tryd.func53,Tryd.ntmps53
  go_wp2_with (go_at_call 54;refine (V7 _).mono ?_;rintro e w' ⟨rfl,rfl⟩)
  go_ret
  exact ⟨rfl,rfl⟩
set_option maxRecDepth 100000 in
theorem We (w:World):Calls Tryd.prog 54 #[.string ⟨#[97]⟩,.string ⟨#[97]⟩] w fun e w'=>e=.returned (.bool true)∧w=w':=by
  have hi:=fC
  go_enter Tryd.func54,Tryd.ntmps54
  go_wp2
  go_ret
  exact ⟨rfl,rfl⟩
theorem D6 (p o j:Nat) (hj:j=o * 2+1) (ho:o < 16) (w:World) (hp:w.cell? ⟨p,0,none⟩=some (.int .u8 o)) (ht:w.cell? ⟨0,j,none⟩=some (.string ⟨#[97]⟩)):Calls Tryd.prog 53 #[.string ⟨#[97]⟩,.pointer (some ⟨p,0,none⟩)] w fun e w'=>e=.returned (.bool true)∧w=w':=by
  subst hj
  have ho1:(o:Int) < 16:=by omega
  go_enter Tryd.func53,Tryd.ntmps53
  go_wp2_with (go_at_call 54;refine (We _).mono ?_;rintro e w' ⟨rfl,rfl⟩)
  go_ret
  exact ⟨rfl,rfl⟩
set_option maxRecDepth 100000 in
theorem PE (w:World):Calls Tryd.prog 54 #[.string ⟨#[97,98]⟩,.string ⟨#[98]⟩] w fun e w'=>e=.returned (.bool true)∧w=w':=by
  have hi:=fC
  go_enter Tryd.func54,Tryd.ntmps54
  go_wp2
  go_ret
  exact ⟨rfl,rfl⟩
theorem oK (p o j:Nat) (hj:j=o * 2+1) (ho:o < 16) (w:World) (hp:w.cell? ⟨p,0,none⟩=some (.int .u8 o)) (ht:w.cell? ⟨0,j,none⟩=some (.string ⟨#[97,98]⟩)):Calls Tryd.prog 53 #[.string ⟨#[98]⟩,.pointer (some ⟨p,0,none⟩)] w fun e w'=>e=.returned (.bool true)∧w=w':=by
  subst hj
  have ho1:(o:Int) < 16:=by omega
  go_enter Tryd.func53,Tryd.ntmps53
  go_wp2_with (go_at_call 54;refine (PE _).mono ?_;rintro e w' ⟨rfl,rfl⟩)
  go_ret
  exact ⟨rfl,rfl⟩
set_option maxRecDepth 100000 in
theorem PD (w:World):Calls Tryd.prog 54 #[.string ⟨#[97,98]⟩,.string ⟨#[99]⟩] w fun e w'=>e=.returned (.bool false)∧w=w':=by
  have hi:=fC
  go_enter Tryd.func54,Tryd.ntmps54
  go_wp2
  go_ret
  exact ⟨rfl,rfl⟩
theorem oJ (p o j:Nat) (hj:j=o * 2+1) (ho:o < 16) (w:World) (hp:w.cell? ⟨p,0,none⟩=some (.int .u8 o)) (ht:w.cell? ⟨0,j,none⟩=some (.string ⟨#[97,98]⟩)):Calls Tryd.prog 53 #[.string ⟨#[99]⟩,.pointer (some ⟨p,0,none⟩)] w fun e w'=>e=.returned (.bool false)∧w=w':=by
  subst hj
  have ho1:(o:Int) < 16:=by omega
  go_enter Tryd.func53,Tryd.ntmps53
  go_wp2_with (go_at_call 54;refine (PD _).mono ?_;rintro e w' ⟨rfl,rfl⟩)
  go_ret
  exact ⟨rfl,rfl⟩
set_option maxRecDepth 100000 in
theorem Pz (w:World):Calls Tryd.prog 54 #[.string ⟨#[97,98]⟩,.string ⟨#[110]⟩] w fun e w'=>e=.returned (.bool false)∧w=w':=by
  have hi:=fC
  go_enter Tryd.func54,Tryd.ntmps54
  go_wp2
  go_ret
  exact ⟨rfl,rfl⟩
theorem rG (p o j:Nat) (hj:j=o * 2+1) (ho:o < 16) (w:World) (hp:w.cell? ⟨p,0,none⟩=some (.int .u8 o)) (ht:w.cell? ⟨0,j,none⟩=some (.string ⟨#[97,98]⟩)):Calls Tryd.prog 53 #[.string ⟨#[110]⟩,.pointer (some ⟨p,0,none⟩)] w fun e w'=>e=.returned (.bool false)∧w=w':=by
  subst hj
  have ho1:(o:Int) < 16:=by omega
  go_enter Tryd.func53,Tryd.ntmps53
  go_wp2_with (go_at_call 54;refine (Pz _).mono ?_;rintro e w' ⟨rfl,rfl⟩)
  go_ret
  exact ⟨rfl,rfl⟩
set_option maxRecDepth 100000 in
theorem PG (w:World):Calls Tryd.prog 54 #[.string ⟨#[97,98]⟩,.string ⟨#[97]⟩] w fun e w'=>e=.returned (.bool true)∧w=w':=by
  have hi:=fC
  go_enter Tryd.func54,Tryd.ntmps54
  go_wp2
  go_ret
  exact ⟨rfl,rfl⟩
theorem Ap (p o j:Nat) (hj:j=o * 2+1) (ho:o < 16) (w:World) (hp:w.cell? ⟨p,0,none⟩=some (.int .u8 o)) (ht:w.cell? ⟨0,j,none⟩=some (.string ⟨#[97,98]⟩)):Calls Tryd.prog 53 #[.string ⟨#[97]⟩,.pointer (some ⟨p,0,none⟩)] w fun e w'=>e=.returned (.bool true)∧w=w':=by
  subst hj
  have ho1:(o:Int) < 16:=by omega
  go_enter Tryd.func53,Tryd.ntmps53
  go_wp2_with (go_at_call 54;refine (PG _).mono ?_;rintro e w' ⟨rfl,rfl⟩)
  go_ret
  exact ⟨rfl,rfl⟩
set_option maxRecDepth 100000 in
theorem MI (w:World):Calls Tryd.prog 54 #[.string ⟨#[97,98,110]⟩,.string ⟨#[98]⟩] w fun e w'=>e=.returned (.bool true)∧w=w':=by
  have hi:=fC
  go_enter Tryd.func54,Tryd.ntmps54
  go_wp2
  go_ret
  exact ⟨rfl,rfl⟩
theorem uX (p o j:Nat) (hj:j=o * 2+1) (ho:o < 16) (w:World) (hp:w.cell? ⟨p,0,none⟩=some (.int .u8 o)) (ht:w.cell? ⟨0,j,none⟩=some (.string ⟨#[97,98,110]⟩)):Calls Tryd.prog 53 #[.string ⟨#[98]⟩,.pointer (some ⟨p,0,none⟩)] w fun e w'=>e=.returned (.bool true)∧w=w':=by
  subst hj
  have ho1:(o:Int) < 16:=by omega
  go_enter Tryd.func53,Tryd.ntmps53
  go_wp2_with (go_at_call 54;refine (MI _).mono ?_;rintro e w' ⟨rfl,rfl⟩)
  go_ret
  exact ⟨rfl,rfl⟩
set_option maxRecDepth 100000 in
theorem MH (w:World):Calls Tryd.prog 54 #[.string ⟨#[97,98,110]⟩,.string ⟨#[99]⟩] w fun e w'=>e=.returned (.bool false)∧w=w':=by
  have hi:=fC
  go_enter Tryd.func54,Tryd.ntmps54
  go_wp2
  go_ret
  exact ⟨rfl,rfl⟩
theorem uV (p o j:Nat) (hj:j=o * 2+1) (ho:o < 16) (w:World) (hp:w.cell? ⟨p,0,none⟩=some (.int .u8 o)) (ht:w.cell? ⟨0,j,none⟩=some (.string ⟨#[97,98,110]⟩)):Calls Tryd.prog 53 #[.string ⟨#[99]⟩,.pointer (some ⟨p,0,none⟩)] w fun e w'=>e=.returned (.bool false)∧w=w':=by
  subst hj
  have ho1:(o:Int) < 16:=by omega
  go_enter Tryd.func53,Tryd.ntmps53
  go_wp2_with (go_at_call 54;refine (MH _).mono ?_;rintro e w' ⟨rfl,rfl⟩)
  go_ret
  exact ⟨rfl,rfl⟩
set_option maxRecDepth 100000 in
theorem MG (w:World):Calls Tryd.prog 54 #[.string ⟨#[97,98,110]⟩,.string ⟨#[110]⟩] w fun e w'=>e=.returned (.bool true)∧w=w':=by
  have hi:=fC
  go_enter Tryd.func54,Tryd.ntmps54
  go_wp2
  go_ret
  exact ⟨rfl,rfl⟩
theorem Cb (p o j:Nat) (hj:j=o * 2+1) (ho:o < 16) (w:World) (hp:w.cell? ⟨p,0,none⟩=some (.int .u8 o)) (ht:w.cell? ⟨0,j,none⟩=some (.string ⟨#[97,98,110]⟩)):Calls Tryd.prog 53 #[.string ⟨#[110]⟩,.pointer (some ⟨p,0,none⟩)] w fun e w'=>e=.returned (.bool true)∧w=w':=by
  subst hj
  have ho1:(o:Int) < 16:=by omega
  go_enter Tryd.func53,Tryd.ntmps53
  go_wp2_with (go_at_call 54;refine (MG _).mono ?_;rintro e w' ⟨rfl,rfl⟩)
  go_ret
  exact ⟨rfl,rfl⟩
set_option maxRecDepth 100000 in
theorem MJ (w:World):Calls Tryd.prog 54 #[.string ⟨#[97,98,110]⟩,.string ⟨#[97]⟩] w fun e w'=>e=.returned (.bool true)∧w=w':=by
  have hi:=fC
  go_enter Tryd.func54,Tryd.ntmps54
  go_wp2
  go_ret
  exact ⟨rfl,rfl⟩
theorem Cc (p o j:Nat) (hj:j=o * 2+1) (ho:o < 16) (w:World) (hp:w.cell? ⟨p,0,none⟩=some (.int .u8 o)) (ht:w.cell? ⟨0,j,none⟩=some (.string ⟨#[97,98,110]⟩)):Calls Tryd.prog 53 #[.string ⟨#[97]⟩,.pointer (some ⟨p,0,none⟩)] w fun e w'=>e=.returned (.bool true)∧w=w':=by
  subst hj
  have ho1:(o:Int) < 16:=by omega
  go_enter Tryd.func53,Tryd.ntmps53
  go_wp2_with (go_at_call 54;refine (MJ _).mono ?_;rintro e w' ⟨rfl,rfl⟩)
  go_ret
  exact ⟨rfl,rfl⟩
set_option maxRecDepth 100000 in
theorem MC (w:World):Calls Tryd.prog 54 #[.string ⟨#[97,110,98]⟩,.string ⟨#[98]⟩] w fun e w'=>e=.returned (.bool true)∧w=w':=by
  have hi:=fC
  go_enter Tryd.func54,Tryd.ntmps54
  go_wp2
  go_ret
  exact ⟨rfl,rfl⟩
theorem uU (p o j:Nat) (hj:j=o * 2+1) (ho:o < 16) (w:World) (hp:w.cell? ⟨p,0,none⟩=some (.int .u8 o)) (ht:w.cell? ⟨0,j,none⟩=some (.string ⟨#[97,110,98]⟩)):Calls Tryd.prog 53 #[.string ⟨#[98]⟩,.pointer (some ⟨p,0,none⟩)] w fun e w'=>e=.returned (.bool true)∧w=w':=by
  subst hj
  have ho1:(o:Int) < 16:=by omega
  go_enter Tryd.func53,Tryd.ntmps53
  go_wp2_with (go_at_call 54;refine (MC _).mono ?_;rintro e w' ⟨rfl,rfl⟩)
  go_ret
  exact ⟨rfl,rfl⟩
set_option maxRecDepth 100000 in
theorem MB (w:World):Calls Tryd.prog 54 #[.string ⟨#[97,110,98]⟩,.string ⟨#[99]⟩] w fun e w'=>e=.returned (.bool false)∧w=w':=by
  have hi:=fC
  go_enter Tryd.func54,Tryd.ntmps54
  go_wp2
  go_ret
  exact ⟨rfl,rfl⟩
theorem uT (p o j:Nat) (hj:j=o * 2+1) (ho:o < 16) (w:World) (hp:w.cell? ⟨p,0,none⟩=some (.int .u8 o)) (ht:w.cell? ⟨0,j,none⟩=some (.string ⟨#[97,110,98]⟩)):Calls Tryd.prog 53 #[.string ⟨#[99]⟩,.pointer (some ⟨p,0,none⟩)] w fun e w'=>e=.returned (.bool false)∧w=w':=by
  subst hj
  have ho1:(o:Int) < 16:=by omega
  go_enter Tryd.func53,Tryd.ntmps53
  go_wp2_with (go_at_call 54;refine (MB _).mono ?_;rintro e w' ⟨rfl,rfl⟩)
  go_ret
  exact ⟨rfl,rfl⟩
set_option maxRecDepth 100000 in
theorem Me (w:World):Calls Tryd.prog 54 #[.string ⟨#[97,110,98]⟩,.string ⟨#[110]⟩] w fun e w'=>e=.returned (.bool true)∧w=w':=by
  have hi:=fC
  go_enter Tryd.func54,Tryd.ntmps54
  go_wp2
  go_ret
  exact ⟨rfl,rfl⟩
theorem BX (p o j:Nat) (hj:j=o * 2+1) (ho:o < 16) (w:World) (hp:w.cell? ⟨p,0,none⟩=some (.int .u8 o)) (ht:w.cell? ⟨0,j,none⟩=some (.string ⟨#[97,110,98]⟩)):Calls Tryd.prog 53 #[.string ⟨#[110]⟩,.pointer (some ⟨p,0,none⟩)] w fun e w'=>e=.returned (.bool true)∧w=w':=by
  subst hj
  have ho1:(o:Int) < 16:=by omega
  go_enter Tryd.func53,Tryd.ntmps53
  go_wp2_with (go_at_call 54;refine (Me _).mono ?_;rintro e w' ⟨rfl,rfl⟩)
  go_ret
  exact ⟨rfl,rfl⟩
set_option maxRecDepth 100000 in
theorem MF (w:World):Calls Tryd.prog 54 #[.string ⟨#[97,110,98]⟩,.string ⟨#[97]⟩] w fun e w'=>e=.returned (.bool true)∧w=w':=by
  have hi:=fC
  go_enter Tryd.func54,Tryd.ntmps54
  go_wp2
  go_ret
  exact ⟨rfl,rfl⟩
theorem BZ (p o j:Nat) (hj:j=o * 2+1) (ho:o < 16) (w:World) (hp:w.cell? ⟨p,0,none⟩=some (.int .u8 o)) (ht:w.cell? ⟨0,j,none⟩=some (.string ⟨#[97,110,98]⟩)):Calls Tryd.prog 53 #[.string ⟨#[97]⟩,.pointer (some ⟨p,0,none⟩)] w fun e w'=>e=.returned (.bool true)∧w=w':=by
  subst hj
  have ho1:(o:Int) < 16:=by omega
  go_enter Tryd.func53,Tryd.ntmps53
  go_wp2_with (go_at_call 54;refine (MF _).mono ?_;rintro e w' ⟨rfl,rfl⟩)
  go_ret
  exact ⟨rfl,rfl⟩
end Go.Proofs.YtlemecdddhdagaaDoor.P
end
section
namespace Go.Proofs
open Go.Shelf
shelf_lay LaysM.n246 Nm 246 at Tryd as Tryd.laysM246
end Go.Proofs
namespace Go.Proofs.YtlemecdddhdagaaDoor.P
open Go.RowKit Go.Sort Go.Lib Go.Proofs.ag.bI Go.Proofs.ag.dM Go.Proofs.ag.dZ
theorem PM:Tryd.prog.globalNamed "internal/strconv.uint64pow10"=some 2:=by kernel_rfl
def FU (w:World):Prop:=Lib.TabIs Tryd.prog w "internal/strconv.uint64pow10" .u64 Lib.pow10Tab
theorem Hu {w w1:World} (hb:Below w.heap.size w w1) (h:FU w):FU w1:=by
  unfold FU Lib.TabIs World.var? at h ⊢
  rw [PM] at h ⊢
  simp only [Option.bind_some] at h ⊢
  have hg:2 < w.heap.size:=by
    rcases Nat.lt_or_ge 2 w.heap.size with h1|h1
    · exact h1
    · rw [Array.getElem?_eq_none h1] at h
      cases h
  rw [hb.block 2 hg]
  exact h
abbrev xY:Kd Unit where
  sz:=1
  E:=[]
  K:=fun w _ cs=>cs=[.int .u64 1]∧FU w
  M:=fun _ _ _ _ _=>False
  pV:=fun h=>by rw [h.1];rfl
  pU:=fun h u hu=>by
    rw [h.1] at hu
    rw [List.mem_singleton.1 hu]
    rfl
  l7:=fun hb h=>⟨h.1,Hu hb h.2⟩
  lD:=fun h=>h.elim
  iW:=fun _ h=>h
  jY:=fun h=>h
  lL:=fun _ h=>h
  lY:=fun _ h=>h
def xZ:Option Addr:=some ⟨2,0,none⟩
def pK:List Unit:=[()]
theorem QW {w:World} (h:FU w):Kd.C xY w xZ pK.length pK:=by
  refine ⟨rfl,by decide,fun _=>⟨_,rfl,fun j p hj=>⟨[.int .u64 1],rfl,⟨rfl,h⟩,fun i u hu=>?_⟩⟩⟩
  have hj0:j=0:=by
    have:=(List.getElem?_eq_some_iff.1 hj).1
    have h1:pK.length=1:=rfl
    omega
  have hi:i=0:=by
    have:=(List.getElem?_eq_some_iff.1 hu).1
    simp at this
    exact this
  subst hj0 hi
  simp at hu
  subst hu
  exact h.cell PM 0 (by decide)
theorem QX {w:World} (h:Kd.C xY w xZ pK.length pK):FU w:=by
  obtain ⟨_,_,hc⟩:=h
  obtain ⟨_,_,hc⟩:=hc (by decide)
  obtain ⟨_,_,hk,_⟩:=hc 0 () rfl
  exact hk.2
def jb.f (n b:Int):Option ByteArray :=
  if b=10 then (if -9223372036854775808≤n∧n≤9223372036854775807 then some ⟨(Lib.itoa n).toArray⟩ else none) else none
theorem MP (n:Int) (h0:-9223372036854775808≤n) (h1:n≤9223372036854775807) (w:World) (h:FU w) :
    Calls Tryd.prog 72 #[.int .i64 n,.int .i64 10] w fun e w'=>e=.returned (.string ⟨(Lib.itoa n).toArray⟩)∧Below w.heap.size w w':=by
  refine (Any.internal_strconv_FormatInt_10 Tryd.laysM246 n h0 h1 w h).mono ?_
  rintro e w' ⟨rfl,k,os,rfl⟩
  refine ⟨rfl,?_⟩
  have h1:Below w.heap.size w (w.drewN k):=by
    exact af (Below.refl _ _) k
  refine ⟨h1.os,h1.tape,h1.output,?_,fun i hi=>?_⟩
  · have:=h1.size
    unfold grow
    simp only [Array.size_append]
    omega
  · have:=h1.block i hi
    have hs:=h1.size
    rw [← this]
    unfold grow
    exact Array.getElem?_append_left (by omega)
set_option maxRecDepth 100000 in
set_option maxHeartbeats 3200000 in
theorem jb.calls (a0 a1:Int) (r:ByteArray) (w:World) (kZ:Kd.C xY w xZ pK.length pK) (h:jb.f a0 a1=some r) :
    Calls Tryd.prog 66 #[.int .i64 a0,.int .i64 a1] w fun e w'=>e=.returned (.string r)∧Below w.heap.size w w':=by
  unfold jb.f at h
  by_cases hb:a1=10
  · rw [if_pos hb] at h
    by_cases hn:-9223372036854775808≤a0∧a0≤9223372036854775807
    · rw [if_pos hn] at h
      obtain rfl:=Option.some.inj h
      subst hb
      have ht:=QX kZ
      clear kZ h
      go_enter Tryd.func66,Tryd.ntmps66
      go_wp2_with (go_at_call 72;refine (MP a0 hn.1 hn.2 _ ht).mono ?_;rintro e w' ⟨rfl,bel⟩)
      all_goals go_ret
      all_goals exact ⟨rfl,bel⟩
    · rw [if_neg hn] at h
      cases h
  · rw [if_neg hb] at h
    cases h
end Go.Proofs.YtlemecdddhdagaaDoor.P
end
section
namespace Go.Proofs.YtlemecdddhdagaaDoor.P
open Go.ChangeShapes Go.WideShapes Go.ChangeAt Go.RowKit Go.Joins Go.Proofs.ag.bI Go.Proofs.ag.dM Go.Proofs.ag.dZ
theorem own:ownKnob Tryd.prog.godebug=none:=by kernel_rfl
theorem gTab:Tryd.prog.globalNamed "lockstitch/code.ops"=some 0:=by kernel_rfl
theorem PL:(Tryd.prog.globals[0]?).map (·.type)=some 88:=by kernel_rfl
theorem Wy:Tryd.prog.cellsOf 88=32:=by kernel_rfl
theorem WA:Tryd.prog.cellsOf 87=2:=by kernel_rfl
theorem cells9:Tryd.prog.cellsOf 9=1:=by kernel_rfl
theorem cells5:Tryd.prog.cellsOf 5=1:=by kernel_rfl
theorem cells2:Tryd.prog.cellsOf 2=1:=by kernel_rfl
theorem cells22:Tryd.prog.cellsOf 22=1:=by kernel_rfl
theorem cells23:Tryd.prog.cellsOf 23=1:=by kernel_rfl
theorem cells25:Tryd.prog.cellsOf 25=4:=by kernel_rfl
theorem cells55:Tryd.prog.cellsOf 55=5:=by kernel_rfl
def pairs:List (List UInt8 × List UInt8):=[([],[]),([115,101,116],[97,110]),([97,100,100],[97,98,99]),([106,117,109,112],[110]),([122,101,114,111],[97,110]),([110,101,119],[97]),([110,105,108],[97]),([109,111,118,101],[97,98]),([108,111,97,100,105],[97,98,110]),([115,116,111,114,101,105],[97,110,98]),([108,111,97,100,112],[97,98,110]),([115,116,111,114,101,112],[97,110,98]),([108,111,97,100,103],[97,98]),([115,116,111,114,101,103],[97,98]),([112,114,105,110,116],[97]),([115,97,109,101],[97,98,99])]
def EG {H:Type} (p:List UInt8 × List UInt8):DataW H:=.agg [.lit (.string p.1),.lit (.string p.2)]
def flat:List (List UInt8 × List UInt8)→List Value
  | []=>[]
  | p :: r=>.string ⟨p.1.toArray⟩ :: .string ⟨p.2.toArray⟩ :: flat r
theorem KI:∀ (ps:List (List UInt8 × List UInt8)) (cs:List Value),cs.length=2 * ps.length →
    (∀ i p,ps[i]? = some p→cs[2 * i]? = some (.string ⟨p.1.toArray⟩)∧cs[2 * i+1]? = some (.string ⟨p.2.toArray⟩))→cs=flat ps
  | [],cs,hl,_=>by
    simp at hl
    exact hl
  | p :: r,c0 :: c1 :: cs,hl,h=>by
    obtain ⟨h0,h1⟩:=h 0 p rfl
    simp at h0 h1
    rw [KI r cs (by simp at hl;omega) fun i q hq=>?_,h0,h1]
    · rfl
    · have:=h (i+1) q (by simpa using hq)
      rw [show 2 * (i+1)=2 * i+2 from by omega,show 2 * i+2+1=2 * i+1+2 from by omega] at this
      simpa using this
  | p :: r,[c0],hl,h=>by simp at hl;omega
  | p :: r,[],hl,h=>by simp at hl
theorem KT {s:ByteArray} {l:List UInt8} (h:s.data.toList=l):s=⟨l.toArray⟩:=by
  cases s
  subst h
  simp
theorem Eo {H:Type} {enc:TypeId × Value→H} {w:World} {base:Nat} {sp:Nat→Bool} {held:Bool} {fuel:Nat} {cs:List Value} {p:List MemPlace}
    (h:DataW.trod enc Tryd.prog w base sp held fuel 88 cs=some (.agg (pairs.map EG),p)):cs=flat pairs:=by
  cases fuel with
  | zero=>simp [DataW.trod] at h
  | succ fuel =>
    simp only [DataW.trod,Tryd.underlying88,WA,Wy] at h
    split at h
    · rename_i hl
      obtain ⟨xs,hm,hx⟩:=Option.map_eq_some_iff.1 h
      have hxs:xs.map (·.1)=pairs.map (EG (H:=H)):=by
        have:=congrArg Prod.fst hx
        simpa using this
      refine KI pairs cs hl fun i q hq=>?_
      have hi:i < 16:=(List.getElem?_eq_some_iff.1 hq).1
      obtain ⟨b,hb,hf⟩:=Lib.mapM_at hm i i (by simp [hi])
      have hb1:b.1=EG q:=by
        have:(xs.map (·.1))[i]? = some b.1:=by simp [hb]
        rw [hxs] at this
        simp [hq] at this
        exact this.symm
      obtain ⟨y0,y1,n,rfl,_,t0,t1⟩:=trod_struct2 Tryd.underlying87 hf
      simp only [cells9] at t0 t1
      obtain ⟨s0,e0,rfl,_⟩:=DataW.trod_string Tryd.underlying9 t0
      obtain ⟨s1,e1,rfl,_⟩:=DataW.trod_string Tryd.underlying9 t1
      unfold EG at hb1
      simp at hb1
      constructor
      · have:=congrArg (·[0]?) e0
        simp [List.getElem?_drop] at this
        rw [Nat.mul_comm,this,KT hb1.1]
      · have:=congrArg (·[0]?) e1
        simp [List.getElem?_drop] at this
        rw [Nat.mul_comm,this,KT hb1.2]
    · cases h
theorem Ry {H:Type}:(Rows.laid_lockstitch_code_ops:DataW H)=.agg (pairs.map EG):=rfl
theorem PN:flat pairs=ku.map Value.string:=rfl
noncomputable def laidAll:List (String × DataW Unit):=[("math/bits.deBruijn32tab",Rows.laid_math_bits_deBruijn32tab),("math/bits.deBruijn64tab",Rows.laid_math_bits_deBruijn64tab),("internal/strconv.uint64pow10",Rows.laid_internal_strconv_uint64pow10),("lockstitch/code.ops",Rows.laid_lockstitch_code_ops)]
theorem zY {P:Program} {w:World} {n:String} {d:DataW Unit}:∀ {l:List (String × DataW Unit)} {ps:List MemPlace},DataW.LaidVars P w l ps→(n,d) ∈ l →
    ∃ g t cs fuel p,P.globalNamed n=some g∧(P.globals[g]?).map (·.type)=some t∧w.var? P n=some cs∧DataW.trod (fun _=>()) P w 0 (fun _=>true) false fuel t cs.toList=some (d,p)
  | [],_,_,h=>by cases h
  | (n',d') :: r,ps,⟨g,t,cs,fuel,p,q,h1,h2,h3,h4,h5,_⟩,h=>by
    rcases List.mem_cons.1 h with e|h
    · injection e with e1 e2
      subst e1 e2
      exact ⟨g,t,cs,fuel,p,h1,h2,h3,h4⟩
    · exact zY h5 h
theorem Oc:(Rows.laid_internal_strconv_uint64pow10:DataW Unit)=Lib.tabData .u64 Lib.pow10Tab:=by kernel_rfl
theorem PY:Tryd.prog.cellsOf 114=20:=by kernel_rfl
theorem PZ:Tryd.prog.cellsOf 112=1:=by kernel_rfl
theorem MO:(Tryd.prog.globals[2]?).map (·.type)=some 114:=by kernel_rfl
set_option maxRecDepth 100000 in
theorem Ye {W:World} (hL:laidMetH Tryd.prog laidAll W):Kd.C xY W xZ pK.length pK:=by
  rw [MakeChecks.laidMetH_plain _ _ _ (by kernel_rfl)] at hL
  obtain ⟨ps,h,_⟩:=hL
  refine QW ?_
  obtain ⟨g',t',cs,fuel,p,hg',ht',hvar,hd⟩:=zY (n:="internal/strconv.uint64pow10") (d:=Rows.laid_internal_strconv_uint64pow10) h (.tail _ (.tail _ (.head _)))
  obtain rfl:=Option.some.inj (PM.symm.trans hg')
  obtain rfl:=Option.some.inj (MO.symm.trans ht')
  rw [Oc] at hd
  unfold FU Lib.TabIs
  rw [hvar,← Lib.cells_of_tab Tryd.underlying114 Tryd.underlying112 PZ PY hd]
set_option maxRecDepth 100000 in
theorem table {W:World} (hL:laidMetH Tryd.prog laidAll W):Kd.C Kd.string W qx ku.length ku:=by
  rw [MakeChecks.laidMetH_plain _ _ _ (by kernel_rfl)] at hL
  obtain ⟨ps,h,_⟩:=hL
  obtain ⟨g',t',cs,fuel,p,hg',ht',hvar,hd⟩:=zY (n:="lockstitch/code.ops") (d:=Rows.laid_lockstitch_code_ops) h (.tail _ (.tail _ (.tail _ (.head _))))
  obtain rfl:=Option.some.inj (gTab.symm.trans hg')
  obtain rfl:=Option.some.inj (PL.symm.trans ht')
  rw [Ry] at hd
  have e:=Eo hd
  rw [PN] at e
  refine ⟨rfl,by decide,fun _=>⟨_,rfl,fun j p hj=>⟨[.string p],rfl,rfl,fun i u hu=>?_⟩⟩⟩
  have hi:i=0:=by
    have:=(List.getElem?_eq_some_iff.1 hu).1
    simp at this
    exact this
  subst hi
  simp at hu
  subst hu
  have:=World.var?_cell gTab hvar j
  show W.cell? ((⟨0,0,none⟩:Addr).add (j * 1+0))=_
  rw [show (⟨0,0,none⟩:Addr).add (j * 1+0)=⟨0,j,none⟩ from (by simp [Addr.add];omega),this,← Array.getElem?_toList,e,List.getElem?_map,hj]
  rfl
noncomputable def laidWorld (os:Os):World:=World.laidAll Tryd.prog os laidAll
set_option maxRecDepth 100000 in
theorem laid_met (os:Os) (args:Array Value):laidMet Tryd.prog laidAll ((laidWorld os).forCall (fun _ _=>0) ⟨#[],args,[]⟩).memory :=
  laidMet_laidAll args (by kernel_rfl) (by kernel_rfl)
section
variable {H:Type} {enc:TypeId × Value→H} {w:World} {base:Nat} {sp:Nat→Bool} {held:Bool}
theorem GR {fuel:Nat} {v:Value} {x:DataW H × List MemPlace} (h:DataW.trod enc Tryd.prog w base sp held fuel 22 [v]=some x) :
    ∃ (A:Option Addr) (c:Nat) (t:List ByteArray),v=.slice A t.length c∧t.length≤c∧Kd.C Kd.string w A t.length t∧∀ i:Int,(dW ByteArray.empty t i).size≤9223372036854775807:=by
  rcases open_strings Tryd.underlying22 Tryd.underlying9 cells9 h with ⟨hcs,_⟩|⟨a,len,cap,ss,hcs,_,hl,hm,hss,_,hcell,hsz⟩
  · injection hcs with hcs
    subst hcs
    exact ⟨none,0,[],rfl,Nat.le_refl _,⟨rfl,by decide,fun h=>absurd h (Nat.lt_irrefl _)⟩,fun i=>by unfold dW;simp⟩
  · injection hcs with hcs
    subst hcs
    have hle:len≤ss.length:=by rw [hss];split <;> omega
    have hlen:(ss.take len).length=len:=by rw [List.length_take];omega
    refine ⟨some a,cap,ss.take len,by rw [hlen],by rw [hlen];exact hl,⟨rfl,by rw [hlen];unfold maxLen at hm;omega,fun _=>⟨a,rfl,fun j p hj=>⟨[.string p],rfl,rfl,fun i u hu=>?_⟩⟩⟩,fun i=>?_⟩
    rotate_left
    · unfold dW
      rw [List.getD_eq_getElem?_getD]
      cases hx:(ss.take len)[i.toNat]? with
      | none=>decide
      | some x =>
        have:=hsz x (List.mem_of_mem_take (List.mem_of_getElem? hx))
        unfold maxLen at this
        exact this
    have hjl:j < len:=by
      have:=(List.getElem?_eq_some_iff.1 hj).1
      omega
    have hi:i=0:=by
      have:=(List.getElem?_eq_some_iff.1 hu).1
      simp at this
      exact this
    subst hi
    simp at hu
    subst hu
    show w.cell? (a.add (j * 1+0))=_
    rw [show j * 1+0=j from by omega,hcell j (by omega),List.getD_eq_getElem?_getD]
    rw [List.getElem?_take,if_pos hjl] at hj
    rw [hj]
    rfl
def Qo (w:World) (a:Addr) (i:Nat) (x:gZ):Prop :=
  (∀ q u,([.int .u8 x.f0,.int .u8 x.f1,.int .u8 x.f2,.int .u8 x.f3,.int .i64 x.f4]:List Value)[q]? = some u→w.cell? (a.add (i * 5+q))=some u) ∧
  (0≤x.f0∧x.f0≤255)∧(0≤x.f1∧x.f1≤255)∧(0≤x.f2∧x.f2≤255)∧(0≤x.f3∧x.f3≤255)∧(-9223372036854775808≤x.f4∧x.f4≤9223372036854775807)
theorem YR {n:Int} (h:(Lit.int .i64 n).wf=true):-9223372036854775808≤n∧n≤9223372036854775807:=by
  simp only [Lit.wf,Bool.and_eq_true,decide_eq_true_eq] at h
  exact h
theorem Em {n:Int} (h:(Lit.int .u8 n).wf=true):0≤n∧n≤255:=by
  simp only [Lit.wf,Bool.and_eq_true,decide_eq_true_eq] at h
  exact h
theorem MZ {w:World} {base:Nat} {a:Addr} {n:Nat} {cs:List Value} (h:w.cells? base a n=some cs):cs.length=n∧∀ q,q < n→w.cell? (a.add q)=cs[q]?:=by
  unfold World.cells? at h
  split at h
  · exact ⟨by simpa using mapM_some_length h,fun q hq=>mapM_some_get h q q (by simp [hq])⟩
  · cases h
theorem zV {cs:List Value} {k:Nat} {v:Value} (h:(cs.drop k).take 1=[v]):cs[k]? = some v:=by
  have:=congrArg (·[0]?) h
  simpa [List.getElem?_take,List.getElem?_drop] using this
theorem Oi {fuel:Nat} {a:Addr} {i:Nat} {y:DataW H × List MemPlace} (h:(w.cells? base (a.add (i * 5)) 5).bind (DataW.trod enc Tryd.prog w base sp held fuel 55)=some y):∃ x,Qo w a i x:=by
  rw [Option.bind_eq_some_iff] at h
  obtain ⟨cs,hc,h⟩:=h
  obtain ⟨hl,hcell⟩:=MZ hc
  obtain ⟨xs,n,_,_,_,hxl,hf⟩:=DataW.trod_struct Tryd.underlying55 h
  match xs,hxl with
  | [y0,y1,y2,y3,y4],_ =>
    have f0:DataW.trod enc Tryd.prog w base sp held n 5 ((cs.drop 0).take (Tryd.prog.cellsOf 5))=some y0:=hf 0 _ rfl
    have f1:DataW.trod enc Tryd.prog w base sp held n 5 ((cs.drop 1).take (Tryd.prog.cellsOf 5))=some y1:=hf 1 _ rfl
    have f2:DataW.trod enc Tryd.prog w base sp held n 5 ((cs.drop 2).take (Tryd.prog.cellsOf 5))=some y2:=hf 2 _ rfl
    have f3:DataW.trod enc Tryd.prog w base sp held n 5 ((cs.drop 3).take (Tryd.prog.cellsOf 5))=some y3:=hf 3 _ rfl
    have f4:DataW.trod enc Tryd.prog w base sp held n 2 ((cs.drop 4).take (Tryd.prog.cellsOf 2))=some y4:=hf 4 _ rfl
    rw [cells5] at f0 f1 f2 f3
    rw [cells2] at f4
    obtain ⟨n0,e0,_,w0⟩:=DataW.trod_int Tryd.underlying5 f0
    obtain ⟨n1,e1,_,w1⟩:=DataW.trod_int Tryd.underlying5 f1
    obtain ⟨n2,e2,_,w2⟩:=DataW.trod_int Tryd.underlying5 f2
    obtain ⟨n3,e3,_,w3⟩:=DataW.trod_int Tryd.underlying5 f3
    obtain ⟨n4,e4,_,w4⟩:=DataW.trod_int Tryd.underlying2 f4
    refine ⟨⟨n0,n1,n2,n3,n4⟩,fun q u hu=>?_,Em w0,Em w1,Em w2,Em w3,YR w4⟩
    rw [← Addr.add_add]
    match q,hu with
    | 0,hu=>rw [hcell 0 (by omega),zV e0];exact hu
    | 1,hu=>rw [hcell 1 (by omega),zV e1];exact hu
    | 2,hu=>rw [hcell 2 (by omega),zV e2];exact hu
    | 3,hu=>rw [hcell 3 (by omega),zV e3];exact hu
    | 4,hu=>rw [hcell 4 (by omega),zV e4];exact hu
    | q+5,hu=>simp at hu
end
def WfX (x:gZ):Prop:=(0≤x.f0∧x.f0≤255)∧(0≤x.f1∧x.f1≤255)∧(0≤x.f2∧x.f2≤255)∧(0≤x.f3∧x.f3≤255)∧(-9223372036854775808≤x.f4∧x.f4≤9223372036854775807)
def WfC (code:List gZ):Prop:=∀ i:Nat,WfX (code.getD i z55)
section
variable {H:Type} {enc:TypeId × Value→H} {w:World} {base:Nat} {sp:Nat→Bool} {held:Bool}
theorem LX {fuel:Nat} {v:Value} {x:DataW H × List MemPlace} (h:DataW.trod enc Tryd.prog w base sp held fuel 23 [v]=some x) :
    ∃ (A:Option Addr) (c:Nat) (code:List gZ),v=.slice A code.length c∧code.length≤c∧Kd.C tZ w A code.length code∧WfC code:=by
  have z:WfX z55:=by unfold WfX;decide
  rcases DataW.trod_slice Tryd.underlying23 h with ⟨hcs,_⟩|⟨a,len,cap,elems,rest,n,_,hcs,_,_,hl,hm,hlen,hel,_⟩
  · injection hcs with hcs
    subst hcs
    exact ⟨none,0,[],rfl,Nat.le_refl _,⟨rfl,by decide,fun h=>absurd h (Nat.lt_irrefl _)⟩,fun i=>z⟩
  · injection hcs with hcs
    subst hcs
    have each:∀ i,∃ x:gZ,i < len→Qo w a i x:=fun i=>by
      by_cases hi:i < len
      · have:=hel i hi
        rw [cells55,List.getElem?_eq_getElem (by omega)] at this
        obtain ⟨x,hx⟩:=Oi this
        exact ⟨x,fun _=>hx⟩
      · exact ⟨z55,fun h=>absurd h hi⟩
    let f:=fun i=>Classical.choose (each i)
    have hf:∀ i,i < len→Qo w a i (f i):=fun i=>Classical.choose_spec (each i)
    have hlen:((List.range len).map f).length=len:=by simp
    have get:∀ j p,((List.range len).map f)[j]? = some p→j < len∧p=f j:=fun j p hj=>by
      have:=(List.getElem?_eq_some_iff.1 hj).1
      rw [hlen] at this
      rw [List.getElem?_map,List.getElem?_range this] at hj
      exact ⟨this,(Option.some.inj hj).symm⟩
    refine ⟨some a,cap,(List.range len).map f,by rw [hlen],by rw [hlen];exact hl,⟨rfl,by rw [hlen];unfold maxLen at hm;omega,fun _=>⟨a,rfl,fun j p hj=>?_⟩⟩,fun i=>?_⟩
    · obtain ⟨hjl,rfl⟩:=get j p hj
      exact ⟨_,rfl,YM w (f j),(hf j hjl).1⟩
    · by_cases hi:i < len
      · rw [List.getD_eq_getElem?_getD,List.getElem?_map,List.getElem?_range hi]
        exact (hf i hi).2
      · rw [List.getD_eq_getElem?_getD,List.getElem?_eq_none (by omega)]
        exact z
set_option maxRecDepth 20000 in
theorem LW {r:Reach} {b0:Nat} {v:Value} {d:DataW H} {p:List MemPlace} (hv:Value.okWide Tryd.prog w r b0 25 v) (h:DataW.Trod enc Tryd.prog w base sp held 25 v d p) :
    ∃ (A0:Option Addr) (c0:Nat) (t:List ByteArray) (lo gl:ByteArray) (A3:Option Addr) (c3:Nat) (code:List gZ) (d0 d3:DataW H),
      v=.agg #[.slice A0 t.length c0,.string lo,.string gl,.slice A3 code.length c3]∧d=.agg [d0,.lit (.string lo.data.toList),.lit (.string gl.data.toList),d3] ∧
      Kd.C Kd.string w A0 t.length t∧t.length≤c0∧Kd.C tZ w A3 code.length code∧code.length≤c3∧WfC code∧∀ i:Int,(dW ByteArray.empty t i).size≤9223372036854775807:=by
  obtain ⟨cs,rfl,hsz⟩:=okWide_struct Tryd.underlying25 hv
  rw [cells25] at hsz
  obtain ⟨v0,v1,v2,v3,rfl⟩:=array4 hsz
  obtain ⟨fuel,h⟩:=h
  obtain ⟨y0,y1,y2,y3,n,he,_,f0,f1,f2,f3⟩:=trod_struct4 Tryd.underlying25 h
  injection he with he _
  subst he
  dsimp only at f0 f1 f2 f3
  rw [cells22] at f0
  rw [cells9] at f1 f2
  rw [cells23] at f3
  obtain ⟨A0,c0,t,rfl,ht,hT,hts⟩:=GR f0
  obtain ⟨lo,e1,rfl,_⟩:=DataW.trod_string Tryd.underlying9 f1
  obtain ⟨gl,e2,rfl,_⟩:=DataW.trod_string Tryd.underlying9 f2
  obtain ⟨A3,c3,code,rfl,hc,hC,hw⟩:=LX f3
  have e1':v1=.string lo:=by
    have:[v1]=[Value.string lo]:=e1
    injection this
  have e2':v2=.string gl:=by
    have:[v2]=[Value.string gl]:=e2
    injection this
  subst e1' e2'
  exact ⟨A0,c0,t,lo,gl,A3,c3,code,_,_,rfl,rfl,hT,ht,hC,hc,hw,hts⟩
end
theorem LQ {H:Type} {lo gl:ByteArray} {d0 d3:DataW H} {ts:List TypeId} {ds:List (DataW H)}
    (h:(DataW.weightsEach Tryd.prog (25 :: ts) (.agg [d0,.lit (.string lo.data.toList),.lit (.string gl.data.toList),d3] :: ds)).all (·≤reachBytes)=true):lo.size≤reachBytes∧gl.size≤reachBytes:=by
  simp only [DataW.weightsEach,DataW.weights,Tryd.underlying25,List.all_append,Bool.and_eq_true,List.map,List.all_cons,List.all_nil,decide_eq_true_eq] at h
  obtain ⟨⟨_,h1,h2,_⟩,_⟩:=h
  exact ⟨h1.1,h2.1⟩
end Go.Proofs.YtlemecdddhdagaaDoor.P
end
