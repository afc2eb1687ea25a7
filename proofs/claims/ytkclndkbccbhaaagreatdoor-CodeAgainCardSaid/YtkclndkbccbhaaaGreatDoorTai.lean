/- Parts of the proof of CodeAgain: what the functions that it reaches compute, and plain facts about that. -/
import Derived.ChangeMaps4
import Derived.Deep.MidRow
import Derived.Test.YtkclndkbccbhaaaGreatDoorTac
import Derived.Test.YtkclndkbccbhaaaGreatDoorTad
set_option linter.unusedVariables false
set_option linter.unusedSimpArgs false
section
namespace Go.Proofs.YtkclndkbccbhaaaGreatDoor.P
open Go.RowKit Go.MapKept Go.MapFrom Go.Proofs.ae.bg Go.Proofs.ae.dw Go.Proofs.ae.dO
def setArg (ch:Nat) (v:Int) (x:Int × Int × Int × Int):Int × Int × Int × Int :=
  if ch=110 then (x.1,x.2.1,x.2.2.1,v) else if ch=97 then (v,x.2.1,x.2.2.1,x.2.2.2) else if ch=98 then (x.1,v,x.2.2.1,x.2.2.2) else (x.1,x.2.1,v,x.2.2.2)
def iI:List UInt8→List ByteArray→Int × Int × Int × Int→Option (Option (Int × Int × Int × Int))
  | [],_,x=>some (some x)
  | _ :: _,[],_=>none
  | ch :: hs,w :: ws,x=>(jP.f w).bind fun r=>if r.2=0 then (if ch.toNat=110 then iI hs ws (setArg 110 r.1 x) else if 0≤r.1∧r.1≤255 then iI hs ws (setArg ch.toNat r.1 x) else some none) else some none
def Bg (k:Int):Option (Int × Int × Int × Int)→Int × Int × Int × Int × Int × Bool
  | none=>(0,0,0,0,0,false)
  | some x=>(k,x.1,x.2.1,x.2.2.1,x.2.2.2,true)
def uY:Nat→Nat→List ByteArray→Option (Int × Int × Int × Int × Int × Bool)
  | 0,_,_=>some (0,0,0,0,0,false)
  | d+1,k,l=>if k=0 ∨ (nameOf k).toList ≠ (eX ByteArray.empty l 0).toList ∨ l.length ≠ (jT k).size+1 then uY d (k+1) l else (iI (jT k).data.toList l.tail (0,0,0,0)).map (Bg k)
def kJ.f (l:List ByteArray):Option (Int × Int × Int × Int × Int × Bool):=if 0 < l.length then uY 16 0 l else none
def vK (bi:Nat):Nat→Array MapEntry
  | 0=>#[]
  | 1=>#[⟨.int .i32 97,.pointer (some ⟨bi,1,none⟩),0⟩]
  | 2=>#[⟨.int .i32 97,.pointer (some ⟨bi,1,none⟩),0⟩,⟨.int .i32 98,.pointer (some ⟨bi,2,none⟩),1⟩]
  | _=>#[⟨.int .i32 97,.pointer (some ⟨bi,1,none⟩),0⟩,⟨.int .i32 98,.pointer (some ⟨bi,2,none⟩),1⟩,⟨.int .i32 99,.pointer (some ⟨bi,3,none⟩),2⟩]
def ny (w:World) (b:Nat) (o:Obj):World:={ w with heap:=w.heap.setIfInBounds b o }
theorem Dc (W:World) (bm bi j:Nat) (x:Int) (hx:x=((97+j:Nat):Int)) (hj:j < 3) (hm:W.heap[bm]? = some (.map (vK bi j) j)) :
    (Instr.mapUpdate 92 (.map (some bm)) (.int .i32 x) (.pointer (some ⟨bi,1+j,none⟩))).run Tryz.prog W=.ok () (ny W bm (.map (vK bi (j+1)) (j+1))):=by
  have hu:Tryz.prog.underlying 92=some (.map 21 91):=by kernel_rfl
  have hk:Tryz.prog.underlying 21=some (.int .i32):=by kernel_rfl
  have hkey:IsKey (.int .i32) (.int .i32 x):=rfl
  have h1:Instr.findNow (.int .i32) (.int .i32 x) (vK bi j).toList 0=some none:=by
    obtain rfl|rfl|rfl:j=0 ∨ j=1 ∨ j=2:=by omega
    all_goals (subst hx;rfl)
  have h2:(vK bi j).push ⟨.int .i32 x,.pointer (some ⟨bi,1+j,none⟩),j⟩=vK bi (j+1):=by
    obtain rfl|rfl|rfl:j=0 ∨ j=1 ∨ j=2:=by omega
    all_goals (subst hx;rfl)
  simp [Instr.mapUpdate,run_underlying hu,MapKept.run_getObj_map hm,run_checkKey hk hkey,run_findKey hk h1,MapKept.run_setObj_map _ hm,Result.andThen,h2,ny]
theorem zF (W:World) (bm bi j:Nat) (x:Int) (hx:x=((97+j:Nat):Int)) (hj:j < 3) (hm:W.heap[bm]? = some (.map (vK bi 3) 3)) :
    (Instr.lookup 92 (.map (some bm)) (.int .i32 x) false).run Tryz.prog W=.ok (.pointer (some ⟨bi,1+j,none⟩)) W:=by
  have hu:Tryz.prog.underlying 92=some (.map 21 91):=by kernel_rfl
  have hk:Tryz.prog.underlying 21=some (.int .i32):=by kernel_rfl
  have hkey:IsKey (.int .i32) (.int .i32 x):=rfl
  have h1:Instr.findNow (.int .i32) (.int .i32 x) (vK bi 3).toList 0=some (some (j,.pointer (some ⟨bi,1+j,none⟩))):=by
    obtain rfl|rfl|rfl:j=0 ∨ j=1 ∨ j=2:=by omega
    all_goals (subst hx;rfl)
  simp [Instr.lookup,run_underlying hu,MapKept.run_getObj_map hm,run_checkKey hk hkey,run_findKey hk h1,Result.andThen]
theorem JB (k:Nat) (hk:k < 16) (w:World):(Instr.index 52 (.agg (opsL.map Value.string).toArray) (.int .i64 k)).run Tryz.prog w=.ok (.agg #[.string (nameOf k),.string (jT k)]) w:=by
  have hu:Tryz.prog.underlying 52=some (.array 16 51):=by kernel_rfl
  have hs:(sizeOf 51).run Tryz.prog w=.ok 2 w:=by simp [go_sem]
  have ha:(isAgg 51).run Tryz.prog w=.ok true w:=by simp [go_sem]
  have he:(List.take 2 (List.drop (k * 2) (List.map Value.string opsL))).toArray=#[.string (nameOf k),.string (jT k)]:=by
    obtain rfl|rfl|rfl|rfl|rfl|rfl|rfl|rfl|rfl|rfl|rfl|rfl|rfl|rfl|rfl|rfl:k=0 ∨ k=1 ∨ k=2 ∨ k=3 ∨ k=4 ∨ k=5 ∨ k=6 ∨ k=7 ∨ k=8 ∨ k=9 ∨ k=10 ∨ k=11 ∨ k=12 ∨ k=13 ∨ k=14 ∨ k=15:=by omega
    all_goals rfl
  simp [Instr.index,run_underlying hu,asIntOf,Result.andThen,part,hs,ha]
  rw [if_pos hk,he]
theorem GG:∀ o:Nat,1≤o→o≤15→∀ ch ∈ (jT o).data.toList,ch.toNat=97 ∨ ch.toNat=98 ∨ ch.toNat=99 ∨ ch.toNat=110:=by
  intro o h1 h2
  obtain rfl|rfl|rfl|rfl|rfl|rfl|rfl|rfl|rfl|rfl|rfl|rfl|rfl|rfl|rfl:o=1 ∨ o=2 ∨ o=3 ∨ o=4 ∨ o=5 ∨ o=6 ∨ o=7 ∨ o=8 ∨ o=9 ∨ o=10 ∨ o=11 ∨ o=12 ∨ o=13 ∨ o=14 ∨ o=15:=by omega
  all_goals decide
structure Td (G:Nat) (w0 w:World):Prop where
  bk:w.heap[G]? = some (.cells #[.int .u8 0,.int .u8 0,.int .u8 0,.int .u8 0,.int .i64 0] 27 (0,0))
  bel:Below G w0 w
structure AB (G bi bm it pos:Nat) (hs:ByteArray) (k:Int) (x:Int × Int × Int × Int) (w0 w:World):Prop where
  bk:w.heap[G]? = some (.cells #[.int .u8 0,.int .u8 0,.int .u8 0,.int .u8 0,.int .i64 0] 27 (0,0))
  ins:w.heap[bi]? = some (.cells #[.int .u8 k,.int .u8 x.1,.int .u8 x.2.1,.int .u8 x.2.2.1,.int .i64 x.2.2.2] 27 (0,0))
  map:w.heap[bm]? = some (.map (vK bi 3) 3)
  iter:w.heap[it]? = some (.stringIter hs pos)
  bel:Below G w0 w
  lo:G < bi∧bi < bm∧bm < it
section
variable {G bi bm it pos:Nat} {hs:ByteArray} {k:Int} {x:Int × Int × Int × Int} {w0 w w1:World}
theorem dI {w:World} {j:Nat} {o:Obj} (h:w.heap[j]? = some o):j < w.heap.size:=(Array.getElem?_eq_some_iff.1 h).1
theorem Td.below (h:Td G w0 w) (hb:Below w.heap.size w w1):Td G w0 w1:=⟨(hb.block G (dI h.bk)).trans h.bk,h.bel.trans (hb.mono (Nat.le_of_lt (dI h.bk)))⟩
theorem AB.below (h:AB G bi bm it pos hs k x w0 w) (hb:Below w.heap.size w w1):AB G bi bm it pos hs k x w0 w1 :=
  ⟨(hb.block G (dI h.bk)).trans h.bk,(hb.block bi (dI h.ins)).trans h.ins,(hb.block bm (dI h.map)).trans h.map,(hb.block it (dI h.iter)).trans h.iter,h.bel.trans (hb.mono (Nat.le_of_lt (dI h.bk))),h.lo⟩
theorem AB.drewN (h:AB G bi bm it pos hs k x w0 w) (n:Nat):AB G bi bm it pos hs k x w0 (w.drewN n):=h.below (ag (Below.refl _ _) n)
theorem AB.next (h:AB G bi bm it pos hs k x w0 w) (pos':Nat):AB G bi bm it pos' hs k x w0 (w.iterAt it hs pos'):=by
  have far:∀ j,j ≠ it→(w.iterAt it hs pos').heap[j]? = w.heap[j]?:=fun j hj=>Lib.iterAt_other w it j hs pos' hj
  have hl:=h.lo
  exact ⟨(far G (by omega)).trans h.bk,(far bi (by omega)).trans h.ins,(far bm (by omega)).trans h.map,Lib.iterAt_heap w it hs pos pos' h.iter,Lib.below_iterAt h.bel (by omega) hs pos',h.lo⟩
theorem AB.cell (h:AB G bi bm it pos hs k x w0 w) (j:Nat):w.cell? ⟨bi,j,none⟩=(#[.int .u8 k,.int .u8 x.1,.int .u8 x.2.1,.int .u8 x.2.2.1,.int .i64 x.2.2.2]:Array Value)[j]?:=by simp [World.cell?,h.ins]
theorem AB.fr (h:AB G bi bm it pos hs k x w0 w) (j:Nat):w.frozen? ⟨bi,j,none⟩=false:=by simp [World.frozen?,h.ins]
theorem AB.zero (h:AB G bi bm it pos hs k x w0 w) (j:Nat):w.cell? ⟨G,j,none⟩=(#[.int .u8 0,.int .u8 0,.int .u8 0,.int .u8 0,.int .i64 0]:Array Value)[j]?:=by simp [World.cell?,h.bk]
theorem AB.set (h:AB G bi bm it pos hs k x w0 w) (j:Nat) (v:Value) (x':Int × Int × Int × Int) (e:(#[.int .u8 k,.int .u8 x.1,.int .u8 x.2.1,.int .u8 x.2.2.1,.int .i64 x.2.2.2]:Array Value).setIfInBounds j v=#[.int .u8 k,.int .u8 x'.1,.int .u8 x'.2.1,.int .u8 x'.2.2.1,.int .i64 x'.2.2.2]):AB G bi bm it pos hs k x' w0 (w.setCell ⟨bi,j,none⟩ v):=by
  have hl:=h.lo
  have far:∀ i,i ≠ bi→(w.setCell ⟨bi,j,none⟩ v).heap[i]? = w.heap[i]?:=fun i hi=>Below.heap_setCell w ⟨bi,j,none⟩ v i hi
  refine ⟨(far G (by omega)).trans h.bk,?_,(far bm (by omega)).trans h.map,(far it (by omega)).trans h.iter,h.bel.setCell (p:=⟨bi,j,none⟩) (by show G≤bi;omega) v,h.lo⟩
  rw [← e]
  exact IK h.ins j v
end
theorem fF {w:World} {g t:Nat} {old:Array Value} (hg:w.heap[g]? = some (.cells old t (0,0))) (cs:Array Value):(w.setRow g cs).heap[g]? = some (.cells cs t (0,0)):=by
  simp [World.setRow,Array.getElem?_modify,hg]
theorem oq {w:World} {g:Nat} (cs:Array Value) (k:Nat) (hk:k ≠ g):(w.setRow g cs).heap[k]? = w.heap[k]?:=by
  simp only [World.setRow,Array.getElem?_modify]
  rw [if_neg (by omega)]
theorem dH {B g:Nat} {w0 w:World} (hb:Below B w0 w) (hBg:B≤g) (cs:Array Value):Below B w0 (w.setRow g cs) :=
  hb.trans ⟨rfl,rfl,rfl,by simp [World.setRow],fun k hk=>oq cs k (by omega)⟩
theorem JY (s:ByteArray) (pos:Nat) (h:pos < s.size):s.data.toList.drop pos=(s[pos]'h) :: s.data.toList.drop (pos+1):=by
  have hl:pos < s.data.toList.length:=by simpa using h
  rw [List.drop_eq_getElem_cons hl]
  rfl
theorem xw {w:World} {b:Nat} {o o':Obj} (h:w.heap[b]? = some o):(ny w b o').heap[b]? = some o':=by
  simp [ny,(Array.getElem?_eq_some_iff.1 h).1]
theorem rC {w:World} {b:Nat} {o':Obj} (j:Nat) (h:j ≠ b):(ny w b o').heap[j]? = w.heap[j]?:=by simp [ny,Ne.symm h]
theorem rD {B b:Nat} {w0 w:World} {o':Obj} (hb:Below B w0 w) (hBb:B≤b):Below B w0 (ny w b o') :=
  ⟨hb.os,hb.tape,hb.output,by simp [ny];exact hb.size,fun k hk=>(rC k (by omega)).trans (hb.block k hk)⟩
set_option maxRecDepth 100000 in
set_option maxHeartbeats 6400000 in
theorem kJ.calls (A0:Option Addr) (c0:Nat) (l0:List ByteArray) (r1 r2 r3 r4 r5:Int) (r6:Bool) (w:World) (hr0:Kd.C Kd.string w A0 l0.length l0) (jm:Kd.C tC w tH lH.length lH) (h:kJ.f l0=some (r1,r2,r3,r4,r5,r6)) :
    Calls Tryz.prog 33 #[.slice A0 l0.length c0] w fun e w'=>e=.returned (.tuple #[.agg #[.int .u8 r1,.int .u8 r2,.int .u8 r3,.int .u8 r4,.int .i64 r5],.bool r6])∧Below w.heap.size w w':=by
  unfold kJ.f at h
  by_cases hl0:0 < l0.length
  case neg =>
    rw [if_neg hl0] at h
    cases h
  rw [if_pos hl0] at h
  obtain ⟨ad,e0,hx0⟩:=Kd.fG hr0 0 (by omega) (by omega)
  subst e0
  rw [show (0:Int).toNat=0 from rfl,Addr.add_zero'] at hx0
  obtain ⟨U0,hl00⟩:∃ x,eX ByteArray.empty l0 0=x:=⟨_,rfl⟩
  rw [hl00] at hx0
  have Vx:=World.block_lt_of_cell? w _ hx0
  obtain ⟨arr,harr⟩:∃ arr,(opsL.map Value.string).toArray=arr:=⟨_,rfl⟩
  have HIX:=af.mk JB
  rw [harr] at HIX
  have hT:=(tu jm).ops
  have hrange:∀ W:World,Kd.C Kd.string W qG opsL.length opsL→W.rangeAt 0 0 arr.toList:=by
    intro W hW j v hv
    rw [← harr] at hv
    simp only [List.getElem?_map,List.toList_toArray] at hv
    obtain ⟨x,hx,rfl⟩:=Option.map_eq_some_iff.1 hv
    have hj:=(List.getElem?_eq_some_iff.1 hx).1
    rw [Nat.zero_add,wo hW j (by have:opsL.length=32:=rfl;omega),List.getD_eq_getElem?_getD,hx]
    rfl
  have acU:arr.toList.length=32:=by rw [← harr];rfl
  obtain ⟨G,hG⟩:∃ G,w.heap.size=G:=⟨_,rfl⟩
  obtain ⟨w1,hw1⟩:∃ w1,w.alloc (.cells #[.int .u8 0,.int .u8 0,.int .u8 0,.int .u8 0,.int .i64 0] 27)=w1:=⟨_,rfl⟩
  have hB1:Below G w w1:=by rw [← hw1,← hG];exact (Below.refl _ w).alloc (Nat.le_refl _) _
  have hk1:w1.heap[G]? = some (.cells #[.int .u8 0,.int .u8 0,.int .u8 0,.int .u8 0,.int .i64 0] 27 (0,0)):=by rw [← hw1,← hG];exact heap_alloc_new w _
  have HRG:=Lib.hid (hrange w1 (Kd.dU hT (by rw [hG];exact hB1)))
  have HO:=af.mk (show Td G w w1 from ⟨hk1,hB1⟩)
  have HR:=af.mk hr0
  have HT:=af.mk jm
  have HH:=af.mk h
  have HL:=Lib.hid hl0
  have HX0:=Lib.hid hx0
  have Xq:=Lib.hid (show ad.block < G by rw [← hG];exact Vx)
  have hlen0:(0 < l0.length)=True:=eq_true hl0
  clear h jm hT hrange hr0 hB1 hk1 hx0 Vx hl0
  go_enter Tryz.func33,Tryz.ntmps33
  go_wp2_with (first|((with_reducible refine eH (N:=12) rfl ?_);refine wpList_load_mid rfl 52 (.global 0) rfl 0 0 rfl arr.toList _ HRG.out Tryz.underlying52 rfl (by rw [acU];kernel_rfl) ?_;rw [Array.toArray_toList]))
  clear hw1
  go_loopg [13] 16 (fun kq v wr=>∃ (k:Nat),kq+k=16∧v=.int .i64 k∧af (uY kq k l0=some (r1,r2,r3,r4,r5,r6))∧af (Td G w wr))
  case atStart=>exact ⟨0,rfl,rfl,HH,HO⟩
  case round =>
  clear HH HO HRG
  obtain ⟨k,hkq,rfl,HH,HX⟩:=hrel
  cases gk with
  | zero =>
    have hd0:decide ((k:Int) < 16)=false:=decide_eq_false (by omega)
    have hH:=HH.out
    rw [uY] at hH
    injection hH with hH
    simp only [Prod.mk.injEq] at hH
    obtain ⟨rfl,rfl,rfl,rfl,rfl,rfl⟩:=hH
    clear HH
    have kG:=HX.out.bk
    have kz:=fF kG #[.int .u8 0,.int .u8 0,.int .u8 0,.int .u8 0,.int .i64 0]
    have uS:=af.mk (dH HX.out.bel (Nat.le_refl G) #[.int .u8 0,.int .u8 0,.int .u8 0,.int .u8 0,.int .i64 0])
    have KZ:=af.mk kz
    clear HX kz
    go_wp2_with (skip;refine wpList_store_row rfl 27 (.tmp 2) (.tmp 87) rfl G (#[.int .u8 0,.int .u8 0,.int .u8 0,.int .u8 0,.int .i64 0]) rfl rfl 27 _ kG (by kernel_rfl) rfl (by simp [Value.oneCell']) ?_)
    (try simp only [Exit.inBlock,Exit.then])
    refine bodyPost_ret (rE rfl _ _ G 27 #[.int .u8 0,.int .u8 0,.int .u8 0,.int .u8 0,.int .i64 0] (0,0) _ rfl KZ.out Tryz.underlying27 rfl (by kernel_rfl)) rfl ?_
    exact ⟨rfl,by have q:=uS.out;first|exact q|(rw [hG];exact q)⟩
  | succ ng =>
  have hd0:decide ((k:Int) < 16)=true:=decide_eq_true (by omega)
  have acT:k < 16:=by omega
  have hix:=HIX.out k acT
  obtain ⟨nm,hnm⟩:∃ nm,nameOf k=nm:=⟨_,rfl⟩
  obtain ⟨hs,L9⟩:∃ hs,jT k=hs:=⟨_,rfl⟩
  rw [hnm,L9] at hix
  obtain ⟨b5,hb5⟩:∃ b,wr.heap.size=b:=⟨_,rfl⟩
  obtain ⟨Wa,hWa⟩:∃ Wa,wr.alloc (.cells #[.string ⟨#[]⟩,.string ⟨#[]⟩] 51)=Wa:=⟨_,rfl⟩
  have hzb:Wa.heap[b5]? = some (.cells #[.string ⟨#[]⟩,.string ⟨#[]⟩] 51 (0,0)):=by rw [← hWa,← hb5];exact heap_alloc_new wr _
  have hGb:G < b5:=by rw [← hb5];exact dI HX.out.bk
  have hBr:Below wr.heap.size wr (Wa.setRow b5 #[.string nm,.string hs]):=dH (by rw [← hWa];exact (Below.refl _ wr).alloc (Nat.le_refl _) _) (by omega) _
  have HY:=af.mk (HX.out.below hBr)
  have FH:=af.mk (fF hzb #[.string nm,.string hs])
  clear HX hBr
  go_upto_region 4 with (first|(skip;refine wpList_store_row rfl 51 (.tmp 5) (.tmp 16) rfl b5 (#[.string nm,.string hs]) rfl rfl 51 _ hzb (by kernel_rfl) rfl (by simp [Value.oneCell']) ?_))
  clear hzb hWa hb5 hix
  change Code.wp _ _ _ _ (Wa.setRow b5 #[.string nm,.string hs])
  generalize Wa.setRow b5 #[.string nm,.string hs]=Wm at HY FH ⊢
  have n0:Wm.cell? ⟨b5,0,none⟩=some (.string nm):=by simp [World.cell?,FH.out]
  have n1:Wm.cell? ⟨b5,1,none⟩=some (.string hs):=by simp [World.cell?,FH.out]
  have m0:Wm.cell? ad=some (.string U0):=(HY.out.bel.cell Xq.out).trans HX0.out
  have hsz3:hs.size≤3:=by
    by_cases h0:k=0
    · rw [← L9,h0];decide
    · rw [← L9];exact (yu k (by omega) (by omega)).1
  obtain ⟨z1,hz1⟩:∃ z:Int,z=(hs.size:Int)+1:=⟨_,rfl⟩
  have hw1:IntKind.i64.wrap ((hs.size:Int)+1)=z1:=by rw [hz1];exact IntWalk.i64_in _ (by omega)
  have hH:=HH.out
  rw [uY,hnm,L9,hl00] at hH
  clear HH
  by_cases hk0:k=0
  case pos =>
    rw [if_pos (.inl hk0)] at hH
    have g0:((k:Int) == 0)=true:=beq_iff_eq.2 (by omega)
    have HH:=af.mk hH
    clear hH
    go_quiet (fail)
    rename_i nq
    have HX:=af.mk (show Td G w (Wm.drewN nq) from HY.out.below (ag (Below.refl _ _) nq))
    clear HY FH n0 n1 m0
    have e3:=Lib.hid (show wrap64 ((k:Int)+1)=((k+1:Nat):Int) by unfold wrap64;omega)
    go_wp2
    go_roundg ng
    case measure=>omega
    case rel=>exact ⟨k+1,by omega,by first|rfl|rw [e3.out]|(simp;omega),HH,HX⟩
  have g0:((k:Int) == 0)=false:=beq_eq_false_iff_ne.2 (by omega)
  by_cases hnn:nm.toList=U0.toList
  case neg =>
    rw [if_pos (.inr (.inl hnn))] at hH
    have g1:(nm.toList == U0.toList)=false:=beq_eq_false_iff_ne.2 hnn
    have g2:(nm.toList != U0.toList)=true:=by simp [hnn]
    have HH:=af.mk hH
    clear hH hnn
    go_quiet (fail)
    rename_i nq
    have HX:=af.mk (show Td G w (Wm.drewN nq) from HY.out.below (ag (Below.refl _ _) nq))
    clear HY FH n0 n1 m0
    have e3:=Lib.hid (show wrap64 ((k:Int)+1)=((k+1:Nat):Int) by unfold wrap64;omega)
    go_wp2
    go_roundg ng
    case measure=>omega
    case rel=>exact ⟨k+1,by omega,by first|rfl|rw [e3.out]|(simp;omega),HH,HX⟩
  have g1:(nm.toList == U0.toList)=true:=beq_iff_eq.2 hnn
  have g2:(nm.toList != U0.toList)=false:=by simp [hnn]
  by_cases hll:l0.length=hs.size+1
  case neg =>
    rw [if_pos (.inr (.inr hll))] at hH
    have g3:((l0.length:Int) == z1)=false:=beq_eq_false_iff_ne.2 (by omega)
    have g4:((l0.length:Int) != z1)=true:=by simp;omega
    have HH:=af.mk hH
    clear hH hnn hll hz1
    go_quiet (fail)
    rename_i nq
    have HX:=af.mk (show Td G w (Wm.drewN nq) from HY.out.below (ag (Below.refl _ _) nq))
    clear HY FH n0 n1 m0
    have e3:=Lib.hid (show wrap64 ((k:Int)+1)=((k+1:Nat):Int) by unfold wrap64;omega)
    go_wp2
    go_roundg ng
    case measure=>omega
    case rel=>exact ⟨k+1,by omega,by first|rfl|rw [e3.out]|(simp;omega),HH,HX⟩
  rw [if_neg (by simp [hk0,hnn,hll])] at hH
  obtain ⟨r0,hra,hrr⟩:=Option.map_eq_some_iff.1 hH
  have g3:((l0.length:Int) == z1)=true:=beq_iff_eq.2 (by omega)
  have g4:((l0.length:Int) != z1)=false:=by simp;omega
  have HRA:=af.mk hra
  have HRR:=af.mk hrr
  have Xr:=Lib.hid (show l0.length=hs.size+1∧hs.size≤3∧1≤k∧k≤15 from ⟨hll,hsz3,by omega,by omega⟩)
  have HHS:=Lib.hid L9
  clear hH hra hrr hnn hk0 hsz3
  go_quiet (fail)
  rename_i nq
  have hbq:Below Wm.heap.size Wm (Wm.drewN nq):=ag (Below.refl _ _) nq
  have HX:=af.mk (HY.out.below hbq)
  have HB6:=af.mk ((hbq.block b5 (dI FH.out)).trans FH.out)
  clear HY FH n0 n1 m0 g0 g1 g2 g3 g4 hll hw1 hz1 hbq hnm L9
  generalize Wm.drewN nq=Wq at HX HB6 ⊢
  obtain ⟨bi,hbi⟩:∃ b,Wq.heap.size=b:=⟨_,rfl⟩
  obtain ⟨Wb,hWb⟩:∃ Wb,Wq.alloc (.cells #[.int .u8 0,.int .u8 0,.int .u8 0,.int .u8 0,.int .i64 0] 27)=Wb:=⟨_,rfl⟩
  have hzi:Wb.heap[bi]? = some (.cells #[.int .u8 0,.int .u8 0,.int .u8 0,.int .u8 0,.int .i64 0] 27 (0,0)):=by rw [← hWb,← hbi];exact heap_alloc_new Wq _
  have hku:IntKind.u8.wrap (k:Int)=k:=IntWalk.u8_in _ (by omega)
  have h5i:b5 < bi:=by rw [← hbi];exact dI HB6.out
  have hBr:Below Wq.heap.size Wq (Wb.setRow bi #[.int .u8 k,.int .u8 0,.int .u8 0,.int .u8 0,.int .i64 0]):=dH (by rw [← hWb];exact (Below.refl _ Wq).alloc (Nat.le_refl _) _) (by omega) _
  have HY:=af.mk (HX.out.below hBr)
  have FH:=af.mk ((hBr.block b5 (by omega)).trans HB6.out)
  have HBI:=af.mk (fF hzi #[.int .u8 k,.int .u8 0,.int .u8 0,.int .u8 0,.int .i64 0])
  clear HX HB6 hBr
  go_upto_region 6 with (first|(skip;refine wpList_store_row rfl 27 (.tmp 6) (.tmp 38) rfl bi (#[.int .u8 k,.int .u8 0,.int .u8 0,.int .u8 0,.int .i64 0]) rfl rfl 27 _ hzi (by kernel_rfl) rfl (by simp [Value.oneCell']) ?_))
  clear hzi hWb hbi
  change Code.wp _ _ _ _ (Wb.setRow bi #[.int .u8 k,.int .u8 0,.int .u8 0,.int .u8 0,.int .i64 0])
  generalize Wb.setRow bi #[.int .u8 k,.int .u8 0,.int .u8 0,.int .u8 0,.int .i64 0]=Wc at HY FH HBI ⊢
  obtain ⟨bm,hbm⟩:∃ b,Wc.heap.size=b:=⟨_,rfl⟩
  have him:bi < bm:=by rw [← hbm];exact dI HBI.out
  obtain ⟨V0,hV0⟩:∃ V,Wc.alloc (.map #[] 0)=V:=⟨_,rfl⟩
  have hm0:V0.heap[bm]? = some (.map (vK bi 0) 0):=by rw [← hV0,← hbm];exact heap_alloc_new Wc _
  obtain ⟨V1,hV1⟩:∃ V,ny V0 bm (.map (vK bi (0+1)) (0+1))=V:=⟨_,rfl⟩
  have hi1:=Dc V0 bm bi 0 97 rfl (by decide) hm0
  rw [hV1,Nat.add_zero] at hi1
  have hm1:V1.heap[bm]? = some (.map (vK bi 1) 1):=by rw [← hV1];exact xw hm0
  obtain ⟨V2,hV2⟩:∃ V,ny V1 bm (.map (vK bi (1+1)) (1+1))=V:=⟨_,rfl⟩
  have hi2:=Dc V1 bm bi 1 98 rfl (by decide) hm1
  rw [hV2,show 1+1=2 from rfl] at hi2
  have hm2:V2.heap[bm]? = some (.map (vK bi 2) 2):=by rw [← hV2];exact xw hm1
  obtain ⟨V3,Vz⟩:∃ V,ny V2 bm (.map (vK bi (2+1)) (2+1))=V:=⟨_,rfl⟩
  have hi3:=Dc V2 bm bi 2 99 rfl (by decide) hm2
  rw [Vz,show 1+2=3 from rfl] at hi3
  have hm3:V3.heap[bm]? = some (.map (vK bi 3) 3):=by rw [← Vz];exact xw hm2
  have Qm:∀ j,j < bm→V3.heap[j]? = Wc.heap[j]?:=fun j hj=>by
    rw [← Vz,rC j (by omega),← hV2,rC j (by omega),← hV1,rC j (by omega),← hV0]
    exact Below.heap_alloc Wc _ j (by omega)
  have SB:Below G w V3:=by
    rw [← Vz]
    refine rD ?_ (by omega)
    rw [← hV2]
    refine rD ?_ (by omega)
    rw [← hV1]
    refine rD ?_ (by omega)
    rw [← hV0]
    exact HY.out.bel.alloc (by omega) _
  have hn1:V3.cell? ⟨b5,1,none⟩=some (.string hs):=by simp [World.cell?,(Qm b5 (by omega)).trans FH.out]
  obtain ⟨it,hit⟩:∃ b,V3.heap.size=b:=⟨_,rfl⟩
  obtain ⟨V4,hV4⟩:∃ V,V3.iter hs 0=V:=⟨_,rfl⟩
  have hmt:bm < it:=by rw [← hit];exact dI hm3
  have hup:∀ j,j < it→V4.heap[j]? = V3.heap[j]?:=fun j hj=>by rw [← hV4];exact Below.heap_alloc V3 _ j (by omega)
  have HI:=af.mk (show AB G bi bm it 0 hs k (0,0,0,0) w V4 from ⟨(hup G (by omega)).trans ((Qm G (by omega)).trans HY.out.bk),(hup bi (by omega)).trans ((Qm bi him).trans HBI.out),(hup bm hmt).trans hm3,by rw [← hV4,← hit];exact World.iter_heap V3 hs 0,by rw [← hV4];exact SB.alloc (by omega) _,by omega,by omega,by omega⟩)
  have hmm:=@run_makeMap Tryz.prog
  clear HY FH HBI hm0 hm1 hm2 hm3 Qm SB hup him hmt h5i hGb hV1 hV2 Vz
  go_wp2
  clear hi1 hi2 hi3 hn1 hbm hV0 hit hV4 hmm
  have HRB:=af.mk (show iI (hs.data.toList.drop 0) (l0.drop (0+1)) (0,0,0,0)=some r0 from by rw [List.drop_zero,Nat.zero_add,List.drop_one,← HHS.out];rw [HHS.out];exact HRA.out)
  go_loopg [] hs.size (fun kq wr=>∃ (pos:Nat) (x:Int × Int × Int × Int),kq+pos=hs.size∧af (iI (hs.data.toList.drop pos) (l0.drop (pos+1)) x=some r0)∧af (AB G bi bm it pos hs k x w wr))
  case atStart=>exact ⟨0,(0,0,0,0),Nat.add_zero _,HRB,HI⟩
  case round =>
  clear HRA HRB HI
  obtain ⟨pos,x,hpk,HA,HX⟩:=hrel
  by_cases hp:pos < hs.size
  case neg =>
    have hnx:∀ ty,(Instr.next (.pointer (some ⟨it,0,none⟩)) true ty).run Tryz.prog wr=.ok (.tuple #[.bool false]) wr:=fun ty=>Lib.run_next_end_at wr it hs pos ty HX.out.iter hp
    have hA:=HA.out
    rw [List.drop_eq_nil_of_le (by simp;omega),iI] at hA
    have hr0:=(Option.some.inj hA).symm
    have hrr:=HRR.out
    rw [hr0] at hrr
    simp only [Bg,Prod.mk.injEq] at hrr
    obtain ⟨rfl,rfl,rfl,rfl,rfl,rfl⟩:=hrr
    have kI:=HX.out.ins
    have kG:=HX.out.bk
    have KZ:=af.mk (fF kG #[.int .u8 k,.int .u8 x.1,.int .u8 x.2.1,.int .u8 x.2.2.1,.int .i64 x.2.2.2])
    have uS:=af.mk (dH HX.out.bel (Nat.le_refl G) #[.int .u8 k,.int .u8 x.1,.int .u8 x.2.1,.int .u8 x.2.2.1,.int .i64 x.2.2.2])
    clear HX HA HRR hA hr0 hp hpk
    go_wp2_with (first|((with_reducible refine eH (N:=85) rfl ?_);refine wpList_load_row rfl 27 (.tmp 6) rfl bi rfl 27 (#[.int .u8 k,.int .u8 x.1,.int .u8 x.2.1,.int .u8 x.2.2.1,.int .i64 x.2.2.2]) (0,0) _ kI Tryz.underlying27 rfl (by kernel_rfl) ?_)|(skip;refine wpList_store_row rfl 27 (.tmp 2) (.tmp 85) rfl G (#[.int .u8 k,.int .u8 x.1,.int .u8 x.2.1,.int .u8 x.2.2.1,.int .i64 x.2.2.2]) rfl rfl 27 _ kG (by kernel_rfl) rfl (by simp [Value.oneCell']) ?_))
    (try simp only [Exit.inBlock,Exit.then])
    refine bodyPost_ret (rE rfl _ _ G 27 #[.int .u8 k,.int .u8 x.1,.int .u8 x.2.1,.int .u8 x.2.2.1,.int .i64 x.2.2.2] (0,0) _ rfl KZ.out Tryz.underlying27 rfl (by kernel_rfl)) rfl ?_
    exact ⟨rfl,by have q:=uS.out;first|exact q|(rw [hG];exact q)⟩
  have Nb:=GG k Xr.out.2.2.1 Xr.out.2.2.2 (hs[pos]'hp) (by rw [HHS.out];simp [ByteArray.getElem_eq_getElem_data])
  obtain ⟨ch,hch⟩:∃ c:Nat,(hs[pos]'hp).toNat=c:=⟨_,rfl⟩
  rw [hch] at Nb
  obtain ⟨Wn,Ut⟩:∃ Wn,wr.iterAt it hs (pos+1)=Wn:=⟨_,rfl⟩
  have hnx:∀ ty,(Instr.next (.pointer (some ⟨it,0,none⟩)) true ty).run Tryz.prog wr=.ok (.tuple #[.bool true,.int .i64 pos,.int .i32 ch]) Wn:=fun ty=>by rw [← Ut,← hch];exact Lib.run_next_ascii_at wr it hs pos ty HX.out.iter hp (by omega)
  replace HX:=af.mk (show AB G bi bm it (pos+1) hs k x w Wn from by rw [← Ut];exact HX.out.next (pos+1))
  obtain ⟨z,hz⟩:∃ z:Int,z=(pos:Int)+1:=⟨_,rfl⟩
  have hpl:pos+1 < l0.length:=by have:=Xr.out;omega
  have hzw:IntKind.i64.wrap ((pos:Int)+1)=z:=by rw [hz];exact IntWalk.i64_in _ (by have:=Xr.out;omega)
  have hz0:0≤z:=by omega
  have hz1:z < (l0.length:Int):=by omega
  obtain ⟨ad',e,hx⟩:=Kd.fG (Kd.dU HR.out (by rw [hG];exact HX.out.bel)) z hz0 hz1
  injection e with e
  subst e
  obtain ⟨wd,hwd⟩:∃ wd,eX ByteArray.empty l0 z=wd:=⟨_,rfl⟩
  rw [hwd] at hx
  have hdl:l0.drop (pos+1)=wd :: l0.drop (pos+1+1):=by
    rw [List.drop_eq_getElem_cons hpl,← hwd,eX,hz,List.getD_eq_getElem?_getD,show ((pos:Int)+1).toNat=pos+1 by omega,List.getElem?_eq_getElem hpl]
    rfl
  have hA:=HA.out
  rw [JY hs pos hp,hdl,iI,hch] at hA
  obtain ⟨⟨nv,ev⟩,hN,hA⟩:=Option.bind_eq_some_iff.1 hA
  have HN:=Lib.hid hN
  have HA2:=af.mk hA
  have Ov:=Lib.hid (show gk+pos=hs.size∧pos < hs.size from ⟨hpk,hp⟩)
  clear hA hN HA hdl hpk hwd hz hpl Ut hch
  have hz2:(z < (hs.size:Int)+1)=True:=eq_true (by have:=Xr.out;omega)
  replace hz0:=eq_true hz0
  replace hz1:=eq_true hz1
  go_upto_region 11 with (go_at_call 53;refine (jP.calls wd nv ev _ (Kd.dU HT.out (by rw [hG];exact HX.out.bel)) HN.out).mono ?_;rintro e w4 ⟨rfl,hb4⟩;replace HX:=af.mk (HX.out.below hb4);clear hb4)
  clear hx hnx hzw hz0 hz1 hz2 HN
  have hA:=HA2.out
  by_cases hev:ev=0
  case neg =>
    rw [if_neg hev] at hA
    have hr0:=(Option.some.inj hA).symm
    have hrr:=HRR.out
    rw [hr0] at hrr
    simp only [Bg,Prod.mk.injEq] at hrr
    obtain ⟨rfl,rfl,rfl,rfl,rfl,rfl⟩:=hrr
    have b1:(ev != 0)=true:=by simp [hev]
    clear hA HA2 HRR hr0 hev Nb hp
    have kG:=HX.out.bk
    have kz:=fF kG #[.int .u8 0,.int .u8 0,.int .u8 0,.int .u8 0,.int .i64 0]
    have uS:=af.mk (dH HX.out.bel (Nat.le_refl G) #[.int .u8 0,.int .u8 0,.int .u8 0,.int .u8 0,.int .i64 0])
    have KZ:=af.mk kz
    clear HX kz
    go_wp2_with (skip;refine wpList_store_row rfl 27 (.tmp 2) (.tmp 74) rfl G (#[.int .u8 0,.int .u8 0,.int .u8 0,.int .u8 0,.int .i64 0]) rfl rfl 27 _ kG (by kernel_rfl) rfl (by simp [Value.oneCell']) ?_)
    (try simp only [Exit.inBlock,Exit.then])
    refine bodyPost_ret (rE rfl _ _ G 27 #[.int .u8 0,.int .u8 0,.int .u8 0,.int .u8 0,.int .i64 0] (0,0) _ rfl KZ.out Tryz.underlying27 rfl (by kernel_rfl)) rfl ?_
    exact ⟨rfl,by have q:=uS.out;first|exact q|(rw [hG];exact q)⟩
  subst hev
  rw [if_pos rfl] at hA
  by_cases hc:ch=110
  case pos =>
    subst hc
    rw [if_pos rfl] at hA
    have Xw:=af.mk hA
    have c4:w4.cell? ⟨bi,4,none⟩=some (.int .i64 x.2.2.2):=HX.out.cell 4
    have f4:=HX.out.fr 4
    have xN:=af.mk (HX.out.set 4 (.int .i64 nv) (setArg 110 nv x) rfl)
    clear hA HA2 Nb HX
    go_wp2
    go_roundg (gk - 1)
    case measure=>have:=Ov.out;omega
    case rel=>exact ⟨pos+1,setArg 110 nv x,by have:=Ov.out;omega,Xw,xN⟩
  rw [if_neg hc] at hA
  have b2:((ch:Int) != 110)=true:=by simp;omega
  have b3:((ch:Int) == 110)=false:=beq_eq_false_iff_ne.2 (by omega)
  by_cases hr:0≤nv∧nv≤255
  case neg =>
    rw [if_neg hr] at hA
    have hr0:=(Option.some.inj hA).symm
    have hrr:=HRR.out
    rw [hr0] at hrr
    simp only [Bg,Prod.mk.injEq] at hrr
    obtain ⟨rfl,rfl,rfl,rfl,rfl,rfl⟩:=hrr
    by_cases hn0:nv < 0
    case' pos =>
      have d1:decide (nv < 0)=true:=decide_eq_true hn0
    case' neg =>
      have d1:decide (nv < 0)=false:=decide_eq_false hn0
      have d2:decide (255 < nv)=true:=decide_eq_true (by omega)
    all_goals
      clear hA HA2 HRR hr0 Nb hr hn0 hc hp
      have kG:=HX.out.bk
      have kz:=fF kG #[.int .u8 0,.int .u8 0,.int .u8 0,.int .u8 0,.int .i64 0]
      have uS:=af.mk (dH HX.out.bel (Nat.le_refl G) #[.int .u8 0,.int .u8 0,.int .u8 0,.int .u8 0,.int .i64 0])
      have KZ:=af.mk kz
      clear HX kz
      go_wp2_with (skip;refine wpList_store_row rfl 27 (.tmp 2) (.tmp 74) rfl G (#[.int .u8 0,.int .u8 0,.int .u8 0,.int .u8 0,.int .i64 0]) rfl rfl 27 _ kG (by kernel_rfl) rfl (by simp [Value.oneCell']) ?_)
      (try simp only [Exit.inBlock,Exit.then])
      refine bodyPost_ret (rE rfl _ _ G 27 #[.int .u8 0,.int .u8 0,.int .u8 0,.int .u8 0,.int .i64 0] (0,0) _ rfl KZ.out Tryz.underlying27 rfl (by kernel_rfl)) rfl ?_
      exact ⟨rfl,by have q:=uS.out;first|exact q|(rw [hG];exact q)⟩
  rw [if_pos hr] at hA
  have Xw:=af.mk hA
  have d1:decide (nv < 0)=false:=decide_eq_false (by omega)
  have d2:decide (255 < nv)=false:=decide_eq_false (by omega)
  have hnu:IntKind.u8.wrap nv=nv:=IntWalk.u8_in _ (by omega)
  clear hA HA2 hr
  rcases Nb with rfl|rfl|rfl|acW
  · have hlk:=zF w4 bm bi 0 97 rfl (by decide) HX.out.map
    have c4:w4.cell? ⟨bi,1,none⟩=some (.int .u8 x.1):=HX.out.cell 1
    have f4:=HX.out.fr 1
    have xN:=af.mk (HX.out.set 1 (.int .u8 nv) (setArg 97 nv x) rfl)
    clear HX
    go_wp2
    go_roundg (gk - 1)
    case measure=>have:=Ov.out;omega
    case rel=>exact ⟨pos+1,setArg 97 nv x,by have:=Ov.out;omega,Xw,xN⟩
  · have hlk:=zF w4 bm bi 1 98 rfl (by decide) HX.out.map
    have c4:w4.cell? ⟨bi,2,none⟩=some (.int .u8 x.2.1):=HX.out.cell 2
    have f4:=HX.out.fr 2
    have xN:=af.mk (HX.out.set 2 (.int .u8 nv) (setArg 98 nv x) rfl)
    clear HX
    go_wp2
    go_roundg (gk - 1)
    case measure=>have:=Ov.out;omega
    case rel=>exact ⟨pos+1,setArg 98 nv x,by have:=Ov.out;omega,Xw,xN⟩
  · have hlk:=zF w4 bm bi 2 99 rfl (by decide) HX.out.map
    have c4:w4.cell? ⟨bi,3,none⟩=some (.int .u8 x.2.2.1):=HX.out.cell 3
    have f4:=HX.out.fr 3
    have xN:=af.mk (HX.out.set 3 (.int .u8 nv) (setArg 99 nv x) rfl)
    clear HX
    go_wp2
    go_roundg (gk - 1)
    case measure=>have:=Ov.out;omega
    case rel=>exact ⟨pos+1,setArg 99 nv x,by have:=Ov.out;omega,Xw,xN⟩
  · exact absurd acW hc
end Go.Proofs.YtkclndkbccbhaaaGreatDoor.P
end
