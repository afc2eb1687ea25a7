/- Parts of the proof of ModelRight: what the functions that it reaches compute, and plain facts about that. -/
import Derived.Lib.Hide
import Derived.Deep.DrawnRows
import Derived.Deep.QuietTactic
import Derived.BigQuiet
import Derived.Deep.RegionHeld3
import Derived.LoopTactic
import Derived.RegionTactic
import Derived.StillTailTactics
import Derived.Test.YtlemecdddhdagaaDoorVab
set_option linter.unusedVariables false
set_option linter.unusedSimpArgs false
section
namespace Go.Proofs.YtlemecdddhdagaaDoor.P
open Go.RowKit Go.Proofs.ag.bI Go.Proofs.ag.dM Go.Proofs.ag.dZ
attribute [local go_sem ↓] Go.wp_at_zero Go.wp_at_succ
structure St where
  x:Nat→Int
  p:Nat→Int
  g:Nat→Int
  bM:List (List Int)
  out:List Int
  pc:Int
  steps:Int
def upd (f:Nat→Int) (j:Nat) (v:Int):Nat→Int:=fun i=>if i=j then v else f i
def cellsS (s:St) (vO vU:Value):Array Value:=#[.int .i64 (s.x 0),.int .i64 (s.x 1),.int .i64 (s.x 2),.int .i64 (s.x 3),.int .i64 (s.x 4),.int .i64 (s.x 5),.int .i64 (s.x 6),.int .i64 (s.x 7),.int .i64 (s.p 0),.int .i64 (s.p 1),.int .i64 (s.p 2),.int .i64 (s.p 3),.int .i64 (s.p 4),.int .i64 (s.p 5),.int .i64 (s.p 6),.int .i64 (s.p 7),.int .i64 (s.g 0),.int .i64 (s.g 1),.int .i64 (s.g 2),.int .i64 (s.g 3),vO,vU,.int .i64 s.pc,.int .i64 s.steps]
structure kF (b:Nat) (s:St) (vO vU:Value) (w:World):Prop where
  blk:w.heap[b]? = some (.cells (cellsS s vO vU) 39 (0,0))
section
variable {b:Nat} {s:St} {vO vU:Value} {w:World}
theorem kF.lt (h:kF b s vO vU w):b < w.heap.size:=(Array.getElem?_eq_some_iff.1 h.blk).1
theorem kF.cell (h:kF b s vO vU w) (j:Nat):w.cell? ⟨b,j,none⟩=(cellsS s vO vU)[j]?:=by
  simp [World.cell?,h.blk]
theorem kF.fr (h:kF b s vO vU w) (j:Nat):w.frozen? ⟨b,j,none⟩=false:=by
  simp [World.frozen?,h.blk]
theorem kF.xE (h:kF b s vO vU w) (j:Nat) (hj:j < 8):w.cell? ⟨b,j,none⟩=some (.int .i64 (s.x j)):=by
  rw [h.cell j]
  match j,hj with
  | 0,_ | 1,_ | 2,_ | 3,_ | 4,_ | 5,_ | 6,_ | 7,_=>rfl
theorem kF.rq (h:kF b s vO vU w) (j:Nat) (hj:j < 8):w.cell? ⟨b,8+j,none⟩=some (.int .i64 (s.p j)):=by
  rw [h.cell (8+j)]
  match j,hj with
  | 0,_ | 1,_ | 2,_ | 3,_ | 4,_ | 5,_ | 6,_ | 7,_=>rfl
theorem kF.Wl (h:kF b s vO vU w) (j:Nat) (hj:j < 4):w.cell? ⟨b,16+j,none⟩=some (.int .i64 (s.g j)):=by
  rw [h.cell (16+j)]
  match j,hj with
  | 0,_ | 1,_ | 2,_ | 3,_=>rfl
theorem kF.set (h:kF b s vO vU w) (j:Nat) (v:Value) (s':St) (qI qH:Value) (e:(cellsS s vO vU).setIfInBounds j v=cellsS s' qI qH):kF b s' qI qH (w.setCell ⟨b,j,none⟩ v):=by
  refine ⟨?_⟩
  simp [World.setCell,Array.getElem?_modify,h.blk,e]
theorem kF.BG (h:kF b s vO vU w) (j:Nat) (hj:j < 8) (v:Int):kF b { s with x:=upd s.x j v } vO vU (w.setCell ⟨b,j,none⟩ (.int .i64 v)) :=
  h.set j _ _ _ _ (by match j,hj with
    | 0,_ | 1,_ | 2,_ | 3,_ | 4,_ | 5,_ | 6,_ | 7,_=>rfl)
theorem kF.EH (h:kF b s vO vU w) (j:Nat) (hj:j < 8) (v:Int):kF b { s with p:=upd s.p j v } vO vU (w.setCell ⟨b,8+j,none⟩ (.int .i64 v)) :=
  h.set (8+j) _ _ _ _ (by match j,hj with
    | 0,_ | 1,_ | 2,_ | 3,_ | 4,_ | 5,_ | 6,_ | 7,_=>rfl)
theorem kF.ab9 (h:kF b s vO vU w) (j:Nat) (hj:j < 4) (v:Int):kF b { s with g:=upd s.g j v } vO vU (w.setCell ⟨b,16+j,none⟩ (.int .i64 v)) :=
  h.set (16+j) _ _ _ _ (by match j,hj with
    | 0,_ | 1,_ | 2,_ | 3,_=>rfl)
theorem kF.Gz (h:kF b s vO vU w) (v:Int):kF b { s with pc:=v } vO vU (w.setCell ⟨b,22,none⟩ (.int .i64 v)):=h.set 22 _ _ _ _ rfl
theorem kF.Lu (h:kF b s vO vU w) (v:Int):kF b { s with steps:=v } vO vU (w.setCell ⟨b,23,none⟩ (.int .i64 v)):=h.set 23 _ _ _ _ rfl
theorem kF.EK (h:kF b s vO vU w) (v:Value) (l:List (List Int)):kF b { s with bM:=l } v vU (w.setCell ⟨b,20,none⟩ v):=h.set 20 _ _ _ _ rfl
theorem kF.IW (h:kF b s vO vU w) (v:Value) (l:List Int):kF b { s with out:=l } vO v (w.setCell ⟨b,21,none⟩ v):=h.set 21 _ _ _ _ rfl
theorem kF.of_block {w':World} (h:kF b s vO vU w) (e:w'.heap[b]? = w.heap[b]?):kF b s vO vU w':=⟨e.trans h.blk⟩
theorem kF.alloc (h:kF b s vO vU w) (o:Obj):kF b s vO vU (w.alloc o):=h.of_block (Below.heap_alloc w o b h.lt)
end
structure Ow (g:Nat) (w w':World):Prop where
  os:w'.os=w.os
  tape:w'.tape=w.tape
  output:w'.output=w.output
  size:w.heap.size≤w'.heap.size
  block:∀ i,i < w.heap.size→i ≠ g→w'.heap[i]? = w.heap[i]?
theorem Ow.refl (g:Nat) (w:World):Ow g w w:=⟨rfl,rfl,rfl,Nat.le_refl _,fun _ _ _=>rfl⟩
theorem Ow.set {g:Nat} {w w':World} (h:Ow g w w') (k:Nat) (u:Value):Ow g w (w'.setCell ⟨g,k,none⟩ u) :=
  ⟨h.os,h.tape,h.output,by have:=h.size;simp only [World.setCell,Array.size_modify];exact this,fun i hi hn=>by rw [Below.heap_setCell _ _ _ _ hn];exact h.block i hi hn⟩
theorem Ow.alloc {g:Nat} {w w':World} (h:Ow g w w') (o:Obj):Ow g w (w'.alloc o) :=
  ⟨h.os,h.tape,h.output,by have:=h.size;simp only [World.alloc,Array.size_push];omega,fun i hi hn=>(Below.heap_alloc w' o i (Nat.lt_of_lt_of_le hi h.size)).trans (h.block i hi hn)⟩
theorem Ow.drew {g:Nat} {w w':World} (h:Ow g w w'):Ow g w w'.drew:=⟨h.os,h.tape,h.output,h.size,h.block⟩
theorem Ow.drewN {g:Nat} {w w':World} (h:Ow g w w') (n:Nat):Ow g w (w'.drewN n):=⟨h.os,h.tape,h.output,h.size,h.block⟩
theorem Ow.trans {g:Nat} {a b c:World} (h:Ow g a b) (k:Ow g b c):Ow g a c :=
  ⟨k.os.trans h.os,k.tape.trans h.tape,k.output.trans h.output,Nat.le_trans h.size k.size,fun i hi hn=>(k.block i (Nat.lt_of_lt_of_le hi h.size) hn).trans (h.block i hi hn)⟩
theorem Ow.below {g:Nat} {W w w':World} (h:Ow g w w') (hW:Below W.heap.size W w) (hg:W.heap.size≤g):Below W.heap.size W w' :=
  ⟨h.os.trans hW.os,h.tape.trans hW.tape,h.output.trans hW.output,Nat.le_trans hW.size h.size,fun i hi=>(h.block i (Nat.lt_of_lt_of_le hi hW.size) (by omega)).trans (hW.block i hi)⟩
theorem Ow.of_below {g:Nat} {w w':World} (h:Below w.heap.size w w'):Ow g w w':=⟨h.os,h.tape,h.output,h.size,fun i hi _=>h.block i hi⟩
def bump (s:St):St:={ s with pc:=wrap64 (s.pc+1),steps:=wrap64 (s.steps+1) }
def mV (b:Nat) (s:St) (P I:Array Value) (w:World):World :=
  (((w.setCell ⟨b,22,none⟩ (.int .i64 (wrap64 (s.pc+1)))).setCell ⟨b,23,none⟩ (.int .i64 (wrap64 (s.steps+1)))).alloc (.cells P 25)).alloc (.cells I 55)
structure Mid (b:Nat) (s:St) (vO vU:Value) (P I:Array Value) (w W:World):Prop where
  st:kF b s vO vU W
  ow:Ow b w W
  size:w.heap.size+2≤W.heap.size
  lt:b < w.heap.size
  prog:∀ (j:Nat) (v:Value),P[j]? = some v→W.cell? ⟨w.heap.size,j,none⟩=some v
  ins:∀ (j:Nat) (v:Value),I[j]? = some v→W.cell? ⟨w.heap.size+1,j,none⟩=some v
section
variable {b:Nat} {s:St} {vO vU:Value} {P I:Array Value} {w W:World}
theorem Mid.drew (h:Mid b s vO vU P I w W):Mid b s vO vU P I w W.drew:=⟨h.st.of_block rfl,h.ow.drew,h.size,h.lt,h.prog,h.ins⟩
theorem Mid.drewN (h:Mid b s vO vU P I w W) (n:Nat):Mid b s vO vU P I w (W.drewN n):=⟨h.st.of_block rfl,h.ow.drewN n,h.size,h.lt,h.prog,h.ins⟩
theorem Mid.set (h:Mid b s vO vU P I w W) (j:Nat) (v:Value) {s':St} {qI qH:Value} (k:kF b s' qI qH (W.setCell ⟨b,j,none⟩ v)):Mid b s' qI qH P I w (W.setCell ⟨b,j,none⟩ v):=by
  have hlt:=h.lt
  refine ⟨k,h.ow.set j v,by simp only [World.setCell,Array.size_modify];exact h.size,h.lt,fun i u hu=>?_,fun i u hu=>?_⟩
  · refine (World.cell?_of_block (a:=⟨w.heap.size,i,none⟩) (Below.heap_setCell W ⟨b,j,none⟩ v w.heap.size (by show w.heap.size ≠ b;omega))).trans (h.prog i u hu)
  · refine (World.cell?_of_block (a:=⟨w.heap.size+1,i,none⟩) (Below.heap_setCell W ⟨b,j,none⟩ v (w.heap.size+1) (by show w.heap.size+1 ≠ b;omega))).trans (h.ins i u hu)
end
theorem mZ {b:Nat} {s:St} {vO vU:Value} {P I:Array Value} {w:World} (h:kF b s vO vU w):Mid b (bump s) vO vU P I w (mV b s P I w):=by
  have h1:=(h.Gz (wrap64 (s.pc+1))).Lu (wrap64 (s.steps+1))
  have hs:((w.setCell ⟨b,22,none⟩ (.int .i64 (wrap64 (s.pc+1)))).setCell ⟨b,23,none⟩ (.int .i64 (wrap64 (s.steps+1)))).heap.size=w.heap.size:=by simp [World.setCell]
  refine ⟨(h1.alloc _).alloc _,((((Ow.refl b w).set 22 _).set 23 _).alloc _).alloc _,by simp [mV,World.setCell],h.lt,fun j v hv=>?_,fun j v hv=>?_⟩
  · have e:(mV b s P I w).heap[w.heap.size]? = some (.cells P 25 (0,0)):=by
      unfold mV
      have h2:=heap_alloc_new ((w.setCell ⟨b,22,none⟩ (.int .i64 (wrap64 (s.pc+1)))).setCell ⟨b,23,none⟩ (.int .i64 (wrap64 (s.steps+1)))) (.cells P 25)
      rw [hs] at h2
      rw [Below.heap_alloc _ _ _ (by simp [World.setCell])]
      exact h2
    simp only [World.cell?,e]
    exact hv
  · have e:(mV b s P I w).heap[w.heap.size+1]? = some (.cells I 55 (0,0)):=by
      unfold mV
      have h2:=heap_alloc_new (((w.setCell ⟨b,22,none⟩ (.int .i64 (wrap64 (s.pc+1)))).setCell ⟨b,23,none⟩ (.int .i64 (wrap64 (s.steps+1)))).alloc (.cells P 25)) (.cells I 55)
      have hs2:(((w.setCell ⟨b,22,none⟩ (.int .i64 (wrap64 (s.pc+1)))).setCell ⟨b,23,none⟩ (.int .i64 (wrap64 (s.steps+1)))).alloc (.cells P 25)).heap.size=w.heap.size+1:=by simp [World.setCell]
      rw [hs2] at h2
      exact h2
    simp only [World.cell?,e]
    exact hv
set_option maxRecDepth 100000 in
set_option maxHeartbeats 3200000 in
theorem do_1 (b:Nat) (s:St) (vO vU:Value) (a bb cc:Nat) (n:Int) (ha:a < 8) (w:World) (h:kF b s vO vU w) (p0 p1 p2 p3:Value) :
    Calls Tryd.prog 22 #[.pointer (some ⟨b,0,none⟩),.agg #[p0,p1,p2,p3],.agg #[.int .u8 1,.int .u8 a,.int .u8 bb,.int .u8 cc,.int .i64 n]] w fun e w'=>e=.returned (.int .i64 0)∧kF b { bump s with x:=upd s.x a n } vO vU w'∧Ow b w w':=by
  have hlt:=h.lt
  have hne:b ≠ w.heap.size:=by omega
  have f22:=h.fr 22
  have f23:=h.fr 23
  have qA:w.cell? ⟨b,22,none⟩=some (.int .i64 s.pc):=h.cell 22
  have c23:w.cell? ⟨b,23,none⟩=some (.int .i64 s.steps):=h.cell 23
  have HP:=ae.mk (mZ (P:=#[p0,p1,p2,p3]) (I:=#[.int .u8 1,.int .u8 a,.int .u8 bb,.int .u8 cc,.int .i64 n]) h)
  clear h
  go_enter Tryd.func22,Tryd.ntmps22
  go_wp2
  change Code.wp _ _ _ _ (mV b s #[p0,p1,p2,p3] #[.int .u8 1,.int .u8 a,.int .u8 bb,.int .u8 cc,.int .i64 n] w)
  generalize mV b s #[p0,p1,p2,p3] #[.int .u8 1,.int .u8 a,.int .u8 bb,.int .u8 cc,.int .i64 n] w=W at HP ⊢
  clear f22 f23 qA c23
  have i1:W.cell? ⟨w.heap.size+1,1,none⟩=some (.int .u8 a):=HP.out.ins 1 _ rfl
  have i2:W.cell? ⟨w.heap.size+1,2,none⟩=some (.int .u8 bb):=HP.out.ins 2 _ rfl
  have i3:W.cell? ⟨w.heap.size+1,3,none⟩=some (.int .u8 cc):=HP.out.ins 3 _ rfl
  have i4:W.cell? ⟨w.heap.size+1,4,none⟩=some (.int .i64 n):=HP.out.ins 4 _ rfl
  have hai:(a:Int) < 8:=by omega
  go_still_tail 8,(by kernel_rfl)
  change wpList _ _ _ _ _ W.drew
  have HQ:=ae.mk HP.out.drew
  clear HP
  generalize W.drew=W2 at HQ ⊢
  have fs:=HQ.out.st.fr (a)
  have cs:=HQ.out.st.xE a ha
  go_wp2
  go_ret
  exact ⟨rfl,HQ.out.st.BG a ha n,HQ.out.ow.set _ _⟩
set_option maxRecDepth 100000 in
set_option maxHeartbeats 3200000 in
theorem alh (b:Nat) (s:St) (vO vU:Value) (a bb cc:Nat) (n:Int) (ha:a < 8) (hbb:bb < 8) (hcc:cc < 8) (w:World) (h:kF b s vO vU w) (p0 p1 p2 p3:Value) :
    Calls Tryd.prog 22 #[.pointer (some ⟨b,0,none⟩),.agg #[p0,p1,p2,p3],.agg #[.int .u8 2,.int .u8 a,.int .u8 bb,.int .u8 cc,.int .i64 n]] w fun e w'=>e=.returned (.int .i64 0)∧kF b { bump s with x:=upd s.x a (wrap64 (s.x bb+s.x cc)) } vO vU w'∧Ow b w w':=by
  have hlt:=h.lt
  have hne:b ≠ w.heap.size:=by omega
  have f22:=h.fr 22
  have f23:=h.fr 23
  have qA:w.cell? ⟨b,22,none⟩=some (.int .i64 s.pc):=h.cell 22
  have c23:w.cell? ⟨b,23,none⟩=some (.int .i64 s.steps):=h.cell 23
  have HP:=ae.mk (mZ (P:=#[p0,p1,p2,p3]) (I:=#[.int .u8 2,.int .u8 a,.int .u8 bb,.int .u8 cc,.int .i64 n]) h)
  clear h
  go_enter Tryd.func22,Tryd.ntmps22
  go_wp2
  change Code.wp _ _ _ _ (mV b s #[p0,p1,p2,p3] #[.int .u8 2,.int .u8 a,.int .u8 bb,.int .u8 cc,.int .i64 n] w)
  generalize mV b s #[p0,p1,p2,p3] #[.int .u8 2,.int .u8 a,.int .u8 bb,.int .u8 cc,.int .i64 n] w=W at HP ⊢
  clear f22 f23 qA c23
  have i1:W.cell? ⟨w.heap.size+1,1,none⟩=some (.int .u8 a):=HP.out.ins 1 _ rfl
  have i2:W.cell? ⟨w.heap.size+1,2,none⟩=some (.int .u8 bb):=HP.out.ins 2 _ rfl
  have i3:W.cell? ⟨w.heap.size+1,3,none⟩=some (.int .u8 cc):=HP.out.ins 3 _ rfl
  have i4:W.cell? ⟨w.heap.size+1,4,none⟩=some (.int .i64 n):=HP.out.ins 4 _ rfl
  have hai:(a:Int) < 8:=by omega
  have Po:(bb:Int) < 8:=by omega
  have abW:(cc:Int) < 8:=by omega
  have KL:W.cell? ⟨b,bb,none⟩=some (.int .i64 (s.x bb)):=HP.out.st.xE bb hbb
  have cr1:W.cell? ⟨b,cc,none⟩=some (.int .i64 (s.x cc)):=HP.out.st.xE cc hcc
  go_still_tail 21,(by kernel_rfl)
  change wpList _ _ _ _ _ W.drew
  have HQ:=ae.mk HP.out.drew
  clear HP
  generalize W.drew=W2 at HQ ⊢
  have fs:=HQ.out.st.fr (a)
  have cs:=HQ.out.st.xE a ha
  go_wp2
  go_ret
  exact ⟨rfl,HQ.out.st.BG a ha (wrap64 (s.x bb+s.x cc)),HQ.out.ow.set _ _⟩
set_option maxRecDepth 100000 in
set_option maxHeartbeats 3200000 in
theorem ale (b:Nat) (s:St) (vO vU:Value) (a bb cc:Nat) (n:Int) (ha:a < 8) (w:World) (h:kF b s vO vU w) (p0 p1 p2 p3:Value) :
    Calls Tryd.prog 22 #[.pointer (some ⟨b,0,none⟩),.agg #[p0,p1,p2,p3],.agg #[.int .u8 6,.int .u8 a,.int .u8 bb,.int .u8 cc,.int .i64 n]] w fun e w'=>e=.returned (.int .i64 0)∧kF b { bump s with p:=upd s.p a 0 } vO vU w'∧Ow b w w':=by
  have hlt:=h.lt
  have hne:b ≠ w.heap.size:=by omega
  have f22:=h.fr 22
  have f23:=h.fr 23
  have qA:w.cell? ⟨b,22,none⟩=some (.int .i64 s.pc):=h.cell 22
  have c23:w.cell? ⟨b,23,none⟩=some (.int .i64 s.steps):=h.cell 23
  have HP:=ae.mk (mZ (P:=#[p0,p1,p2,p3]) (I:=#[.int .u8 6,.int .u8 a,.int .u8 bb,.int .u8 cc,.int .i64 n]) h)
  clear h
  go_enter Tryd.func22,Tryd.ntmps22
  go_wp2
  change Code.wp _ _ _ _ (mV b s #[p0,p1,p2,p3] #[.int .u8 6,.int .u8 a,.int .u8 bb,.int .u8 cc,.int .i64 n] w)
  generalize mV b s #[p0,p1,p2,p3] #[.int .u8 6,.int .u8 a,.int .u8 bb,.int .u8 cc,.int .i64 n] w=W at HP ⊢
  clear f22 f23 qA c23
  have i1:W.cell? ⟨w.heap.size+1,1,none⟩=some (.int .u8 a):=HP.out.ins 1 _ rfl
  have i2:W.cell? ⟨w.heap.size+1,2,none⟩=some (.int .u8 bb):=HP.out.ins 2 _ rfl
  have i3:W.cell? ⟨w.heap.size+1,3,none⟩=some (.int .u8 cc):=HP.out.ins 3 _ rfl
  have i4:W.cell? ⟨w.heap.size+1,4,none⟩=some (.int .i64 n):=HP.out.ins 4 _ rfl
  have hai:(a:Int) < 8:=by omega
  go_still_tail 6,(by kernel_rfl)
  change wpList _ _ _ _ _ W.drew
  have HQ:=ae.mk HP.out.drew
  clear HP
  generalize W.drew=W2 at HQ ⊢
  have fs:=HQ.out.st.fr (8+a)
  have cs:=HQ.out.st.rq a ha
  go_wp2
  go_ret
  exact ⟨rfl,HQ.out.st.EH a ha 0,HQ.out.ow.set _ _⟩
set_option maxRecDepth 100000 in
set_option maxHeartbeats 3200000 in
theorem ald (b:Nat) (s:St) (vO vU:Value) (a bb cc:Nat) (n:Int) (ha:a < 8) (hbb:bb < 8) (w:World) (h:kF b s vO vU w) (p0 p1 p2 p3:Value) :
    Calls Tryd.prog 22 #[.pointer (some ⟨b,0,none⟩),.agg #[p0,p1,p2,p3],.agg #[.int .u8 7,.int .u8 a,.int .u8 bb,.int .u8 cc,.int .i64 n]] w fun e w'=>e=.returned (.int .i64 0)∧kF b { bump s with p:=upd s.p a (s.p bb) } vO vU w'∧Ow b w w':=by
  have hlt:=h.lt
  have hne:b ≠ w.heap.size:=by omega
  have f22:=h.fr 22
  have f23:=h.fr 23
  have qA:w.cell? ⟨b,22,none⟩=some (.int .i64 s.pc):=h.cell 22
  have c23:w.cell? ⟨b,23,none⟩=some (.int .i64 s.steps):=h.cell 23
  have HP:=ae.mk (mZ (P:=#[p0,p1,p2,p3]) (I:=#[.int .u8 7,.int .u8 a,.int .u8 bb,.int .u8 cc,.int .i64 n]) h)
  clear h
  go_enter Tryd.func22,Tryd.ntmps22
  go_wp2
  change Code.wp _ _ _ _ (mV b s #[p0,p1,p2,p3] #[.int .u8 7,.int .u8 a,.int .u8 bb,.int .u8 cc,.int .i64 n] w)
  generalize mV b s #[p0,p1,p2,p3] #[.int .u8 7,.int .u8 a,.int .u8 bb,.int .u8 cc,.int .i64 n] w=W at HP ⊢
  clear f22 f23 qA c23
  have i1:W.cell? ⟨w.heap.size+1,1,none⟩=some (.int .u8 a):=HP.out.ins 1 _ rfl
  have i2:W.cell? ⟨w.heap.size+1,2,none⟩=some (.int .u8 bb):=HP.out.ins 2 _ rfl
  have i3:W.cell? ⟨w.heap.size+1,3,none⟩=some (.int .u8 cc):=HP.out.ins 3 _ rfl
  have i4:W.cell? ⟨w.heap.size+1,4,none⟩=some (.int .i64 n):=HP.out.ins 4 _ rfl
  have hai:(a:Int) < 8:=by omega
  have Po:(bb:Int) < 8:=by omega
  have KL:W.cell? ⟨b,8+bb,none⟩=some (.int .i64 (s.p bb)):=HP.out.st.rq bb hbb
  go_still_tail 13,(by kernel_rfl)
  change wpList _ _ _ _ _ W.drew
  have HQ:=ae.mk HP.out.drew
  clear HP
  generalize W.drew=W2 at HQ ⊢
  have fs:=HQ.out.st.fr (8+a)
  have cs:=HQ.out.st.rq a ha
  go_wp2
  go_ret
  exact ⟨rfl,HQ.out.st.EH a ha (s.p bb),HQ.out.ow.set _ _⟩
set_option maxRecDepth 100000 in
set_option maxHeartbeats 3200000 in
theorem acm (b:Nat) (s:St) (vO vU:Value) (a bb cc:Nat) (n:Int) (ha:a < 8) (hbb:bb < 4) (w:World) (h:kF b s vO vU w) (p0 p1 p2 p3:Value) :
    Calls Tryd.prog 22 #[.pointer (some ⟨b,0,none⟩),.agg #[p0,p1,p2,p3],.agg #[.int .u8 12,.int .u8 a,.int .u8 bb,.int .u8 cc,.int .i64 n]] w fun e w'=>e=.returned (.int .i64 0)∧kF b { bump s with p:=upd s.p a (s.g bb) } vO vU w'∧Ow b w w':=by
  have hlt:=h.lt
  have hne:b ≠ w.heap.size:=by omega
  have f22:=h.fr 22
  have f23:=h.fr 23
  have qA:w.cell? ⟨b,22,none⟩=some (.int .i64 s.pc):=h.cell 22
  have c23:w.cell? ⟨b,23,none⟩=some (.int .i64 s.steps):=h.cell 23
  have HP:=ae.mk (mZ (P:=#[p0,p1,p2,p3]) (I:=#[.int .u8 12,.int .u8 a,.int .u8 bb,.int .u8 cc,.int .i64 n]) h)
  clear h
  go_enter Tryd.func22,Tryd.ntmps22
  go_wp2
  change Code.wp _ _ _ _ (mV b s #[p0,p1,p2,p3] #[.int .u8 12,.int .u8 a,.int .u8 bb,.int .u8 cc,.int .i64 n] w)
  generalize mV b s #[p0,p1,p2,p3] #[.int .u8 12,.int .u8 a,.int .u8 bb,.int .u8 cc,.int .i64 n] w=W at HP ⊢
  clear f22 f23 qA c23
  have i1:W.cell? ⟨w.heap.size+1,1,none⟩=some (.int .u8 a):=HP.out.ins 1 _ rfl
  have i2:W.cell? ⟨w.heap.size+1,2,none⟩=some (.int .u8 bb):=HP.out.ins 2 _ rfl
  have i3:W.cell? ⟨w.heap.size+1,3,none⟩=some (.int .u8 cc):=HP.out.ins 3 _ rfl
  have i4:W.cell? ⟨w.heap.size+1,4,none⟩=some (.int .i64 n):=HP.out.ins 4 _ rfl
  have hai:(a:Int) < 8:=by omega
  have Po:(bb:Int) < 4:=by omega
  have KL:W.cell? ⟨b,16+bb,none⟩=some (.int .i64 (s.g bb)):=HP.out.st.Wl bb hbb
  go_still_tail 13,(by kernel_rfl)
  change wpList _ _ _ _ _ W.drew
  have HQ:=ae.mk HP.out.drew
  clear HP
  generalize W.drew=W2 at HQ ⊢
  have fs:=HQ.out.st.fr (8+a)
  have cs:=HQ.out.st.rq a ha
  go_wp2
  go_ret
  exact ⟨rfl,HQ.out.st.EH a ha (s.g bb),HQ.out.ow.set _ _⟩
set_option maxRecDepth 100000 in
set_option maxHeartbeats 3200000 in
theorem ack (b:Nat) (s:St) (vO vU:Value) (a bb cc:Nat) (n:Int) (ha:a < 4) (hbb:bb < 8) (w:World) (h:kF b s vO vU w) (p0 p1 p2 p3:Value) :
    Calls Tryd.prog 22 #[.pointer (some ⟨b,0,none⟩),.agg #[p0,p1,p2,p3],.agg #[.int .u8 13,.int .u8 a,.int .u8 bb,.int .u8 cc,.int .i64 n]] w fun e w'=>e=.returned (.int .i64 0)∧kF b { bump s with g:=upd s.g a (s.p bb) } vO vU w'∧Ow b w w':=by
  have hlt:=h.lt
  have hne:b ≠ w.heap.size:=by omega
  have f22:=h.fr 22
  have f23:=h.fr 23
  have qA:w.cell? ⟨b,22,none⟩=some (.int .i64 s.pc):=h.cell 22
  have c23:w.cell? ⟨b,23,none⟩=some (.int .i64 s.steps):=h.cell 23
  have HP:=ae.mk (mZ (P:=#[p0,p1,p2,p3]) (I:=#[.int .u8 13,.int .u8 a,.int .u8 bb,.int .u8 cc,.int .i64 n]) h)
  clear h
  go_enter Tryd.func22,Tryd.ntmps22
  go_wp2
  change Code.wp _ _ _ _ (mV b s #[p0,p1,p2,p3] #[.int .u8 13,.int .u8 a,.int .u8 bb,.int .u8 cc,.int .i64 n] w)
  generalize mV b s #[p0,p1,p2,p3] #[.int .u8 13,.int .u8 a,.int .u8 bb,.int .u8 cc,.int .i64 n] w=W at HP ⊢
  clear f22 f23 qA c23
  have i1:W.cell? ⟨w.heap.size+1,1,none⟩=some (.int .u8 a):=HP.out.ins 1 _ rfl
  have i2:W.cell? ⟨w.heap.size+1,2,none⟩=some (.int .u8 bb):=HP.out.ins 2 _ rfl
  have i3:W.cell? ⟨w.heap.size+1,3,none⟩=some (.int .u8 cc):=HP.out.ins 3 _ rfl
  have i4:W.cell? ⟨w.heap.size+1,4,none⟩=some (.int .i64 n):=HP.out.ins 4 _ rfl
  have hai:(a:Int) < 4:=by omega
  have Po:(bb:Int) < 8:=by omega
  have KL:W.cell? ⟨b,8+bb,none⟩=some (.int .i64 (s.p bb)):=HP.out.st.rq bb hbb
  go_still_tail 13,(by kernel_rfl)
  change wpList _ _ _ _ _ W.drew
  have HQ:=ae.mk HP.out.drew
  clear HP
  generalize W.drew=W2 at HQ ⊢
  have fs:=HQ.out.st.fr (16+a)
  have cs:=HQ.out.st.Wl a ha
  go_wp2
  go_ret
  exact ⟨rfl,HQ.out.st.ab9 a ha (s.p bb),HQ.out.ow.set _ _⟩
set_option maxRecDepth 100000 in
set_option maxHeartbeats 3200000 in
theorem alg (b:Nat) (s:St) (vO vU:Value) (a bb cc:Nat) (n:Int) (w:World) (h:kF b s vO vU w) (p0 p1 p2 p3:Value) :
    Calls Tryd.prog 22 #[.pointer (some ⟨b,0,none⟩),.agg #[p0,p1,p2,p3],.agg #[.int .u8 3,.int .u8 a,.int .u8 bb,.int .u8 cc,.int .i64 n]] w fun e w'=>e=.returned (.int .i64 0)∧kF b { bump s with pc:=n } vO vU w'∧Ow b w w':=by
  have hlt:=h.lt
  have hne:b ≠ w.heap.size:=by omega
  have f22:=h.fr 22
  have f23:=h.fr 23
  have qA:w.cell? ⟨b,22,none⟩=some (.int .i64 s.pc):=h.cell 22
  have c23:w.cell? ⟨b,23,none⟩=some (.int .i64 s.steps):=h.cell 23
  have HP:=ae.mk (mZ (P:=#[p0,p1,p2,p3]) (I:=#[.int .u8 3,.int .u8 a,.int .u8 bb,.int .u8 cc,.int .i64 n]) h)
  clear h
  go_enter Tryd.func22,Tryd.ntmps22
  go_upto_region 10 with (fail)
  change Code.wp _ _ _ _ (mV b s #[p0,p1,p2,p3] #[.int .u8 3,.int .u8 a,.int .u8 bb,.int .u8 cc,.int .i64 n] w)
  generalize mV b s #[p0,p1,p2,p3] #[.int .u8 3,.int .u8 a,.int .u8 bb,.int .u8 cc,.int .i64 n] w=W at HP ⊢
  clear f22 f23 qA c23
  have i1:W.cell? ⟨w.heap.size+1,1,none⟩=some (.int .u8 a):=HP.out.ins 1 _ rfl
  have i2:W.cell? ⟨w.heap.size+1,2,none⟩=some (.int .u8 bb):=HP.out.ins 2 _ rfl
  have i3:W.cell? ⟨w.heap.size+1,3,none⟩=some (.int .u8 cc):=HP.out.ins 3 _ rfl
  have i4:W.cell? ⟨w.heap.size+1,4,none⟩=some (.int .i64 n):=HP.out.ins 4 _ rfl
  have fs:=HP.out.st.fr 22
  have cs:W.cell? ⟨b,22,none⟩=some (.int .i64 (bump s).pc):=HP.out.st.cell 22
  go_wp2
  go_ret
  exact ⟨rfl,HP.out.st.Gz n,HP.out.ow.set _ _⟩
set_option maxRecDepth 100000 in
set_option maxHeartbeats 3200000 in
theorem PU (b:Nat) (s:St) (vO vU:Value) (a bb cc:Nat) (n:Int) (ha:a < 8) (hz:s.x a=0) (w:World) (h:kF b s vO vU w) (p0 p1 p2 p3:Value) :
    Calls Tryd.prog 22 #[.pointer (some ⟨b,0,none⟩),.agg #[p0,p1,p2,p3],.agg #[.int .u8 4,.int .u8 a,.int .u8 bb,.int .u8 cc,.int .i64 n]] w fun e w'=>e=.returned (.int .i64 0)∧kF b { bump s with pc:=n } vO vU w'∧Ow b w w':=by
  have hlt:=h.lt
  have hne:b ≠ w.heap.size:=by omega
  have f22:=h.fr 22
  have f23:=h.fr 23
  have qA:w.cell? ⟨b,22,none⟩=some (.int .i64 s.pc):=h.cell 22
  have c23:w.cell? ⟨b,23,none⟩=some (.int .i64 s.steps):=h.cell 23
  have HP:=ae.mk (mZ (P:=#[p0,p1,p2,p3]) (I:=#[.int .u8 4,.int .u8 a,.int .u8 bb,.int .u8 cc,.int .i64 n]) h)
  clear h
  go_enter Tryd.func22,Tryd.ntmps22
  go_wp2
  change Code.wp _ _ _ _ (mV b s #[p0,p1,p2,p3] #[.int .u8 4,.int .u8 a,.int .u8 bb,.int .u8 cc,.int .i64 n] w)
  generalize mV b s #[p0,p1,p2,p3] #[.int .u8 4,.int .u8 a,.int .u8 bb,.int .u8 cc,.int .i64 n] w=W at HP ⊢
  clear f22 f23 qA c23
  have i1:W.cell? ⟨w.heap.size+1,1,none⟩=some (.int .u8 a):=HP.out.ins 1 _ rfl
  have i2:W.cell? ⟨w.heap.size+1,2,none⟩=some (.int .u8 bb):=HP.out.ins 2 _ rfl
  have i3:W.cell? ⟨w.heap.size+1,3,none⟩=some (.int .u8 cc):=HP.out.ins 3 _ rfl
  have i4:W.cell? ⟨w.heap.size+1,4,none⟩=some (.int .i64 n):=HP.out.ins 4 _ rfl
  have hai:(a:Int) < 8:=by omega
  have KL:W.cell? ⟨b,a,none⟩=some (.int .i64 0):=by rw [HP.out.st.xE a ha];show some (Value.int .i64 (s.x a))=_;rw [hz]
  clear hz
  go_quiet (fail)
  rename_i nq
  have HQ:=ae.mk (HP.out.drewN nq)
  clear HP KL
  generalize W.drewN nq=W2 at HQ ⊢
  have i4':W2.cell? ⟨w.heap.size+1,4,none⟩=some (.int .i64 n):=HQ.out.ins 4 _ rfl
  have fs:=HQ.out.st.fr 22
  have cs:W2.cell? ⟨b,22,none⟩=some (.int .i64 (bump s).pc):=HQ.out.st.cell 22
  go_wp2
  go_ret
  exact ⟨rfl,HQ.out.st.Gz n,HQ.out.ow.set _ _⟩
set_option maxRecDepth 100000 in
set_option maxHeartbeats 3200000 in
theorem Ws (b:Nat) (s:St) (vO vU:Value) (a bb cc:Nat) (n:Int) (ha:a < 8) (hz:s.x a ≠ 0) (w:World) (h:kF b s vO vU w) (p0 p1 p2 p3:Value) :
    Calls Tryd.prog 22 #[.pointer (some ⟨b,0,none⟩),.agg #[p0,p1,p2,p3],.agg #[.int .u8 4,.int .u8 a,.int .u8 bb,.int .u8 cc,.int .i64 n]] w fun e w'=>e=.returned (.int .i64 0)∧kF b (bump s) vO vU w'∧Ow b w w':=by
  have hlt:=h.lt
  have hne:b ≠ w.heap.size:=by omega
  have f22:=h.fr 22
  have f23:=h.fr 23
  have qA:w.cell? ⟨b,22,none⟩=some (.int .i64 s.pc):=h.cell 22
  have c23:w.cell? ⟨b,23,none⟩=some (.int .i64 s.steps):=h.cell 23
  have HP:=ae.mk (mZ (P:=#[p0,p1,p2,p3]) (I:=#[.int .u8 4,.int .u8 a,.int .u8 bb,.int .u8 cc,.int .i64 n]) h)
  clear h
  go_enter Tryd.func22,Tryd.ntmps22
  go_wp2
  change Code.wp _ _ _ _ (mV b s #[p0,p1,p2,p3] #[.int .u8 4,.int .u8 a,.int .u8 bb,.int .u8 cc,.int .i64 n] w)
  generalize mV b s #[p0,p1,p2,p3] #[.int .u8 4,.int .u8 a,.int .u8 bb,.int .u8 cc,.int .i64 n] w=W at HP ⊢
  clear f22 f23 qA c23
  have i1:W.cell? ⟨w.heap.size+1,1,none⟩=some (.int .u8 a):=HP.out.ins 1 _ rfl
  have i2:W.cell? ⟨w.heap.size+1,2,none⟩=some (.int .u8 bb):=HP.out.ins 2 _ rfl
  have i3:W.cell? ⟨w.heap.size+1,3,none⟩=some (.int .u8 cc):=HP.out.ins 3 _ rfl
  have i4:W.cell? ⟨w.heap.size+1,4,none⟩=some (.int .i64 n):=HP.out.ins 4 _ rfl
  have hai:(a:Int) < 8:=by omega
  have KL:W.cell? ⟨b,a,none⟩=some (.int .i64 (s.x a)):=HP.out.st.xE a ha
  have hzb:(s.x a == 0)=false:=beq_eq_false_iff_ne.2 hz
  clear hz
  go_quiet (fail)
  rename_i nq
  have HQ:=ae.mk (HP.out.drewN nq)
  clear HP KL
  generalize W.drewN nq=W2 at HQ ⊢
  go_wp2
  go_ret
  exact ⟨rfl,HQ.out.st,HQ.out.ow⟩
set_option maxRecDepth 100000 in
set_option maxHeartbeats 3200000 in
theorem MS (b:Nat) (s:St) (vO vU:Value) (a bb cc:Nat) (n:Int) (ha:a < 8) (hbb:bb < 8) (hcc:cc < 8) (hz:s.p bb=s.p cc) (w:World) (h:kF b s vO vU w) (p0 p1 p2 p3:Value) :
    Calls Tryd.prog 22 #[.pointer (some ⟨b,0,none⟩),.agg #[p0,p1,p2,p3],.agg #[.int .u8 15,.int .u8 a,.int .u8 bb,.int .u8 cc,.int .i64 n]] w fun e w'=>e=.returned (.int .i64 0)∧kF b { bump s with x:=upd (upd s.x a 0) a 1 } vO vU w'∧Ow b w w':=by
  have hlt:=h.lt
  have hne:b ≠ w.heap.size:=by omega
  have f22:=h.fr 22
  have f23:=h.fr 23
  have qA:w.cell? ⟨b,22,none⟩=some (.int .i64 s.pc):=h.cell 22
  have c23:w.cell? ⟨b,23,none⟩=some (.int .i64 s.steps):=h.cell 23
  have HP:=ae.mk (mZ (P:=#[p0,p1,p2,p3]) (I:=#[.int .u8 15,.int .u8 a,.int .u8 bb,.int .u8 cc,.int .i64 n]) h)
  clear h
  go_enter Tryd.func22,Tryd.ntmps22
  go_wp2
  change Code.wp _ _ _ _ (mV b s #[p0,p1,p2,p3] #[.int .u8 15,.int .u8 a,.int .u8 bb,.int .u8 cc,.int .i64 n] w)
  generalize mV b s #[p0,p1,p2,p3] #[.int .u8 15,.int .u8 a,.int .u8 bb,.int .u8 cc,.int .i64 n] w=W at HP ⊢
  clear f22 f23 qA c23
  have i1:W.cell? ⟨w.heap.size+1,1,none⟩=some (.int .u8 a):=HP.out.ins 1 _ rfl
  have i2:W.cell? ⟨w.heap.size+1,2,none⟩=some (.int .u8 bb):=HP.out.ins 2 _ rfl
  have i3:W.cell? ⟨w.heap.size+1,3,none⟩=some (.int .u8 cc):=HP.out.ins 3 _ rfl
  have i4:W.cell? ⟨w.heap.size+1,4,none⟩=some (.int .i64 n):=HP.out.ins 4 _ rfl
  have hai:(a:Int) < 8:=by omega
  have Po:(bb:Int) < 8:=by omega
  have abW:(cc:Int) < 8:=by omega
  go_still_tail 6,(by kernel_rfl)
  change wpList _ _ _ _ _ W.drew
  have HQ:=ae.mk HP.out.drew
  clear HP
  generalize W.drew=W2 at HQ ⊢
  have fs:=HQ.out.st.fr (a)
  have cs:=HQ.out.st.xE a ha
  go_wp2
  change Code.wp _ _ _ _ (W2.setCell ⟨b,a,none⟩ (.int .i64 0))
  have HR:=ae.mk (HQ.out.set _ _ (HQ.out.st.BG a ha 0))
  clear HQ fs cs
  generalize W2.setCell ⟨b,a,none⟩ (.int .i64 0)=W3 at HR ⊢
  have j2:W3.cell? ⟨w.heap.size+1,2,none⟩=some (.int .u8 bb):=HR.out.ins 2 _ rfl
  have j3:W3.cell? ⟨w.heap.size+1,3,none⟩=some (.int .u8 cc):=HR.out.ins 3 _ rfl
  have cb:W3.cell? ⟨b,8+bb,none⟩=some (.int .i64 (s.p cc)):=by rw [HR.out.st.rq bb hbb];show some (Value.int .i64 (s.p bb))=_;rw [hz]
  have cc_:W3.cell? ⟨b,8+cc,none⟩=some (.int .i64 (s.p cc)):=HR.out.st.rq cc hcc
  clear hz
  go_quiet (fail)
  rename_i nq
  have HT:=ae.mk (HR.out.drewN nq)
  clear HR cb cc_ j2 j3
  generalize W3.drewN nq=W4 at HT ⊢
  have k1:W4.cell? ⟨w.heap.size+1,1,none⟩=some (.int .u8 a):=HT.out.ins 1 _ rfl
  go_wp2
  go_still_tail 6,(by kernel_rfl)
  change wpList _ _ _ _ _ W4.drew
  have HU:=ae.mk HT.out.drew
  clear HT
  generalize W4.drew=W5 at HU ⊢
  have fs:=HU.out.st.fr a
  have cs:=HU.out.st.xE a ha
  go_wp2
  go_ret
  exact ⟨rfl,HU.out.st.BG a ha 1,HU.out.ow.set _ _⟩
set_option maxRecDepth 100000 in
set_option maxHeartbeats 3200000 in
theorem PV (b:Nat) (s:St) (vO vU:Value) (a bb cc:Nat) (n:Int) (ha:a < 8) (hbb:bb < 8) (hcc:cc < 8) (hz:s.p bb ≠ s.p cc) (w:World) (h:kF b s vO vU w) (p0 p1 p2 p3:Value) :
    Calls Tryd.prog 22 #[.pointer (some ⟨b,0,none⟩),.agg #[p0,p1,p2,p3],.agg #[.int .u8 15,.int .u8 a,.int .u8 bb,.int .u8 cc,.int .i64 n]] w fun e w'=>e=.returned (.int .i64 0)∧kF b { bump s with x:=upd s.x a 0 } vO vU w'∧Ow b w w':=by
  have hlt:=h.lt
  have hne:b ≠ w.heap.size:=by omega
  have f22:=h.fr 22
  have f23:=h.fr 23
  have qA:w.cell? ⟨b,22,none⟩=some (.int .i64 s.pc):=h.cell 22
  have c23:w.cell? ⟨b,23,none⟩=some (.int .i64 s.steps):=h.cell 23
  have HP:=ae.mk (mZ (P:=#[p0,p1,p2,p3]) (I:=#[.int .u8 15,.int .u8 a,.int .u8 bb,.int .u8 cc,.int .i64 n]) h)
  clear h
  go_enter Tryd.func22,Tryd.ntmps22
  go_wp2
  change Code.wp _ _ _ _ (mV b s #[p0,p1,p2,p3] #[.int .u8 15,.int .u8 a,.int .u8 bb,.int .u8 cc,.int .i64 n] w)
  generalize mV b s #[p0,p1,p2,p3] #[.int .u8 15,.int .u8 a,.int .u8 bb,.int .u8 cc,.int .i64 n] w=W at HP ⊢
  clear f22 f23 qA c23
  have i1:W.cell? ⟨w.heap.size+1,1,none⟩=some (.int .u8 a):=HP.out.ins 1 _ rfl
  have i2:W.cell? ⟨w.heap.size+1,2,none⟩=some (.int .u8 bb):=HP.out.ins 2 _ rfl
  have i3:W.cell? ⟨w.heap.size+1,3,none⟩=some (.int .u8 cc):=HP.out.ins 3 _ rfl
  have i4:W.cell? ⟨w.heap.size+1,4,none⟩=some (.int .i64 n):=HP.out.ins 4 _ rfl
  have hai:(a:Int) < 8:=by omega
  have Po:(bb:Int) < 8:=by omega
  have abW:(cc:Int) < 8:=by omega
  go_still_tail 6,(by kernel_rfl)
  change wpList _ _ _ _ _ W.drew
  have HQ:=ae.mk HP.out.drew
  clear HP
  generalize W.drew=W2 at HQ ⊢
  have fs:=HQ.out.st.fr (a)
  have cs:=HQ.out.st.xE a ha
  go_wp2
  change Code.wp _ _ _ _ (W2.setCell ⟨b,a,none⟩ (.int .i64 0))
  have HR:=ae.mk (HQ.out.set _ _ (HQ.out.st.BG a ha 0))
  clear HQ fs cs
  generalize W2.setCell ⟨b,a,none⟩ (.int .i64 0)=W3 at HR ⊢
  have j2:W3.cell? ⟨w.heap.size+1,2,none⟩=some (.int .u8 bb):=HR.out.ins 2 _ rfl
  have j3:W3.cell? ⟨w.heap.size+1,3,none⟩=some (.int .u8 cc):=HR.out.ins 3 _ rfl
  have cb:W3.cell? ⟨b,8+bb,none⟩=some (.int .i64 (s.p bb)):=HR.out.st.rq bb hbb
  have hzb:(s.p bb == s.p cc)=false:=beq_eq_false_iff_ne.2 hz
  have cc_:W3.cell? ⟨b,8+cc,none⟩=some (.int .i64 (s.p cc)):=HR.out.st.rq cc hcc
  clear hz
  go_quiet (fail)
  rename_i nq
  have HT:=ae.mk (HR.out.drewN nq)
  clear HR cb cc_ j2 j3
  generalize W3.drewN nq=W4 at HT ⊢
  have k1:W4.cell? ⟨w.heap.size+1,1,none⟩=some (.int .u8 a):=HT.out.ins 1 _ rfl
  go_wp2
  go_ret
  exact ⟨rfl,HT.out.st,HT.out.ow⟩
end Go.Proofs.YtlemecdddhdagaaDoor.P
end
section
namespace Go.Proofs.YtlemecdddhdagaaDoor.P
open Go.RowKit Go.Proofs.ag.bI Go.Proofs.ag.dM Go.Proofs.ag.dZ
attribute [local go_sem ↓] Go.wp_at_zero Go.wp_at_succ
abbrev wG:Kd (List Int):=Kd.slice 2 (Kd.int .i64)
structure AQ (b:Nat) (s:St) (vO vU:Value) (I:Array Value) (w W:World):Prop where
  st:kF b s vO vU W
  ow:Ow b w W
  lt:b < w.heap.size
  ins:∀ (j:Nat) (v:Value),I[j]? = some v→W.cell? ⟨w.heap.size,j,none⟩=some v
section
variable {b:Nat} {s:St} {vO vU:Value} {I:Array Value} {w W:World}
theorem uP (h:kF b s vO vU w):AQ b s vO vU I w (w.alloc (.cells I 55)):=by
  refine ⟨h.alloc _,(Ow.refl b w).alloc _,h.lt,fun j v hv=>?_⟩
  have e:(w.alloc (.cells I 55)).heap[w.heap.size]? = some (.cells I 55 (0,0)):=heap_alloc_new w _
  simp only [World.cell?,e]
  exact hv
theorem AQ.drew (h:AQ b s vO vU I w W):AQ b s vO vU I w W.drew:=⟨h.st.of_block rfl,h.ow.drew,h.lt,h.ins⟩
theorem AQ.drewN (h:AQ b s vO vU I w W) (n:Nat):AQ b s vO vU I w (W.drewN n):=⟨h.st.of_block rfl,h.ow.drewN n,h.lt,h.ins⟩
end
set_option maxRecDepth 100000 in
set_option maxHeartbeats 3200000 in
theorem BR (b:Nat) (s:St) (vO vU:Value) (op a bb cc:Nat) (n:Int) (hbb:bb < 8) (hz:s.p bb=0) (w:World) (h:kF b s vO vU w) :
    Calls Tryd.prog 37 #[.pointer (some ⟨b,0,none⟩),.agg #[.int .u8 op,.int .u8 a,.int .u8 bb,.int .u8 cc,.int .i64 n]] w fun e w'=>e=.returned (.int .i64 9)∧kF b s vO vU w'∧Ow b w w':=by
  have hlt:=h.lt
  have hbi:(bb:Int) < 8:=by omega
  have HP:=ae.mk (uP (I:=#[.int .u8 op,.int .u8 a,.int .u8 bb,.int .u8 cc,.int .i64 n]) h)
  clear h
  go_enter Tryd.func37,Tryd.ntmps37
  go_wp2
  generalize w.alloc (.cells #[.int .u8 op,.int .u8 a,.int .u8 bb,.int .u8 cc,.int .i64 n] 55)=W at HP ⊢
  have i2:W.cell? ⟨w.heap.size,2,none⟩=some (.int .u8 bb):=HP.out.ins 2 _ rfl
  have cb:W.cell? ⟨b,8+bb,none⟩=some (.int .i64 0):=by rw [HP.out.st.rq bb hbb,hz]
  clear hz
  go_quiet (fail)
  rename_i nq
  have HQ:=ae.mk (HP.out.drewN nq)
  clear HP cb i2
  generalize W.drewN nq=W2 at HQ ⊢
  go_wp2
  go_ret
  exact ⟨rfl,HQ.out.st,HQ.out.ow⟩
theorem drewN_drew (w:World) (n:Nat):(w.drewN n).drew=w.drewN (n+1):=rfl
set_option maxRecDepth 100000 in
set_option maxHeartbeats 3200000 in
theorem YI (b:Nat) (s:St) (A:Option Addr) (cO:Nat) (vU:Value) (a bb cc:Nat) (n o v:Int) (row:List Int) (ha:a < 8) (hbb:bb < 8) (ho:s.p bb=o) (ho1:1≤o) (ho2:o≤s.bM.length) (hlim:s.bM.length≤4611686018427387904)
    (hr:s.bM.getD (o - 1).toNat []=row) (hn0:0≤n) (hn1:n < row.length) (hv:rd row n=v) (w:World) (h:kF b s (.slice A s.bM.length cO) vU w) (hO:Kd.C wG w A s.bM.length s.bM) :
    Calls Tryd.prog 37 #[.pointer (some ⟨b,0,none⟩),.agg #[.int .u8 8,.int .u8 a,.int .u8 bb,.int .u8 cc,.int .i64 n]] w fun e w'=>e=.returned (.int .i64 0)∧kF b { s with x:=upd s.x a v } (.slice A s.bM.length cO) vU w'∧Ow b w w':=by
  have hlt:=h.lt
  have hbi:(bb:Int) < 8:=by omega
  have hai:(a:Int) < 8:=by omega
  have HP:=ae.mk (uP (I:=#[.int .u8 8,.int .u8 a,.int .u8 bb,.int .u8 cc,.int .i64 n]) h)
  have hbel:Below w.heap.size w (w.alloc (.cells #[.int .u8 8,.int .u8 a,.int .u8 bb,.int .u8 cc,.int .i64 n] 55)):=(Below.refl _ w).alloc (Nat.le_refl _) _
  have HO:=ae.mk (Kd.bK hO hbel)
  clear h hO hbel
  go_enter Tryd.func37,Tryd.ntmps37
  go_wp2
  generalize w.alloc (.cells #[.int .u8 8,.int .u8 a,.int .u8 bb,.int .u8 cc,.int .i64 n] 55)=W at HP HO ⊢
  have i2:W.cell? ⟨w.heap.size,2,none⟩=some (.int .u8 bb):=HP.out.ins 2 _ rfl
  have cb:W.cell? ⟨b,8+bb,none⟩=some (.int .i64 o):=by rw [HP.out.st.rq bb hbb,ho]
  clear ho
  have hz:(o == 0)=false:=beq_eq_false_iff_ne.2 (by omega)
  go_quiet (fail)
  rename_i nq
  have HQ:=ae.mk (HP.out.drewN nq)
  have ZT:=ae.mk (Kd.bQ HO.out nq)
  clear HP HO cb i2
  generalize W.drewN nq=W2 at HQ ZT ⊢
  go_wp2
  have i4:W2.cell? ⟨w.heap.size,4,none⟩=some (.int .i64 n):=HQ.out.ins 4 _ rfl
  have c20:W2.cell? ⟨b,20,none⟩=some (.slice A s.bM.length cO):=HQ.out.st.cell 20
  obtain ⟨z,hzz⟩:∃ z,z=o - 1:=⟨_,rfl⟩
  have hz0:0≤z:=by omega
  have hz1:z < s.bM.length:=by omega
  have w1:IntKind.i64.wrap (o - 1)=z:=by rw [hzz];exact IntWalk.i64_in _ (by omega)
  obtain ⟨ad,A1,c1,e0,hx,hl1,hi1⟩:=CJ ZT.out z hz0 hz1
  have er:qY s.bM z=row:=by rw [hzz];exact hr
  rw [er] at hx hl1 hi1
  cases e0
  obtain ⟨vX,e2,hx2⟩:=Kd.tu hi1 n hn0 hn1
  cases e2
  rw [hv] at hx2
  have hzn:z.toNat=o.toNat - 1:=by omega
  rw [hzn] at hx
  clear hl1 hi1 er hv hr hzn
  replace hz0:=eq_true hz0
  replace hz1:=eq_true hz1
  replace hn0:=eq_true hn0
  replace hn1:=eq_true hn1
  go_quiet (fail)
  generalize hk:W2.drewN _=W3
  have HR:ae (AQ b s (.slice (some ad) s.bM.length cO) vU #[.int .u8 8,.int .u8 a,.int .u8 bb,.int .u8 cc,.int .i64 n] w W3):=⟨hk ▸ HQ.out.drewN _⟩
  clear HQ ZT c20 hx hx2 i4 hk hz0 hz1 hn0 hn1 w1
  have i0:W3.cell? ⟨w.heap.size,0,none⟩=some (.int .u8 8):=HR.out.ins 0 _ rfl
  have i1:W3.cell? ⟨w.heap.size,1,none⟩=some (.int .u8 a):=HR.out.ins 1 _ rfl
  go_wp2
  go_still_tail 7,(by kernel_rfl)
  change wpList _ _ _ _ _ W3.drew
  have HT:=ae.mk HR.out.drew
  clear HR i1
  generalize W3.drew=W4 at HT ⊢
  have fs:=HT.out.st.fr a
  have cs:=HT.out.st.xE a ha
  go_wp2
  go_ret
  exact ⟨rfl,HT.out.st.BG a ha v,HT.out.ow.set _ _⟩
set_option maxRecDepth 100000 in
set_option maxHeartbeats 3200000 in
theorem YJ (b:Nat) (s:St) (A:Option Addr) (cO:Nat) (vU:Value) (a bb cc:Nat) (n o v:Int) (row:List Int) (ha:a < 8) (hbb:bb < 8) (ho:s.p bb=o) (ho1:1≤o) (ho2:o≤s.bM.length) (hlim:s.bM.length≤4611686018427387904)
    (hr:s.bM.getD (o - 1).toNat []=row) (hn0:0≤n) (hn1:n < row.length) (hv:rd row n=v) (w:World) (h:kF b s (.slice A s.bM.length cO) vU w) (hO:Kd.C wG w A s.bM.length s.bM) :
    Calls Tryd.prog 37 #[.pointer (some ⟨b,0,none⟩),.agg #[.int .u8 10,.int .u8 a,.int .u8 bb,.int .u8 cc,.int .i64 n]] w fun e w'=>e=.returned (.int .i64 0)∧kF b { s with p:=upd s.p a v } (.slice A s.bM.length cO) vU w'∧Ow b w w':=by
  have hlt:=h.lt
  have hbi:(bb:Int) < 8:=by omega
  have hai:(a:Int) < 8:=by omega
  have HP:=ae.mk (uP (I:=#[.int .u8 10,.int .u8 a,.int .u8 bb,.int .u8 cc,.int .i64 n]) h)
  have hbel:Below w.heap.size w (w.alloc (.cells #[.int .u8 10,.int .u8 a,.int .u8 bb,.int .u8 cc,.int .i64 n] 55)):=(Below.refl _ w).alloc (Nat.le_refl _) _
  have HO:=ae.mk (Kd.bK hO hbel)
  clear h hO hbel
  go_enter Tryd.func37,Tryd.ntmps37
  go_wp2
  generalize w.alloc (.cells #[.int .u8 10,.int .u8 a,.int .u8 bb,.int .u8 cc,.int .i64 n] 55)=W at HP HO ⊢
  have i2:W.cell? ⟨w.heap.size,2,none⟩=some (.int .u8 bb):=HP.out.ins 2 _ rfl
  have cb:W.cell? ⟨b,8+bb,none⟩=some (.int .i64 o):=by rw [HP.out.st.rq bb hbb,ho]
  clear ho
  have hz:(o == 0)=false:=beq_eq_false_iff_ne.2 (by omega)
  go_quiet (fail)
  rename_i nq
  have HQ:=ae.mk (HP.out.drewN nq)
  have ZT:=ae.mk (Kd.bQ HO.out nq)
  clear HP HO cb i2
  generalize W.drewN nq=W2 at HQ ZT ⊢
  go_wp2
  have i4:W2.cell? ⟨w.heap.size,4,none⟩=some (.int .i64 n):=HQ.out.ins 4 _ rfl
  have c20:W2.cell? ⟨b,20,none⟩=some (.slice A s.bM.length cO):=HQ.out.st.cell 20
  obtain ⟨z,hzz⟩:∃ z,z=o - 1:=⟨_,rfl⟩
  have hz0:0≤z:=by omega
  have hz1:z < s.bM.length:=by omega
  have w1:IntKind.i64.wrap (o - 1)=z:=by rw [hzz];exact IntWalk.i64_in _ (by omega)
  obtain ⟨ad,A1,c1,e0,hx,hl1,hi1⟩:=CJ ZT.out z hz0 hz1
  have er:qY s.bM z=row:=by rw [hzz];exact hr
  rw [er] at hx hl1 hi1
  cases e0
  obtain ⟨vX,e2,hx2⟩:=Kd.tu hi1 n hn0 hn1
  cases e2
  rw [hv] at hx2
  have hzn:z.toNat=o.toNat - 1:=by omega
  rw [hzn] at hx
  clear hl1 hi1 er hv hr hzn
  replace hz0:=eq_true hz0
  replace hz1:=eq_true hz1
  replace hn0:=eq_true hn0
  replace hn1:=eq_true hn1
  go_quiet (fail)
  generalize hk:W2.drewN _=W3
  have HR:ae (AQ b s (.slice (some ad) s.bM.length cO) vU #[.int .u8 10,.int .u8 a,.int .u8 bb,.int .u8 cc,.int .i64 n] w W3):=⟨hk ▸ HQ.out.drewN _⟩
  clear HQ ZT c20 hx hx2 i4 hk hz0 hz1 hn0 hn1 w1
  have i0:W3.cell? ⟨w.heap.size,0,none⟩=some (.int .u8 10):=HR.out.ins 0 _ rfl
  have i1:W3.cell? ⟨w.heap.size,1,none⟩=some (.int .u8 a):=HR.out.ins 1 _ rfl
  go_wp2
  go_still_tail 7,(by kernel_rfl)
  change wpList _ _ _ _ _ W3.drew
  have HT:=ae.mk HR.out.drew
  clear HR i1
  generalize W3.drew=W4 at HT ⊢
  have fs:=HT.out.st.fr (8+a)
  have cs:=HT.out.st.rq a ha
  go_wp2
  go_ret
  exact ⟨rfl,HT.out.st.EH a ha v,HT.out.ow.set _ _⟩
set_option maxRecDepth 100000 in
set_option maxHeartbeats 3200000 in
theorem QY (b:Nat) (s:St) (ad vX:Addr) (cO c1 len:Nat) (vU old:Value) (a bb cc:Nat) (n o:Int) (ha:a < 8) (hbb:bb < 8) (ho:s.p a=o) (ho1:1≤o) (ho2:o≤s.bM.length) (hlim:s.bM.length≤4611686018427387904)
    (hn0:0≤n) (hn1:n < len) (w:World) (h:kF b s (.slice (some ad) s.bM.length cO) vU w) (hx:w.cell? (ad.add (o.toNat - 1))=some (.slice (some vX) len c1)) (hx2:w.cell? (vX.add n.toNat)=some old) (hf:w.frozen? (vX.add n.toNat)=false) :
    Calls Tryd.prog 38 #[.pointer (some ⟨b,0,none⟩),.agg #[.int .u8 9,.int .u8 a,.int .u8 bb,.int .u8 cc,.int .i64 n]] w fun e w'=>e=.returned (.int .i64 0)∧∃ k,w'=((w.alloc (.cells #[.int .u8 9,.int .u8 a,.int .u8 bb,.int .u8 cc,.int .i64 n] 55)).drewN k).setCell (vX.add n.toNat) (.int .i64 (s.x bb)):=by
  have hlt:=h.lt
  have hbi:(bb:Int) < 8:=by omega
  have hai:(a:Int) < 8:=by omega
  have HP:=ae.mk (uP (I:=#[.int .u8 9,.int .u8 a,.int .u8 bb,.int .u8 cc,.int .i64 n]) h)
  have hbel:Below w.heap.size w (w.alloc (.cells #[.int .u8 9,.int .u8 a,.int .u8 bb,.int .u8 cc,.int .i64 n] 55)):=(Below.refl _ w).alloc (Nat.le_refl _) _
  have y1:=lq hbel hx
  have y2:=lq hbel hx2
  have y3:=(hbel.frozen (World.block_lt_of_cell? w _ hx2)).trans hf
  clear h hx hx2 hf hbel
  go_enter Tryd.func38,Tryd.ntmps38
  go_wp2
  generalize hW:w.alloc (.cells #[.int .u8 9,.int .u8 a,.int .u8 bb,.int .u8 cc,.int .i64 n] 55)=W at HP y1 y2 y3 ⊢
  have HW:=Lib.hid hW
  clear hW
  have i1:W.cell? ⟨w.heap.size,1,none⟩=some (.int .u8 a):=HP.out.ins 1 _ rfl
  have ca:W.cell? ⟨b,8+a,none⟩=some (.int .i64 o):=by rw [HP.out.st.rq a ha,ho]
  clear ho
  have hz:(o == 0)=false:=beq_eq_false_iff_ne.2 (by omega)
  go_quiet (fail)
  have HQ:=fun k=>HP.out.drewN k
  generalize hk:W.drewN _=W2
  have HR:ae (AQ b s (.slice (some ad) s.bM.length cO) vU #[.int .u8 9,.int .u8 a,.int .u8 bb,.int .u8 cc,.int .i64 n] w W2):=⟨hk ▸ HQ _⟩
  have z1:W2.cell? (ad.add (o.toNat - 1))=some (.slice (some vX) len c1):=by rw [← hk];exact y1
  have z2:W2.cell? (vX.add n.toNat)=some old:=by rw [← hk];exact y2
  have z3:W2.frozen? (vX.add n.toNat)=false:=by rw [← hk];exact y3
  have HK:=Lib.hid hk
  clear HP HQ hk i1 ca y1 y2 y3
  have i0:W2.cell? ⟨w.heap.size,0,none⟩=some (.int .u8 9):=HR.out.ins 0 _ rfl
  have i2:W2.cell? ⟨w.heap.size,2,none⟩=some (.int .u8 bb):=HR.out.ins 2 _ rfl
  have i4:W2.cell? ⟨w.heap.size,4,none⟩=some (.int .i64 n):=HR.out.ins 4 _ rfl
  have c20:W2.cell? ⟨b,20,none⟩=some (.slice (some ad) s.bM.length cO):=HR.out.st.cell 20
  have cb:W2.cell? ⟨b,bb,none⟩=some (.int .i64 (s.x bb)):=HR.out.st.xE bb hbb
  have hz1:(o - 1 < (s.bM.length:Int))=True:=eq_true (by omega)
  have hz2:(o - 1 < (s.bM.length:Int)):=by omega
  have w1:IntKind.i64.wrap (o - 1)=o - 1:=IntWalk.i64_in _ (by omega)
  have w2:wrap64 (o - 1)=o - 1:=by unfold wrap64;omega
  go_wp2
  go_still_tail 18,(by kernel_rfl)
  change wpList _ _ _ _ _ W2.drew
  generalize hk3:W2.drew=W3
  have u2:W3.cell? (vX.add n.toNat)=some old:=by rw [← hk3];exact z2
  have u3:W3.frozen? (vX.add n.toNat)=false:=by rw [← hk3];exact z3
  have AY:=Lib.hid hk3
  clear hk3 z1 z2 z3 i0 i2 i4 c20 cb w1 w2 HR
  go_wp2
  go_ret
  refine ⟨rfl,?_⟩
  rw [← AY.out,← HK.out,← HW.out,drewN_drew]
  exact ⟨_,rfl⟩
set_option maxRecDepth 100000 in
set_option maxHeartbeats 3200000 in
theorem QZ (b:Nat) (s:St) (ad vX:Addr) (cO c1 len:Nat) (vU old:Value) (a bb cc:Nat) (n o:Int) (ha:a < 8) (hbb:bb < 8) (ho:s.p a=o) (ho1:1≤o) (ho2:o≤s.bM.length) (hlim:s.bM.length≤4611686018427387904)
    (hn0:0≤n) (hn1:n < len) (w:World) (h:kF b s (.slice (some ad) s.bM.length cO) vU w) (hx:w.cell? (ad.add (o.toNat - 1))=some (.slice (some vX) len c1)) (hx2:w.cell? (vX.add n.toNat)=some old) (hf:w.frozen? (vX.add n.toNat)=false) :
    Calls Tryd.prog 38 #[.pointer (some ⟨b,0,none⟩),.agg #[.int .u8 11,.int .u8 a,.int .u8 bb,.int .u8 cc,.int .i64 n]] w fun e w'=>e=.returned (.int .i64 0)∧∃ k,w'=((w.alloc (.cells #[.int .u8 11,.int .u8 a,.int .u8 bb,.int .u8 cc,.int .i64 n] 55)).drewN k).setCell (vX.add n.toNat) (.int .i64 (s.p bb)):=by
  have hlt:=h.lt
  have hbi:(bb:Int) < 8:=by omega
  have hai:(a:Int) < 8:=by omega
  have HP:=ae.mk (uP (I:=#[.int .u8 11,.int .u8 a,.int .u8 bb,.int .u8 cc,.int .i64 n]) h)
  have hbel:Below w.heap.size w (w.alloc (.cells #[.int .u8 11,.int .u8 a,.int .u8 bb,.int .u8 cc,.int .i64 n] 55)):=(Below.refl _ w).alloc (Nat.le_refl _) _
  have y1:=lq hbel hx
  have y2:=lq hbel hx2
  have y3:=(hbel.frozen (World.block_lt_of_cell? w _ hx2)).trans hf
  clear h hx hx2 hf hbel
  go_enter Tryd.func38,Tryd.ntmps38
  go_wp2
  generalize hW:w.alloc (.cells #[.int .u8 11,.int .u8 a,.int .u8 bb,.int .u8 cc,.int .i64 n] 55)=W at HP y1 y2 y3 ⊢
  have HW:=Lib.hid hW
  clear hW
  have i1:W.cell? ⟨w.heap.size,1,none⟩=some (.int .u8 a):=HP.out.ins 1 _ rfl
  have ca:W.cell? ⟨b,8+a,none⟩=some (.int .i64 o):=by rw [HP.out.st.rq a ha,ho]
  clear ho
  have hz:(o == 0)=false:=beq_eq_false_iff_ne.2 (by omega)
  go_quiet (fail)
  have HQ:=fun k=>HP.out.drewN k
  generalize hk:W.drewN _=W2
  have HR:ae (AQ b s (.slice (some ad) s.bM.length cO) vU #[.int .u8 11,.int .u8 a,.int .u8 bb,.int .u8 cc,.int .i64 n] w W2):=⟨hk ▸ HQ _⟩
  have z1:W2.cell? (ad.add (o.toNat - 1))=some (.slice (some vX) len c1):=by rw [← hk];exact y1
  have z2:W2.cell? (vX.add n.toNat)=some old:=by rw [← hk];exact y2
  have z3:W2.frozen? (vX.add n.toNat)=false:=by rw [← hk];exact y3
  have HK:=Lib.hid hk
  clear HP HQ hk i1 ca y1 y2 y3
  have i0:W2.cell? ⟨w.heap.size,0,none⟩=some (.int .u8 11):=HR.out.ins 0 _ rfl
  have i2:W2.cell? ⟨w.heap.size,2,none⟩=some (.int .u8 bb):=HR.out.ins 2 _ rfl
  have i4:W2.cell? ⟨w.heap.size,4,none⟩=some (.int .i64 n):=HR.out.ins 4 _ rfl
  have c20:W2.cell? ⟨b,20,none⟩=some (.slice (some ad) s.bM.length cO):=HR.out.st.cell 20
  have cb:W2.cell? ⟨b,8+bb,none⟩=some (.int .i64 (s.p bb)):=HR.out.st.rq bb hbb
  have hz1:(o - 1 < (s.bM.length:Int))=True:=eq_true (by omega)
  have hz2:(o - 1 < (s.bM.length:Int)):=by omega
  have w1:IntKind.i64.wrap (o - 1)=o - 1:=IntWalk.i64_in _ (by omega)
  have w2:wrap64 (o - 1)=o - 1:=by unfold wrap64;omega
  go_wp2
  go_still_tail 18,(by kernel_rfl)
  change wpList _ _ _ _ _ W2.drew
  generalize hk3:W2.drew=W3
  have u2:W3.cell? (vX.add n.toNat)=some old:=by rw [← hk3];exact z2
  have u3:W3.frozen? (vX.add n.toNat)=false:=by rw [← hk3];exact z3
  have AY:=Lib.hid hk3
  clear hk3 z1 z2 z3 i0 i2 i4 c20 cb w1 w2 HR
  go_wp2
  go_ret
  refine ⟨rfl,?_⟩
  rw [← AY.out,← HK.out,← HW.out,drewN_drew]
  exact ⟨_,rfl⟩
end Go.Proofs.YtlemecdddhdagaaDoor.P
end
section
namespace Go.Proofs.YtlemecdddhdagaaDoor.P
open Go.RowKit Go.Proofs.ag.bI Go.Proofs.ag.dM Go.Proofs.ag.dZ
attribute [local go_sem ↓] Go.wp_at_zero Go.wp_at_succ
structure Rows (base b:Nat) (s:St) (vO vU:Value) (w:World):Prop where
  bM:Kd.S wG 28 w base (fun k=>k ≠ b∧some k ≠ vU.ownBlock) vO s.bM
  out:Kd.R (Kd.int .i64) 2 w base (fun k=>k ≠ b) vU s.out
structure uD (base b:Nat) (s:St) (w:World):Prop where
  low:base≤b
  ex:∃ vO vU,kF b s vO vU w∧Rows base b s vO vU w
theorem Ow.low {b base:Nat} {w w':World} (h:Ow b w w') (hb:base≤b) (hlt:b < w.heap.size):Below base w w' :=
  ⟨h.os,h.tape,h.output,h.size,fun i hi=>h.block i (by omega) (by omega)⟩
theorem Rows.move {base b:Nat} {s s':St} {vO vU:Value} {w w':World} (h:Rows base b s vO vU w) (hm:∀ k,k ≠ b→k < w.heap.size→w'.heap[k]? = w.heap[k]?) (e1:s'.bM=s.bM) (e2:s'.out=s.out):Rows base b s' vO vU w':=by
  refine ⟨?_,?_⟩
  · rw [e1]
    exact Kd.AA h.bM (fun k ho hk=>hm k ho.1 hk)
  · rw [e2]
    exact Kd.lC h.out (fun k ho hk=>hm k ho hk)
theorem Rows.ow {base b:Nat} {s s':St} {vO vU:Value} {w w':World} (h:Rows base b s vO vU w) (ho:Ow b w w') (e1:s'.bM=s.bM) (e2:s'.out=s.out):Rows base b s' vO vU w' :=
  h.move (fun k hn hk=>ho.block k hk hn) e1 e2
theorem Rows.set {base b:Nat} {s s':St} {vO vU:Value} {w:World} (h:Rows base b s vO vU w) (j:Nat) (u:Value) (e1:s'.bM=s.bM) (e2:s'.out=s.out):Rows base b s' vO vU (w.setCell ⟨b,j,none⟩ u) :=
  h.move (fun k hn _=>Below.heap_setCell w ⟨b,j,none⟩ u k hn) e1 e2
theorem Rows.apart {base b:Nat} {s:St} {vO vU:Value} {w:World} (h:Rows base b s vO vU w):∀ k,vU.ownBlock=some k→some k ≠ vO.ownBlock:=by
  intro k hk he
  have:=Kd.Qk (g:=k) h.bM (fun q hq e=>hq.2 (by rw [e,hk]))
  exact this he
theorem Rows.aaB {base b:Nat} {s:St} {vO vU:Value} {w:World} (h:Rows base b s vO vU w):some b ≠ vU.ownBlock:=Kd.Hz h.out (fun k hk=>hk)
theorem Rows.akk {base b:Nat} {s:St} {vO vU:Value} {w:World} (h:Rows base b s vO vU w):some b ≠ vO.ownBlock:=Kd.Qk h.bM (fun k hk=>hk.1)
set_option maxRecDepth 100000 in
set_option maxHeartbeats 3200000 in
theorem acj (base b:Nat) (s:St) (vO vU:Value) (a bb cc:Nat) (n:Int) (ha:a < 8) (hlim:(s.out.length+1) * 8≤140737488355328) (hb:base≤b) (w:World) (h:kF b s vO vU w) (hR:Rows base b s vO vU w) (p0 p1 p2 p3:Value) :
    Calls Tryd.prog 22 #[.pointer (some ⟨b,0,none⟩),.agg #[p0,p1,p2,p3],.agg #[.int .u8 14,.int .u8 a,.int .u8 bb,.int .u8 cc,.int .i64 n]] w fun e w'=>e=.returned (.int .i64 0)∧uD base b { bump s with out:=s.out++[s.x a] } w'∧Below base w w':=by
  have hlt:=h.lt
  have hne:b ≠ w.heap.size:=by omega
  have f22:=h.fr 22
  have f23:=h.fr 23
  have qA:w.cell? ⟨b,22,none⟩=some (.int .i64 s.pc):=h.cell 22
  have c23:w.cell? ⟨b,23,none⟩=some (.int .i64 s.steps):=h.cell 23
  have HP:=ae.mk (mZ (P:=#[p0,p1,p2,p3]) (I:=#[.int .u8 14,.int .u8 a,.int .u8 bb,.int .u8 cc,.int .i64 n]) h)
  have HR:=ae.mk (hR.ow (s':=bump s) HP.out.ow rfl rfl)
  have ady:=Lib.hid (Kd.Nk hR.out)
  clear h hR
  go_enter Tryd.func22,Tryd.ntmps22
  go_wp2
  change Code.wp _ _ _ _ (mV b s #[p0,p1,p2,p3] #[.int .u8 14,.int .u8 a,.int .u8 bb,.int .u8 cc,.int .i64 n] w)
  generalize mV b s #[p0,p1,p2,p3] #[.int .u8 14,.int .u8 a,.int .u8 bb,.int .u8 cc,.int .i64 n] w=W at HP HR ⊢
  clear f22 f23 qA c23
  have hai:(a:Int) < 8:=by omega
  have i1:W.drew.cell? ⟨w.heap.size+1,1,none⟩=some (.int .u8 a):=HP.out.ins 1 _ rfl
  have c21:W.drew.cell? ⟨b,21,none⟩=some vU:=HP.out.st.cell 21
  have KL:W.drew.cell? ⟨b,a,none⟩=some (.int .i64 (s.x a)):=HP.out.st.xE a ha
  have HQ:=ae.mk HP.out.drew
  have HR2:=ae.mk (HR.out.move (w':=W.drew) (s':=bump s) (fun _ _ _=>rfl) rfl rfl)
  clear HP HR
  refine wp_region_noPanic ?_
  refine o5 (n:=17) (S:=fun w'=>w'.cell? ⟨b,21,none⟩=some vU∧w'.cell? ⟨w.heap.size+1,1,none⟩=some (.int .u8 a)∧w'.cell? ⟨b,a,none⟩=some (.int .i64 (s.x a))) (ds:=[16]) #[false,false,false,false,false,false,false,false,false,false,false,false,false,false,false,false,false] (by kernel_rfl) rfl rfl ⟨c21,i1,KL⟩ (fun hHeld=>?_)
  clear i1 c21 KL
  generalize W.drew=W2 at HQ HR2 hHeld ⊢
  refine dX (i:=0) (N:=some 166) (v:=?_) (a':=?_) #[true,false,false,false,false,false,false,false,false,false,false,false,false,false,false,false,false] rfl rfl (by kernel_rfl) (fun _ _ _ h=>h) (Or.inl ⟨by rfl,?_⟩) ?_ ?_
  rotate_left
  · intro w'
    go_simp
    with_reducible rfl
  rotate_left
  · simp only [Act.put,List.setIfInBounds_toArray,List.set_cons_zero,List.set_cons_succ,bG,bJ]
    rfl
  refine dX (i:=1) (N:=some 167) (v:=?_) (a':=?_) #[true,true,false,false,false,false,false,false,false,false,false,false,false,false,false,false,false] rfl rfl (by kernel_rfl) (fun _ _ _ h=>h) (Or.inl ⟨by rfl,?_⟩) ?_ ?_
  rotate_left
  · intro w'
    go_simp
    with_reducible rfl
  rotate_left
  · simp only [Act.put,List.setIfInBounds_toArray,List.set_cons_zero,List.set_cons_succ,bG,bJ]
    rfl
  refine dX (i:=2) (N:=some 168) (v:=?_) (a':=?_) #[true,true,true,false,false,false,false,false,false,false,false,false,false,false,false,false,false] rfl rfl (by kernel_rfl) (fun _ _ _ h=>h) (Or.inl ⟨by rfl,?_⟩) ?_ ?_
  rotate_left
  · intro w'
    go_simp
    with_reducible rfl
  rotate_left
  · simp only [Act.put,List.setIfInBounds_toArray,List.set_cons_zero,List.set_cons_succ,bG,bJ]
    rfl
  refine dX (i:=3) (N:=some 169) (v:=?_) (a':=?_) #[true,true,true,true,false,false,false,false,false,false,false,false,false,false,false,false,false] rfl rfl (by kernel_rfl) (fun _ _ _ h=>h) (Or.inl ⟨by rfl,?_⟩) ?_ ?_
  rotate_left
  · intro w'
    go_simp
    with_reducible rfl
  rotate_left
  · simp only [Act.put,List.setIfInBounds_toArray,List.set_cons_zero,List.set_cons_succ,bG,bJ]
    rfl
  refine jg (i:=4) (N:=some 170) (v:=?_) (a':=?_) #[true,true,true,true,true,false,false,false,false,false,false,false,false,false,false,false,false] rfl rfl (by kernel_rfl) (fun _ _ _ h=>h) (Or.inl ⟨by rfl,?_⟩) hHeld ?_ ?_
  rotate_left
  · rintro w' ⟨ab6,PI,ha_⟩
    go_simp
    with_reducible rfl
  rotate_left
  · simp only [Act.put,List.setIfInBounds_toArray,List.set_cons_zero,List.set_cons_succ,bG,bJ]
    rfl
  refine dX (i:=5) (N:=some 171) (v:=?_) (a':=?_) #[true,true,true,true,true,true,false,false,false,false,false,false,false,false,false,false,false] rfl rfl (by kernel_rfl) (fun _ _ _ h=>h) (Or.inl ⟨by rfl,?_⟩) ?_ ?_
  rotate_left
  · intro w'
    go_simp
    with_reducible rfl
  rotate_left
  · simp only [Act.put,List.setIfInBounds_toArray,List.set_cons_zero,List.set_cons_succ,bG,bJ]
    rfl
  refine dX (i:=6) (N:=some 172) (v:=?_) (a':=?_) #[true,true,true,true,true,true,true,false,false,false,false,false,false,false,false,false,false] rfl rfl (by kernel_rfl) (fun _ _ _ h=>h) (Or.inl ⟨by rfl,?_⟩) ?_ ?_
  rotate_left
  · intro w'
    go_simp
    with_reducible rfl
  rotate_left
  · simp only [Act.put,List.setIfInBounds_toArray,List.set_cons_zero,List.set_cons_succ,bG,bJ]
    rfl
  refine jg (i:=7) (N:=some 173) (v:=?_) (a':=?_) #[true,true,true,true,true,true,true,true,false,false,false,false,false,false,false,false,false] rfl rfl (by kernel_rfl) (fun _ _ _ h=>h) (Or.inl ⟨by rfl,?_⟩) hHeld ?_ ?_
  rotate_left
  · rintro w' ⟨ab6,PI,ha_⟩
    go_simp
    with_reducible rfl
  rotate_left
  · simp only [Act.put,List.setIfInBounds_toArray,List.set_cons_zero,List.set_cons_succ,bG,bJ]
    rfl
  refine dX (i:=8) (N:=some 174) (v:=?_) (a':=?_) #[true,true,true,true,true,true,true,true,true,false,false,false,false,false,false,false,false] rfl rfl (by kernel_rfl) (fun _ _ _ h=>h) (Or.inl ⟨by rfl,?_⟩) ?_ ?_
  rotate_left
  · intro w'
    go_simp
    with_reducible rfl
  rotate_left
  · simp only [Act.put,List.setIfInBounds_toArray,List.set_cons_zero,List.set_cons_succ,bG,bJ]
    rfl
  refine dX (i:=9) (N:=some 175) (v:=?_) (a':=?_) #[true,true,true,true,true,true,true,true,true,true,false,false,false,false,false,false,false] rfl rfl (by kernel_rfl) (fun _ _ _ h=>h) (Or.inl ⟨by rfl,?_⟩) ?_ ?_
  rotate_left
  · intro w'
    go_simp
    with_reducible rfl
  rotate_left
  · simp only [Act.put,List.setIfInBounds_toArray,List.set_cons_zero,List.set_cons_succ,bG,bJ]
    rfl
  refine dX (i:=10) (N:=some 176) (v:=?_) (a':=?_) #[true,true,true,true,true,true,true,true,true,true,true,false,false,false,false,false,false] rfl rfl (by kernel_rfl) (fun _ _ _ h=>h) (Or.inl ⟨by rfl,?_⟩) ?_ ?_
  rotate_left
  · intro w'
    go_simp
    with_reducible rfl
  rotate_left
  · simp only [Act.put,List.setIfInBounds_toArray,List.set_cons_zero,List.set_cons_succ,bG,bJ]
    rfl
  refine jg (i:=11) (N:=some 177) (v:=?_) (a':=?_) #[true,true,true,true,true,true,true,true,true,true,true,true,false,false,false,false,false] rfl rfl (by kernel_rfl) (fun _ _ _ h=>h) (Or.inl ⟨by rfl,?_⟩) hHeld ?_ ?_
  rotate_left
  · rintro w' ⟨ab6,PI,ha_⟩
    go_simp
    with_reducible rfl
  rotate_left
  · simp only [Act.put,List.setIfInBounds_toArray,List.set_cons_zero,List.set_cons_succ,bG,bJ]
    rfl
  refine o6 (i:=12) (N:=some 178) #[true,true,true,true,true,true,true,true,true,true,true,true,true,false,false,false,false] rfl rfl (by kernel_rfl) (by decide) (fun K hK=>?_)
  obtain ⟨c21,i1,KL⟩:=hHeld
  have h2:b < W2.heap.size:=HQ.out.st.lt
  have h2a:w.heap.size+1 < W2.heap.size:=by have:=HQ.out.size;omega
  refine zF (w1:=W2.alloc (.cells #[.int .i64 (s.x a)] 2)) (v:=.slice (some ⟨W2.heap.size,0,none⟩) 1 1) (by rfl) rfl ?_ ?_
  · go_simp
  refine hK.out _ _ ⟨(World.cell?_of_block (Below.heap_alloc _ _ _ h2)).trans c21,(World.cell?_of_block (Below.heap_alloc _ _ _ h2a)).trans i1,(World.cell?_of_block (Below.heap_alloc _ _ _ h2)).trans KL⟩ (fun hHeld=>?_)
  clear hK K
  refine jm (a':=?_) ?_ ?_
  rotate_left
  · show Act.put _ (some 178) _=_
    simp only [Act.put,List.setIfInBounds_toArray,List.set_cons_zero,List.set_cons_succ,bG,bJ]
    rfl
  refine o6 (i:=13) (N:=some 179) #[true,true,true,true,true,true,true,true,true,true,true,true,true,true,false,false,false] rfl rfl (by kernel_rfl) (by decide) (fun K hK=>?_)
  refine Kd.ru (Kd.int .i64) (w0:=w) base (by rfl) (.tmp 170) (.tmp 178) 28 2 (.int .i64 0) 8 rfl (by kernel_rfl) Oy rfl (by decide) (by decide) vU s.out (s.x a) [.int .i64 (s.x a)] (fun k=>k ≠ b) (fun _=>False) rfl rfl rfl (fun _ hk=>hk.elim) (fun k hk=>by omega) HR2.out.out (HQ.out.ow.low hb hlt) (by omega) hlim ?_
  intro NF w6 HU6 HB6 Nr VZ
  obtain ⟨A1,c1,e1⟩:=Kd.jr HU6
  obtain ⟨m,hm⟩:∃ m,m=(s.out++[s.x a]).length:=⟨_,rfl⟩
  rw [← hm] at e1
  subst e1
  have Y7:=HR2.out.aaB
  have eb:w6.heap[b]? = W2.heap[b]?:=Nr.block b h2 Y7
  have ei:w6.heap[w.heap.size+1]? = W2.heap[w.heap.size+1]?:=Nr.block _ h2a (fun he=>by have:=ady.out _ he.symm;omega)
  have HS6:=Kd.WI HR2.out.bM Nr VZ
  have WX:=HQ.out.st.of_block eb
  have d21:w6.cell? ⟨b,21,none⟩=some vU:=(World.cell?_of_block eb).trans c21
  have f21:w6.frozen? ⟨b,21,none⟩=false:=WX.fr 21
  have d1:w6.cell? ⟨w.heap.size+1,1,none⟩=some (.int .u8 a):=(World.cell?_of_block ei).trans i1
  have da:w6.cell? ⟨b,a,none⟩=some (.int .i64 (s.x a)):=(World.cell?_of_block eb).trans KL
  have HE:=Lib.hid (show kF b { bump s with out:=s.out++[s.x a] } vO (.slice A1 m c1) (w6.setCell ⟨b,21,none⟩ (.slice A1 m c1)) from WX.IW (.slice A1 m c1) (s.out++[s.x a]))
  have HF:=ae.mk (show Rows base b { bump s with out:=s.out++[s.x a] } vO (.slice A1 m c1) w6 from ⟨HS6,HU6⟩)
  have HBb:=Lib.hid HB6
  clear Y7 eb ei HS6 WX HQ HR2 ady Nr VZ HB6 HU6 c21 i1 KL
  refine hK.out _ _ ⟨d21,d1,da⟩ (fun hHeld=>?_)
  clear hK K
  refine jm (a':=?_) ?_ ?_
  rotate_left
  · show Act.put _ (some 179) _=_
    simp only [Act.put,List.setIfInBounds_toArray,List.set_cons_zero,List.set_cons_succ,bG,bJ]
    rfl
  refine dX (i:=14) (N:=some 180) (v:=?_) (a':=?_) #[true,true,true,true,true,true,true,true,true,true,true,true,true,true,true,false,false] rfl rfl (by kernel_rfl) (fun _ _ _ h=>h) (Or.inl ⟨by rfl,?_⟩) ?_ ?_
  rotate_left
  · intro w'
    go_simp
    with_reducible rfl
  rotate_left
  · simp only [Act.put,List.setIfInBounds_toArray,List.set_cons_zero,List.set_cons_succ,bG,bJ]
    rfl
  refine dX (i:=15) (N:=some 181) (v:=?_) (a':=?_) #[true,true,true,true,true,true,true,true,true,true,true,true,true,true,true,true,false] rfl rfl (by kernel_rfl) (fun _ _ _ h=>h) (Or.inl ⟨by rfl,?_⟩) ?_ ?_
  rotate_left
  · intro w'
    go_simp
    with_reducible rfl
  rotate_left
  · simp only [Act.put,List.setIfInBounds_toArray,List.set_cons_zero,List.set_cons_succ,bG,bJ]
    rfl
  refine zX (i:=16) (N:=none) #[true,true,true,true,true,true,true,true,true,true,true,true,true,true,true,true,true] rfl rfl (by kernel_rfl) (by decide) (fun K hK=>?_)
  refine BJ (w1:=w6.setCell ⟨b,21,none⟩ (.slice A1 m c1)) (by rfl) rfl ?_ ?_
  · go_simp
  refine hK.out _ _ ?_
  clear hK K
  refine rH (by kernel_rfl) ?_
  refine NoPanic.normal ?_
  generalize hw7:w6.setCell ⟨b,21,none⟩ (.slice A1 m c1)=w7 at HE ⊢
  have HF7:=HF.out.set (s':={ bump s with out:=s.out++[s.x a] }) 21 (.slice A1 m c1) rfl rfl
  have HB7:Below base w w7:=hw7 ▸ HBb.out.setCell (p:=⟨b,21,none⟩) hb _
  rw [hw7] at HF7
  go_wp2
  go_ret
  exact ⟨rfl,⟨hb,vO,_,HE.out,HF7⟩,HB7⟩
end Go.Proofs.YtlemecdddhdagaaDoor.P
end
