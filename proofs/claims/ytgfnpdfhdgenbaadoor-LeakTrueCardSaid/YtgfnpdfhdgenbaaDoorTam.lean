/- Parts of the proof of LeakTrue: what the functions that it reaches compute, and plain facts about that. -/
import Derived.Test.YtgfnpdfhdgenbaaDoorTal
set_option linter.unusedVariables false
set_option linter.unusedSimpArgs false
section
section
namespace Go.Proofs.YtgfnpdfhdgenbaaDoor.P
open Go.RowKit Go.Proofs.ae.bf Go.Proofs.ae.bY Go.Proofs.ae.cZ
structure mV (G:Nat) (P S I Z:Array Value) (w W:World):Prop where
  m0:Bk W G P 25
  m1:Bk W (G+1) S 36
  m2:Bk W (G+2) I 45
  m3:Bk W (G+3) Z 36
  mb:Below G w W
  sz:G+4≤W.heap.size
section
variable {G:Nat} {P S I Z:Array Value} {w W W1:World}
theorem mV.below (h:mV G P S I Z w W) (hb:Below W.heap.size W W1):mV G P S I Z w W1 :=
  ⟨h.m0.below hb,h.m1.below hb,h.m2.below hb,h.m3.below hb,h.mb.trans (hb.mono (by have:=h.sz;omega)),Nat.le_trans h.sz hb.size⟩
theorem mV.alloc (h:mV G P S I Z w W) (o:Obj):mV G P S I Z w (W.alloc o):=h.below ((Below.refl _ W).alloc (Nat.le_refl _) o)
theorem mV.drew (h:mV G P S I Z w W):mV G P S I Z w W.drew:=⟨h.m0,h.m1,h.m2,h.m3,⟨h.mb.os,h.mb.tape,h.mb.output,h.mb.size,h.mb.block⟩,h.sz⟩
theorem mV.drewN (h:mV G P S I Z w W) (k:Nat):mV G P S I Z w (W.drewN k):=⟨h.m0,h.m1,h.m2,h.m3,⟨h.mb.os,h.mb.tape,h.mb.output,h.mb.size,h.mb.block⟩,h.sz⟩
theorem mV.setRow (h:mV G P S I Z w W) (g:Nat) (cs:Array Value) (hg:G+4≤g):mV G P S I Z w (W.setRow g cs) :=
  ⟨h.m0.fK cs (by omega),h.m1.fK cs (by omega),h.m2.fK cs (by omega),h.m3.fK cs (by omega),dm h.mb (by omega) cs,by rw [size_setRow];exact h.sz⟩
theorem mV.set (h:mV G P S I Z w W) (g j:Nat) (v:Value) (hg:G+4≤g):mV G P S I Z w (W.setCell ⟨g,j,none⟩ v) :=
  ⟨h.m0.far j v (by omega),h.m1.far j v (by omega),h.m2.far j v (by omega),h.m3.far j v (by omega),h.mb.setCell (p:=⟨g,j,none⟩) (by show G≤g;omega) v,by simp [World.setCell];exact h.sz⟩
end
structure Two (G:Nat) (P S I Z:Array Value) (p g:Nat→Int) (g8 g9:Nat) (w W:World):Prop where
  base:mV G P S I Z w W
  ps:Bk W g8 (dK p) 31
  gs:Bk W g9 (row4 g) 32
  I9:G+4≤g8
  LD:G+4≤g9
  ne:g8 ≠ g9
section
variable {G g8 g9:Nat} {P S I Z:Array Value} {p g:Nat→Int} {w W W1:World}
theorem Two.below (h:Two G P S I Z p g g8 g9 w W) (hb:Below W.heap.size W W1):Two G P S I Z p g g8 g9 w W1:=⟨h.base.below hb,h.ps.below hb,h.gs.below hb,h.I9,h.LD,h.ne⟩
theorem Two.agL {S':Array Value} (h:Two G P S I Z p g g8 g9 w W) (j:Nat) (v:Value) (e:S.setIfInBounds j v=S'):Two G P S' I Z p g g8 g9 w (W.setCell ⟨G+1,j,none⟩ v) :=
  ⟨⟨h.base.m0.far j v (by omega),e ▸ h.base.m1.set j v,h.base.m2.far j v (by omega),h.base.m3.far j v (by omega),h.base.mb.setCell (p:=⟨G+1,j,none⟩) (by show G≤G+1;omega) v,by simp [World.setCell];exact h.base.sz⟩,h.ps.far j v (by have:=h.I9;omega),h.gs.far j v (by have:=h.LD;omega),h.I9,h.LD,h.ne⟩
theorem Two.drew (h:Two G P S I Z p g g8 g9 w W):Two G P S I Z p g g8 g9 w W.drew:=⟨h.base.drew,h.ps,h.gs,h.I9,h.LD,h.ne⟩
theorem Two.drewN (h:Two G P S I Z p g g8 g9 w W) (k:Nat):Two G P S I Z p g g8 g9 w (W.drewN k):=⟨h.base.drewN k,h.ps,h.gs,h.I9,h.LD,h.ne⟩
theorem Two.Qc (h:Two G P S I Z p g g8 g9 w W) (j:Nat) (hj:j < 8) (v:Int):Two G P S I Z (upd p j v) g g8 g9 w (W.setCell ⟨g8,j,none⟩ (.int .i64 v)) :=
  ⟨h.base.set g8 j _ h.I9,o6 p j hj v ▸ h.ps.set j (.int .i64 v),h.gs.far j _ h.ne.symm,h.I9,h.LD,h.ne⟩
theorem Two.agM (h:Two G P S I Z p g g8 g9 w W) (j:Nat) (hj:j < 4) (v:Int):Two G P S I Z p (upd g j v) g8 g9 w (W.setCell ⟨g9,j,none⟩ (.int .i64 v)) :=
  ⟨h.base.set g9 j _ h.LD,h.ps.far j _ h.ne,MX g j hj v ▸ h.gs.set j (.int .i64 v),h.I9,h.LD,h.ne⟩
theorem Two.qg (h:Two G P S I Z p g g8 g9 w W) (j:Nat) (hj:j < 8):W.cell? ⟨g8,j,none⟩=some (.int .i64 (p j)):=(h.ps.cell j).trans (mW p j hj)
theorem Two.Zk (h:Two G P S I Z p g g8 g9 w W) (j:Nat) (hj:j < 4):W.cell? ⟨g9,j,none⟩=some (.int .i64 (g j)):=(h.gs.cell j).trans (Qd g j hj)
end
theorem YD (P S I Z:Array Value) (w:World):mV w.heap.size P S I Z w ((((w.alloc (.cells P 25)).alloc (.cells S 36)).alloc (.cells I 45)).alloc (.cells Z 36)):=by
  have h1:=Bk.new w P 25
  have h2:=Bk.new (w.alloc (.cells P 25)) S 36
  have h3:=Bk.new ((w.alloc (.cells P 25)).alloc (.cells S 36)) I 45
  have h4:=Bk.new (((w.alloc (.cells P 25)).alloc (.cells S 36)).alloc (.cells I 45)) Z 36
  rw [show (w.alloc (.cells P 25)).heap.size=w.heap.size+1 by simp] at h2
  rw [show ((w.alloc (.cells P 25)).alloc (.cells S 36)).heap.size=w.heap.size+2 by simp] at h3
  rw [show (((w.alloc (.cells P 25)).alloc (.cells S 36)).alloc (.cells I 45)).heap.size=w.heap.size+3 by simp] at h4
  exact ⟨((h1.alloc _).alloc _).alloc _,(h2.alloc _).alloc _,h3.alloc _,h4,((((Below.refl _ w).alloc (Nat.le_refl _) _).alloc (by simp) _).alloc (by simp;omega) _).alloc (by simp;omega) _,by simp⟩
theorem xQ {P:Program} {w:World} {op:Oper} {a:Act} (ty:TypeId) (x:Operand) (ho:op.op=.load ty x)
    (b o:Nat) (hx:a.eval x=.pointer (some ⟨b,o,none⟩)) (cs:Array Value) (d:TypeDesc) (hS:w.rangeAt b o cs.toList) (hu:P.underlying ty=some d) (hd:d.isRow=true) (hi:(P.info? ty).map (·.size)=some cs.toList.length):(execOp a.eval op).run P w=.ok (.value (.agg cs)) w:=by
  unfold execOp
  simp only [ho,hx,Instr.loadAt,Instr.sureAddr,Sem.run_bind,Sem.run_pure,Result.andThen_ok,run_loadVar_mid w b o ty cs.toList d hS hu hd hi,Array.toArray_toList]
def Gi (sz:Int→Option Int) (s:St) (op a b:Nat):Option (St × Bool) :=
  if op=5 then if a < 8∧s.aK.length≤1000000 then (sz a).bind fun z=>if 0≤z∧z≤1000000 then some ({ s with aK:=s.aK++[List.replicate z.toNat 0],p:=upd s.p a ((s.aK.length:Int)+1) },true) else none else none
  else if op=6 then if a < 8 then some ({ s with p:=upd s.p a 0 },true) else none
  else if op=7 then if a < 8∧b < 8 then some ({ s with p:=upd s.p a (s.p b) },true) else none
  else if op=12 then if a < 8∧b < 4 then some ({ s with p:=upd s.p a (s.g b) },true) else none
  else if op=13 then if a < 4∧b < 8 then some ({ s with g:=upd s.g a (s.p b) },true) else none
  else some (s,false)
def VY (k:Nat) (l0:List ByteArray) (a1 a2:ByteArray) (l3:List gY) (a:Int):Option Int:=(dE.f k l0 a1 a2 l3 a).bind fun τ=>fD.f k l0 τ
set_option maxRecDepth 100000 in
set_option maxHeartbeats 6400000 in
theorem BQ (k:Nat) (A0:Option Addr) (c0:Nat) (l0:List ByteArray) (a1 a2:ByteArray) (A3:Option Addr) (c3:Nat) (l3:List gY) (s s':St) (is:Bool) (vO vU:Value) (op a bb cc:Nat) (n:Int) (w:World) (hr0:Kd.C Kd.string w A0 l0.length l0) (hc0:l0.length≤c0) (hr3:Kd.C uU w A3 l3.length l3) (hc3:l3.length≤c3)
    (hv:nK s vO vU w) (h:Gi (VY k l0 a1 a2 l3) s op a bb=some (s',is)) :
    Calls Tryd.prog 20 #[.agg #[.slice A0 l0.length c0,.string a1,.string a2,.slice A3 l3.length c3],.agg (cellsS s vO vU),.agg #[.int .u8 op,.int .u8 a,.int .u8 bb,.int .u8 cc,.int .i64 n]] w fun e w'=>∃ o5 oZ,e=.returned (.tuple #[.agg (cellsS s' o5 oZ),.bool is])∧nK s' o5 oZ w'∧Below w.heap.size w w':=by
  obtain ⟨G,hG⟩:∃ G,w.heap.size=G:=⟨_,rfl⟩
  obtain ⟨wa,Bi⟩:∃ wa,(((w.alloc (.cells #[.slice A0 l0.length c0,.string a1,.string a2,.slice A3 l3.length c3] 25)).alloc (.cells (cellsS s vO vU) 36)).alloc (.cells #[.int .u8 op,.int .u8 a,.int .u8 bb,.int .u8 cc,.int .i64 n] 45)).alloc (.cells #[.int .i64 0,.int .i64 0,.int .i64 0,.int .i64 0,.int .i64 0,.int .i64 0,.int .i64 0,.int .i64 0,.int .i64 0,.int .i64 0,.int .i64 0,.int .i64 0,.int .i64 0,.int .i64 0,.int .i64 0,.int .i64 0,.int .i64 0,.int .i64 0,.int .i64 0,.int .i64 0,.slice none 0 0,.slice none 0 0,.int .i64 0,.int .i64 0] 36)=wa:=⟨_,rfl⟩
  have hB:=YD #[.slice A0 l0.length c0,.string a1,.string a2,.slice A3 l3.length c3] (cellsS s vO vU) #[.int .u8 op,.int .u8 a,.int .u8 bb,.int .u8 cc,.int .i64 n] #[.int .i64 0,.int .i64 0,.int .i64 0,.int .i64 0,.int .i64 0,.int .i64 0,.int .i64 0,.int .i64 0,.int .i64 0,.int .i64 0,.int .i64 0,.int .i64 0,.int .i64 0,.int .i64 0,.int .i64 0,.int .i64 0,.int .i64 0,.int .i64 0,.int .i64 0,.int .i64 0,.slice none 0 0,.slice none 0 0,.int .i64 0,.int .i64 0] w
  rw [Bi,hG] at hB
  have HB:=af.mk hB.drew
  have HR0:=af.mk hr0
  have HR3:=af.mk hr3
  have HV:=af.mk hv
  have HH:=af.mk h
  have hS:=hB.m1
  clear hB hr0 hr3 hv h
  go_enter Tryd.func20,Tryd.ntmps20
  go_wp2
  clear Bi
  refine wp_region_noPanic ?_
  refine oJ (n:=8) (S:=fun w'=>Bk w' (G+1) (cellsS s vO vU) 36) (ds:=[7]) #[false,false,false,false,false,false,false,false] (by kernel_rfl) rfl rfl hS (fun hHeld=>?_)
  clear hS
  generalize wa.drew=W at HB hHeld ⊢
  refine bW (i:=0) (N:=some 12) (v:=?_) (a':=?_) #[true,false,false,false,false,false,false,false] rfl rfl (by kernel_rfl) (fun _ _ _ h=>h) (Or.inl ⟨by rfl,?_⟩) ?_ ?_
  rotate_left
  · intro w'
    go_simp
    with_reducible rfl
  rotate_left
  · simp only [Act.put,List.setIfInBounds_toArray,List.set_cons_zero,List.set_cons_succ,aX,aY]
    rfl
  refine jf (i:=1) (N:=some 13) (v:=.agg (dK s.p)) (a':=?aa1) #[true,true,false,false,false,false,false,false] rfl rfl (by kernel_rfl) (fun _ _ _ h=>h) (Or.inl ⟨by rfl,?yy1⟩) hHeld ?hh1 ?_
  case yy1=>exact fun w' hw=>xQ 31 (.tmp 12) rfl (G+1) 8 rfl (dK s.p) _ (hw.ps) Tryd.underlying31 rfl (by kernel_rfl)
  case hh1 =>
    simp only [Act.put,List.setIfInBounds_toArray,List.set_cons_zero,List.set_cons_succ,aX,aY]
    rfl
  refine bW (i:=2) (N:=some 14) (v:=?_) (a':=?_) #[true,true,true,false,false,false,false,false] rfl rfl (by kernel_rfl) (fun _ _ _ h=>h) (Or.inl ⟨by rfl,?_⟩) ?_ ?_
  rotate_left
  · intro w'
    go_simp
    with_reducible rfl
  rotate_left
  · simp only [Act.put,List.setIfInBounds_toArray,List.set_cons_zero,List.set_cons_succ,aX,aY]
    rfl
  refine jf (i:=3) (N:=some 15) (v:=.agg (row4 s.g)) (a':=?aa3) #[true,true,true,true,false,false,false,false] rfl rfl (by kernel_rfl) (fun _ _ _ h=>h) (Or.inl ⟨by rfl,?yy3⟩) hHeld ?hh3 ?_
  case yy3=>exact fun w' hw=>xQ 32 (.tmp 14) rfl (G+1) 16 rfl (row4 s.g) _ (hw.gs) Tryd.underlying32 rfl (by kernel_rfl)
  case hh3 =>
    simp only [Act.put,List.setIfInBounds_toArray,List.set_cons_zero,List.set_cons_succ,aX,aY]
    rfl
  refine Jc (σ:=Nat × Nat) 1 #[true,true,true,true,true,true,true,false] (fun g=>[(8,.pointer (some ⟨g.1,0,none⟩)),(9,.pointer (some ⟨g.2,0,none⟩))]) (fun g w'=>mV G #[.slice A0 l0.length c0,.string a1,.string a2,.slice A3 l3.length c3] (cellsS s vO vU) #[.int .u8 op,.int .u8 a,.int .u8 bb,.int .u8 cc,.int .i64 n] #[.int .i64 0,.int .i64 0,.int .i64 0,.int .i64 0,.int .i64 0,.int .i64 0,.int .i64 0,.int .i64 0,.int .i64 0,.int .i64 0,.int .i64 0,.int .i64 0,.int .i64 0,.int .i64 0,.int .i64 0,.int .i64 0,.int .i64 0,.int .i64 0,.int .i64 0,.int .i64 0,.slice none 0 0,.slice none 0 0,.int .i64 0,.int .i64 0] w w'∧Bk w' g.1 (dK s.p) 31∧Bk w' g.2 #[.int .i64 0,.int .i64 0,.int .i64 0,.int .i64 0] 32∧G+4≤g.1∧G+4≤g.2∧g.1 ≠ g.2) ?cont (fun hJ=>?ways)
  case ways =>
    refine P7 (i:=4) (j:=5) (Ni:=some 8) (Nj:=some 9) #[true,true,true,true,true,false,false,false] #[true,true,true,true,false,true,false,false] rfl rfl rfl rfl (by kernel_rfl) (by decide) (by decide) (fun K hK=>?_) (fun K hK=>?_)
    · refine uJ (w1:=(W).alloc (.cells #[.int .i64 0,.int .i64 0,.int .i64 0,.int .i64 0,.int .i64 0,.int .i64 0,.int .i64 0,.int .i64 0] 31)) (v:=.pointer (some ⟨(W).heap.size,0,none⟩)) (by rfl) rfl (by go_simp) ?_
      refine hK.out _ _ (Bk.alloc hHeld _) (fun hHeld=>?_)
      clear hK K
      refine iT (a':=?_) ?_ ?_
      rotate_left
      · simp only [jm,Act.put,List.setIfInBounds_toArray,List.set_cons_zero,List.set_cons_succ,aX,aY]
        rfl
      refine nN (i:=5) (N:=some 9) #[true,true,true,true,true,true,false,false] rfl rfl (by kernel_rfl) (by decide) (fun K hK=>?_)
      refine uJ (w1:=(W.alloc (.cells #[.int .i64 0,.int .i64 0,.int .i64 0,.int .i64 0,.int .i64 0,.int .i64 0,.int .i64 0,.int .i64 0] 31)).alloc (.cells #[.int .i64 0,.int .i64 0,.int .i64 0,.int .i64 0] 32)) (v:=.pointer (some ⟨(W.alloc (.cells #[.int .i64 0,.int .i64 0,.int .i64 0,.int .i64 0,.int .i64 0,.int .i64 0,.int .i64 0,.int .i64 0] 31)).heap.size,0,none⟩)) (by rfl) rfl (by go_simp) ?_
      refine hK.out _ _ (Bk.alloc hHeld _) (fun hHeld=>?_)
      clear hK K
      refine iT (a':=?_) ?_ ?_
      rotate_left
      · simp only [jm,Act.put,List.setIfInBounds_toArray,List.set_cons_zero,List.set_cons_succ,aX,aY]
        rfl
      refine nN (i:=6) (N:=none) #[true,true,true,true,true,true,true,false] rfl rfl (by kernel_rfl) (by decide) (fun K hK=>?_)
      rw [if_pos (by rfl)]
      refine wp_store_row 31 (.tmp 8) (.tmp 13) rfl (W.heap.size) (dK s.p) rfl rfl 31 _ ((Bk.new W #[.int .i64 0,.int .i64 0,.int .i64 0,.int .i64 0,.int .i64 0,.int .i64 0,.int .i64 0,.int .i64 0] 31).alloc _) (by kernel_rfl) rfl (iQ _) ?_
      refine hK.out _ _ (Bk.fK hHeld _ (by have:=HB.out.sz;simp;omega)) (fun hHeld=>?_)
      clear hK K
      exact hJ (W.heap.size,(W.alloc (.cells #[.int .i64 0,.int .i64 0,.int .i64 0,.int .i64 0,.int .i64 0,.int .i64 0,.int .i64 0,.int .i64 0] 31)).heap.size) _ ⟨((HB.out.alloc _).alloc _).setRow _ _ HB.out.sz,((Bk.new W #[.int .i64 0,.int .i64 0,.int .i64 0,.int .i64 0,.int .i64 0,.int .i64 0,.int .i64 0,.int .i64 0] 31).alloc _).setRow _,(Bk.new (W.alloc (.cells #[.int .i64 0,.int .i64 0,.int .i64 0,.int .i64 0,.int .i64 0,.int .i64 0,.int .i64 0,.int .i64 0] 31)) #[.int .i64 0,.int .i64 0,.int .i64 0,.int .i64 0] 32).fK _ (by simp),HB.out.sz,by have:=HB.out.sz;simp;omega,by simp⟩
    · refine uJ (w1:=(W).alloc (.cells #[.int .i64 0,.int .i64 0,.int .i64 0,.int .i64 0] 32)) (v:=.pointer (some ⟨(W).heap.size,0,none⟩)) (by rfl) rfl (by go_simp) ?_
      refine hK.out _ _ (Bk.alloc hHeld _) (fun hHeld=>?_)
      clear hK K
      refine iT (a':=?_) ?_ ?_
      rotate_left
      · simp only [jm,Act.put,List.setIfInBounds_toArray,List.set_cons_zero,List.set_cons_succ,aX,aY]
        rfl
      refine nN (i:=4) (N:=some 8) #[true,true,true,true,true,true,false,false] rfl rfl (by kernel_rfl) (by decide) (fun K hK=>?_)
      refine uJ (w1:=(W.alloc (.cells #[.int .i64 0,.int .i64 0,.int .i64 0,.int .i64 0] 32)).alloc (.cells #[.int .i64 0,.int .i64 0,.int .i64 0,.int .i64 0,.int .i64 0,.int .i64 0,.int .i64 0,.int .i64 0] 31)) (v:=.pointer (some ⟨(W.alloc (.cells #[.int .i64 0,.int .i64 0,.int .i64 0,.int .i64 0] 32)).heap.size,0,none⟩)) (by rfl) rfl (by go_simp) ?_
      refine hK.out _ _ (Bk.alloc hHeld _) (fun hHeld=>?_)
      clear hK K
      refine iT (a':=?_) ?_ ?_
      rotate_left
      · simp only [jm,Act.put,List.setIfInBounds_toArray,List.set_cons_zero,List.set_cons_succ,aX,aY]
        rfl
      refine nN (i:=6) (N:=none) #[true,true,true,true,true,true,true,false] rfl rfl (by kernel_rfl) (by decide) (fun K hK=>?_)
      rw [if_pos (by rfl)]
      refine wp_store_row 31 (.tmp 8) (.tmp 13) rfl ((W.alloc (.cells #[.int .i64 0,.int .i64 0,.int .i64 0,.int .i64 0] 32)).heap.size) (dK s.p) rfl rfl 31 _ (Bk.new (W.alloc (.cells #[.int .i64 0,.int .i64 0,.int .i64 0,.int .i64 0] 32)) #[.int .i64 0,.int .i64 0,.int .i64 0,.int .i64 0,.int .i64 0,.int .i64 0,.int .i64 0,.int .i64 0] 31) (by kernel_rfl) rfl (iQ _) ?_
      refine hK.out _ _ (Bk.fK hHeld _ (by have:=HB.out.sz;simp;omega)) (fun hHeld=>?_)
      clear hK K
      exact hJ ((W.alloc (.cells #[.int .i64 0,.int .i64 0,.int .i64 0,.int .i64 0] 32)).heap.size,W.heap.size) _ ⟨((HB.out.alloc _).alloc _).setRow _ _ (by have:=HB.out.sz;simp;omega),(Bk.new (W.alloc (.cells #[.int .i64 0,.int .i64 0,.int .i64 0,.int .i64 0] 32)) #[.int .i64 0,.int .i64 0,.int .i64 0,.int .i64 0,.int .i64 0,.int .i64 0,.int .i64 0,.int .i64 0] 31).setRow _,((Bk.new W #[.int .i64 0,.int .i64 0,.int .i64 0,.int .i64 0] 32).alloc _).fK _ (by simp),by have:=HB.out.sz;simp;omega,HB.out.sz,by simp⟩
  case cont =>
  rintro ⟨g8,g9⟩ WJ ⟨hb4,hb8,hb9,agY,Y3,hne⟩
  have HB4:=af.mk hb4
  have VG:=af.mk hb8
  have O7:=af.mk hb9
  clear hb4 hb8 HB hHeld
  refine iT (a':=?_) ?_ ?_
  rotate_left
  · simp only [jm,Act.put,List.setIfInBounds_toArray,List.set_cons_zero,List.set_cons_succ,aX,aY]
    rfl
  refine UK (i:=7) (N:=none) #[true,true,true,true,true,true,true,true] rfl rfl (by kernel_rfl) (by decide) (fun K hK=>?_)
  rw [if_pos (by rfl)]
  refine wp_store_row 32 (.tmp 9) (.tmp 15) rfl g9 (row4 s.g) rfl rfl 32 _ hb9 (by kernel_rfl) rfl (qO _) ?_
  refine hK.out _ _ ?_
  clear hK K hb9
  refine iT (a':=?_) ?_ ?_
  rotate_left
  · show Act.put _ none _=_
    simp only [Act.put,List.setIfInBounds_toArray,List.set_cons_zero,List.set_cons_succ,aX,aY]
    rfl
  refine qW (by kernel_rfl) ?_
  refine NoPanic.normal ?_
  have HT:=af.mk (show Two G #[.slice A0 l0.length c0,.string a1,.string a2,.slice A3 l3.length c3] (cellsS s vO vU) #[.int .u8 op,.int .u8 a,.int .u8 bb,.int .u8 cc,.int .i64 n] #[.int .i64 0,.int .i64 0,.int .i64 0,.int .i64 0,.int .i64 0,.int .i64 0,.int .i64 0,.int .i64 0,.int .i64 0,.int .i64 0,.int .i64 0,.int .i64 0,.int .i64 0,.int .i64 0,.int .i64 0,.int .i64 0,.int .i64 0,.int .i64 0,.int .i64 0,.int .i64 0,.slice none 0 0,.slice none 0 0,.int .i64 0,.int .i64 0] s.p s.g g8 g9 w (WJ.setRow g9 (row4 s.g)) from ⟨HB4.out.setRow _ _ Y3,VG.out.fK _ hne,O7.out.setRow _,agY,Y3,hne⟩)
  clear HB4 VG O7
  generalize WJ.setRow g9 (row4 s.g)=W at HT ⊢
  show Exit.then _ _ .normal _ _
  simp only [Exit.then]
  have hP:=HH.out
  unfold Gi at hP
  by_cases h5:op=5
  case pos =>
    subst h5
    rw [if_pos rfl] at hP
    by_cases hc:a < 8∧s.aK.length≤1000000
    case neg=>rw [if_neg hc] at hP;cases hP
    rw [if_pos hc] at hP
    obtain ⟨z,hz,hP⟩:=Option.bind_eq_some_iff.1 hP
    by_cases hz0:0≤z∧z≤1000000
    case neg=>rw [if_neg hz0] at hP;cases hP
    rw [if_pos hz0] at hP
    obtain ⟨rfl,rfl⟩:=Prod.mk.inj (Option.some.inj hP)
    obtain ⟨τ,hτ,hz⟩:=Option.bind_eq_some_iff.1 hz
    have HT1:=Lib.hid hτ
    have HZ1:=Lib.hid hz
    have HC:=Lib.hid hc
    have HZ0:=Lib.hid hz0
    clear hP hc hz0 hτ hz HH
    obtain ⟨AO,cO,hs0,rfl,MF,hl0,hH0,hE0⟩:=HV.out.aK
    obtain ⟨AU,cU,rfl,TM,hU⟩:=HV.out.out
    have HHD:=Lib.hid (hH0 w (fun _ _=>rfl))
    have PK:=Lib.hid hH0
    have O6:=Lib.hid hE0
    have xE:=Lib.hid hl0
    clear hU hH0 hE0 hl0
    have i0:W.cell? ⟨G+1+1,0,none⟩=some (.int .u8 5):=HT.out.base.m2.cell 0
    go_wp2
    clear i0
    refine wp_region_noPanic ?_
    refine oJ (n:=8) (S:=fun w'=>Two G #[.slice A0 l0.length c0,.string a1,.string a2,.slice A3 l3.length c3] (cellsS s (.slice AO s.aK.length cO) (.slice AU s.out.length cU)) #[.int .u8 5,.int .u8 a,.int .u8 bb,.int .u8 cc,.int .i64 n] #[.int .i64 0,.int .i64 0,.int .i64 0,.int .i64 0,.int .i64 0,.int .i64 0,.int .i64 0,.int .i64 0,.int .i64 0,.int .i64 0,.int .i64 0,.int .i64 0,.int .i64 0,.int .i64 0,.int .i64 0,.int .i64 0,.int .i64 0,.int .i64 0,.int .i64 0,.int .i64 0,.slice none 0 0,.slice none 0 0,.int .i64 0,.int .i64 0] s.p s.g g8 g9 w w') (ds:=[7]) #[false,false,false,false,false,false,false,false] (by kernel_rfl) rfl rfl HT.out.drew (fun hHeld=>?_)
    clear HT
    generalize W.drew=W1 at hHeld ⊢
    refine bW (i:=0) (N:=some 21) (v:=?_) (a':=?_) #[true,false,false,false,false,false,false,false] rfl rfl (by kernel_rfl) (fun _ _ _ h=>h) (Or.inl ⟨by rfl,?_⟩) ?_ ?_
    rotate_left
    · intro w'
      go_simp
      with_reducible rfl
    rotate_left
    · simp only [Act.put,List.setIfInBounds_toArray,List.set_cons_zero,List.set_cons_succ,aX,aY]
      rfl
    refine jf (i:=1) (N:=some 22) (v:=?_) (a':=?_) #[true,true,false,false,false,false,false,false] rfl rfl (by kernel_rfl) (fun _ _ _ h=>h) (Or.inl ⟨by rfl,?_⟩) hHeld ?_ ?_
    rotate_left
    · intro w' pg
      have c_:w'.cell? ⟨G,0,none⟩=some (.slice A0 l0.length c0):=pg.base.m0.cell 0
      go_simp
      with_reducible rfl
    rotate_left
    · simp only [Act.put,List.setIfInBounds_toArray,List.set_cons_zero,List.set_cons_succ,aX,aY]
      rfl
    refine jf (i:=2) (N:=some 23) (v:=.agg #[.slice A0 l0.length c0,.string a1,.string a2,.slice A3 l3.length c3]) (a':=?ab2) #[true,true,true,false,false,false,false,false] rfl rfl (by kernel_rfl) (fun _ _ _ h=>h) (Or.inl ⟨by rfl,?yb2⟩) hHeld ?hb2 ?_
    case yb2=>exact fun w' hw=>xQ 25 (.tmp 3) rfl G 0 rfl #[.slice A0 l0.length c0,.string a1,.string a2,.slice A3 l3.length c3] _ (hw.base.m0.range 0 _ (fun j hj=>by match j,hj with | 0,_ | 1,_ | 2,_ | 3,_=>rfl)) Tryd.underlying25 rfl (by kernel_rfl)
    case hb2 =>
      simp only [Act.put,List.setIfInBounds_toArray,List.set_cons_zero,List.set_cons_succ,aX,aY]
      rfl
    refine bW (i:=3) (N:=some 24) (v:=?_) (a':=?_) #[true,true,true,true,false,false,false,false] rfl rfl (by kernel_rfl) (fun _ _ _ h=>h) (Or.inl ⟨by rfl,?_⟩) ?_ ?_
    rotate_left
    · intro w'
      go_simp
      with_reducible rfl
    rotate_left
    · simp only [Act.put,List.setIfInBounds_toArray,List.set_cons_zero,List.set_cons_succ,aX,aY]
      rfl
    refine jf (i:=4) (N:=some 25) (v:=?_) (a':=?_) #[true,true,true,true,true,false,false,false] rfl rfl (by kernel_rfl) (fun _ _ _ h=>h) (Or.inl ⟨by rfl,?_⟩) hHeld ?_ ?_
    rotate_left
    · intro w' pg
      have c_:w'.cell? ⟨G+1+1,1,none⟩=some (.int .u8 a):=pg.base.m2.cell 1
      go_simp
      with_reducible rfl
    rotate_left
    · simp only [Act.put,List.setIfInBounds_toArray,List.set_cons_zero,List.set_cons_succ,aX,aY]
      rfl
    refine nN (i:=5) (N:=some 26) #[true,true,true,true,true,true,false,false] rfl rfl (by kernel_rfl) (by decide) (fun K hK=>?_)
    refine qm Tryd.func28 (by kernel_rfl) rfl #[.agg #[.slice A0 l0.length c0,.string a1,.string a2,.slice A3 l3.length c3],.int .u8 a] (by rfl) rfl rfl (by (try simp only [List.map_toArray,List.map_cons,List.map_nil]);rfl) ?_
    refine (dE.calls k A0 c0 l0 a1 a2 A3 c3 l3 a τ _ (Kd.bQ HR0.out (by rw [hG];exact hHeld.base.mb)) hc0 (Kd.bQ HR3.out (by rw [hG];exact hHeld.base.mb)) hc3 HT1.out).mono ?_
    rintro e w4 ⟨rfl,hb4⟩
    refine ⟨_,rfl,?_⟩
    refine hK.out _ _ (hHeld.below hb4) (fun hHeld=>?_)
    clear hK K hb4
    refine iT (a':=?_) ?_ ?_
    rotate_left
    · simp only [jm,Act.put,List.setIfInBounds_toArray,List.set_cons_zero,List.set_cons_succ,aX,aY]
      rfl
    refine nN (i:=6) (N:=some 27) #[true,true,true,true,true,true,true,false] rfl rfl (by kernel_rfl) (by decide) (fun K hK=>?_)
    refine qm Tryd.func27 (by kernel_rfl) rfl #[.slice A0 l0.length c0,.int .i64 τ] (by rfl) rfl rfl (by (try simp only [List.map_toArray,List.map_cons,List.map_nil]);rfl) ?_
    refine (fD.calls k A0 c0 l0 τ z _ (Kd.bQ HR0.out (by rw [hG];exact hHeld.base.mb)) hc0 HZ1.out).mono ?_
    rintro e w5 ⟨rfl,hb4⟩
    refine ⟨_,rfl,?_⟩
    refine hK.out _ _ (hHeld.below hb4.below) (fun hHeld=>?_)
    clear hK K hb4
    refine iT (a':=?_) ?_ ?_
    rotate_left
    · simp only [jm,Act.put,List.setIfInBounds_toArray,List.set_cons_zero,List.set_cons_succ,aX,aY]
      rfl
    refine UK (i:=7) (N:=some 10) #[true,true,true,true,true,true,true,true] rfl rfl (by kernel_rfl) (by decide) (fun K hK=>?_)
    refine uJ (w1:=w5) (v:=.int .i64 z) (by rfl) rfl (by go_simp) ?_
    refine hK.out _ _ ?_
    clear hK K
    refine iT (a':=?_) ?_ ?_
    rotate_left
    · simp only [jm,Act.put,List.setIfInBounds_toArray,List.set_cons_zero,List.set_cons_succ,aX,aY]
      rfl
    refine qW (by kernel_rfl) ?_
    refine NoPanic.normal ?_
    show Exit.then _ _ .normal _ _
    simp only [Exit.then]
    have Ap:=af.mk hHeld
    clear hHeld
    have ha:a < 8:=HC.out.1
    have hai:(a:Int) < 8:=by omega
    have hlO:s.aK.length≤1000000:=HC.out.2
    have hzl:z.toNat * 8≤281474976710656:=by have:=HZ0.out;omega
    have hlim:(hs0.length+1) * 24≤140737488355328:=by rw [xE.out];omega
    have hs5:G+4≤w5.heap.size:=Ap.out.base.sz
    have hg8:g8 < w5.heap.size:=Ap.out.ps.lt
    have HO:=af.mk (yH kH 34 w5 w5.heap.size (fun _=>True) (Nat.le_refl _) trivial)
    have Ee:=af.mk ((Below.refl w5.heap.size w5).alloc (Nat.le_refl _) (.cells #[] 34))
    have HCH:=af.mk (Kd.dG (Kd.bQ HHD.out (by rw [hG];exact Ap.out.base.mb)) (.cells #[] 34))
    have c20:(w5.alloc (.cells #[] 34)).cell? ⟨G+1,20,none⟩=some (.slice AO s.aK.length cO):=(Ap.out.base.m1.alloc _).cell 20
    go_upto_region 7 with ((with_reducible refine lu (b:=.append) (xs:=#[.tmp 28,.tmp 30]) rfl ?_);at_builtin;refine Kd.oW kH (w0:=w5) w5.heap.size rfl (.tmp 28) (.tmp 30) 33 34 (.slice none 0 0) 24 rfl Tryd.underlying33 Ce rfl (by decide) (by omega) _ [] hs0 _ _ _ (fun _=>True) (fun _=>False) rfl rfl HO.out HCH.out (fun _ _ h=>h) (fun _ h=>h.elim) (fun _ _=>trivial) Ee.out (by simp) (by simp;omega) ?_;intro v1 w6 hR1 hB1 hg1 vN;have HR1:=Lib.hid hR1;have FP:=Lib.hid hB1;clear hR1 hB1 hg1 vN)
    clear c20 HO Ee HCH
    have O1:=Lib.hid (show Kd.R kH 34 w6 w5.heap.size (fun _=>True) v1 hs0 from by have q:=HR1.out;rwa [List.nil_append] at q)
    obtain ⟨m7,hm7⟩:∃ m,m=(List.replicate z.toNat (0:Int)).length:=⟨_,rfl⟩
    obtain ⟨m8,hm8⟩:∃ m,m=hs0.length+1:=⟨_,rfl⟩
    have HM7:=Lib.hid hm7
    have HM8:=Lib.hid hm8
    have agT:0≤z:=HZ0.out.1
    have h56:w5.heap.size≤w6.heap.size:=FP.out.size
    clear hm7 hm8 HR1
    go_upto_region 8 with (first|((with_reducible refine bD (N:=34) rfl ?_);refine Kd.XL (Kd.int .i64) (w0:=w6) w6.heap.size 2 rfl rfl 34 (.tmp 33) (.tmp 33) rfl z rfl rfl Tryd.underlying34 (.int .i64 0) 8 Je rfl (by decide) (by decide) 0 (ok:=fun k=>w6.heap.size≤k) (uN:=fun _=>False) rfl (fun _ hk=>hk.elim) (Nat.le_refl _) agT hzl (Below.refl _ _) (Nat.le_refl _) ?_;intro v2 w7 hM hb7 hg7 ahg;obtain ⟨A7,c7,e7⟩:=Kd.oV hM;rw [← HM7.out] at e7;subst e7;have HM:=Lib.hid hM;have Me:=Lib.hid hb7;have HR7:=Lib.hid (Kd.kY O1.out (fun k _ hk=>hb7.block k hk));have ah9:=Lib.hid (FP.out.trans (hb7.mono h56));have h67:=hb7.size;clear hM hb7 hg7 ahg)|((with_reducible refine lu (b:=.append) (xs:=#[.tmp 32,.tmp 35]) rfl ?_);at_builtin;refine Kd.zN kH (w0:=w5) w5.heap.size rfl (.tmp 32) (.tmp 35) 33 34 (.slice none 0 0) 24 rfl Tryd.underlying33 Ce rfl (by decide) (by omega) v1 hs0 (A7,m7,c7) [.slice A7 m7 c7] (fun _=>True) (fun _=>False) rfl rfl rfl (fun _ h=>h.elim) (fun _ _=>trivial) HR7.out ah9.out (by omega) hlim ?_;intro v3 w8 Yi hB3 hg3 Xp;obtain ⟨A8,c8,e8⟩:=Kd.oV Yi;rw [show (hs0++[((A7,m7,c7):Hd)]).length=m8 from by rw [HM8.out];simp] at e8;subst e8;have HR3:=Lib.hid Yi;have HG3:=Lib.hid hg3;have VE:=Lib.hid (Ap.out.below hB3);have d20:w8.cell? ⟨G+1,20,none⟩=some (.slice AO s.aK.length cO):=(Ap.out.below hB3).base.m1.cell 20;have f20:w8.frozen? ⟨G+1,20,none⟩=false:=(Ap.out.below hB3).base.m1.fr 20;have h8:=hB3.size;clear Yi hB3 hg3 Xp))
    have TQ:=af.mk (VE.out.agL 20 (.slice A8 m8 c8) (show _=cellsS { s with aK:=s.aK++[List.replicate z.toNat 0] } (.slice A8 m8 c8) (.slice AU s.out.length cU) from rfl))
    have hk0:∀ k,w5.heap.size≤k→(w8.setCell ⟨G+1,20,none⟩ (.slice A8 m8 c8)).heap[k]? = w8.heap[k]?:=fun k hk=>Below.heap_setCell w8 ⟨G+1,20,none⟩ _ k (by show k ≠ G+1;omega)
    clear VE d20 f20
    change Code.wp _ _ _ _ (w8.setCell ⟨G+1,20,none⟩ (.slice A8 m8 c8))
    generalize w8.setCell ⟨G+1,20,none⟩ (.slice A8 m8 c8)=U at TQ hk0 ⊢
    have HK0:=Lib.hid hk0
    clear hk0
    have i1:U.cell? ⟨G+1+1,1,none⟩=some (.int .u8 a):=TQ.out.base.m2.cell 1
    have c20:U.cell? ⟨G+1,20,none⟩=some (.slice A8 m8 c8):=TQ.out.base.m1.cell 20
    have fs:=TQ.out.ps.fr a
    have cs:=TQ.out.qg a ha
    go_upto_region 17 with (fail)
    clear i1 c20 fs cs
    have hq:=TQ.out.Qc a ha (m8:Int)
    have hk0:∀ k,w5.heap.size≤k→(U.setCell ⟨g8,a,none⟩ (.int .i64 (m8:Int))).heap[k]? = w8.heap[k]?:=fun k hk=>(Below.heap_setCell U ⟨g8,a,none⟩ _ k (by show k ≠ g8;omega)).trans (HK0.out k hk)
    clear TQ
    change Code.wp _ _ _ _ (U.setCell ⟨g8,a,none⟩ (.int .i64 (m8:Int)))
    generalize U.setCell ⟨g8,a,none⟩ (.int .i64 (m8:Int))=W2 at hq hk0 ⊢
    rw [show (m8:Int)=(s.aK.length:Int)+1 from by rw [HM8.out,xE.out];omega] at hq
    have HQ:=af.mk hq
    have HK:=Lib.hid hk0
    clear hq hk0
    have YR:∀ s1,(cellsS s1 (.slice A8 m8 c8) (.slice AU s.out.length cU)).all (·.oneCell')=true:=fun s1=>by simp [cellsS,Value.oneCell']
    have Jf:=HQ.out.ps
    have hth:W2.there (G+1) 8 8:=HQ.out.base.m1.there 8 8 (show 8+8≤24 by omega)
    go_upto_region 18 with (first|((with_reducible refine bD (N:=76) rfl ?_);refine wpList_load_row rfl 31 (.tmp 8) rfl g8 rfl 31 (dK (upd s.p a ((s.aK.length:Int)+1))) (0,0) _ Jf Tryd.underlying31 rfl (by kernel_rfl) ?_)|(skip;refine wpList_store_mid rfl 31 (.tmp 77) (.tmp 76) rfl (G+1) 8 (dK (upd s.p a ((s.aK.length:Int)+1))) rfl rfl hth (by kernel_rfl) (iQ _) ?_))
    have hs:=HQ.out.base.m1.wJ (upd s.p a ((s.aK.length:Int)+1))
    have hr:=HQ.out.base.m3.iR (h:=G+1) 8 (dK (upd s.p a ((s.aK.length:Int)+1))).toList (by omega)
    have CU:=HQ.out.gs.iR (h:=G+1) 8 (dK (upd s.p a ((s.aK.length:Int)+1))).toList (by have:=HQ.out.LD;omega)
    have hb2:=Lib.hid (gB (dK (upd s.p a ((s.aK.length:Int)+1))).toList _ (G+1) 8 HQ.out.base.mb (show G≤G+1 by omega))
    have hk1:∀ k,w5.heap.size≤k→(W2.setCells (G+1) 8 (dK (upd s.p a ((s.aK.length:Int)+1))).toList).heap[k]? = w8.heap[k]?:=fun k hk=>(mr _ _ _ (by omega)).trans (HK.out k hk)
    clear Jf hth HQ
    change Code.wp _ _ _ _ (W2.setCells (G+1) 8 (dK (upd s.p a ((s.aK.length:Int)+1))).toList)
    generalize W2.setCells (G+1) 8 (dK (upd s.p a ((s.aK.length:Int)+1))).toList=V at hs hr CU hb2 hk1 ⊢
    have uG:=Lib.hid hk1
    clear hk1
    have hth:V.there (G+1) 16 4:=hs.there 16 4 (show 16+4≤24 by omega)
    go_upto_region 19 with (first|((with_reducible refine bD (N:=78) rfl ?_);refine wpList_load_row rfl 32 (.tmp 9) rfl g9 rfl 32 (row4 (s.g)) (0,0) _ CU Tryd.underlying32 rfl (by kernel_rfl) ?_)|(skip;refine wpList_store_mid rfl 32 (.tmp 79) (.tmp 78) rfl (G+1) 16 (row4 (s.g)) rfl rfl hth (by kernel_rfl) (qO _) ?_))
    have hs2:=hs.yQ (s.g)
    have hr2:=hr.iR (h:=G+1) 16 (row4 (s.g)).toList (by omega)
    have hb3:=Lib.hid (gB (row4 (s.g)).toList _ (G+1) 16 hb2.out (show G≤G+1 by omega))
    have hk2:∀ k,w5.heap.size≤k→(V.setCells (G+1) 16 (row4 (s.g)).toList).heap[k]? = w8.heap[k]?:=fun k hk=>(mr _ _ _ (by omega)).trans (uG.out k hk)
    clear hs hr CU hth hb2
    change Code.wp _ _ _ _ (V.setCells (G+1) 16 (row4 (s.g)).toList)
    generalize V.setCells (G+1) 16 (row4 (s.g)).toList=V2 at hs2 hr2 hb3 hk2 ⊢
    have sJ:=Lib.hid hk2
    clear hk2
    have hone:=YR { s with aK:=s.aK++[List.replicate z.toNat 0],p:=upd s.p a ((s.aK.length:Int)+1) }
    go_wp2_with (first|((with_reducible refine bD (N:=80) rfl ?_);refine wpList_load_row rfl 36 (.tmp 4) rfl (G+1) rfl 36 (cellsS { s with aK:=s.aK++[List.replicate z.toNat 0],p:=upd s.p a ((s.aK.length:Int)+1) } (.slice A8 m8 c8) (.slice AU s.out.length cU)) (0,0) _ hs2 Tryd.underlying36 rfl (by kernel_rfl) ?_)|(skip;refine wpList_store_row rfl 36 (.tmp 6) (.tmp 80) rfl (G+1+1+1) (cellsS { s with aK:=s.aK++[List.replicate z.toNat 0],p:=upd s.p a ((s.aK.length:Int)+1) } (.slice A8 m8 c8) (.slice AU s.out.length cU)) rfl rfl 36 _ hr2 (by kernel_rfl) rfl hone ?_))
    (try simp only [Exit.inBlock,Exit.then])
    refine bodyPost_ret (dU rfl _ _ (G+1+1+1) 36 _ (0,0) _ rfl (hr2.setRow (cellsS { s with aK:=s.aK++[List.replicate z.toNat 0],p:=upd s.p a ((s.aK.length:Int)+1) } (.slice A8 m8 c8) (.slice AU s.out.length cU))) Tryd.underlying36 rfl (by kernel_rfl)) rfl ?_
    have hb4:=dm (g:=G+3) hb3.out (by omega) (cellsS { s with aK:=s.aK++[List.replicate z.toNat 0],p:=upd s.p a ((s.aK.length:Int)+1) } (.slice A8 m8 c8) (.slice AU s.out.length cU))
    have Y9:Below w.heap.size w (V2.setRow (G+1+1+1) (cellsS { s with aK:=s.aK++[List.replicate z.toNat 0],p:=upd s.p a ((s.aK.length:Int)+1) } (.slice A8 m8 c8) (.slice AU s.out.length cU))):=by rw [hG];exact hb4
    have UY:∀ k,w5.heap.size≤k→(V2.setRow (G+1+1+1) (cellsS { s with aK:=s.aK++[List.replicate z.toNat 0],p:=upd s.p a ((s.aK.length:Int)+1) } (.slice A8 m8 c8) (.slice AU s.out.length cU))).heap[k]? = w8.heap[k]?:=fun k hk=>(jw _ k (by omega)).trans (sJ.out k hk)
    have hR9:=Kd.kY (w1:=V2.setRow (G+1+1+1) (cellsS { s with aK:=s.aK++[List.replicate z.toNat 0],p:=upd s.p a ((s.aK.length:Int)+1) } (.slice A8 m8 c8) (.slice AU s.out.length cU))) (Kd.mG HR3.out) (fun k hk' _=>UY k hk'.2.1)
    have hM9:=Kd.kY (w1:=V2.setRow (G+1+1+1) (cellsS { s with aK:=s.aK++[List.replicate z.toNat 0],p:=upd s.p a ((s.aK.length:Int)+1) } (.slice A8 m8 c8) (.slice AU s.out.length cU))) (Kd.kY (w1:=w8) (Kd.mG HM.out) (fun k hk' hlt=>HG3.out.block k hlt (fun he=>by
      have h1:=Kd.aab O1.out k he.symm
      have h2:=hk'.1
      omega))) (fun k hk' _=>UY k (by have:=hk'.1;omega))
    have hlen:(hs0++[((A7,m7,c7):Hd)]).length=(s.aK++[List.replicate z.toNat (0:Int)]).length:=by simp [xE.out]
    refine ⟨_,_,rfl,⟨⟨A8,c8,hs0++[(A7,m7,c7)],?_,?_,hlen,fun wF hF=>?_,fun j hj=>?_⟩,(HV.out.below Y9).out⟩,by first|exact hb4|(rw [hG];exact hb4)⟩
    · show Value.slice A8 m8 c8=.slice A8 (s.aK++[List.replicate z.toNat 0]).length c8
      rw [HM8.out,xE.out]
      simp
    · show (s.aK++[List.replicate z.toNat 0]).length≤c8
      have:(s.aK++[List.replicate z.toNat (0:Int)]).length=m8:=by rw [HM8.out,xE.out];simp
      have:=(Kd.gp HR3.out).2.1
      omega
    · show Kd.C kH wF A8 (s.aK++[List.replicate z.toNat 0]).length _
      rw [← hlen]
      exact (Kd.gp (tY (wF:=wF) hR9 rfl (by decide) (fun k _ hn=>hF k hn))).2.2
    · by_cases hj2:j < s.aK.length
      · obtain ⟨q,q1,q2,q3,q4⟩:=O6.out j hj2
        refine ⟨q,by rw [List.getElem?_append_left (by rw [xE.out];exact hj2)];exact q1,?_⟩
        simp only [List.getElem_append_left hj2]
        exact ⟨q2,q3,fun wF hF=>q4 wF (hF.after Y9)⟩
      · have hjl:j=s.aK.length:=by
          have:j < s.aK.length+1:=by simpa using hj
          omega
        subst hjl
        refine ⟨(A7,m7,c7),by rw [← xE.out];simp,?_⟩
        simp only [List.getElem_append_right (Nat.le_refl _),Nat.sub_self,List.getElem_cons_zero]
        exact ⟨HM7.out,by rw [← HM7.out];exact (Kd.gp HM.out).2.1,fun wF hF=>(Kd.gp (tY (wF:=wF) hM9 rfl (by decide) (fun k _ hn=>hF k hn))).2.2⟩
  rw [if_neg h5] at hP
  by_cases h6:op=6
  case pos =>
    subst h6
    clear h5
    rw [if_pos rfl] at hP
    by_cases hc:a < 8
    case neg=>rw [if_neg hc] at hP;cases hP
    rw [if_pos hc] at hP
    obtain ⟨rfl,rfl⟩:=Prod.mk.inj (Option.some.inj hP)
    have hi:Hid (a < 8):=Lib.hid hc
    clear hP hc HH
    have ha:a < 8:=hi.out
    have hai:(a:Int) < 8:=by omega
    have i0:W.cell? ⟨G+2,0,none⟩=some (.int .u8 6):=HT.out.base.m2.cell 0
    have i1:W.cell? ⟨G+2,1,none⟩=some (.int .u8 a):=HT.out.base.m2.cell 1
    have fs:=HT.out.ps.fr a
    have cs:=HT.out.qg a ha
    go_upto_region 17 with (fail)
    clear fs cs i0 i1
    have HQ:=af.mk (HT.out.Qc a ha 0)
    have XR:=HV
    clear HT
    change Code.wp _ _ _ _ (W.setCell ⟨g8,a,none⟩ (.int .i64 0))
    generalize W.setCell ⟨g8,a,none⟩ (.int .i64 0)=W2 at HQ ⊢
    have Jf:=HQ.out.ps
    have hth:W2.there (G+1) 8 8:=HQ.out.base.m1.there 8 8 (show 8+8≤24 by omega)
    go_upto_region 18 with (first|((with_reducible refine bD (N:=76) rfl ?_);refine wpList_load_row rfl 31 (.tmp 8) rfl g8 rfl 31 (dK (upd s.p a 0)) (0,0) _ Jf Tryd.underlying31 rfl (by kernel_rfl) ?_)|(skip;refine wpList_store_mid rfl 31 (.tmp 77) (.tmp 76) rfl (G+1) 8 (dK (upd s.p a 0)) rfl rfl hth (by kernel_rfl) (iQ _) ?_))
    have hs:=HQ.out.base.m1.wJ (upd s.p a 0)
    have hr:=HQ.out.base.m3.iR (h:=G+1) 8 (dK (upd s.p a 0)).toList (by omega)
    have CU:=HQ.out.gs.iR (h:=G+1) 8 (dK (upd s.p a 0)).toList (by have:=HQ.out.LD;omega)
    have hb2:=Lib.hid (gB (dK (upd s.p a 0)).toList _ (G+1) 8 HQ.out.base.mb (show G≤G+1 by omega))
    clear Jf hth HQ
    change Code.wp _ _ _ _ (W2.setCells (G+1) 8 (dK (upd s.p a 0)).toList)
    generalize W2.setCells (G+1) 8 (dK (upd s.p a 0)).toList=V at hs hr CU hb2 ⊢
    have hth:V.there (G+1) 16 4:=hs.there 16 4 (show 16+4≤24 by omega)
    go_upto_region 19 with (first|((with_reducible refine bD (N:=78) rfl ?_);refine wpList_load_row rfl 32 (.tmp 9) rfl g9 rfl 32 (row4 (s.g)) (0,0) _ CU Tryd.underlying32 rfl (by kernel_rfl) ?_)|(skip;refine wpList_store_mid rfl 32 (.tmp 79) (.tmp 78) rfl (G+1) 16 (row4 (s.g)) rfl rfl hth (by kernel_rfl) (qO _) ?_))
    have hs2:=hs.yQ (s.g)
    have hr2:=hr.iR (h:=G+1) 16 (row4 (s.g)).toList (by omega)
    have hb3:=Lib.hid (gB (row4 (s.g)).toList _ (G+1) 16 hb2.out (show G≤G+1 by omega))
    clear hs hr CU hth hb2
    change Code.wp _ _ _ _ (V.setCells (G+1) 16 (row4 (s.g)).toList)
    generalize V.setCells (G+1) 16 (row4 (s.g)).toList=V2 at hs2 hr2 hb3 ⊢
    have hone:=XR.out.rd.one { s with p:=upd s.p a 0 }
    go_wp2_with (first|((with_reducible refine bD (N:=80) rfl ?_);refine wpList_load_row rfl 36 (.tmp 4) rfl (G+1) rfl 36 (cellsS { s with p:=upd s.p a 0 } vO vU) (0,0) _ hs2 Tryd.underlying36 rfl (by kernel_rfl) ?_)|(skip;refine wpList_store_row rfl 36 (.tmp 6) (.tmp 80) rfl (G+1+1+1) (cellsS { s with p:=upd s.p a 0 } vO vU) rfl rfl 36 _ hr2 (by kernel_rfl) rfl hone ?_))
    (try simp only [Exit.inBlock,Exit.then])
    refine bodyPost_ret (dU rfl _ _ (G+1+1+1) 36 _ (0,0) _ rfl (hr2.setRow (cellsS { s with p:=upd s.p a 0 } vO vU)) Tryd.underlying36 rfl (by kernel_rfl)) rfl ?_
    have hb4:=dm (g:=G+3) hb3.out (by omega) (cellsS { s with p:=upd s.p a 0 } vO vU)
    exact ⟨_,_,rfl,(HV.out.below (by rw [hG];exact hb4)).as rfl rfl,by first|exact hb4|(rw [hG];exact hb4)⟩
  rw [if_neg h6] at hP
  by_cases h7:op=7
  case pos =>
    subst h7
    clear h5 h6
    rw [if_pos rfl] at hP
    by_cases hc:a < 8∧bb < 8
    case neg=>rw [if_neg hc] at hP;cases hP
    rw [if_pos hc] at hP
    obtain ⟨rfl,rfl⟩:=Prod.mk.inj (Option.some.inj hP)
    have hi:Hid (a < 8∧bb < 8):=Lib.hid hc
    clear hP hc HH
    have ha:a < 8:=hi.out.1
    have hai:(a:Int) < 8:=by omega
    have hbb:bb < 8:=hi.out.2
    have zu:(bb:Int) < 8:=by omega
    have i0:W.cell? ⟨G+2,0,none⟩=some (.int .u8 7):=HT.out.base.m2.cell 0
    have i1:W.cell? ⟨G+2,1,none⟩=some (.int .u8 a):=HT.out.base.m2.cell 1
    have i2:W.cell? ⟨G+2,2,none⟩=some (.int .u8 bb):=HT.out.base.m2.cell 2
    have cr:=HT.out.qg bb hbb
    go_wp2
    go_still_tail 7,(by kernel_rfl)
    clear cr i0 i1 i2
    change wpList _ _ _ _ _ W.drew
    have HT2:=af.mk HT.out.drew
    clear HT
    generalize W.drew=W1 at HT2 ⊢
    have fs:=HT2.out.ps.fr a
    have cs:=HT2.out.qg a ha
    go_upto_region 17 with (fail)
    clear fs cs
    have HQ:=af.mk (HT2.out.Qc a ha (s.p bb))
    have XR:=HV
    clear HT2
    change Code.wp _ _ _ _ (W1.setCell ⟨g8,a,none⟩ (.int .i64 (s.p bb)))
    generalize W1.setCell ⟨g8,a,none⟩ (.int .i64 (s.p bb))=W2 at HQ ⊢
    have Jf:=HQ.out.ps
    have hth:W2.there (G+1) 8 8:=HQ.out.base.m1.there 8 8 (show 8+8≤24 by omega)
    go_upto_region 18 with (first|((with_reducible refine bD (N:=76) rfl ?_);refine wpList_load_row rfl 31 (.tmp 8) rfl g8 rfl 31 (dK (upd s.p a (s.p bb))) (0,0) _ Jf Tryd.underlying31 rfl (by kernel_rfl) ?_)|(skip;refine wpList_store_mid rfl 31 (.tmp 77) (.tmp 76) rfl (G+1) 8 (dK (upd s.p a (s.p bb))) rfl rfl hth (by kernel_rfl) (iQ _) ?_))
    have hs:=HQ.out.base.m1.wJ (upd s.p a (s.p bb))
    have hr:=HQ.out.base.m3.iR (h:=G+1) 8 (dK (upd s.p a (s.p bb))).toList (by omega)
    have CU:=HQ.out.gs.iR (h:=G+1) 8 (dK (upd s.p a (s.p bb))).toList (by have:=HQ.out.LD;omega)
    have hb2:=Lib.hid (gB (dK (upd s.p a (s.p bb))).toList _ (G+1) 8 HQ.out.base.mb (show G≤G+1 by omega))
    clear Jf hth HQ
    change Code.wp _ _ _ _ (W2.setCells (G+1) 8 (dK (upd s.p a (s.p bb))).toList)
    generalize W2.setCells (G+1) 8 (dK (upd s.p a (s.p bb))).toList=V at hs hr CU hb2 ⊢
    have hth:V.there (G+1) 16 4:=hs.there 16 4 (show 16+4≤24 by omega)
    go_upto_region 19 with (first|((with_reducible refine bD (N:=78) rfl ?_);refine wpList_load_row rfl 32 (.tmp 9) rfl g9 rfl 32 (row4 (s.g)) (0,0) _ CU Tryd.underlying32 rfl (by kernel_rfl) ?_)|(skip;refine wpList_store_mid rfl 32 (.tmp 79) (.tmp 78) rfl (G+1) 16 (row4 (s.g)) rfl rfl hth (by kernel_rfl) (qO _) ?_))
    have hs2:=hs.yQ (s.g)
    have hr2:=hr.iR (h:=G+1) 16 (row4 (s.g)).toList (by omega)
    have hb3:=Lib.hid (gB (row4 (s.g)).toList _ (G+1) 16 hb2.out (show G≤G+1 by omega))
    clear hs hr CU hth hb2
    change Code.wp _ _ _ _ (V.setCells (G+1) 16 (row4 (s.g)).toList)
    generalize V.setCells (G+1) 16 (row4 (s.g)).toList=V2 at hs2 hr2 hb3 ⊢
    have hone:=XR.out.rd.one { s with p:=upd s.p a (s.p bb) }
    go_wp2_with (first|((with_reducible refine bD (N:=80) rfl ?_);refine wpList_load_row rfl 36 (.tmp 4) rfl (G+1) rfl 36 (cellsS { s with p:=upd s.p a (s.p bb) } vO vU) (0,0) _ hs2 Tryd.underlying36 rfl (by kernel_rfl) ?_)|(skip;refine wpList_store_row rfl 36 (.tmp 6) (.tmp 80) rfl (G+1+1+1) (cellsS { s with p:=upd s.p a (s.p bb) } vO vU) rfl rfl 36 _ hr2 (by kernel_rfl) rfl hone ?_))
    (try simp only [Exit.inBlock,Exit.then])
    refine bodyPost_ret (dU rfl _ _ (G+1+1+1) 36 _ (0,0) _ rfl (hr2.setRow (cellsS { s with p:=upd s.p a (s.p bb) } vO vU)) Tryd.underlying36 rfl (by kernel_rfl)) rfl ?_
    have hb4:=dm (g:=G+3) hb3.out (by omega) (cellsS { s with p:=upd s.p a (s.p bb) } vO vU)
    exact ⟨_,_,rfl,(HV.out.below (by rw [hG];exact hb4)).as rfl rfl,by first|exact hb4|(rw [hG];exact hb4)⟩
  rw [if_neg h7] at hP
  by_cases h12:op=12
  case pos =>
    subst h12
    clear h5 h6 h7
    rw [if_pos rfl] at hP
    by_cases hc:a < 8∧bb < 4
    case neg=>rw [if_neg hc] at hP;cases hP
    rw [if_pos hc] at hP
    obtain ⟨rfl,rfl⟩:=Prod.mk.inj (Option.some.inj hP)
    have hi:Hid (a < 8∧bb < 4):=Lib.hid hc
    clear hP hc HH
    have ha:a < 8:=hi.out.1
    have hai:(a:Int) < 8:=by omega
    have hbb:bb < 4:=hi.out.2
    have zu:(bb:Int) < 4:=by omega
    have i0:W.cell? ⟨G+2,0,none⟩=some (.int .u8 12):=HT.out.base.m2.cell 0
    have i1:W.cell? ⟨G+2,1,none⟩=some (.int .u8 a):=HT.out.base.m2.cell 1
    have i2:W.cell? ⟨G+2,2,none⟩=some (.int .u8 bb):=HT.out.base.m2.cell 2
    have cr:=HT.out.Zk bb hbb
    go_wp2
    go_still_tail 7,(by kernel_rfl)
    clear cr i0 i1 i2
    change wpList _ _ _ _ _ W.drew
    have HT2:=af.mk HT.out.drew
    clear HT
    generalize W.drew=W1 at HT2 ⊢
    have fs:=HT2.out.ps.fr a
    have cs:=HT2.out.qg a ha
    go_upto_region 17 with (fail)
    clear fs cs
    have HQ:=af.mk (HT2.out.Qc a ha (s.g bb))
    have XR:=HV
    clear HT2
    change Code.wp _ _ _ _ (W1.setCell ⟨g8,a,none⟩ (.int .i64 (s.g bb)))
    generalize W1.setCell ⟨g8,a,none⟩ (.int .i64 (s.g bb))=W2 at HQ ⊢
    have Jf:=HQ.out.ps
    have hth:W2.there (G+1) 8 8:=HQ.out.base.m1.there 8 8 (show 8+8≤24 by omega)
    go_upto_region 18 with (first|((with_reducible refine bD (N:=76) rfl ?_);refine wpList_load_row rfl 31 (.tmp 8) rfl g8 rfl 31 (dK (upd s.p a (s.g bb))) (0,0) _ Jf Tryd.underlying31 rfl (by kernel_rfl) ?_)|(skip;refine wpList_store_mid rfl 31 (.tmp 77) (.tmp 76) rfl (G+1) 8 (dK (upd s.p a (s.g bb))) rfl rfl hth (by kernel_rfl) (iQ _) ?_))
    have hs:=HQ.out.base.m1.wJ (upd s.p a (s.g bb))
    have hr:=HQ.out.base.m3.iR (h:=G+1) 8 (dK (upd s.p a (s.g bb))).toList (by omega)
    have CU:=HQ.out.gs.iR (h:=G+1) 8 (dK (upd s.p a (s.g bb))).toList (by have:=HQ.out.LD;omega)
    have hb2:=Lib.hid (gB (dK (upd s.p a (s.g bb))).toList _ (G+1) 8 HQ.out.base.mb (show G≤G+1 by omega))
    clear Jf hth HQ
    change Code.wp _ _ _ _ (W2.setCells (G+1) 8 (dK (upd s.p a (s.g bb))).toList)
    generalize W2.setCells (G+1) 8 (dK (upd s.p a (s.g bb))).toList=V at hs hr CU hb2 ⊢
    have hth:V.there (G+1) 16 4:=hs.there 16 4 (show 16+4≤24 by omega)
    go_upto_region 19 with (first|((with_reducible refine bD (N:=78) rfl ?_);refine wpList_load_row rfl 32 (.tmp 9) rfl g9 rfl 32 (row4 (s.g)) (0,0) _ CU Tryd.underlying32 rfl (by kernel_rfl) ?_)|(skip;refine wpList_store_mid rfl 32 (.tmp 79) (.tmp 78) rfl (G+1) 16 (row4 (s.g)) rfl rfl hth (by kernel_rfl) (qO _) ?_))
    have hs2:=hs.yQ (s.g)
    have hr2:=hr.iR (h:=G+1) 16 (row4 (s.g)).toList (by omega)
    have hb3:=Lib.hid (gB (row4 (s.g)).toList _ (G+1) 16 hb2.out (show G≤G+1 by omega))
    clear hs hr CU hth hb2
    change Code.wp _ _ _ _ (V.setCells (G+1) 16 (row4 (s.g)).toList)
    generalize V.setCells (G+1) 16 (row4 (s.g)).toList=V2 at hs2 hr2 hb3 ⊢
    have hone:=XR.out.rd.one { s with p:=upd s.p a (s.g bb) }
    go_wp2_with (first|((with_reducible refine bD (N:=80) rfl ?_);refine wpList_load_row rfl 36 (.tmp 4) rfl (G+1) rfl 36 (cellsS { s with p:=upd s.p a (s.g bb) } vO vU) (0,0) _ hs2 Tryd.underlying36 rfl (by kernel_rfl) ?_)|(skip;refine wpList_store_row rfl 36 (.tmp 6) (.tmp 80) rfl (G+1+1+1) (cellsS { s with p:=upd s.p a (s.g bb) } vO vU) rfl rfl 36 _ hr2 (by kernel_rfl) rfl hone ?_))
    (try simp only [Exit.inBlock,Exit.then])
    refine bodyPost_ret (dU rfl _ _ (G+1+1+1) 36 _ (0,0) _ rfl (hr2.setRow (cellsS { s with p:=upd s.p a (s.g bb) } vO vU)) Tryd.underlying36 rfl (by kernel_rfl)) rfl ?_
    have hb4:=dm (g:=G+3) hb3.out (by omega) (cellsS { s with p:=upd s.p a (s.g bb) } vO vU)
    exact ⟨_,_,rfl,(HV.out.below (by rw [hG];exact hb4)).as rfl rfl,by first|exact hb4|(rw [hG];exact hb4)⟩
  rw [if_neg h12] at hP
  by_cases h13:op=13
  case pos =>
    subst h13
    clear h5 h6 h7 h12
    rw [if_pos rfl] at hP
    by_cases hc:a < 4∧bb < 8
    case neg=>rw [if_neg hc] at hP;cases hP
    rw [if_pos hc] at hP
    obtain ⟨rfl,rfl⟩:=Prod.mk.inj (Option.some.inj hP)
    have hi:Hid (a < 4∧bb < 8):=Lib.hid hc
    clear hP hc HH
    have ha:a < 4:=hi.out.1
    have hai:(a:Int) < 4:=by omega
    have hbb:bb < 8:=hi.out.2
    have zu:(bb:Int) < 8:=by omega
    have i0:W.cell? ⟨G+2,0,none⟩=some (.int .u8 13):=HT.out.base.m2.cell 0
    have i1:W.cell? ⟨G+2,1,none⟩=some (.int .u8 a):=HT.out.base.m2.cell 1
    have i2:W.cell? ⟨G+2,2,none⟩=some (.int .u8 bb):=HT.out.base.m2.cell 2
    have cr:=HT.out.qg bb hbb
    go_wp2
    go_still_tail 7,(by kernel_rfl)
    clear cr i0 i1 i2
    change wpList _ _ _ _ _ W.drew
    have HT2:=af.mk HT.out.drew
    clear HT
    generalize W.drew=W1 at HT2 ⊢
    have fs:=HT2.out.gs.fr a
    have cs:=HT2.out.Zk a ha
    go_upto_region 17 with (fail)
    clear fs cs
    have HQ:=af.mk (HT2.out.agM a ha (s.p bb))
    have XR:=HV
    clear HT2
    change Code.wp _ _ _ _ (W1.setCell ⟨g9,a,none⟩ (.int .i64 (s.p bb)))
    generalize W1.setCell ⟨g9,a,none⟩ (.int .i64 (s.p bb))=W2 at HQ ⊢
    have Jf:=HQ.out.ps
    have hth:W2.there (G+1) 8 8:=HQ.out.base.m1.there 8 8 (show 8+8≤24 by omega)
    go_upto_region 18 with (first|((with_reducible refine bD (N:=76) rfl ?_);refine wpList_load_row rfl 31 (.tmp 8) rfl g8 rfl 31 (dK (s.p)) (0,0) _ Jf Tryd.underlying31 rfl (by kernel_rfl) ?_)|(skip;refine wpList_store_mid rfl 31 (.tmp 77) (.tmp 76) rfl (G+1) 8 (dK (s.p)) rfl rfl hth (by kernel_rfl) (iQ _) ?_))
    have hs:=HQ.out.base.m1.wJ (s.p)
    have hr:=HQ.out.base.m3.iR (h:=G+1) 8 (dK (s.p)).toList (by omega)
    have CU:=HQ.out.gs.iR (h:=G+1) 8 (dK (s.p)).toList (by have:=HQ.out.LD;omega)
    have hb2:=Lib.hid (gB (dK (s.p)).toList _ (G+1) 8 HQ.out.base.mb (show G≤G+1 by omega))
    clear Jf hth HQ
    change Code.wp _ _ _ _ (W2.setCells (G+1) 8 (dK (s.p)).toList)
    generalize W2.setCells (G+1) 8 (dK (s.p)).toList=V at hs hr CU hb2 ⊢
    have hth:V.there (G+1) 16 4:=hs.there 16 4 (show 16+4≤24 by omega)
    go_upto_region 19 with (first|((with_reducible refine bD (N:=78) rfl ?_);refine wpList_load_row rfl 32 (.tmp 9) rfl g9 rfl 32 (row4 (upd s.g a (s.p bb))) (0,0) _ CU Tryd.underlying32 rfl (by kernel_rfl) ?_)|(skip;refine wpList_store_mid rfl 32 (.tmp 79) (.tmp 78) rfl (G+1) 16 (row4 (upd s.g a (s.p bb))) rfl rfl hth (by kernel_rfl) (qO _) ?_))
    have hs2:=hs.yQ (upd s.g a (s.p bb))
    have hr2:=hr.iR (h:=G+1) 16 (row4 (upd s.g a (s.p bb))).toList (by omega)
    have hb3:=Lib.hid (gB (row4 (upd s.g a (s.p bb))).toList _ (G+1) 16 hb2.out (show G≤G+1 by omega))
    clear hs hr CU hth hb2
    change Code.wp _ _ _ _ (V.setCells (G+1) 16 (row4 (upd s.g a (s.p bb))).toList)
    generalize V.setCells (G+1) 16 (row4 (upd s.g a (s.p bb))).toList=V2 at hs2 hr2 hb3 ⊢
    have hone:=XR.out.rd.one { s with g:=upd s.g a (s.p bb) }
    go_wp2_with (first|((with_reducible refine bD (N:=80) rfl ?_);refine wpList_load_row rfl 36 (.tmp 4) rfl (G+1) rfl 36 (cellsS { s with g:=upd s.g a (s.p bb) } vO vU) (0,0) _ hs2 Tryd.underlying36 rfl (by kernel_rfl) ?_)|(skip;refine wpList_store_row rfl 36 (.tmp 6) (.tmp 80) rfl (G+1+1+1) (cellsS { s with g:=upd s.g a (s.p bb) } vO vU) rfl rfl 36 _ hr2 (by kernel_rfl) rfl hone ?_))
    (try simp only [Exit.inBlock,Exit.then])
    refine bodyPost_ret (dU rfl _ _ (G+1+1+1) 36 _ (0,0) _ rfl (hr2.setRow (cellsS { s with g:=upd s.g a (s.p bb) } vO vU)) Tryd.underlying36 rfl (by kernel_rfl)) rfl ?_
    have hb4:=dm (g:=G+3) hb3.out (by omega) (cellsS { s with g:=upd s.g a (s.p bb) } vO vU)
    exact ⟨_,_,rfl,(HV.out.below (by rw [hG];exact hb4)).as rfl rfl,by first|exact hb4|(rw [hG];exact hb4)⟩
  rw [if_neg h13] at hP
  obtain ⟨rfl,rfl⟩:=Prod.mk.inj (Option.some.inj hP)
  have d5:((op:Int) == 5)=false:=beq_eq_false_iff_ne.2 (by omega)
  have d6:((op:Int) == 6)=false:=beq_eq_false_iff_ne.2 (by omega)
  have d7:((op:Int) == 7)=false:=beq_eq_false_iff_ne.2 (by omega)
  have d12:((op:Int) == 12)=false:=beq_eq_false_iff_ne.2 (by omega)
  have d13:((op:Int) == 13)=false:=beq_eq_false_iff_ne.2 (by omega)
  clear h5 h6 h7 h12 h13 hP HH
  have i0:W.cell? ⟨G+2,0,none⟩=some (.int .u8 op):=HT.out.base.m2.cell 0
  go_upto_region 3 with (fail)
  have hs2:=HT.out.base.m1
  have hr2:=HT.out.base.m3
  have hone:=HV.out.rd.one s
  go_wp2_with (first|((with_reducible refine bD (N:=18) rfl ?_);refine wpList_load_row rfl 36 (.tmp 4) rfl (G+1) rfl 36 (cellsS s vO vU) (0,0) _ hs2 Tryd.underlying36 rfl (by kernel_rfl) ?_)|(skip;refine wpList_store_row rfl 36 (.tmp 6) (.tmp 18) rfl (G+1+1+1) (cellsS s vO vU) rfl rfl 36 _ hr2 (by kernel_rfl) rfl hone ?_))
  (try simp only [Exit.inBlock,Exit.then])
  refine bodyPost_ret (dU rfl _ _ (G+1+1+1) 36 _ (0,0) _ rfl (hr2.setRow (cellsS s vO vU)) Tryd.underlying36 rfl (by kernel_rfl)) rfl ?_
  have hb4:=dm (g:=G+3) HT.out.base.mb (by omega) (cellsS s vO vU)
  exact ⟨_,_,rfl,HV.out.below (by rw [hG];exact hb4),by first|exact hb4|(rw [hG];exact hb4)⟩
end Go.Proofs.YtgfnpdfhdgenbaaDoor.P
end
end
section
section
namespace Go.Proofs.YtgfnpdfhdgenbaaDoor.P
open Go.RowKit Go.Proofs.ae.bf Go.Proofs.ae.bY Go.Proofs.ae.cZ
set_option maxRecDepth 100000 in
set_option maxHeartbeats 3200000 in
theorem Ba (A:Option Addr) (c:Nat) (xs:List (List Int)) (hs0:List Hd) (row:List Int) (o m:Nat) (v:Int) (w:World) (hl0:hs0.length=xs.length) (hH0:Kd.C kH w A xs.length hs0) (hC:Kd.C wR w A xs.length xs) (hc:xs.length≤c) (ho:o < xs.length) (hlim:xs.length≤1000000) (hr:xs[o]? = some row) (hm:m < row.length) (hrl:row.length≤1000000) :
    Calls Tryd.prog 29 #[.slice A xs.length c,.int .i64 ((o:Int)+1),.int .i64 m,.int .i64 v] w fun e w'=>∃ A' c' q,e=.returned (.slice A' xs.length c')∧q.2.1=row.length∧Kd.R kH 34 w' w.heap.size (fun _=>True) (.slice A' xs.length c') (hs0.set o q)∧Kd.R (Kd.int .i64) 2 w' w.heap.size (fun _=>True) (Oe q) (row.set m v)∧Below w.heap.size w w':=by
  have HO:=af.mk (yH kH 34 w w.heap.size (fun _=>True) (Nat.le_refl _) trivial)
  have HB:=af.mk ((Below.refl w.heap.size w).alloc (Nat.le_refl _) (.cells #[] 34))
  have HCH:=af.mk (Kd.dG hH0 (.cells #[] 34))
  have xE:=Lib.hid hl0
  have HC:=Lib.hid hC
  have HR:=Lib.hid hr
  clear hl0 hH0 hC hr
  go_enter Tryd.func29,Tryd.ntmps29
  go_upto_region 2 with ((with_reducible refine lu (b:=.append) (xs:=#[.tmp 11,.tmp 12]) rfl ?_);at_builtin;refine Kd.oW kH (w0:=w) w.heap.size rfl (.tmp 11) (.tmp 12) 33 34 (.slice none 0 0) 24 rfl Tryd.underlying33 Ce rfl (by decide) (by omega) _ [] hs0 _ _ _ (fun _=>True) (fun _=>False) rfl rfl HO.out HCH.out (fun _ _ h=>h) (fun _ h=>h.elim) (fun _ _=>trivial) HB.out (by simp) (by simp;omega) ?_;intro v1 w1 hR1 hB1 hg1 vN;have HR1:=Lib.hid hR1;have HB1:=Lib.hid hB1;clear hR1 hB1 hg1 vN)
  clear HO HB HCH
  have hr1:Kd.R kH 34 w1 w.heap.size (fun _=>True) v1 hs0:=by have q:=HR1.out;rwa [List.nil_append] at q
  obtain ⟨g,c1,e1,hg1,hg2,_⟩:=Kd.zL hr1 (by rw [xE.out];omega)
  rw [xE.out] at e1
  subst e1
  have HR2:=Lib.hid hr1
  clear HR1 hr1
  have Zm:xs[o]=row:=by have h:=HR.out;rw [List.getElem?_eq_getElem ho] at h;exact Option.some.inj h
  obtain ⟨ad,A1,c2,e0,hx,hx1,hx2⟩:=wW (Kd.dG (Kd.bQ HC.out HB1.out) (.cells #[] 2)) (o:Int) (by omega) (by omega)
  have KC:jl xs (o:Int)=row:=by show xs.getD (o:Int).toNat []=row;rw [Int.toNat_natCast,List.getD_eq_getElem?_getD,HR.out];rfl
  rw [KC] at hx hx1 hx2
  rw [Int.toNat_natCast] at hx
  subst e0
  have Ye:IntKind.i64.wrap ((o:Int)+1 - 1)=(o:Int):=by rw [Int.add_sub_cancel];exact IntWalk.i64_in _ (by omega)
  have Yc:wrap64 ((o:Int)+1 - 1)=(o:Int):=by rw [Int.add_sub_cancel];unfold wrap64;omega
  have j0:(0≤(o:Int))=True:=eq_true (by omega)
  have j1:((o:Int) < (xs.length:Int))=True:=eq_true (by omega)
  have PI:=af.mk (yH (Kd.int .i64) 2 w1 w1.heap.size (fun _=>True) (Nat.le_refl _) trivial)
  have HB2:=af.mk ((Below.refl w1.heap.size w1).alloc (Nat.le_refl _) (.cells #[] 2))
  have HX2:=af.mk hx2
  have akV:=Lib.hid Zm
  clear hx1 hx2 KC Zm
  go_upto_region 3 with ((with_reducible refine lu (b:=.append) (xs:=#[.tmp 14,.tmp 19]) rfl ?_);at_builtin;refine Kd.oW (Kd.int .i64) (w0:=w1) w1.heap.size rfl (.tmp 14) (.tmp 19) 34 2 (.int .i64 0) 8 rfl Tryd.underlying34 Je rfl (by decide) (by omega) _ [] row _ _ _ (fun _=>True) (fun _=>False) rfl rfl PI.out HX2.out (fun _ _ h=>h) (fun _ h=>h.elim) (fun _ _=>trivial) HB2.out (by simp) (by simp;omega) ?_;intro v2 w2 hR2 hB2 ag2 LP;have HR3:=Lib.hid hR2;have HB3:=Lib.hid hB2;clear hR2 hB2 ag2 LP)
  clear PI HB2 HX2 hx
  have hr3:Kd.R (Kd.int .i64) 2 w2 w1.heap.size (fun _=>True) v2 row:=by have q:=HR3.out;rwa [List.nil_append] at q
  obtain ⟨g2,c3,e2,hg3,hg4,_⟩:=Kd.zL hr3 (by omega)
  subst e2
  have HR4:=Lib.hid hr3
  have k1:=Kd.rZ (h1:=fun _=>rfl) (0:Int) hr3 (m:Int) (by omega) (by omega)
  rw [Int.toNat_natCast] at k1
  obtain ⟨k1,k2⟩:=k1
  have j2:(0≤(m:Int))=True:=eq_true (by omega)
  have j3:((m:Int) < (row.length:Int))=True:=eq_true (by omega)
  clear HR3 hr3
  go_upto_region 4 with (fail)
  clear k1 k2
  have Ul:=Lib.hid (show Kd.R (Kd.int .i64) 2 (w2.setCell ⟨g2,m,none⟩ (.int .i64 v)) w1.heap.size (fun _=>True) (.slice (some ⟨g2,0,none⟩) row.length c3) (row.set m v) from by have q:=Kd.OT (h1:=fun _=>rfl) HR4.out (m:Int) v;rwa [Int.toNat_natCast] at q)
  have HR6:=Lib.hid (Kd.kY (w1:=w2.setCell ⟨g2,m,none⟩ (.int .i64 v)) HR2.out (fun k _ hk=>(Below.heap_setCell w2 ⟨g2,m,none⟩ _ k (by show k ≠ g2;omega)).trans (HB3.out.block k hk)))
  have HB4:=Lib.hid (HB3.out.setCell (p:=⟨g2,m,none⟩) hg3 (.int .i64 v))
  clear HR4 HB3
  change Code.wp _ _ _ _ (w2.setCell ⟨g2,m,none⟩ (.int .i64 v))
  generalize w2.setCell ⟨g2,m,none⟩ (.int .i64 v)=w3 at Ul HR6 HB4 ⊢
  have k1:=Kd.rZ (h1:=fun _=>rfl) ((none,0,0):Hd) HR6.out (o:Int) (by omega) (by omega)
  rw [Int.toNat_natCast] at k1
  obtain ⟨k1,k2⟩:=k1
  obtain ⟨u,hu⟩:∃ u,Oe (eG ((none,0,0):Hd) hs0 (o:Int))=u:=⟨_,rfl⟩
  rw [hu] at k1
  have HU:=Lib.hid hu
  clear hu
  go_upto_region 5 with (fail)
  clear k1 k2
  have HR7:=Lib.hid (show Kd.R kH 34 (w3.setCell ⟨g,o,none⟩ (.slice (some ⟨g2,0,none⟩) row.length c3)) w.heap.size (fun _=>True) (.slice (some ⟨g,0,none⟩) xs.length c1) (hs0.set o (some ⟨g2,0,none⟩,row.length,c3)) from by have q:=Kd.OT (h1:=fun _=>rfl) HR6.out (o:Int) (some ⟨g2,0,none⟩,row.length,c3);rwa [Int.toNat_natCast] at q)
  have hne:g ≠ g2:=by omega
  have HR8:=Lib.hid (Kd.kY (w1:=w3.setCell ⟨g,o,none⟩ (.slice (some ⟨g2,0,none⟩) row.length c3)) (Kd.mG Ul.out) (fun k hk _=>Below.heap_setCell w3 ⟨g,o,none⟩ _ k (by show k ≠ g;have:=hk.2.1;omega)))
  have Ee:=Lib.hid ((HB1.out.trans (HB4.out.mono HB1.out.size)).setCell (p:=⟨g,o,none⟩) hg1 (.slice (some ⟨g2,0,none⟩) row.length c3))
  clear Ul HR6 HB4
  change Code.wp _ _ _ _ (w3.setCell ⟨g,o,none⟩ (.slice (some ⟨g2,0,none⟩) row.length c3))
  generalize w3.setCell ⟨g,o,none⟩ (.slice (some ⟨g2,0,none⟩) row.length c3)=w4 at HR7 HR8 Ee ⊢
  go_wp2
  go_ret
  exact ⟨_,_,(some ⟨g2,0,none⟩,row.length,c3),rfl,rfl,HR7.out,Kd.mg (Kd.qG HR8.out HB1.out.size) (fun _ _=>trivial),Ee.out⟩
end Go.Proofs.YtgfnpdfhdgenbaaDoor.P
end
end
