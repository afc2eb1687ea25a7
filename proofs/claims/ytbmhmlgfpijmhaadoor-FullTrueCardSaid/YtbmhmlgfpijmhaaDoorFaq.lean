/- Parts of the proof of FullTrue: what the functions that it reaches compute, and plain facts about that. -/
import Derived.Test.YtbmhmlgfpijmhaaDoorFap
set_option linter.unusedVariables false
set_option linter.unusedSimpArgs false
section
section
namespace Go.Proofs.YtbmhmlgfpijmhaaDoor.P
open Go.RowKit Go.Proofs.af.bG Go.Proofs.af.dD Go.Proofs.af.dM
structure o5 (G:Nat) (S I Z:Array Value) (w W:World):Prop where
  m0:Bk W G S 36
  m1:Bk W (G+1) I 39
  m2:Bk W (G+2) Z 36
  mb:Below G w W
  sz:G+3≤W.heap.size
section
variable {G:Nat} {S I Z:Array Value} {w W W1:World}
theorem o5.below (h:o5 G S I Z w W) (hb:Below W.heap.size W W1):o5 G S I Z w W1 :=
  ⟨h.m0.below hb,h.m1.below hb,h.m2.below hb,h.mb.trans (hb.mono (by have:=h.sz;omega)),Nat.le_trans h.sz hb.size⟩
theorem o5.drew (h:o5 G S I Z w W):o5 G S I Z w W.drew:=⟨h.m0,h.m1,h.m2,⟨h.mb.os,h.mb.tape,h.mb.output,h.mb.size,h.mb.block⟩,h.sz⟩
theorem o5.far (h:o5 G S I Z w W) (g j:Nat) (v:Value) (hg:G+3≤g):o5 G S I Z w (W.setCell ⟨g,j,none⟩ v) :=
  ⟨h.m0.far j v (by omega),h.m1.far j v (by omega),h.m2.far j v (by omega),h.mb.setCell (p:=⟨g,j,none⟩) (by show G≤g;omega) v,by simp [World.setCell];exact h.sz⟩
theorem o5.gB (h:o5 G S I Z w W) (g:Nat) (cs:Array Value) (hg:G+3≤g):o5 G S I Z w (W.setRow g cs) :=
  ⟨h.m0.gB cs (by omega),h.m1.gB cs (by omega),h.m2.gB cs (by omega),dE h.mb (by omega) cs,by rw [size_setRow];exact h.sz⟩
theorem o5.set {S':Array Value} (h:o5 G S I Z w W) (j:Nat) (v:Value) (e:S.setIfInBounds j v=S'):o5 G S' I Z w (W.setCell ⟨G,j,none⟩ v) :=
  ⟨e ▸ h.m0.set j v,h.m1.far j v (by omega),h.m2.far j v (by omega),h.mb.setCell (p:=⟨G,j,none⟩) (Nat.le_refl G) v,by simp [World.setCell];exact h.sz⟩
theorem o5.cells {S':Array Value} (h:o5 G S I Z w W) (j:Nat) (vs:List Value) (e:Bk (W.setCells G j vs) G S' 36):o5 G S' I Z w (W.setCells G j vs) :=
  ⟨e,h.m1.jf j vs (by omega),h.m2.jf j vs (by omega),ik vs _ G j h.mb (Nat.le_refl G),by rw [setCells_size];exact h.sz⟩
end
theorem xH (S I Z:Array Value) (w:World):o5 w.heap.size S I Z w (((w.alloc (.cells S 36)).alloc (.cells I 39)).alloc (.cells Z 36)):=by
  have h1:=Bk.new w S 36
  have h2:=Bk.new (w.alloc (.cells S 36)) I 39
  have h3:=Bk.new ((w.alloc (.cells S 36)).alloc (.cells I 39)) Z 36
  rw [show (w.alloc (.cells S 36)).heap.size=w.heap.size+1 by simp] at h2
  rw [show ((w.alloc (.cells S 36)).alloc (.cells I 39)).heap.size=w.heap.size+2 by simp] at h3
  exact ⟨(h1.alloc _).alloc _,h2.alloc _,h3,(((Below.refl _ w).alloc (Nat.le_refl _) _).alloc (by simp) _).alloc (by simp;omega) _,by simp⟩
set_option maxRecDepth 100000 in
set_option maxHeartbeats 3200000 in
theorem GK (s:St) (vO vU:Value) (a bb cc:Nat) (n:Int) (hbb:bb < 8) (hz:s.p bb=0) (w:World) (hv:qC s vO vU w) :
    Calls Tryd.prog 26 #[.agg (cellsS s vO vU),.agg #[.int .u8 8,.int .u8 a,.int .u8 bb,.int .u8 cc,.int .i64 n]] w fun e w'=>∃ qf qc,e=.returned (.tuple #[.agg (cellsS s qf qc),.int .i64 9])∧qC s qf qc w'∧Below w.heap.size w w':=by
  obtain ⟨AO,cO,hs0,rfl,Oc,hl0,hH0,hE0⟩:=hv.bH
  obtain ⟨AU,cU,rfl,Uf,hU⟩:=hv.out
  have hO:Kd.C yh w AO s.bH.length s.bH:=by
    obtain ⟨A5,c5,e5,h5,h6⟩:=hv.rd.bH
    injection e5 with e6 e7 e8
    rw [e6]
    exact h6
  obtain ⟨G,hG⟩:∃ G,w.heap.size=G:=⟨_,rfl⟩
  obtain ⟨W,hW⟩:∃ W,((w.alloc (.cells (cellsS s (.slice AO s.bH.length cO) (.slice AU s.out.length cU)) 36)).alloc (.cells #[.int .u8 8,.int .u8 a,.int .u8 bb,.int .u8 cc,.int .i64 n] 39)).alloc (.cells #[.int .i64 0,.int .i64 0,.int .i64 0,.int .i64 0,.int .i64 0,.int .i64 0,.int .i64 0,.int .i64 0,.int .i64 0,.int .i64 0,.int .i64 0,.int .i64 0,.int .i64 0,.int .i64 0,.int .i64 0,.int .i64 0,.int .i64 0,.int .i64 0,.int .i64 0,.int .i64 0,.slice none 0 0,.slice none 0 0,.int .i64 0,.int .i64 0] 36)=W:=⟨_,rfl⟩
  have hM:=xH (cellsS s (.slice AO s.bH.length cO) (.slice AU s.out.length cU)) #[.int .u8 8,.int .u8 a,.int .u8 bb,.int .u8 cc,.int .i64 n] #[.int .i64 0,.int .i64 0,.int .i64 0,.int .i64 0,.int .i64 0,.int .i64 0,.int .i64 0,.int .i64 0,.int .i64 0,.int .i64 0,.int .i64 0,.int .i64 0,.int .i64 0,.int .i64 0,.int .i64 0,.int .i64 0,.int .i64 0,.int .i64 0,.int .i64 0,.int .i64 0,.slice none 0 0,.slice none 0 0,.int .i64 0,.int .i64 0] w
  rw [hW,hG] at hM
  have HM:=ae.mk hM
  have HV:=ae.mk hv
  have HO:=ae.mk (Kd.bW hO (by rw [hG];exact hM.mb))
  have PG:=Lib.hid hH0
  have O7:=Lib.hid hE0
  have xU:=Lib.hid hl0
  clear hH0 hE0 hl0
  have i0:W.cell? ⟨G+1,0,none⟩=some (.int .u8 8):=hM.m1.cell 0
  have i1:W.cell? ⟨G+1,1,none⟩=some (.int .u8 a):=hM.m1.cell 1
  have i2:W.cell? ⟨G+1,2,none⟩=some (.int .u8 bb):=hM.m1.cell 2
  have i4:W.cell? ⟨G+1,4,none⟩=some (.int .i64 n):=hM.m1.cell 4
  have c20:W.cell? ⟨G,20,none⟩=some (.slice AO s.bH.length cO):=hM.m0.cell 20
  have zI:(bb:Int) < 8:=by omega
  have cp:W.cell? ⟨G,8+bb,none⟩=some (.int .i64 0):=by rw [hM.m0.rP bb hbb,hz]
  clear hz
  clear hM hv hU hO
  go_enter Tryd.func26,Tryd.ntmps26
  go_upto_region 6 with (fail)
  clear hW
  clear cp i0 i1 i2 i4 c20
  have hs:=HM.out.m0
  have hr:=HM.out.m2
  have hb2:=Lib.hid HM.out.mb
  have hone:=HV.out.rd.one s
  go_wp2_with (first|((with_reducible refine bI (N:=29) rfl ?_);refine wpList_load_row rfl 36 (.tmp 2) rfl G rfl 36 (cellsS s (.slice AO s.bH.length cO) (.slice AU s.out.length cU)) (0,0) _ hs Tryd.underlying36 rfl (by kernel_rfl) ?_)|(skip;refine wpList_store_row rfl 36 (.tmp 4) (.tmp 29) rfl (G+1+1) (cellsS s (.slice AO s.bH.length cO) (.slice AU s.out.length cU)) rfl rfl 36 _ hr (by kernel_rfl) rfl hone ?_))
  (try simp only [Exit.inBlock,Exit.then])
  refine bodyPost_ret (fF rfl _ _ (G+1+1) 36 _ (0,0) _ rfl (hr.setRow (cellsS s (.slice AO s.bH.length cO) (.slice AU s.out.length cU))) Tryd.underlying36 rfl (by kernel_rfl)) rfl ?_
  have hb3:=dE (g:=G+2) hb2.out (by omega) (cellsS s (.slice AO s.bH.length cO) (.slice AU s.out.length cU))
  exact ⟨_,_,rfl,(HV.out.below (by rw [hG];exact hb3)).as rfl rfl,by first|exact hb3|(rw [hG];exact hb3)⟩
set_option maxRecDepth 100000 in
set_option maxHeartbeats 3200000 in
theorem EM (s:St) (vO vU:Value) (a bb cc:Nat) (n:Int) (hbb:bb < 8) (hz:s.p bb=0) (w:World) (hv:qC s vO vU w) :
    Calls Tryd.prog 26 #[.agg (cellsS s vO vU),.agg #[.int .u8 10,.int .u8 a,.int .u8 bb,.int .u8 cc,.int .i64 n]] w fun e w'=>∃ qf qc,e=.returned (.tuple #[.agg (cellsS s qf qc),.int .i64 9])∧qC s qf qc w'∧Below w.heap.size w w':=by
  obtain ⟨AO,cO,hs0,rfl,Oc,hl0,hH0,hE0⟩:=hv.bH
  obtain ⟨AU,cU,rfl,Uf,hU⟩:=hv.out
  have hO:Kd.C yh w AO s.bH.length s.bH:=by
    obtain ⟨A5,c5,e5,h5,h6⟩:=hv.rd.bH
    injection e5 with e6 e7 e8
    rw [e6]
    exact h6
  obtain ⟨G,hG⟩:∃ G,w.heap.size=G:=⟨_,rfl⟩
  obtain ⟨W,hW⟩:∃ W,((w.alloc (.cells (cellsS s (.slice AO s.bH.length cO) (.slice AU s.out.length cU)) 36)).alloc (.cells #[.int .u8 10,.int .u8 a,.int .u8 bb,.int .u8 cc,.int .i64 n] 39)).alloc (.cells #[.int .i64 0,.int .i64 0,.int .i64 0,.int .i64 0,.int .i64 0,.int .i64 0,.int .i64 0,.int .i64 0,.int .i64 0,.int .i64 0,.int .i64 0,.int .i64 0,.int .i64 0,.int .i64 0,.int .i64 0,.int .i64 0,.int .i64 0,.int .i64 0,.int .i64 0,.int .i64 0,.slice none 0 0,.slice none 0 0,.int .i64 0,.int .i64 0] 36)=W:=⟨_,rfl⟩
  have hM:=xH (cellsS s (.slice AO s.bH.length cO) (.slice AU s.out.length cU)) #[.int .u8 10,.int .u8 a,.int .u8 bb,.int .u8 cc,.int .i64 n] #[.int .i64 0,.int .i64 0,.int .i64 0,.int .i64 0,.int .i64 0,.int .i64 0,.int .i64 0,.int .i64 0,.int .i64 0,.int .i64 0,.int .i64 0,.int .i64 0,.int .i64 0,.int .i64 0,.int .i64 0,.int .i64 0,.int .i64 0,.int .i64 0,.int .i64 0,.int .i64 0,.slice none 0 0,.slice none 0 0,.int .i64 0,.int .i64 0] w
  rw [hW,hG] at hM
  have HM:=ae.mk hM
  have HV:=ae.mk hv
  have HO:=ae.mk (Kd.bW hO (by rw [hG];exact hM.mb))
  have PG:=Lib.hid hH0
  have O7:=Lib.hid hE0
  have xU:=Lib.hid hl0
  clear hH0 hE0 hl0
  have i0:W.cell? ⟨G+1,0,none⟩=some (.int .u8 10):=hM.m1.cell 0
  have i1:W.cell? ⟨G+1,1,none⟩=some (.int .u8 a):=hM.m1.cell 1
  have i2:W.cell? ⟨G+1,2,none⟩=some (.int .u8 bb):=hM.m1.cell 2
  have i4:W.cell? ⟨G+1,4,none⟩=some (.int .i64 n):=hM.m1.cell 4
  have c20:W.cell? ⟨G,20,none⟩=some (.slice AO s.bH.length cO):=hM.m0.cell 20
  have zI:(bb:Int) < 8:=by omega
  have cp:W.cell? ⟨G,8+bb,none⟩=some (.int .i64 0):=by rw [hM.m0.rP bb hbb,hz]
  clear hz
  clear hM hv hU hO
  go_enter Tryd.func26,Tryd.ntmps26
  go_upto_region 6 with (fail)
  clear hW
  clear cp i0 i1 i2 i4 c20
  have hs:=HM.out.m0
  have hr:=HM.out.m2
  have hb2:=Lib.hid HM.out.mb
  have hone:=HV.out.rd.one s
  go_wp2_with (first|((with_reducible refine bI (N:=29) rfl ?_);refine wpList_load_row rfl 36 (.tmp 2) rfl G rfl 36 (cellsS s (.slice AO s.bH.length cO) (.slice AU s.out.length cU)) (0,0) _ hs Tryd.underlying36 rfl (by kernel_rfl) ?_)|(skip;refine wpList_store_row rfl 36 (.tmp 4) (.tmp 29) rfl (G+1+1) (cellsS s (.slice AO s.bH.length cO) (.slice AU s.out.length cU)) rfl rfl 36 _ hr (by kernel_rfl) rfl hone ?_))
  (try simp only [Exit.inBlock,Exit.then])
  refine bodyPost_ret (fF rfl _ _ (G+1+1) 36 _ (0,0) _ rfl (hr.setRow (cellsS s (.slice AO s.bH.length cO) (.slice AU s.out.length cU))) Tryd.underlying36 rfl (by kernel_rfl)) rfl ?_
  have hb3:=dE (g:=G+2) hb2.out (by omega) (cellsS s (.slice AO s.bH.length cO) (.slice AU s.out.length cU))
  exact ⟨_,_,rfl,(HV.out.below (by rw [hG];exact hb3)).as rfl rfl,by first|exact hb3|(rw [hG];exact hb3)⟩
set_option maxRecDepth 100000 in
set_option maxHeartbeats 3200000 in
theorem GI (s:St) (vO vU:Value) (a bb cc:Nat) (n:Int) (ha:a < 8) (hz:s.p a=0) (w:World) (hv:qC s vO vU w) :
    Calls Tryd.prog 26 #[.agg (cellsS s vO vU),.agg #[.int .u8 9,.int .u8 a,.int .u8 bb,.int .u8 cc,.int .i64 n]] w fun e w'=>∃ qf qc,e=.returned (.tuple #[.agg (cellsS s qf qc),.int .i64 9])∧qC s qf qc w'∧Below w.heap.size w w':=by
  obtain ⟨AO,cO,hs0,rfl,Oc,hl0,hH0,hE0⟩:=hv.bH
  obtain ⟨AU,cU,rfl,Uf,hU⟩:=hv.out
  have hO:Kd.C yh w AO s.bH.length s.bH:=by
    obtain ⟨A5,c5,e5,h5,h6⟩:=hv.rd.bH
    injection e5 with e6 e7 e8
    rw [e6]
    exact h6
  obtain ⟨G,hG⟩:∃ G,w.heap.size=G:=⟨_,rfl⟩
  obtain ⟨W,hW⟩:∃ W,((w.alloc (.cells (cellsS s (.slice AO s.bH.length cO) (.slice AU s.out.length cU)) 36)).alloc (.cells #[.int .u8 9,.int .u8 a,.int .u8 bb,.int .u8 cc,.int .i64 n] 39)).alloc (.cells #[.int .i64 0,.int .i64 0,.int .i64 0,.int .i64 0,.int .i64 0,.int .i64 0,.int .i64 0,.int .i64 0,.int .i64 0,.int .i64 0,.int .i64 0,.int .i64 0,.int .i64 0,.int .i64 0,.int .i64 0,.int .i64 0,.int .i64 0,.int .i64 0,.int .i64 0,.int .i64 0,.slice none 0 0,.slice none 0 0,.int .i64 0,.int .i64 0] 36)=W:=⟨_,rfl⟩
  have hM:=xH (cellsS s (.slice AO s.bH.length cO) (.slice AU s.out.length cU)) #[.int .u8 9,.int .u8 a,.int .u8 bb,.int .u8 cc,.int .i64 n] #[.int .i64 0,.int .i64 0,.int .i64 0,.int .i64 0,.int .i64 0,.int .i64 0,.int .i64 0,.int .i64 0,.int .i64 0,.int .i64 0,.int .i64 0,.int .i64 0,.int .i64 0,.int .i64 0,.int .i64 0,.int .i64 0,.int .i64 0,.int .i64 0,.int .i64 0,.int .i64 0,.slice none 0 0,.slice none 0 0,.int .i64 0,.int .i64 0] w
  rw [hW,hG] at hM
  have HM:=ae.mk hM
  have HV:=ae.mk hv
  have HO:=ae.mk (Kd.bW hO (by rw [hG];exact hM.mb))
  have PG:=Lib.hid hH0
  have O7:=Lib.hid hE0
  have xU:=Lib.hid hl0
  clear hH0 hE0 hl0
  have i0:W.cell? ⟨G+1,0,none⟩=some (.int .u8 9):=hM.m1.cell 0
  have i1:W.cell? ⟨G+1,1,none⟩=some (.int .u8 a):=hM.m1.cell 1
  have i2:W.cell? ⟨G+1,2,none⟩=some (.int .u8 bb):=hM.m1.cell 2
  have i4:W.cell? ⟨G+1,4,none⟩=some (.int .i64 n):=hM.m1.cell 4
  have c20:W.cell? ⟨G,20,none⟩=some (.slice AO s.bH.length cO):=hM.m0.cell 20
  have hai:(a:Int) < 8:=by omega
  have cp:W.cell? ⟨G,8+a,none⟩=some (.int .i64 0):=by rw [hM.m0.rP a ha,hz]
  clear hz
  clear hM hv hU hO
  go_enter Tryd.func26,Tryd.ntmps26
  go_upto_region 6 with (fail)
  clear hW
  clear cp i0 i1 i2 i4 c20
  have hs:=HM.out.m0
  have hr:=HM.out.m2
  have hb2:=Lib.hid HM.out.mb
  have hone:=HV.out.rd.one s
  go_wp2_with (first|((with_reducible refine bI (N:=29) rfl ?_);refine wpList_load_row rfl 36 (.tmp 2) rfl G rfl 36 (cellsS s (.slice AO s.bH.length cO) (.slice AU s.out.length cU)) (0,0) _ hs Tryd.underlying36 rfl (by kernel_rfl) ?_)|(skip;refine wpList_store_row rfl 36 (.tmp 4) (.tmp 29) rfl (G+1+1) (cellsS s (.slice AO s.bH.length cO) (.slice AU s.out.length cU)) rfl rfl 36 _ hr (by kernel_rfl) rfl hone ?_))
  (try simp only [Exit.inBlock,Exit.then])
  refine bodyPost_ret (fF rfl _ _ (G+1+1) 36 _ (0,0) _ rfl (hr.setRow (cellsS s (.slice AO s.bH.length cO) (.slice AU s.out.length cU))) Tryd.underlying36 rfl (by kernel_rfl)) rfl ?_
  have hb3:=dE (g:=G+2) hb2.out (by omega) (cellsS s (.slice AO s.bH.length cO) (.slice AU s.out.length cU))
  exact ⟨_,_,rfl,(HV.out.below (by rw [hG];exact hb3)).as rfl rfl,by first|exact hb3|(rw [hG];exact hb3)⟩
set_option maxRecDepth 100000 in
set_option maxHeartbeats 3200000 in
theorem EL (s:St) (vO vU:Value) (a bb cc:Nat) (n:Int) (ha:a < 8) (hz:s.p a=0) (w:World) (hv:qC s vO vU w) :
    Calls Tryd.prog 26 #[.agg (cellsS s vO vU),.agg #[.int .u8 11,.int .u8 a,.int .u8 bb,.int .u8 cc,.int .i64 n]] w fun e w'=>∃ qf qc,e=.returned (.tuple #[.agg (cellsS s qf qc),.int .i64 9])∧qC s qf qc w'∧Below w.heap.size w w':=by
  obtain ⟨AO,cO,hs0,rfl,Oc,hl0,hH0,hE0⟩:=hv.bH
  obtain ⟨AU,cU,rfl,Uf,hU⟩:=hv.out
  have hO:Kd.C yh w AO s.bH.length s.bH:=by
    obtain ⟨A5,c5,e5,h5,h6⟩:=hv.rd.bH
    injection e5 with e6 e7 e8
    rw [e6]
    exact h6
  obtain ⟨G,hG⟩:∃ G,w.heap.size=G:=⟨_,rfl⟩
  obtain ⟨W,hW⟩:∃ W,((w.alloc (.cells (cellsS s (.slice AO s.bH.length cO) (.slice AU s.out.length cU)) 36)).alloc (.cells #[.int .u8 11,.int .u8 a,.int .u8 bb,.int .u8 cc,.int .i64 n] 39)).alloc (.cells #[.int .i64 0,.int .i64 0,.int .i64 0,.int .i64 0,.int .i64 0,.int .i64 0,.int .i64 0,.int .i64 0,.int .i64 0,.int .i64 0,.int .i64 0,.int .i64 0,.int .i64 0,.int .i64 0,.int .i64 0,.int .i64 0,.int .i64 0,.int .i64 0,.int .i64 0,.int .i64 0,.slice none 0 0,.slice none 0 0,.int .i64 0,.int .i64 0] 36)=W:=⟨_,rfl⟩
  have hM:=xH (cellsS s (.slice AO s.bH.length cO) (.slice AU s.out.length cU)) #[.int .u8 11,.int .u8 a,.int .u8 bb,.int .u8 cc,.int .i64 n] #[.int .i64 0,.int .i64 0,.int .i64 0,.int .i64 0,.int .i64 0,.int .i64 0,.int .i64 0,.int .i64 0,.int .i64 0,.int .i64 0,.int .i64 0,.int .i64 0,.int .i64 0,.int .i64 0,.int .i64 0,.int .i64 0,.int .i64 0,.int .i64 0,.int .i64 0,.int .i64 0,.slice none 0 0,.slice none 0 0,.int .i64 0,.int .i64 0] w
  rw [hW,hG] at hM
  have HM:=ae.mk hM
  have HV:=ae.mk hv
  have HO:=ae.mk (Kd.bW hO (by rw [hG];exact hM.mb))
  have PG:=Lib.hid hH0
  have O7:=Lib.hid hE0
  have xU:=Lib.hid hl0
  clear hH0 hE0 hl0
  have i0:W.cell? ⟨G+1,0,none⟩=some (.int .u8 11):=hM.m1.cell 0
  have i1:W.cell? ⟨G+1,1,none⟩=some (.int .u8 a):=hM.m1.cell 1
  have i2:W.cell? ⟨G+1,2,none⟩=some (.int .u8 bb):=hM.m1.cell 2
  have i4:W.cell? ⟨G+1,4,none⟩=some (.int .i64 n):=hM.m1.cell 4
  have c20:W.cell? ⟨G,20,none⟩=some (.slice AO s.bH.length cO):=hM.m0.cell 20
  have hai:(a:Int) < 8:=by omega
  have cp:W.cell? ⟨G,8+a,none⟩=some (.int .i64 0):=by rw [hM.m0.rP a ha,hz]
  clear hz
  clear hM hv hU hO
  go_enter Tryd.func26,Tryd.ntmps26
  go_upto_region 6 with (fail)
  clear hW
  clear cp i0 i1 i2 i4 c20
  have hs:=HM.out.m0
  have hr:=HM.out.m2
  have hb2:=Lib.hid HM.out.mb
  have hone:=HV.out.rd.one s
  go_wp2_with (first|((with_reducible refine bI (N:=29) rfl ?_);refine wpList_load_row rfl 36 (.tmp 2) rfl G rfl 36 (cellsS s (.slice AO s.bH.length cO) (.slice AU s.out.length cU)) (0,0) _ hs Tryd.underlying36 rfl (by kernel_rfl) ?_)|(skip;refine wpList_store_row rfl 36 (.tmp 4) (.tmp 29) rfl (G+1+1) (cellsS s (.slice AO s.bH.length cO) (.slice AU s.out.length cU)) rfl rfl 36 _ hr (by kernel_rfl) rfl hone ?_))
  (try simp only [Exit.inBlock,Exit.then])
  refine bodyPost_ret (fF rfl _ _ (G+1+1) 36 _ (0,0) _ rfl (hr.setRow (cellsS s (.slice AO s.bH.length cO) (.slice AU s.out.length cU))) Tryd.underlying36 rfl (by kernel_rfl)) rfl ?_
  have hb3:=dE (g:=G+2) hb2.out (by omega) (cellsS s (.slice AO s.bH.length cO) (.slice AU s.out.length cU))
  exact ⟨_,_,rfl,(HV.out.below (by rw [hG];exact hb3)).as rfl rfl,by first|exact hb3|(rw [hG];exact hb3)⟩
set_option maxRecDepth 100000 in
set_option maxHeartbeats 3200000 in
theorem YR (s:St) (vO vU:Value) (a bb cc:Nat) (n:Int) (ha:a < 8) (hbb:bb < 8) (o m:Nat) (row:List Int) (hp:s.p bb=(o:Int)+1) (ho:o < s.bH.length) (hlim:s.bH.length≤1000000) (hr:s.bH[o]? = some row) (hn:n=m) (hm:m < row.length) (w:World) (hv:qC s vO vU w) :
    Calls Tryd.prog 26 #[.agg (cellsS s vO vU),.agg #[.int .u8 8,.int .u8 a,.int .u8 bb,.int .u8 cc,.int .i64 n]] w fun e w'=>∃ qf qc,e=.returned (.tuple #[.agg (cellsS { s with x:=upd s.x a (rd row n) } qf qc),.int .i64 0])∧qC { s with x:=upd s.x a (rd row n) } qf qc w'∧Below w.heap.size w w':=by
  obtain ⟨AO,cO,hs0,rfl,Oc,hl0,hH0,hE0⟩:=hv.bH
  obtain ⟨AU,cU,rfl,Uf,hU⟩:=hv.out
  have hO:Kd.C yh w AO s.bH.length s.bH:=by
    obtain ⟨A5,c5,e5,h5,h6⟩:=hv.rd.bH
    injection e5 with e6 e7 e8
    rw [e6]
    exact h6
  obtain ⟨G,hG⟩:∃ G,w.heap.size=G:=⟨_,rfl⟩
  obtain ⟨W,hW⟩:∃ W,((w.alloc (.cells (cellsS s (.slice AO s.bH.length cO) (.slice AU s.out.length cU)) 36)).alloc (.cells #[.int .u8 8,.int .u8 a,.int .u8 bb,.int .u8 cc,.int .i64 n] 39)).alloc (.cells #[.int .i64 0,.int .i64 0,.int .i64 0,.int .i64 0,.int .i64 0,.int .i64 0,.int .i64 0,.int .i64 0,.int .i64 0,.int .i64 0,.int .i64 0,.int .i64 0,.int .i64 0,.int .i64 0,.int .i64 0,.int .i64 0,.int .i64 0,.int .i64 0,.int .i64 0,.int .i64 0,.slice none 0 0,.slice none 0 0,.int .i64 0,.int .i64 0] 36)=W:=⟨_,rfl⟩
  have hM:=xH (cellsS s (.slice AO s.bH.length cO) (.slice AU s.out.length cU)) #[.int .u8 8,.int .u8 a,.int .u8 bb,.int .u8 cc,.int .i64 n] #[.int .i64 0,.int .i64 0,.int .i64 0,.int .i64 0,.int .i64 0,.int .i64 0,.int .i64 0,.int .i64 0,.int .i64 0,.int .i64 0,.int .i64 0,.int .i64 0,.int .i64 0,.int .i64 0,.int .i64 0,.int .i64 0,.int .i64 0,.int .i64 0,.int .i64 0,.int .i64 0,.slice none 0 0,.slice none 0 0,.int .i64 0,.int .i64 0] w
  rw [hW,hG] at hM
  have HM:=ae.mk hM
  have HV:=ae.mk hv
  have HO:=ae.mk (Kd.bW hO (by rw [hG];exact hM.mb))
  have PG:=Lib.hid hH0
  have O7:=Lib.hid hE0
  have xU:=Lib.hid hl0
  clear hH0 hE0 hl0
  have i0:W.cell? ⟨G+1,0,none⟩=some (.int .u8 8):=hM.m1.cell 0
  have i1:W.cell? ⟨G+1,1,none⟩=some (.int .u8 a):=hM.m1.cell 1
  have i2:W.cell? ⟨G+1,2,none⟩=some (.int .u8 bb):=hM.m1.cell 2
  have i4:W.cell? ⟨G+1,4,none⟩=some (.int .i64 n):=hM.m1.cell 4
  have c20:W.cell? ⟨G,20,none⟩=some (.slice AO s.bH.length cO):=hM.m0.cell 20
  have hai:(a:Int) < 8:=by omega
  have zI:(bb:Int) < 8:=by omega
  obtain ⟨q,hq⟩:∃ q:Int,q=(o:Int)+1:=⟨_,rfl⟩
  obtain ⟨z,hz⟩:∃ z:Int,z=(o:Int):=⟨_,rfl⟩
  have cp:W.cell? ⟨G,8+bb,none⟩=some (.int .i64 q):=by rw [hM.m0.rP bb hbb,hp,hq]
  subst hn
  have hzb:(q == 0)=false:=beq_eq_false_iff_ne.2 (by omega)
  have Yj:IntKind.i64.wrap (q - 1)=z:=by rw [hq,hz,Int.add_sub_cancel];exact IntWalk.i64_in _ (by omega)
  have Yi:wrap64 (q - 1)=z:=by rw [hq,hz,Int.add_sub_cancel];unfold wrap64;omega
  have j0:(0≤z)=True:=eq_true (by omega)
  have j1:(z < (s.bH.length:Int))=True:=eq_true (by omega)
  have j2:(0≤(m:Int))=True:=eq_true (by omega)
  have j3:((m:Int) < (row.length:Int))=True:=eq_true (by omega)
  have zt:o=z.toNat:=by omega
  obtain ⟨ad,A1,c1,e0,hx,hx1,hx2⟩:=FT HO.out (o:Int) (by omega) (by omega)
  have KE:wo s.bH (o:Int)=row:=by show s.bH.getD (o:Int).toNat []=row;rw [Int.toNat_natCast,List.getD_eq_getElem?_getD,hr];rfl
  rw [KE] at hx hx1 hx2
  rw [Int.toNat_natCast,zt] at hx
  subst e0
  obtain ⟨XR,e2,hy⟩:=Kd.OJ hx2 (m:Int) (by omega) (by omega)
  rw [Int.toNat_natCast] at hy
  subst e2
  obtain ⟨g,hg⟩:∃ g,W.heap.size=g:=⟨_,rfl⟩
  obtain ⟨wz,hwz⟩:∃ wz,W.alloc (.cells #[.int .i64 0,.int .i64 0,.int .i64 0,.int .i64 0,.int .i64 0,.int .i64 0,.int .i64 0,.int .i64 0] 30)=wz:=⟨_,rfl⟩
  have kz:Bk wz g #[.int .i64 0,.int .i64 0,.int .i64 0,.int .i64 0,.int .i64 0,.int .i64 0,.int .i64 0,.int .i64 0] 30:=by rw [← hwz,← hg];exact Bk.new W _ _
  have hbz:Below W.heap.size W wz:=by rw [← hwz];exact (Below.refl _ W).alloc (Nat.le_refl _) _
  have hrow:=hM.m0.xs
  have hG3:G+3≤g:=by rw [← hg];exact hM.sz
  have OM:(ad.add z.toNat).block < W.heap.size:=block_lt_of_cell hx
  have FU:(XR.add m).block < W.heap.size:=block_lt_of_cell hy
  have HX:=Lib.hid hx
  have HY:=Lib.hid hy
  clear hx1 hx2 hr KE hp zt hq hz
  have MF:=Lib.hid hbz
  clear hM hv hU hO hx hy hbz
  go_enter Tryd.func26,Tryd.ntmps26
  go_upto_region 11 with (first|((with_reducible refine bI (N:=47) rfl ?_);refine qj rfl 30 (.tmp 46) rfl G 0 rfl (dX s.x) _ hrow Tryd.underlying30 rfl (by kernel_rfl) ?_)|(skip;refine wpList_store_row rfl 30 (.tmp 7) (.tmp 47) rfl g (dX s.x) rfl rfl 30 _ kz (by kernel_rfl) rfl (jd _) ?_))
  clear hW hrow cp i0 i1 i2 i4 c20
  have L8:=ae.mk ((HM.out.below MF.out).gB g (dX s.x) hG3)
  have rD:=ae.mk (kz.setRow (dX s.x))
  have hx:(wz.setRow g (dX s.x)).cell? (ad.add z.toNat)=some (.slice (some XR) row.length c1):=(World.cell?_of_block ((ku _ _ (by omega)).trans (MF.out.block _ OM))).trans HX.out
  have hy:(wz.setRow g (dX s.x)).cell? (XR.add m)=some (.int .i64 (rd row (m:Int))):=(World.cell?_of_block ((ku _ _ (by omega)).trans (MF.out.block _ FU))).trans HY.out
  clear MF kz HX HY hwz OM FU
  generalize wz.setRow g (dX s.x)=W1 at L8 rD hx hy ⊢
  have i1:W1.cell? ⟨G+1,1,none⟩=some (.int .u8 a):=L8.out.m1.cell 1
  have i4:W1.cell? ⟨G+1,4,none⟩=some (.int .i64 m):=L8.out.m1.cell 4
  have c20:W1.cell? ⟨G,20,none⟩=some (.slice (some ad) s.bH.length cO):=L8.out.m0.cell 20
  go_wp2
  go_still_tail 13,(by kernel_rfl)
  clear hx hy i1 i4 c20
  change wpList _ _ _ _ _ W1.drew
  have Ej:=ae.mk L8.out.drew
  have rJ:=ae.mk (show Bk W1.drew g (dX s.x) 30 from rD.out)
  clear L8 rD
  generalize W1.drew=W2 at Ej rJ ⊢
  have fs:=rJ.out.fr a
  have cs:=(rJ.out.cell a).trans (nX s.x a ha)
  go_upto_region 12 with (fail)
  clear fs cs
  have O3:=ae.mk (Ej.out.far g a (.int .i64 (rd row (m:Int))) hG3)
  have yl:=ae.mk (qg s.x a ha (rd row (m:Int)) ▸ rJ.out.set a (.int .i64 (rd row (m:Int))))
  clear Ej rJ
  change Code.wp _ _ _ _ (W2.setCell ⟨g,a,none⟩ (.int .i64 (rd row (m:Int))))
  generalize W2.setCell ⟨g,a,none⟩ (.int .i64 (rd row (m:Int)))=W3 at O3 yl ⊢
  have hl3:=yl.out
  have hth:W3.there G 0 8:=O3.out.m0.there 0 8 (show 0+8≤24 by omega)
  go_upto_region 19 with (first|((with_reducible refine bI (N:=61) rfl ?_);refine wpList_load_row rfl 30 (.tmp 7) rfl g rfl 30 (dX (upd s.x a (rd row (m:Int)))) (0,0) _ hl3 Tryd.underlying30 rfl (by kernel_rfl) ?_)|(skip;refine wpList_store_mid rfl 30 (.tmp 62) (.tmp 61) rfl G 0 (dX (upd s.x a (rd row (m:Int)))) rfl rfl hth (by kernel_rfl) (jd _) ?_))
  have UB:=ae.mk (O3.out.cells 0 (dX (upd s.x a (rd row (m:Int)))).toList (O3.out.m0.wY (upd s.x a (rd row (m:Int)))))
  clear hl3 hth O3 yl
  change Code.wp _ _ _ _ (W3.setCells G 0 (dX (upd s.x a (rd row (m:Int)))).toList)
  generalize W3.setCells G 0 (dX (upd s.x a (rd row (m:Int)))).toList=W4 at UB ⊢
  have hs:=UB.out.m0
  have hr:=UB.out.m2
  have hb2:=Lib.hid UB.out.mb
  have hone:=HV.out.rd.one { s with x:=upd s.x a (rd row (m:Int)) }
  go_wp2_with (first|((with_reducible refine bI (N:=96) rfl ?_);refine wpList_load_row rfl 36 (.tmp 2) rfl G rfl 36 (cellsS { s with x:=upd s.x a (rd row (m:Int)) } (.slice (some ad) s.bH.length cO) (.slice AU s.out.length cU)) (0,0) _ hs Tryd.underlying36 rfl (by kernel_rfl) ?_)|(skip;refine wpList_store_row rfl 36 (.tmp 4) (.tmp 96) rfl (G+1+1) (cellsS { s with x:=upd s.x a (rd row (m:Int)) } (.slice (some ad) s.bH.length cO) (.slice AU s.out.length cU)) rfl rfl 36 _ hr (by kernel_rfl) rfl hone ?_))
  (try simp only [Exit.inBlock,Exit.then])
  refine bodyPost_ret (fF rfl _ _ (G+1+1) 36 _ (0,0) _ rfl (hr.setRow (cellsS { s with x:=upd s.x a (rd row (m:Int)) } (.slice (some ad) s.bH.length cO) (.slice AU s.out.length cU))) Tryd.underlying36 rfl (by kernel_rfl)) rfl ?_
  have hb3:=dE (g:=G+2) hb2.out (by omega) (cellsS { s with x:=upd s.x a (rd row (m:Int)) } (.slice (some ad) s.bH.length cO) (.slice AU s.out.length cU))
  exact ⟨_,_,rfl,(HV.out.below (by rw [hG];exact hb3)).as rfl rfl,by first|exact hb3|(rw [hG];exact hb3)⟩
set_option maxRecDepth 100000 in
set_option maxHeartbeats 3200000 in
theorem WS (s:St) (vO vU:Value) (a bb cc:Nat) (n:Int) (ha:a < 8) (hbb:bb < 8) (o m:Nat) (row:List Int) (hp:s.p bb=(o:Int)+1) (ho:o < s.bH.length) (hlim:s.bH.length≤1000000) (hr:s.bH[o]? = some row) (hn:n=m) (hm:m < row.length) (w:World) (hv:qC s vO vU w) :
    Calls Tryd.prog 26 #[.agg (cellsS s vO vU),.agg #[.int .u8 10,.int .u8 a,.int .u8 bb,.int .u8 cc,.int .i64 n]] w fun e w'=>∃ qf qc,e=.returned (.tuple #[.agg (cellsS { s with p:=upd s.p a (rd row n) } qf qc),.int .i64 0])∧qC { s with p:=upd s.p a (rd row n) } qf qc w'∧Below w.heap.size w w':=by
  obtain ⟨AO,cO,hs0,rfl,Oc,hl0,hH0,hE0⟩:=hv.bH
  obtain ⟨AU,cU,rfl,Uf,hU⟩:=hv.out
  have hO:Kd.C yh w AO s.bH.length s.bH:=by
    obtain ⟨A5,c5,e5,h5,h6⟩:=hv.rd.bH
    injection e5 with e6 e7 e8
    rw [e6]
    exact h6
  obtain ⟨G,hG⟩:∃ G,w.heap.size=G:=⟨_,rfl⟩
  obtain ⟨W,hW⟩:∃ W,((w.alloc (.cells (cellsS s (.slice AO s.bH.length cO) (.slice AU s.out.length cU)) 36)).alloc (.cells #[.int .u8 10,.int .u8 a,.int .u8 bb,.int .u8 cc,.int .i64 n] 39)).alloc (.cells #[.int .i64 0,.int .i64 0,.int .i64 0,.int .i64 0,.int .i64 0,.int .i64 0,.int .i64 0,.int .i64 0,.int .i64 0,.int .i64 0,.int .i64 0,.int .i64 0,.int .i64 0,.int .i64 0,.int .i64 0,.int .i64 0,.int .i64 0,.int .i64 0,.int .i64 0,.int .i64 0,.slice none 0 0,.slice none 0 0,.int .i64 0,.int .i64 0] 36)=W:=⟨_,rfl⟩
  have hM:=xH (cellsS s (.slice AO s.bH.length cO) (.slice AU s.out.length cU)) #[.int .u8 10,.int .u8 a,.int .u8 bb,.int .u8 cc,.int .i64 n] #[.int .i64 0,.int .i64 0,.int .i64 0,.int .i64 0,.int .i64 0,.int .i64 0,.int .i64 0,.int .i64 0,.int .i64 0,.int .i64 0,.int .i64 0,.int .i64 0,.int .i64 0,.int .i64 0,.int .i64 0,.int .i64 0,.int .i64 0,.int .i64 0,.int .i64 0,.int .i64 0,.slice none 0 0,.slice none 0 0,.int .i64 0,.int .i64 0] w
  rw [hW,hG] at hM
  have HM:=ae.mk hM
  have HV:=ae.mk hv
  have HO:=ae.mk (Kd.bW hO (by rw [hG];exact hM.mb))
  have PG:=Lib.hid hH0
  have O7:=Lib.hid hE0
  have xU:=Lib.hid hl0
  clear hH0 hE0 hl0
  have i0:W.cell? ⟨G+1,0,none⟩=some (.int .u8 10):=hM.m1.cell 0
  have i1:W.cell? ⟨G+1,1,none⟩=some (.int .u8 a):=hM.m1.cell 1
  have i2:W.cell? ⟨G+1,2,none⟩=some (.int .u8 bb):=hM.m1.cell 2
  have i4:W.cell? ⟨G+1,4,none⟩=some (.int .i64 n):=hM.m1.cell 4
  have c20:W.cell? ⟨G,20,none⟩=some (.slice AO s.bH.length cO):=hM.m0.cell 20
  have hai:(a:Int) < 8:=by omega
  have zI:(bb:Int) < 8:=by omega
  obtain ⟨q,hq⟩:∃ q:Int,q=(o:Int)+1:=⟨_,rfl⟩
  obtain ⟨z,hz⟩:∃ z:Int,z=(o:Int):=⟨_,rfl⟩
  have cp:W.cell? ⟨G,8+bb,none⟩=some (.int .i64 q):=by rw [hM.m0.rP bb hbb,hp,hq]
  subst hn
  have hzb:(q == 0)=false:=beq_eq_false_iff_ne.2 (by omega)
  have Yj:IntKind.i64.wrap (q - 1)=z:=by rw [hq,hz,Int.add_sub_cancel];exact IntWalk.i64_in _ (by omega)
  have Yi:wrap64 (q - 1)=z:=by rw [hq,hz,Int.add_sub_cancel];unfold wrap64;omega
  have j0:(0≤z)=True:=eq_true (by omega)
  have j1:(z < (s.bH.length:Int))=True:=eq_true (by omega)
  have j2:(0≤(m:Int))=True:=eq_true (by omega)
  have j3:((m:Int) < (row.length:Int))=True:=eq_true (by omega)
  have zt:o=z.toNat:=by omega
  obtain ⟨ad,A1,c1,e0,hx,hx1,hx2⟩:=FT HO.out (o:Int) (by omega) (by omega)
  have KE:wo s.bH (o:Int)=row:=by show s.bH.getD (o:Int).toNat []=row;rw [Int.toNat_natCast,List.getD_eq_getElem?_getD,hr];rfl
  rw [KE] at hx hx1 hx2
  rw [Int.toNat_natCast,zt] at hx
  subst e0
  obtain ⟨XR,e2,hy⟩:=Kd.OJ hx2 (m:Int) (by omega) (by omega)
  rw [Int.toNat_natCast] at hy
  subst e2
  obtain ⟨g,hg⟩:∃ g,W.heap.size=g:=⟨_,rfl⟩
  obtain ⟨wz,hwz⟩:∃ wz,W.alloc (.cells #[.int .i64 0,.int .i64 0,.int .i64 0,.int .i64 0,.int .i64 0,.int .i64 0,.int .i64 0,.int .i64 0] 31)=wz:=⟨_,rfl⟩
  have kz:Bk wz g #[.int .i64 0,.int .i64 0,.int .i64 0,.int .i64 0,.int .i64 0,.int .i64 0,.int .i64 0,.int .i64 0] 31:=by rw [← hwz,← hg];exact Bk.new W _ _
  have hbz:Below W.heap.size W wz:=by rw [← hwz];exact (Below.refl _ W).alloc (Nat.le_refl _) _
  have hrow:=hM.m0.ps
  have hG3:G+3≤g:=by rw [← hg];exact hM.sz
  have OM:(ad.add z.toNat).block < W.heap.size:=block_lt_of_cell hx
  have FU:(XR.add m).block < W.heap.size:=block_lt_of_cell hy
  have HX:=Lib.hid hx
  have HY:=Lib.hid hy
  clear hx1 hx2 hr KE hp zt hq hz
  have MF:=Lib.hid hbz
  clear hM hv hU hO hx hy hbz
  go_enter Tryd.func26,Tryd.ntmps26
  go_upto_region 15 with (first|((with_reducible refine bI (N:=66) rfl ?_);refine qj rfl 31 (.tmp 65) rfl G 8 rfl (dX s.p) _ hrow Tryd.underlying31 rfl (by kernel_rfl) ?_)|(skip;refine wpList_store_row rfl 31 (.tmp 8) (.tmp 66) rfl g (dX s.p) rfl rfl 31 _ kz (by kernel_rfl) rfl (jd _) ?_))
  clear hW hrow cp i0 i1 i2 i4 c20
  have L8:=ae.mk ((HM.out.below MF.out).gB g (dX s.p) hG3)
  have rD:=ae.mk (kz.setRow (dX s.p))
  have hx:(wz.setRow g (dX s.p)).cell? (ad.add z.toNat)=some (.slice (some XR) row.length c1):=(World.cell?_of_block ((ku _ _ (by omega)).trans (MF.out.block _ OM))).trans HX.out
  have hy:(wz.setRow g (dX s.p)).cell? (XR.add m)=some (.int .i64 (rd row (m:Int))):=(World.cell?_of_block ((ku _ _ (by omega)).trans (MF.out.block _ FU))).trans HY.out
  clear MF kz HX HY hwz OM FU
  generalize wz.setRow g (dX s.p)=W1 at L8 rD hx hy ⊢
  have i1:W1.cell? ⟨G+1,1,none⟩=some (.int .u8 a):=L8.out.m1.cell 1
  have i4:W1.cell? ⟨G+1,4,none⟩=some (.int .i64 m):=L8.out.m1.cell 4
  have c20:W1.cell? ⟨G,20,none⟩=some (.slice (some ad) s.bH.length cO):=L8.out.m0.cell 20
  go_wp2
  go_still_tail 13,(by kernel_rfl)
  clear hx hy i1 i4 c20
  change wpList _ _ _ _ _ W1.drew
  have Ej:=ae.mk L8.out.drew
  have rJ:=ae.mk (show Bk W1.drew g (dX s.p) 31 from rD.out)
  clear L8 rD
  generalize W1.drew=W2 at Ej rJ ⊢
  have fs:=rJ.out.fr a
  have cs:=(rJ.out.cell a).trans (nX s.p a ha)
  go_upto_region 16 with (fail)
  clear fs cs
  have O3:=ae.mk (Ej.out.far g a (.int .i64 (rd row (m:Int))) hG3)
  have yl:=ae.mk (qg s.p a ha (rd row (m:Int)) ▸ rJ.out.set a (.int .i64 (rd row (m:Int))))
  clear Ej rJ
  change Code.wp _ _ _ _ (W2.setCell ⟨g,a,none⟩ (.int .i64 (rd row (m:Int))))
  generalize W2.setCell ⟨g,a,none⟩ (.int .i64 (rd row (m:Int)))=W3 at O3 yl ⊢
  have hl3:=yl.out
  have hth:W3.there G 8 8:=O3.out.m0.there 8 8 (show 8+8≤24 by omega)
  go_upto_region 19 with (first|((with_reducible refine bI (N:=80) rfl ?_);refine wpList_load_row rfl 31 (.tmp 8) rfl g rfl 31 (dX (upd s.p a (rd row (m:Int)))) (0,0) _ hl3 Tryd.underlying31 rfl (by kernel_rfl) ?_)|(skip;refine wpList_store_mid rfl 31 (.tmp 81) (.tmp 80) rfl G 8 (dX (upd s.p a (rd row (m:Int)))) rfl rfl hth (by kernel_rfl) (jd _) ?_))
  have UB:=ae.mk (O3.out.cells 8 (dX (upd s.p a (rd row (m:Int)))).toList (O3.out.m0.wZ (upd s.p a (rd row (m:Int)))))
  clear hl3 hth O3 yl
  change Code.wp _ _ _ _ (W3.setCells G 8 (dX (upd s.p a (rd row (m:Int)))).toList)
  generalize W3.setCells G 8 (dX (upd s.p a (rd row (m:Int)))).toList=W4 at UB ⊢
  have hs:=UB.out.m0
  have hr:=UB.out.m2
  have hb2:=Lib.hid UB.out.mb
  have hone:=HV.out.rd.one { s with p:=upd s.p a (rd row (m:Int)) }
  go_wp2_with (first|((with_reducible refine bI (N:=96) rfl ?_);refine wpList_load_row rfl 36 (.tmp 2) rfl G rfl 36 (cellsS { s with p:=upd s.p a (rd row (m:Int)) } (.slice (some ad) s.bH.length cO) (.slice AU s.out.length cU)) (0,0) _ hs Tryd.underlying36 rfl (by kernel_rfl) ?_)|(skip;refine wpList_store_row rfl 36 (.tmp 4) (.tmp 96) rfl (G+1+1) (cellsS { s with p:=upd s.p a (rd row (m:Int)) } (.slice (some ad) s.bH.length cO) (.slice AU s.out.length cU)) rfl rfl 36 _ hr (by kernel_rfl) rfl hone ?_))
  (try simp only [Exit.inBlock,Exit.then])
  refine bodyPost_ret (fF rfl _ _ (G+1+1) 36 _ (0,0) _ rfl (hr.setRow (cellsS { s with p:=upd s.p a (rd row (m:Int)) } (.slice (some ad) s.bH.length cO) (.slice AU s.out.length cU))) Tryd.underlying36 rfl (by kernel_rfl)) rfl ?_
  have hb3:=dE (g:=G+2) hb2.out (by omega) (cellsS { s with p:=upd s.p a (rd row (m:Int)) } (.slice (some ad) s.bH.length cO) (.slice AU s.out.length cU))
  exact ⟨_,_,rfl,(HV.out.below (by rw [hG];exact hb3)).as rfl rfl,by first|exact hb3|(rw [hG];exact hb3)⟩
set_option maxRecDepth 100000 in
set_option maxHeartbeats 3200000 in
theorem YQ (s:St) (vO vU:Value) (a bb cc:Nat) (n:Int) (ha:a < 8) (hbb:bb < 8) (o m:Nat) (row:List Int) (hp:s.p a=(o:Int)+1) (ho:o < s.bH.length) (hlim:s.bH.length≤1000000) (hr:s.bH[o]? = some row) (hn:n=m) (hm:m < row.length) (hrl:row.length≤1000000) (w:World) (hv:qC s vO vU w) :
    Calls Tryd.prog 26 #[.agg (cellsS s vO vU),.agg #[.int .u8 9,.int .u8 a,.int .u8 bb,.int .u8 cc,.int .i64 n]] w fun e w'=>∃ qf qc,e=.returned (.tuple #[.agg (cellsS { s with bH:=s.bH.set o (row.set n.toNat (s.x bb)) } qf qc),.int .i64 0])∧qC { s with bH:=s.bH.set o (row.set n.toNat (s.x bb)) } qf qc w'∧Below w.heap.size w w':=by
  obtain ⟨AO,cO,hs0,rfl,Oc,hl0,hH0,hE0⟩:=hv.bH
  obtain ⟨AU,cU,rfl,Uf,hU⟩:=hv.out
  have hO:Kd.C yh w AO s.bH.length s.bH:=by
    obtain ⟨A5,c5,e5,h5,h6⟩:=hv.rd.bH
    injection e5 with e6 e7 e8
    rw [e6]
    exact h6
  obtain ⟨G,hG⟩:∃ G,w.heap.size=G:=⟨_,rfl⟩
  obtain ⟨W,hW⟩:∃ W,((w.alloc (.cells (cellsS s (.slice AO s.bH.length cO) (.slice AU s.out.length cU)) 36)).alloc (.cells #[.int .u8 9,.int .u8 a,.int .u8 bb,.int .u8 cc,.int .i64 n] 39)).alloc (.cells #[.int .i64 0,.int .i64 0,.int .i64 0,.int .i64 0,.int .i64 0,.int .i64 0,.int .i64 0,.int .i64 0,.int .i64 0,.int .i64 0,.int .i64 0,.int .i64 0,.int .i64 0,.int .i64 0,.int .i64 0,.int .i64 0,.int .i64 0,.int .i64 0,.int .i64 0,.int .i64 0,.slice none 0 0,.slice none 0 0,.int .i64 0,.int .i64 0] 36)=W:=⟨_,rfl⟩
  have hM:=xH (cellsS s (.slice AO s.bH.length cO) (.slice AU s.out.length cU)) #[.int .u8 9,.int .u8 a,.int .u8 bb,.int .u8 cc,.int .i64 n] #[.int .i64 0,.int .i64 0,.int .i64 0,.int .i64 0,.int .i64 0,.int .i64 0,.int .i64 0,.int .i64 0,.int .i64 0,.int .i64 0,.int .i64 0,.int .i64 0,.int .i64 0,.int .i64 0,.int .i64 0,.int .i64 0,.int .i64 0,.int .i64 0,.int .i64 0,.int .i64 0,.slice none 0 0,.slice none 0 0,.int .i64 0,.int .i64 0] w
  rw [hW,hG] at hM
  have HM:=ae.mk hM
  have HV:=ae.mk hv
  have HO:=ae.mk (Kd.bW hO (by rw [hG];exact hM.mb))
  have PG:=Lib.hid hH0
  have O7:=Lib.hid hE0
  have xU:=Lib.hid hl0
  clear hH0 hE0 hl0
  have i0:W.cell? ⟨G+1,0,none⟩=some (.int .u8 9):=hM.m1.cell 0
  have i1:W.cell? ⟨G+1,1,none⟩=some (.int .u8 a):=hM.m1.cell 1
  have i2:W.cell? ⟨G+1,2,none⟩=some (.int .u8 bb):=hM.m1.cell 2
  have i4:W.cell? ⟨G+1,4,none⟩=some (.int .i64 n):=hM.m1.cell 4
  have c20:W.cell? ⟨G,20,none⟩=some (.slice AO s.bH.length cO):=hM.m0.cell 20
  have hai:(a:Int) < 8:=by omega
  have zI:(bb:Int) < 8:=by omega
  obtain ⟨q,hq⟩:∃ q:Int,q=(o:Int)+1:=⟨_,rfl⟩
  obtain ⟨z,hz⟩:∃ z:Int,z=(o:Int):=⟨_,rfl⟩
  have cp:W.cell? ⟨G,8+a,none⟩=some (.int .i64 q):=by rw [hM.m0.rP a ha,hp,hq]
  subst hn
  have hzb:(q == 0)=false:=beq_eq_false_iff_ne.2 (by omega)
  have Yj:IntKind.i64.wrap (q - 1)=z:=by rw [hq,hz,Int.add_sub_cancel];exact IntWalk.i64_in _ (by omega)
  have Yi:wrap64 (q - 1)=z:=by rw [hq,hz,Int.add_sub_cancel];unfold wrap64;omega
  have j0:(0≤z)=True:=eq_true (by omega)
  have j1:(z < (s.bH.length:Int))=True:=eq_true (by omega)
  have j2:(0≤(m:Int))=True:=eq_true (by omega)
  have j3:((m:Int) < (row.length:Int))=True:=eq_true (by omega)
  have zt:o=z.toNat:=by omega
  obtain ⟨ad,A1,c1,e0,hx,hx1,hx2⟩:=FT HO.out (o:Int) (by omega) (by omega)
  have KE:wo s.bH (o:Int)=row:=by show s.bH.getD (o:Int).toNat []=row;rw [Int.toNat_natCast,List.getD_eq_getElem?_getD,hr];rfl
  rw [KE] at hx hx1 hx2
  rw [Int.toNat_natCast,zt] at hx
  subst e0
  have HRO:=Lib.hid hr
  have HQ:=Lib.hid hq
  have HOO:=Lib.hid ho
  have cr:W.cell? ⟨G,bb,none⟩=some (.int .i64 (s.x bb)):=hM.m0.VO bb hbb
  have HLM:=Lib.hid hlim
  have HML:=Lib.hid hm
  have HRL:=Lib.hid hrl
  clear hx hx1 hx2 hr KE hp zt hq hz j0 j1 j2 j3 Yj Yi
  have hgt:=hM.m0.lt
  clear hM hv hU hO
  go_enter Tryd.func26,Tryd.ntmps26
  go_wp2
  clear hW cp i0
  go_still_tail 10,(by kernel_rfl)
  clear cr i1 i2 i4 c20
  change wpList _ _ _ _ _ W.drew
  have Ej:=ae.mk HM.out.drew
  have PE:=ae.mk (Kd.dW HO.out)
  clear HM HO
  generalize W.drew=W1 at Ej PE ⊢
  have hq:=HQ.out
  subst hq
  go_upto_region 999 with (fail)
  have ZA:=PG.out W1 (fun k hk=>Ej.out.mb.block k (by have:=hk.lt;omega))
  refine (Ba (some ad) cO s.bH hs0 row o m (s.x bb) W1 xU.out ZA PE.out Oc HOO.out HLM.out HRO.out HML.out HRL.out).mono ?_
  rintro e w5 ⟨A5,c5,q5,rfl,hq5,Zx,Zz,hb5⟩
  have UA:=ae.mk (Ej.out.below hb5)
  have Uy:=Lib.hid Zx
  have HN5:=Lib.hid Zz
  have HQ5:=Lib.hid hq5
  have hsz5:G+3≤W1.heap.size:=Ej.out.sz
  have d20:w5.cell? ⟨G,20,none⟩=some (.slice (some ad) s.bH.length cO):=UA.out.m0.cell 20
  have f20:w5.frozen? ⟨G,20,none⟩=false:=UA.out.m0.fr 20
  clear Zx Zz hq5 hb5 Ej PE ZA
  go_upto_region 19 with (fail)
  clear d20 f20
  have Uz:=ae.mk (UA.out.set 20 (.slice A5 s.bH.length c5) (show _=cellsS { s with bH:=s.bH.set o (row.set m (s.x bb)) } (.slice A5 s.bH.length c5) (.slice AU s.out.length cU) from rfl))
  have HK6:=Lib.hid (fun k (hk:W1.heap.size≤k)=>Below.heap_setCell w5 ⟨G,20,none⟩ (.slice A5 s.bH.length c5) k (show k ≠ G by omega))
  clear UA
  change Code.wp _ _ _ _ (w5.setCell ⟨G,20,none⟩ (.slice A5 s.bH.length c5))
  generalize w5.setCell ⟨G,20,none⟩ (.slice A5 s.bH.length c5)=W6 at Uz HK6 ⊢
  have hs:=Uz.out.m0
  have hr:=Uz.out.m2
  have hb2:=Lib.hid Uz.out.mb
  have hone:=(show (cellsS { s with bH:=s.bH.set o (row.set m (s.x bb)) } (.slice A5 s.bH.length c5) (.slice AU s.out.length cU)).all (·.oneCell')=true from by simp [cellsS,Value.oneCell'])
  go_wp2_with (first|((with_reducible refine bI (N:=96) rfl ?_);refine wpList_load_row rfl 36 (.tmp 2) rfl G rfl 36 (cellsS { s with bH:=s.bH.set o (row.set m (s.x bb)) } (.slice A5 s.bH.length c5) (.slice AU s.out.length cU)) (0,0) _ hs Tryd.underlying36 rfl (by kernel_rfl) ?_)|(skip;refine wpList_store_row rfl 36 (.tmp 4) (.tmp 96) rfl (G+1+1) (cellsS { s with bH:=s.bH.set o (row.set m (s.x bb)) } (.slice A5 s.bH.length c5) (.slice AU s.out.length cU)) rfl rfl 36 _ hr (by kernel_rfl) rfl hone ?_))
  (try simp only [Exit.inBlock,Exit.then])
  refine bodyPost_ret (fF rfl _ _ (G+1+1) 36 _ (0,0) _ rfl (hr.setRow (cellsS { s with bH:=s.bH.set o (row.set m (s.x bb)) } (.slice A5 s.bH.length c5) (.slice AU s.out.length cU))) Tryd.underlying36 rfl (by kernel_rfl)) rfl ?_
  have hb3:=dE (g:=G+2) hb2.out (by omega) (cellsS { s with bH:=s.bH.set o (row.set m (s.x bb)) } (.slice A5 s.bH.length c5) (.slice AU s.out.length cU))
  have EZ:Below w.heap.size w (W6.setRow (G+1+1) (cellsS { s with bH:=s.bH.set o (row.set m (s.x bb)) } (.slice A5 s.bH.length c5) (.slice AU s.out.length cU))):=by rw [hG];exact hb3
  have UZ:∀ k,W1.heap.size≤k→(W6.setRow (G+1+1) (cellsS { s with bH:=s.bH.set o (row.set m (s.x bb)) } (.slice A5 s.bH.length c5) (.slice AU s.out.length cU))).heap[k]? = w5.heap[k]?:=fun k hk=>(ku _ k (by omega)).trans (HK6.out k hk)
  have hR6:=Kd.nC (w1:=W6.setRow (G+1+1) (cellsS { s with bH:=s.bH.set o (row.set m (s.x bb)) } (.slice A5 s.bH.length c5) (.slice AU s.out.length cU))) (Kd.oV Uy.out) (fun k hk' _=>UZ k hk'.2.1)
  have hN6:=Kd.nC (w1:=W6.setRow (G+1+1) (cellsS { s with bH:=s.bH.set o (row.set m (s.x bb)) } (.slice A5 s.bH.length c5) (.slice AU s.out.length cU))) (Kd.oV HN5.out) (fun k hk' _=>UZ k hk'.2.1)
  have hrow:(row.set m (s.x bb)).length=q5.2.1:=by rw [List.length_set];exact HQ5.out.symm
  refine ⟨_,_,rfl,⟨⟨A5,c5,hs0.set o q5,?_,?_,?_,fun wF hF=>?_,fun j hj=>?_⟩,(HV.out.below EZ).out⟩,by first|exact hb3|(rw [hG];exact hb3)⟩
  · show Value.slice A5 s.bH.length c5=.slice A5 (s.bH.set o (row.set (m:Int).toNat (s.x bb))).length c5
    rw [List.length_set]
  · show (s.bH.set o (row.set (m:Int).toNat (s.x bb))).length≤c5
    rw [List.length_set]
    exact (Kd.gz Uy.out).2.1
  · show (hs0.set o q5).length=(s.bH.set o (row.set (m:Int).toNat (s.x bb))).length
    rw [List.length_set,List.length_set]
    exact xU.out
  · show Kd.C kH wF A5 (s.bH.set o (row.set (m:Int).toNat (s.x bb))).length _
    have e9:(s.bH.set o (row.set (m:Int).toNat (s.x bb))).length=(hs0.set o q5).length:=by rw [List.length_set,List.length_set];exact xU.out.symm
    rw [e9]
    exact (Kd.gz (uw (wF:=wF) hR6 rfl (by decide) (fun k _ hn=>hF k hn))).2.2
  · have hj':j < s.bH.length:=by
      have:j < (s.bH.set o (row.set (m:Int).toNat (s.x bb))).length:=hj
      rwa [List.length_set] at this
    show ∃ q,(hs0.set o q5)[j]? = some q∧q.2.1=((s.bH.set o (row.set (m:Int).toNat (s.x bb)))[j]'(by rw [List.length_set];exact hj')).length∧((s.bH.set o (row.set (m:Int).toNat (s.x bb)))[j]'(by rw [List.length_set];exact hj')).length≤q.2.2∧∀ wF,Keep _ wF→Kd.C (Kd.int .i64) wF q.1 ((s.bH.set o (row.set (m:Int).toNat (s.x bb)))[j]'(by rw [List.length_set];exact hj')).length ((s.bH.set o (row.set (m:Int).toNat (s.x bb)))[j]'(by rw [List.length_set];exact hj'))
    by_cases hjo:o=j
    · subst hjo
      refine ⟨q5,List.getElem?_set_self (by rw [xU.out];exact hj'),?_⟩
      rw [List.getElem_set_self,Int.toNat_natCast]
      have h9:=Kd.gz HN5.out
      exact ⟨hrow.symm,by rw [hrow];exact h9.2.1,fun wF hF=>(Kd.gz (uw (wF:=wF) hN6 rfl (by decide) (fun k _ hn=>hF k hn))).2.2⟩
    · obtain ⟨q,hq,q1,q2,q3⟩:=O7.out j hj'
      refine ⟨q,by rw [List.getElem?_set_ne hjo];exact hq,?_⟩
      rw [List.getElem_set_ne hjo]
      exact ⟨q1,q2,fun wF hF=>q3 wF (hF.after EZ)⟩
set_option maxRecDepth 100000 in
set_option maxHeartbeats 3200000 in
theorem WR (s:St) (vO vU:Value) (a bb cc:Nat) (n:Int) (ha:a < 8) (hbb:bb < 8) (o m:Nat) (row:List Int) (hp:s.p a=(o:Int)+1) (ho:o < s.bH.length) (hlim:s.bH.length≤1000000) (hr:s.bH[o]? = some row) (hn:n=m) (hm:m < row.length) (hrl:row.length≤1000000) (w:World) (hv:qC s vO vU w) :
    Calls Tryd.prog 26 #[.agg (cellsS s vO vU),.agg #[.int .u8 11,.int .u8 a,.int .u8 bb,.int .u8 cc,.int .i64 n]] w fun e w'=>∃ qf qc,e=.returned (.tuple #[.agg (cellsS { s with bH:=s.bH.set o (row.set n.toNat (s.p bb)) } qf qc),.int .i64 0])∧qC { s with bH:=s.bH.set o (row.set n.toNat (s.p bb)) } qf qc w'∧Below w.heap.size w w':=by
  obtain ⟨AO,cO,hs0,rfl,Oc,hl0,hH0,hE0⟩:=hv.bH
  obtain ⟨AU,cU,rfl,Uf,hU⟩:=hv.out
  have hO:Kd.C yh w AO s.bH.length s.bH:=by
    obtain ⟨A5,c5,e5,h5,h6⟩:=hv.rd.bH
    injection e5 with e6 e7 e8
    rw [e6]
    exact h6
  obtain ⟨G,hG⟩:∃ G,w.heap.size=G:=⟨_,rfl⟩
  obtain ⟨W,hW⟩:∃ W,((w.alloc (.cells (cellsS s (.slice AO s.bH.length cO) (.slice AU s.out.length cU)) 36)).alloc (.cells #[.int .u8 11,.int .u8 a,.int .u8 bb,.int .u8 cc,.int .i64 n] 39)).alloc (.cells #[.int .i64 0,.int .i64 0,.int .i64 0,.int .i64 0,.int .i64 0,.int .i64 0,.int .i64 0,.int .i64 0,.int .i64 0,.int .i64 0,.int .i64 0,.int .i64 0,.int .i64 0,.int .i64 0,.int .i64 0,.int .i64 0,.int .i64 0,.int .i64 0,.int .i64 0,.int .i64 0,.slice none 0 0,.slice none 0 0,.int .i64 0,.int .i64 0] 36)=W:=⟨_,rfl⟩
  have hM:=xH (cellsS s (.slice AO s.bH.length cO) (.slice AU s.out.length cU)) #[.int .u8 11,.int .u8 a,.int .u8 bb,.int .u8 cc,.int .i64 n] #[.int .i64 0,.int .i64 0,.int .i64 0,.int .i64 0,.int .i64 0,.int .i64 0,.int .i64 0,.int .i64 0,.int .i64 0,.int .i64 0,.int .i64 0,.int .i64 0,.int .i64 0,.int .i64 0,.int .i64 0,.int .i64 0,.int .i64 0,.int .i64 0,.int .i64 0,.int .i64 0,.slice none 0 0,.slice none 0 0,.int .i64 0,.int .i64 0] w
  rw [hW,hG] at hM
  have HM:=ae.mk hM
  have HV:=ae.mk hv
  have HO:=ae.mk (Kd.bW hO (by rw [hG];exact hM.mb))
  have PG:=Lib.hid hH0
  have O7:=Lib.hid hE0
  have xU:=Lib.hid hl0
  clear hH0 hE0 hl0
  have i0:W.cell? ⟨G+1,0,none⟩=some (.int .u8 11):=hM.m1.cell 0
  have i1:W.cell? ⟨G+1,1,none⟩=some (.int .u8 a):=hM.m1.cell 1
  have i2:W.cell? ⟨G+1,2,none⟩=some (.int .u8 bb):=hM.m1.cell 2
  have i4:W.cell? ⟨G+1,4,none⟩=some (.int .i64 n):=hM.m1.cell 4
  have c20:W.cell? ⟨G,20,none⟩=some (.slice AO s.bH.length cO):=hM.m0.cell 20
  have hai:(a:Int) < 8:=by omega
  have zI:(bb:Int) < 8:=by omega
  obtain ⟨q,hq⟩:∃ q:Int,q=(o:Int)+1:=⟨_,rfl⟩
  obtain ⟨z,hz⟩:∃ z:Int,z=(o:Int):=⟨_,rfl⟩
  have cp:W.cell? ⟨G,8+a,none⟩=some (.int .i64 q):=by rw [hM.m0.rP a ha,hp,hq]
  subst hn
  have hzb:(q == 0)=false:=beq_eq_false_iff_ne.2 (by omega)
  have Yj:IntKind.i64.wrap (q - 1)=z:=by rw [hq,hz,Int.add_sub_cancel];exact IntWalk.i64_in _ (by omega)
  have Yi:wrap64 (q - 1)=z:=by rw [hq,hz,Int.add_sub_cancel];unfold wrap64;omega
  have j0:(0≤z)=True:=eq_true (by omega)
  have j1:(z < (s.bH.length:Int))=True:=eq_true (by omega)
  have j2:(0≤(m:Int))=True:=eq_true (by omega)
  have j3:((m:Int) < (row.length:Int))=True:=eq_true (by omega)
  have zt:o=z.toNat:=by omega
  obtain ⟨ad,A1,c1,e0,hx,hx1,hx2⟩:=FT HO.out (o:Int) (by omega) (by omega)
  have KE:wo s.bH (o:Int)=row:=by show s.bH.getD (o:Int).toNat []=row;rw [Int.toNat_natCast,List.getD_eq_getElem?_getD,hr];rfl
  rw [KE] at hx hx1 hx2
  rw [Int.toNat_natCast,zt] at hx
  subst e0
  have HRO:=Lib.hid hr
  have HQ:=Lib.hid hq
  have HOO:=Lib.hid ho
  have cr:W.cell? ⟨G,8+bb,none⟩=some (.int .i64 (s.p bb)):=hM.m0.rP bb hbb
  have HLM:=Lib.hid hlim
  have HML:=Lib.hid hm
  have HRL:=Lib.hid hrl
  clear hx hx1 hx2 hr KE hp zt hq hz j0 j1 j2 j3 Yj Yi
  have hgt:=hM.m0.lt
  clear hM hv hU hO
  go_enter Tryd.func26,Tryd.ntmps26
  go_wp2
  clear hW cp i0
  go_still_tail 10,(by kernel_rfl)
  clear cr i1 i2 i4 c20
  change wpList _ _ _ _ _ W.drew
  have Ej:=ae.mk HM.out.drew
  have PE:=ae.mk (Kd.dW HO.out)
  clear HM HO
  generalize W.drew=W1 at Ej PE ⊢
  have hq:=HQ.out
  subst hq
  go_upto_region 999 with (fail)
  have ZA:=PG.out W1 (fun k hk=>Ej.out.mb.block k (by have:=hk.lt;omega))
  refine (Ba (some ad) cO s.bH hs0 row o m (s.p bb) W1 xU.out ZA PE.out Oc HOO.out HLM.out HRO.out HML.out HRL.out).mono ?_
  rintro e w5 ⟨A5,c5,q5,rfl,hq5,Zx,Zz,hb5⟩
  have UA:=ae.mk (Ej.out.below hb5)
  have Uy:=Lib.hid Zx
  have HN5:=Lib.hid Zz
  have HQ5:=Lib.hid hq5
  have hsz5:G+3≤W1.heap.size:=Ej.out.sz
  have d20:w5.cell? ⟨G,20,none⟩=some (.slice (some ad) s.bH.length cO):=UA.out.m0.cell 20
  have f20:w5.frozen? ⟨G,20,none⟩=false:=UA.out.m0.fr 20
  clear Zx Zz hq5 hb5 Ej PE ZA
  go_upto_region 19 with (fail)
  clear d20 f20
  have Uz:=ae.mk (UA.out.set 20 (.slice A5 s.bH.length c5) (show _=cellsS { s with bH:=s.bH.set o (row.set m (s.p bb)) } (.slice A5 s.bH.length c5) (.slice AU s.out.length cU) from rfl))
  have HK6:=Lib.hid (fun k (hk:W1.heap.size≤k)=>Below.heap_setCell w5 ⟨G,20,none⟩ (.slice A5 s.bH.length c5) k (show k ≠ G by omega))
  clear UA
  change Code.wp _ _ _ _ (w5.setCell ⟨G,20,none⟩ (.slice A5 s.bH.length c5))
  generalize w5.setCell ⟨G,20,none⟩ (.slice A5 s.bH.length c5)=W6 at Uz HK6 ⊢
  have hs:=Uz.out.m0
  have hr:=Uz.out.m2
  have hb2:=Lib.hid Uz.out.mb
  have hone:=(show (cellsS { s with bH:=s.bH.set o (row.set m (s.p bb)) } (.slice A5 s.bH.length c5) (.slice AU s.out.length cU)).all (·.oneCell')=true from by simp [cellsS,Value.oneCell'])
  go_wp2_with (first|((with_reducible refine bI (N:=96) rfl ?_);refine wpList_load_row rfl 36 (.tmp 2) rfl G rfl 36 (cellsS { s with bH:=s.bH.set o (row.set m (s.p bb)) } (.slice A5 s.bH.length c5) (.slice AU s.out.length cU)) (0,0) _ hs Tryd.underlying36 rfl (by kernel_rfl) ?_)|(skip;refine wpList_store_row rfl 36 (.tmp 4) (.tmp 96) rfl (G+1+1) (cellsS { s with bH:=s.bH.set o (row.set m (s.p bb)) } (.slice A5 s.bH.length c5) (.slice AU s.out.length cU)) rfl rfl 36 _ hr (by kernel_rfl) rfl hone ?_))
  (try simp only [Exit.inBlock,Exit.then])
  refine bodyPost_ret (fF rfl _ _ (G+1+1) 36 _ (0,0) _ rfl (hr.setRow (cellsS { s with bH:=s.bH.set o (row.set m (s.p bb)) } (.slice A5 s.bH.length c5) (.slice AU s.out.length cU))) Tryd.underlying36 rfl (by kernel_rfl)) rfl ?_
  have hb3:=dE (g:=G+2) hb2.out (by omega) (cellsS { s with bH:=s.bH.set o (row.set m (s.p bb)) } (.slice A5 s.bH.length c5) (.slice AU s.out.length cU))
  have EZ:Below w.heap.size w (W6.setRow (G+1+1) (cellsS { s with bH:=s.bH.set o (row.set m (s.p bb)) } (.slice A5 s.bH.length c5) (.slice AU s.out.length cU))):=by rw [hG];exact hb3
  have UZ:∀ k,W1.heap.size≤k→(W6.setRow (G+1+1) (cellsS { s with bH:=s.bH.set o (row.set m (s.p bb)) } (.slice A5 s.bH.length c5) (.slice AU s.out.length cU))).heap[k]? = w5.heap[k]?:=fun k hk=>(ku _ k (by omega)).trans (HK6.out k hk)
  have hR6:=Kd.nC (w1:=W6.setRow (G+1+1) (cellsS { s with bH:=s.bH.set o (row.set m (s.p bb)) } (.slice A5 s.bH.length c5) (.slice AU s.out.length cU))) (Kd.oV Uy.out) (fun k hk' _=>UZ k hk'.2.1)
  have hN6:=Kd.nC (w1:=W6.setRow (G+1+1) (cellsS { s with bH:=s.bH.set o (row.set m (s.p bb)) } (.slice A5 s.bH.length c5) (.slice AU s.out.length cU))) (Kd.oV HN5.out) (fun k hk' _=>UZ k hk'.2.1)
  have hrow:(row.set m (s.p bb)).length=q5.2.1:=by rw [List.length_set];exact HQ5.out.symm
  refine ⟨_,_,rfl,⟨⟨A5,c5,hs0.set o q5,?_,?_,?_,fun wF hF=>?_,fun j hj=>?_⟩,(HV.out.below EZ).out⟩,by first|exact hb3|(rw [hG];exact hb3)⟩
  · show Value.slice A5 s.bH.length c5=.slice A5 (s.bH.set o (row.set (m:Int).toNat (s.p bb))).length c5
    rw [List.length_set]
  · show (s.bH.set o (row.set (m:Int).toNat (s.p bb))).length≤c5
    rw [List.length_set]
    exact (Kd.gz Uy.out).2.1
  · show (hs0.set o q5).length=(s.bH.set o (row.set (m:Int).toNat (s.p bb))).length
    rw [List.length_set,List.length_set]
    exact xU.out
  · show Kd.C kH wF A5 (s.bH.set o (row.set (m:Int).toNat (s.p bb))).length _
    have e9:(s.bH.set o (row.set (m:Int).toNat (s.p bb))).length=(hs0.set o q5).length:=by rw [List.length_set,List.length_set];exact xU.out.symm
    rw [e9]
    exact (Kd.gz (uw (wF:=wF) hR6 rfl (by decide) (fun k _ hn=>hF k hn))).2.2
  · have hj':j < s.bH.length:=by
      have:j < (s.bH.set o (row.set (m:Int).toNat (s.p bb))).length:=hj
      rwa [List.length_set] at this
    show ∃ q,(hs0.set o q5)[j]? = some q∧q.2.1=((s.bH.set o (row.set (m:Int).toNat (s.p bb)))[j]'(by rw [List.length_set];exact hj')).length∧((s.bH.set o (row.set (m:Int).toNat (s.p bb)))[j]'(by rw [List.length_set];exact hj')).length≤q.2.2∧∀ wF,Keep _ wF→Kd.C (Kd.int .i64) wF q.1 ((s.bH.set o (row.set (m:Int).toNat (s.p bb)))[j]'(by rw [List.length_set];exact hj')).length ((s.bH.set o (row.set (m:Int).toNat (s.p bb)))[j]'(by rw [List.length_set];exact hj'))
    by_cases hjo:o=j
    · subst hjo
      refine ⟨q5,List.getElem?_set_self (by rw [xU.out];exact hj'),?_⟩
      rw [List.getElem_set_self,Int.toNat_natCast]
      have h9:=Kd.gz HN5.out
      exact ⟨hrow.symm,by rw [hrow];exact h9.2.1,fun wF hF=>(Kd.gz (uw (wF:=wF) hN6 rfl (by decide) (fun k _ hn=>hF k hn))).2.2⟩
    · obtain ⟨q,hq,q1,q2,q3⟩:=O7.out j hj'
      refine ⟨q,by rw [List.getElem?_set_ne hjo];exact hq,?_⟩
      rw [List.getElem_set_ne hjo]
      exact ⟨q1,q2,fun wF hF=>q3 wF (hF.after EZ)⟩
end Go.Proofs.YtbmhmlgfpijmhaaDoor.P
end
end
