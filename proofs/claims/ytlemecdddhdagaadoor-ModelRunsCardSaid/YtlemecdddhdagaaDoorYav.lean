/- Parts of the proof of ModelRuns: what the functions that it reaches compute, and plain facts about that. -/
import Derived.StillTailTactics
import Derived.Test.YtlemecdddhdagaaDoorYau
set_option linter.unusedVariables false
set_option linter.unusedSimpArgs false
section
namespace Go.Proofs.YtlemecdddhdagaaDoor.P
open Go.RowKit Go.Proofs.af.bD Go.Proofs.af.dB Go.Proofs.af.dM
attribute [local go_sem ↓] Go.wp_at_zero Go.wp_at_succ
structure pG (G:Nat) (S I Z:Array Value) (w W:World):Prop where
  m0:Bk W G S 44
  m1:Bk W (G+1) I 55
  m2:Bk W (G+2) Z 44
  mb:Below G w W
  sz:G+3≤W.heap.size
section
variable {G:Nat} {S I Z:Array Value} {w W W1:World}
theorem pG.below (h:pG G S I Z w W) (hb:Below W.heap.size W W1):pG G S I Z w W1 :=
  ⟨h.m0.below hb,h.m1.below hb,h.m2.below hb,h.mb.trans (hb.mono (by have:=h.sz;omega)),Nat.le_trans h.sz hb.size⟩
theorem pG.drew (h:pG G S I Z w W):pG G S I Z w W.drew:=⟨h.m0,h.m1,h.m2,⟨h.mb.os,h.mb.tape,h.mb.output,h.mb.size,h.mb.block⟩,h.sz⟩
theorem pG.far (h:pG G S I Z w W) (g j:Nat) (v:Value) (hg:G+3≤g):pG G S I Z w (W.setCell ⟨g,j,none⟩ v) :=
  ⟨h.m0.far j v (by omega),h.m1.far j v (by omega),h.m2.far j v (by omega),h.mb.setCell (p:=⟨g,j,none⟩) (by show G≤g;omega) v,by simp [World.setCell];exact h.sz⟩
theorem pG.gJ (h:pG G S I Z w W) (g:Nat) (cs:Array Value) (hg:G+3≤g):pG G S I Z w (W.setRow g cs) :=
  ⟨h.m0.gJ cs (by omega),h.m1.gJ cs (by omega),h.m2.gJ cs (by omega),dF h.mb (by omega) cs,by rw [size_setRow];exact h.sz⟩
theorem pG.set {S':Array Value} (h:pG G S I Z w W) (j:Nat) (v:Value) (e:S.setIfInBounds j v=S'):pG G S' I Z w (W.setCell ⟨G,j,none⟩ v) :=
  ⟨e ▸ h.m0.set j v,h.m1.far j v (by omega),h.m2.far j v (by omega),h.mb.setCell (p:=⟨G,j,none⟩) (Nat.le_refl G) v,by simp [World.setCell];exact h.sz⟩
theorem pG.cells {S':Array Value} (h:pG G S I Z w W) (j:Nat) (vs:List Value) (e:Bk (W.setCells G j vs) G S' 44):pG G S' I Z w (W.setCells G j vs) :=
  ⟨e,h.m1.jr j vs (by omega),h.m2.jr j vs (by omega),iC vs _ G j h.mb (Nat.le_refl G),by rw [setCells_size];exact h.sz⟩
end
theorem yK (S I Z:Array Value) (w:World):pG w.heap.size S I Z w (((w.alloc (.cells S 44)).alloc (.cells I 55)).alloc (.cells Z 44)):=by
  have h1:=Bk.new w S 44
  have h2:=Bk.new (w.alloc (.cells S 44)) I 55
  have h3:=Bk.new ((w.alloc (.cells S 44)).alloc (.cells I 55)) Z 44
  rw [show (w.alloc (.cells S 44)).heap.size=w.heap.size+1 by simp] at h2
  rw [show ((w.alloc (.cells S 44)).alloc (.cells I 55)).heap.size=w.heap.size+2 by simp] at h3
  exact ⟨(h1.alloc _).alloc _,h2.alloc _,h3,(((Below.refl _ w).alloc (Nat.le_refl _) _).alloc (by simp) _).alloc (by simp;omega) _,by simp⟩
set_option maxRecDepth 100000 in
set_option maxHeartbeats 3200000 in
theorem IJ (s:St) (vO vU:Value) (a bb cc:Nat) (n:Int) (hbb:bb < 8) (hz:s.p bb=0) (w:World) (hv:qM s vO vU w) :
    Calls Tryd.prog 26 #[.agg (cellsS s vO vU),.agg #[.int .u8 8,.int .u8 a,.int .u8 bb,.int .u8 cc,.int .i64 n]] w fun e w'=>∃ o8 o7,e=.returned (.tuple #[.agg (cellsS s o8 o7),.int .i64 9])∧qM s o8 o7 w'∧Below w.heap.size w w':=by
  obtain ⟨AO,cO,hs0,rfl,Ob,hl0,hH0,hE0⟩:=hv.aW
  obtain ⟨AU,cU,rfl,XD,hU⟩:=hv.out
  have hO:Kd.C uJ w AO s.aW.length s.aW:=by
    obtain ⟨A5,c5,e5,h5,h6⟩:=hv.rd.aW
    injection e5 with e6 e7 e8
    rw [e6]
    exact h6
  obtain ⟨G,hG⟩:∃ G,w.heap.size=G:=⟨_,rfl⟩
  obtain ⟨W,hW⟩:∃ W,((w.alloc (.cells (cellsS s (.slice AO s.aW.length cO) (.slice AU s.out.length cU)) 44)).alloc (.cells #[.int .u8 8,.int .u8 a,.int .u8 bb,.int .u8 cc,.int .i64 n] 55)).alloc (.cells #[.int .i64 0,.int .i64 0,.int .i64 0,.int .i64 0,.int .i64 0,.int .i64 0,.int .i64 0,.int .i64 0,.int .i64 0,.int .i64 0,.int .i64 0,.int .i64 0,.int .i64 0,.int .i64 0,.int .i64 0,.int .i64 0,.int .i64 0,.int .i64 0,.int .i64 0,.int .i64 0,.slice none 0 0,.slice none 0 0,.int .i64 0,.int .i64 0] 44)=W:=⟨_,rfl⟩
  have hM:=yK (cellsS s (.slice AO s.aW.length cO) (.slice AU s.out.length cU)) #[.int .u8 8,.int .u8 a,.int .u8 bb,.int .u8 cc,.int .i64 n] #[.int .i64 0,.int .i64 0,.int .i64 0,.int .i64 0,.int .i64 0,.int .i64 0,.int .i64 0,.int .i64 0,.int .i64 0,.int .i64 0,.int .i64 0,.int .i64 0,.int .i64 0,.int .i64 0,.int .i64 0,.int .i64 0,.int .i64 0,.int .i64 0,.int .i64 0,.int .i64 0,.slice none 0 0,.slice none 0 0,.int .i64 0,.int .i64 0] w
  rw [hW,hG] at hM
  have HM:=ae.mk hM
  have HV:=ae.mk hv
  have HO:=ae.mk (Kd.bJ hO (by rw [hG];exact hM.mb))
  have SG:=Lib.hid hH0
  have RV:=Lib.hid hE0
  have yU:=Lib.hid hl0
  clear hH0 hE0 hl0
  have i0:W.cell? ⟨G+1,0,none⟩=some (.int .u8 8):=hM.m1.cell 0
  have i1:W.cell? ⟨G+1,1,none⟩=some (.int .u8 a):=hM.m1.cell 1
  have i2:W.cell? ⟨G+1,2,none⟩=some (.int .u8 bb):=hM.m1.cell 2
  have i4:W.cell? ⟨G+1,4,none⟩=some (.int .i64 n):=hM.m1.cell 4
  have c20:W.cell? ⟨G,20,none⟩=some (.slice AO s.aW.length cO):=hM.m0.cell 20
  have uM:(bb:Int) < 8:=by omega
  have cp:W.cell? ⟨G,8+bb,none⟩=some (.int .i64 0):=by rw [hM.m0.mD bb hbb,hz]
  clear hz
  clear hM hv hU hO
  go_enter Tryd.func26,Tryd.ntmps26
  go_upto_region 6 with (fail)
  clear hW
  clear cp i0 i1 i2 i4 c20
  have hs:=HM.out.m0
  have hr:=HM.out.m2
  have hb2:=Lib.hid HM.out.mb
  have hone:=HV.out.rd.one s
  go_wp2_with (first|((with_reducible refine bI (N:=29) rfl ?_);refine wpList_load_row rfl 44 (.tmp 2) rfl G rfl 44 (cellsS s (.slice AO s.aW.length cO) (.slice AU s.out.length cU)) (0,0) _ hs Tryd.underlying44 rfl (by kernel_rfl) ?_)|(skip;refine wpList_store_row rfl 44 (.tmp 4) (.tmp 29) rfl (G+1+1) (cellsS s (.slice AO s.aW.length cO) (.slice AU s.out.length cU)) rfl rfl 44 _ hr (by kernel_rfl) rfl hone ?_))
  (try simp only [Exit.inBlock,Exit.then])
  refine bodyPost_ret (fE rfl _ _ (G+1+1) 44 _ (0,0) _ rfl (hr.setRow (cellsS s (.slice AO s.aW.length cO) (.slice AU s.out.length cU))) Tryd.underlying44 rfl (by kernel_rfl)) rfl ?_
  have hb3:=dF (g:=G+2) hb2.out (by omega) (cellsS s (.slice AO s.aW.length cO) (.slice AU s.out.length cU))
  exact ⟨_,_,rfl,(HV.out.below (by rw [hG];exact hb3)).as rfl rfl,by first|exact hb3|(rw [hG];exact hb3)⟩
set_option maxRecDepth 100000 in
set_option maxHeartbeats 3200000 in
theorem F5 (s:St) (vO vU:Value) (a bb cc:Nat) (n:Int) (hbb:bb < 8) (hz:s.p bb=0) (w:World) (hv:qM s vO vU w) :
    Calls Tryd.prog 26 #[.agg (cellsS s vO vU),.agg #[.int .u8 10,.int .u8 a,.int .u8 bb,.int .u8 cc,.int .i64 n]] w fun e w'=>∃ o8 o7,e=.returned (.tuple #[.agg (cellsS s o8 o7),.int .i64 9])∧qM s o8 o7 w'∧Below w.heap.size w w':=by
  obtain ⟨AO,cO,hs0,rfl,Ob,hl0,hH0,hE0⟩:=hv.aW
  obtain ⟨AU,cU,rfl,XD,hU⟩:=hv.out
  have hO:Kd.C uJ w AO s.aW.length s.aW:=by
    obtain ⟨A5,c5,e5,h5,h6⟩:=hv.rd.aW
    injection e5 with e6 e7 e8
    rw [e6]
    exact h6
  obtain ⟨G,hG⟩:∃ G,w.heap.size=G:=⟨_,rfl⟩
  obtain ⟨W,hW⟩:∃ W,((w.alloc (.cells (cellsS s (.slice AO s.aW.length cO) (.slice AU s.out.length cU)) 44)).alloc (.cells #[.int .u8 10,.int .u8 a,.int .u8 bb,.int .u8 cc,.int .i64 n] 55)).alloc (.cells #[.int .i64 0,.int .i64 0,.int .i64 0,.int .i64 0,.int .i64 0,.int .i64 0,.int .i64 0,.int .i64 0,.int .i64 0,.int .i64 0,.int .i64 0,.int .i64 0,.int .i64 0,.int .i64 0,.int .i64 0,.int .i64 0,.int .i64 0,.int .i64 0,.int .i64 0,.int .i64 0,.slice none 0 0,.slice none 0 0,.int .i64 0,.int .i64 0] 44)=W:=⟨_,rfl⟩
  have hM:=yK (cellsS s (.slice AO s.aW.length cO) (.slice AU s.out.length cU)) #[.int .u8 10,.int .u8 a,.int .u8 bb,.int .u8 cc,.int .i64 n] #[.int .i64 0,.int .i64 0,.int .i64 0,.int .i64 0,.int .i64 0,.int .i64 0,.int .i64 0,.int .i64 0,.int .i64 0,.int .i64 0,.int .i64 0,.int .i64 0,.int .i64 0,.int .i64 0,.int .i64 0,.int .i64 0,.int .i64 0,.int .i64 0,.int .i64 0,.int .i64 0,.slice none 0 0,.slice none 0 0,.int .i64 0,.int .i64 0] w
  rw [hW,hG] at hM
  have HM:=ae.mk hM
  have HV:=ae.mk hv
  have HO:=ae.mk (Kd.bJ hO (by rw [hG];exact hM.mb))
  have SG:=Lib.hid hH0
  have RV:=Lib.hid hE0
  have yU:=Lib.hid hl0
  clear hH0 hE0 hl0
  have i0:W.cell? ⟨G+1,0,none⟩=some (.int .u8 10):=hM.m1.cell 0
  have i1:W.cell? ⟨G+1,1,none⟩=some (.int .u8 a):=hM.m1.cell 1
  have i2:W.cell? ⟨G+1,2,none⟩=some (.int .u8 bb):=hM.m1.cell 2
  have i4:W.cell? ⟨G+1,4,none⟩=some (.int .i64 n):=hM.m1.cell 4
  have c20:W.cell? ⟨G,20,none⟩=some (.slice AO s.aW.length cO):=hM.m0.cell 20
  have uM:(bb:Int) < 8:=by omega
  have cp:W.cell? ⟨G,8+bb,none⟩=some (.int .i64 0):=by rw [hM.m0.mD bb hbb,hz]
  clear hz
  clear hM hv hU hO
  go_enter Tryd.func26,Tryd.ntmps26
  go_upto_region 6 with (fail)
  clear hW
  clear cp i0 i1 i2 i4 c20
  have hs:=HM.out.m0
  have hr:=HM.out.m2
  have hb2:=Lib.hid HM.out.mb
  have hone:=HV.out.rd.one s
  go_wp2_with (first|((with_reducible refine bI (N:=29) rfl ?_);refine wpList_load_row rfl 44 (.tmp 2) rfl G rfl 44 (cellsS s (.slice AO s.aW.length cO) (.slice AU s.out.length cU)) (0,0) _ hs Tryd.underlying44 rfl (by kernel_rfl) ?_)|(skip;refine wpList_store_row rfl 44 (.tmp 4) (.tmp 29) rfl (G+1+1) (cellsS s (.slice AO s.aW.length cO) (.slice AU s.out.length cU)) rfl rfl 44 _ hr (by kernel_rfl) rfl hone ?_))
  (try simp only [Exit.inBlock,Exit.then])
  refine bodyPost_ret (fE rfl _ _ (G+1+1) 44 _ (0,0) _ rfl (hr.setRow (cellsS s (.slice AO s.aW.length cO) (.slice AU s.out.length cU))) Tryd.underlying44 rfl (by kernel_rfl)) rfl ?_
  have hb3:=dF (g:=G+2) hb2.out (by omega) (cellsS s (.slice AO s.aW.length cO) (.slice AU s.out.length cU))
  exact ⟨_,_,rfl,(HV.out.below (by rw [hG];exact hb3)).as rfl rfl,by first|exact hb3|(rw [hG];exact hb3)⟩
set_option maxRecDepth 100000 in
set_option maxHeartbeats 3200000 in
theorem II (s:St) (vO vU:Value) (a bb cc:Nat) (n:Int) (ha:a < 8) (hz:s.p a=0) (w:World) (hv:qM s vO vU w) :
    Calls Tryd.prog 26 #[.agg (cellsS s vO vU),.agg #[.int .u8 9,.int .u8 a,.int .u8 bb,.int .u8 cc,.int .i64 n]] w fun e w'=>∃ o8 o7,e=.returned (.tuple #[.agg (cellsS s o8 o7),.int .i64 9])∧qM s o8 o7 w'∧Below w.heap.size w w':=by
  obtain ⟨AO,cO,hs0,rfl,Ob,hl0,hH0,hE0⟩:=hv.aW
  obtain ⟨AU,cU,rfl,XD,hU⟩:=hv.out
  have hO:Kd.C uJ w AO s.aW.length s.aW:=by
    obtain ⟨A5,c5,e5,h5,h6⟩:=hv.rd.aW
    injection e5 with e6 e7 e8
    rw [e6]
    exact h6
  obtain ⟨G,hG⟩:∃ G,w.heap.size=G:=⟨_,rfl⟩
  obtain ⟨W,hW⟩:∃ W,((w.alloc (.cells (cellsS s (.slice AO s.aW.length cO) (.slice AU s.out.length cU)) 44)).alloc (.cells #[.int .u8 9,.int .u8 a,.int .u8 bb,.int .u8 cc,.int .i64 n] 55)).alloc (.cells #[.int .i64 0,.int .i64 0,.int .i64 0,.int .i64 0,.int .i64 0,.int .i64 0,.int .i64 0,.int .i64 0,.int .i64 0,.int .i64 0,.int .i64 0,.int .i64 0,.int .i64 0,.int .i64 0,.int .i64 0,.int .i64 0,.int .i64 0,.int .i64 0,.int .i64 0,.int .i64 0,.slice none 0 0,.slice none 0 0,.int .i64 0,.int .i64 0] 44)=W:=⟨_,rfl⟩
  have hM:=yK (cellsS s (.slice AO s.aW.length cO) (.slice AU s.out.length cU)) #[.int .u8 9,.int .u8 a,.int .u8 bb,.int .u8 cc,.int .i64 n] #[.int .i64 0,.int .i64 0,.int .i64 0,.int .i64 0,.int .i64 0,.int .i64 0,.int .i64 0,.int .i64 0,.int .i64 0,.int .i64 0,.int .i64 0,.int .i64 0,.int .i64 0,.int .i64 0,.int .i64 0,.int .i64 0,.int .i64 0,.int .i64 0,.int .i64 0,.int .i64 0,.slice none 0 0,.slice none 0 0,.int .i64 0,.int .i64 0] w
  rw [hW,hG] at hM
  have HM:=ae.mk hM
  have HV:=ae.mk hv
  have HO:=ae.mk (Kd.bJ hO (by rw [hG];exact hM.mb))
  have SG:=Lib.hid hH0
  have RV:=Lib.hid hE0
  have yU:=Lib.hid hl0
  clear hH0 hE0 hl0
  have i0:W.cell? ⟨G+1,0,none⟩=some (.int .u8 9):=hM.m1.cell 0
  have i1:W.cell? ⟨G+1,1,none⟩=some (.int .u8 a):=hM.m1.cell 1
  have i2:W.cell? ⟨G+1,2,none⟩=some (.int .u8 bb):=hM.m1.cell 2
  have i4:W.cell? ⟨G+1,4,none⟩=some (.int .i64 n):=hM.m1.cell 4
  have c20:W.cell? ⟨G,20,none⟩=some (.slice AO s.aW.length cO):=hM.m0.cell 20
  have hai:(a:Int) < 8:=by omega
  have cp:W.cell? ⟨G,8+a,none⟩=some (.int .i64 0):=by rw [hM.m0.mD a ha,hz]
  clear hz
  clear hM hv hU hO
  go_enter Tryd.func26,Tryd.ntmps26
  go_upto_region 6 with (fail)
  clear hW
  clear cp i0 i1 i2 i4 c20
  have hs:=HM.out.m0
  have hr:=HM.out.m2
  have hb2:=Lib.hid HM.out.mb
  have hone:=HV.out.rd.one s
  go_wp2_with (first|((with_reducible refine bI (N:=29) rfl ?_);refine wpList_load_row rfl 44 (.tmp 2) rfl G rfl 44 (cellsS s (.slice AO s.aW.length cO) (.slice AU s.out.length cU)) (0,0) _ hs Tryd.underlying44 rfl (by kernel_rfl) ?_)|(skip;refine wpList_store_row rfl 44 (.tmp 4) (.tmp 29) rfl (G+1+1) (cellsS s (.slice AO s.aW.length cO) (.slice AU s.out.length cU)) rfl rfl 44 _ hr (by kernel_rfl) rfl hone ?_))
  (try simp only [Exit.inBlock,Exit.then])
  refine bodyPost_ret (fE rfl _ _ (G+1+1) 44 _ (0,0) _ rfl (hr.setRow (cellsS s (.slice AO s.aW.length cO) (.slice AU s.out.length cU))) Tryd.underlying44 rfl (by kernel_rfl)) rfl ?_
  have hb3:=dF (g:=G+2) hb2.out (by omega) (cellsS s (.slice AO s.aW.length cO) (.slice AU s.out.length cU))
  exact ⟨_,_,rfl,(HV.out.below (by rw [hG];exact hb3)).as rfl rfl,by first|exact hb3|(rw [hG];exact hb3)⟩
set_option maxRecDepth 100000 in
set_option maxHeartbeats 3200000 in
theorem FZ (s:St) (vO vU:Value) (a bb cc:Nat) (n:Int) (ha:a < 8) (hz:s.p a=0) (w:World) (hv:qM s vO vU w) :
    Calls Tryd.prog 26 #[.agg (cellsS s vO vU),.agg #[.int .u8 11,.int .u8 a,.int .u8 bb,.int .u8 cc,.int .i64 n]] w fun e w'=>∃ o8 o7,e=.returned (.tuple #[.agg (cellsS s o8 o7),.int .i64 9])∧qM s o8 o7 w'∧Below w.heap.size w w':=by
  obtain ⟨AO,cO,hs0,rfl,Ob,hl0,hH0,hE0⟩:=hv.aW
  obtain ⟨AU,cU,rfl,XD,hU⟩:=hv.out
  have hO:Kd.C uJ w AO s.aW.length s.aW:=by
    obtain ⟨A5,c5,e5,h5,h6⟩:=hv.rd.aW
    injection e5 with e6 e7 e8
    rw [e6]
    exact h6
  obtain ⟨G,hG⟩:∃ G,w.heap.size=G:=⟨_,rfl⟩
  obtain ⟨W,hW⟩:∃ W,((w.alloc (.cells (cellsS s (.slice AO s.aW.length cO) (.slice AU s.out.length cU)) 44)).alloc (.cells #[.int .u8 11,.int .u8 a,.int .u8 bb,.int .u8 cc,.int .i64 n] 55)).alloc (.cells #[.int .i64 0,.int .i64 0,.int .i64 0,.int .i64 0,.int .i64 0,.int .i64 0,.int .i64 0,.int .i64 0,.int .i64 0,.int .i64 0,.int .i64 0,.int .i64 0,.int .i64 0,.int .i64 0,.int .i64 0,.int .i64 0,.int .i64 0,.int .i64 0,.int .i64 0,.int .i64 0,.slice none 0 0,.slice none 0 0,.int .i64 0,.int .i64 0] 44)=W:=⟨_,rfl⟩
  have hM:=yK (cellsS s (.slice AO s.aW.length cO) (.slice AU s.out.length cU)) #[.int .u8 11,.int .u8 a,.int .u8 bb,.int .u8 cc,.int .i64 n] #[.int .i64 0,.int .i64 0,.int .i64 0,.int .i64 0,.int .i64 0,.int .i64 0,.int .i64 0,.int .i64 0,.int .i64 0,.int .i64 0,.int .i64 0,.int .i64 0,.int .i64 0,.int .i64 0,.int .i64 0,.int .i64 0,.int .i64 0,.int .i64 0,.int .i64 0,.int .i64 0,.slice none 0 0,.slice none 0 0,.int .i64 0,.int .i64 0] w
  rw [hW,hG] at hM
  have HM:=ae.mk hM
  have HV:=ae.mk hv
  have HO:=ae.mk (Kd.bJ hO (by rw [hG];exact hM.mb))
  have SG:=Lib.hid hH0
  have RV:=Lib.hid hE0
  have yU:=Lib.hid hl0
  clear hH0 hE0 hl0
  have i0:W.cell? ⟨G+1,0,none⟩=some (.int .u8 11):=hM.m1.cell 0
  have i1:W.cell? ⟨G+1,1,none⟩=some (.int .u8 a):=hM.m1.cell 1
  have i2:W.cell? ⟨G+1,2,none⟩=some (.int .u8 bb):=hM.m1.cell 2
  have i4:W.cell? ⟨G+1,4,none⟩=some (.int .i64 n):=hM.m1.cell 4
  have c20:W.cell? ⟨G,20,none⟩=some (.slice AO s.aW.length cO):=hM.m0.cell 20
  have hai:(a:Int) < 8:=by omega
  have cp:W.cell? ⟨G,8+a,none⟩=some (.int .i64 0):=by rw [hM.m0.mD a ha,hz]
  clear hz
  clear hM hv hU hO
  go_enter Tryd.func26,Tryd.ntmps26
  go_upto_region 6 with (fail)
  clear hW
  clear cp i0 i1 i2 i4 c20
  have hs:=HM.out.m0
  have hr:=HM.out.m2
  have hb2:=Lib.hid HM.out.mb
  have hone:=HV.out.rd.one s
  go_wp2_with (first|((with_reducible refine bI (N:=29) rfl ?_);refine wpList_load_row rfl 44 (.tmp 2) rfl G rfl 44 (cellsS s (.slice AO s.aW.length cO) (.slice AU s.out.length cU)) (0,0) _ hs Tryd.underlying44 rfl (by kernel_rfl) ?_)|(skip;refine wpList_store_row rfl 44 (.tmp 4) (.tmp 29) rfl (G+1+1) (cellsS s (.slice AO s.aW.length cO) (.slice AU s.out.length cU)) rfl rfl 44 _ hr (by kernel_rfl) rfl hone ?_))
  (try simp only [Exit.inBlock,Exit.then])
  refine bodyPost_ret (fE rfl _ _ (G+1+1) 44 _ (0,0) _ rfl (hr.setRow (cellsS s (.slice AO s.aW.length cO) (.slice AU s.out.length cU))) Tryd.underlying44 rfl (by kernel_rfl)) rfl ?_
  have hb3:=dF (g:=G+2) hb2.out (by omega) (cellsS s (.slice AO s.aW.length cO) (.slice AU s.out.length cU))
  exact ⟨_,_,rfl,(HV.out.below (by rw [hG];exact hb3)).as rfl rfl,by first|exact hb3|(rw [hG];exact hb3)⟩
set_option maxRecDepth 100000 in
set_option maxHeartbeats 3200000 in
theorem ab1 (s:St) (vO vU:Value) (a bb cc:Nat) (n:Int) (ha:a < 8) (hbb:bb < 8) (o m:Nat) (row:List Int) (hp:s.p bb=(o:Int)+1) (ho:o < s.aW.length) (hlim:s.aW.length≤1000000) (hr:s.aW[o]? = some row) (hn:n=m) (hm:m < row.length) (w:World) (hv:qM s vO vU w) :
    Calls Tryd.prog 26 #[.agg (cellsS s vO vU),.agg #[.int .u8 8,.int .u8 a,.int .u8 bb,.int .u8 cc,.int .i64 n]] w fun e w'=>∃ o8 o7,e=.returned (.tuple #[.agg (cellsS { s with x:=upd s.x a (rd row n) } o8 o7),.int .i64 0])∧qM { s with x:=upd s.x a (rd row n) } o8 o7 w'∧Below w.heap.size w w':=by
  obtain ⟨AO,cO,hs0,rfl,Ob,hl0,hH0,hE0⟩:=hv.aW
  obtain ⟨AU,cU,rfl,XD,hU⟩:=hv.out
  have hO:Kd.C uJ w AO s.aW.length s.aW:=by
    obtain ⟨A5,c5,e5,h5,h6⟩:=hv.rd.aW
    injection e5 with e6 e7 e8
    rw [e6]
    exact h6
  obtain ⟨G,hG⟩:∃ G,w.heap.size=G:=⟨_,rfl⟩
  obtain ⟨W,hW⟩:∃ W,((w.alloc (.cells (cellsS s (.slice AO s.aW.length cO) (.slice AU s.out.length cU)) 44)).alloc (.cells #[.int .u8 8,.int .u8 a,.int .u8 bb,.int .u8 cc,.int .i64 n] 55)).alloc (.cells #[.int .i64 0,.int .i64 0,.int .i64 0,.int .i64 0,.int .i64 0,.int .i64 0,.int .i64 0,.int .i64 0,.int .i64 0,.int .i64 0,.int .i64 0,.int .i64 0,.int .i64 0,.int .i64 0,.int .i64 0,.int .i64 0,.int .i64 0,.int .i64 0,.int .i64 0,.int .i64 0,.slice none 0 0,.slice none 0 0,.int .i64 0,.int .i64 0] 44)=W:=⟨_,rfl⟩
  have hM:=yK (cellsS s (.slice AO s.aW.length cO) (.slice AU s.out.length cU)) #[.int .u8 8,.int .u8 a,.int .u8 bb,.int .u8 cc,.int .i64 n] #[.int .i64 0,.int .i64 0,.int .i64 0,.int .i64 0,.int .i64 0,.int .i64 0,.int .i64 0,.int .i64 0,.int .i64 0,.int .i64 0,.int .i64 0,.int .i64 0,.int .i64 0,.int .i64 0,.int .i64 0,.int .i64 0,.int .i64 0,.int .i64 0,.int .i64 0,.int .i64 0,.slice none 0 0,.slice none 0 0,.int .i64 0,.int .i64 0] w
  rw [hW,hG] at hM
  have HM:=ae.mk hM
  have HV:=ae.mk hv
  have HO:=ae.mk (Kd.bJ hO (by rw [hG];exact hM.mb))
  have SG:=Lib.hid hH0
  have RV:=Lib.hid hE0
  have yU:=Lib.hid hl0
  clear hH0 hE0 hl0
  have i0:W.cell? ⟨G+1,0,none⟩=some (.int .u8 8):=hM.m1.cell 0
  have i1:W.cell? ⟨G+1,1,none⟩=some (.int .u8 a):=hM.m1.cell 1
  have i2:W.cell? ⟨G+1,2,none⟩=some (.int .u8 bb):=hM.m1.cell 2
  have i4:W.cell? ⟨G+1,4,none⟩=some (.int .i64 n):=hM.m1.cell 4
  have c20:W.cell? ⟨G,20,none⟩=some (.slice AO s.aW.length cO):=hM.m0.cell 20
  have hai:(a:Int) < 8:=by omega
  have uM:(bb:Int) < 8:=by omega
  obtain ⟨q,hq⟩:∃ q:Int,q=(o:Int)+1:=⟨_,rfl⟩
  obtain ⟨z,hz⟩:∃ z:Int,z=(o:Int):=⟨_,rfl⟩
  have cp:W.cell? ⟨G,8+bb,none⟩=some (.int .i64 q):=by rw [hM.m0.mD bb hbb,hp,hq]
  subst hn
  have hzb:(q == 0)=false:=beq_eq_false_iff_ne.2 (by omega)
  have w1e:IntKind.i64.wrap (q - 1)=z:=by rw [hq,hz,Int.add_sub_cancel];exact IntWalk.i64_in _ (by omega)
  have w2e:wrap64 (q - 1)=z:=by rw [hq,hz,Int.add_sub_cancel];unfold wrap64;omega
  have j0:(0≤z)=True:=eq_true (by omega)
  have j1:(z < (s.aW.length:Int))=True:=eq_true (by omega)
  have j2:(0≤(m:Int))=True:=eq_true (by omega)
  have j3:((m:Int) < (row.length:Int))=True:=eq_true (by omega)
  have zt:o=z.toNat:=by omega
  obtain ⟨ad,A1,c1,e0,hx,hx1,hx2⟩:=Bz HO.out (o:Int) (by omega) (by omega)
  have MK:uG s.aW (o:Int)=row:=by show s.aW.getD (o:Int).toNat []=row;rw [Int.toNat_natCast,List.getD_eq_getElem?_getD,hr];rfl
  rw [MK] at hx hx1 hx2
  rw [Int.toNat_natCast,zt] at hx
  subst e0
  obtain ⟨sW,e2,hy⟩:=Kd.rH hx2 (m:Int) (by omega) (by omega)
  rw [Int.toNat_natCast] at hy
  subst e2
  obtain ⟨g,hg⟩:∃ g,W.heap.size=g:=⟨_,rfl⟩
  obtain ⟨wz,hwz⟩:∃ wz,W.alloc (.cells #[.int .i64 0,.int .i64 0,.int .i64 0,.int .i64 0,.int .i64 0,.int .i64 0,.int .i64 0,.int .i64 0] 34)=wz:=⟨_,rfl⟩
  have kz:Bk wz g #[.int .i64 0,.int .i64 0,.int .i64 0,.int .i64 0,.int .i64 0,.int .i64 0,.int .i64 0,.int .i64 0] 34:=by rw [← hwz,← hg];exact Bk.new W _ _
  have hbz:Below W.heap.size W wz:=by rw [← hwz];exact (Below.refl _ W).alloc (Nat.le_refl _) _
  have hrow:=hM.m0.xs
  have hG3:G+3≤g:=by rw [← hg];exact hM.sz
  have Ro:(ad.add z.toNat).block < W.heap.size:=block_lt_of_cell hx
  have G7:(sW.add m).block < W.heap.size:=block_lt_of_cell hy
  have HX:=Lib.hid hx
  have HY:=Lib.hid hy
  clear hx1 hx2 hr MK hp zt hq hz
  have O0:=Lib.hid hbz
  clear hM hv hU hO hx hy hbz
  go_enter Tryd.func26,Tryd.ntmps26
  go_upto_region 11 with (first|((with_reducible refine bI (N:=47) rfl ?_);refine qx rfl 34 (.tmp 46) rfl G 0 rfl (eu s.x) _ hrow Tryd.underlying34 rfl (by kernel_rfl) ?_)|(skip;refine wpList_store_row rfl 34 (.tmp 7) (.tmp 47) rfl g (eu s.x) rfl rfl 34 _ kz (by kernel_rfl) rfl (jq _) ?_))
  clear hW hrow cp i0 i1 i2 i4 c20
  have OQ:=ae.mk ((HM.out.below O0.out).gJ g (eu s.x) hG3)
  have qO:=ae.mk (kz.setRow (eu s.x))
  have hx:(wz.setRow g (eu s.x)).cell? (ad.add z.toNat)=some (.slice (some sW) row.length c1):=(World.cell?_of_block ((jV _ _ (by omega)).trans (O0.out.block _ Ro))).trans HX.out
  have hy:(wz.setRow g (eu s.x)).cell? (sW.add m)=some (.int .i64 (rd row (m:Int))):=(World.cell?_of_block ((jV _ _ (by omega)).trans (O0.out.block _ G7))).trans HY.out
  clear O0 kz HX HY hwz Ro G7
  generalize wz.setRow g (eu s.x)=W1 at OQ qO hx hy ⊢
  have i1:W1.cell? ⟨G+1,1,none⟩=some (.int .u8 a):=OQ.out.m1.cell 1
  have i4:W1.cell? ⟨G+1,4,none⟩=some (.int .i64 m):=OQ.out.m1.cell 4
  have c20:W1.cell? ⟨G,20,none⟩=some (.slice (some ad) s.aW.length cO):=OQ.out.m0.cell 20
  go_wp2
  go_still_tail 13,(by kernel_rfl)
  clear hx hy i1 i4 c20
  change wpList _ _ _ _ _ W1.drew
  have BG:=ae.mk OQ.out.drew
  have wK:=ae.mk (show Bk W1.drew g (eu s.x) 34 from qO.out)
  clear OQ qO
  generalize W1.drew=W2 at BG wK ⊢
  have fs:=wK.out.fr a
  have cs:=(wK.out.cell a).trans (oK s.x a ha)
  go_upto_region 12 with (fail)
  clear fs cs
  have RS:=ae.mk (BG.out.far g a (.int .i64 (rd row (m:Int))) hG3)
  have xZ:=ae.mk (qp s.x a ha (rd row (m:Int)) ▸ wK.out.set a (.int .i64 (rd row (m:Int))))
  clear BG wK
  change Code.wp _ _ _ _ (W2.setCell ⟨g,a,none⟩ (.int .i64 (rd row (m:Int))))
  generalize W2.setCell ⟨g,a,none⟩ (.int .i64 (rd row (m:Int)))=W3 at RS xZ ⊢
  have hl3:=xZ.out
  have hth:W3.there G 0 8:=RS.out.m0.there 0 8 (show 0+8≤24 by omega)
  go_upto_region 19 with (first|((with_reducible refine bI (N:=61) rfl ?_);refine wpList_load_row rfl 34 (.tmp 7) rfl g rfl 34 (eu (upd s.x a (rd row (m:Int)))) (0,0) _ hl3 Tryd.underlying34 rfl (by kernel_rfl) ?_)|(skip;refine wpList_store_mid rfl 34 (.tmp 62) (.tmp 61) rfl G 0 (eu (upd s.x a (rd row (m:Int)))) rfl rfl hth (by kernel_rfl) (jq _) ?_))
  have X9:=ae.mk (RS.out.cells 0 (eu (upd s.x a (rd row (m:Int)))).toList (RS.out.m0.yg (upd s.x a (rd row (m:Int)))))
  clear hl3 hth RS xZ
  change Code.wp _ _ _ _ (W3.setCells G 0 (eu (upd s.x a (rd row (m:Int)))).toList)
  generalize W3.setCells G 0 (eu (upd s.x a (rd row (m:Int)))).toList=W4 at X9 ⊢
  have hs:=X9.out.m0
  have hr:=X9.out.m2
  have hb2:=Lib.hid X9.out.mb
  have hone:=HV.out.rd.one { s with x:=upd s.x a (rd row (m:Int)) }
  go_wp2_with (first|((with_reducible refine bI (N:=96) rfl ?_);refine wpList_load_row rfl 44 (.tmp 2) rfl G rfl 44 (cellsS { s with x:=upd s.x a (rd row (m:Int)) } (.slice (some ad) s.aW.length cO) (.slice AU s.out.length cU)) (0,0) _ hs Tryd.underlying44 rfl (by kernel_rfl) ?_)|(skip;refine wpList_store_row rfl 44 (.tmp 4) (.tmp 96) rfl (G+1+1) (cellsS { s with x:=upd s.x a (rd row (m:Int)) } (.slice (some ad) s.aW.length cO) (.slice AU s.out.length cU)) rfl rfl 44 _ hr (by kernel_rfl) rfl hone ?_))
  (try simp only [Exit.inBlock,Exit.then])
  refine bodyPost_ret (fE rfl _ _ (G+1+1) 44 _ (0,0) _ rfl (hr.setRow (cellsS { s with x:=upd s.x a (rd row (m:Int)) } (.slice (some ad) s.aW.length cO) (.slice AU s.out.length cU))) Tryd.underlying44 rfl (by kernel_rfl)) rfl ?_
  have hb3:=dF (g:=G+2) hb2.out (by omega) (cellsS { s with x:=upd s.x a (rd row (m:Int)) } (.slice (some ad) s.aW.length cO) (.slice AU s.out.length cU))
  exact ⟨_,_,rfl,(HV.out.below (by rw [hG];exact hb3)).as rfl rfl,by first|exact hb3|(rw [hG];exact hb3)⟩
set_option maxRecDepth 100000 in
set_option maxHeartbeats 3200000 in
theorem ZT (s:St) (vO vU:Value) (a bb cc:Nat) (n:Int) (ha:a < 8) (hbb:bb < 8) (o m:Nat) (row:List Int) (hp:s.p bb=(o:Int)+1) (ho:o < s.aW.length) (hlim:s.aW.length≤1000000) (hr:s.aW[o]? = some row) (hn:n=m) (hm:m < row.length) (w:World) (hv:qM s vO vU w) :
    Calls Tryd.prog 26 #[.agg (cellsS s vO vU),.agg #[.int .u8 10,.int .u8 a,.int .u8 bb,.int .u8 cc,.int .i64 n]] w fun e w'=>∃ o8 o7,e=.returned (.tuple #[.agg (cellsS { s with p:=upd s.p a (rd row n) } o8 o7),.int .i64 0])∧qM { s with p:=upd s.p a (rd row n) } o8 o7 w'∧Below w.heap.size w w':=by
  obtain ⟨AO,cO,hs0,rfl,Ob,hl0,hH0,hE0⟩:=hv.aW
  obtain ⟨AU,cU,rfl,XD,hU⟩:=hv.out
  have hO:Kd.C uJ w AO s.aW.length s.aW:=by
    obtain ⟨A5,c5,e5,h5,h6⟩:=hv.rd.aW
    injection e5 with e6 e7 e8
    rw [e6]
    exact h6
  obtain ⟨G,hG⟩:∃ G,w.heap.size=G:=⟨_,rfl⟩
  obtain ⟨W,hW⟩:∃ W,((w.alloc (.cells (cellsS s (.slice AO s.aW.length cO) (.slice AU s.out.length cU)) 44)).alloc (.cells #[.int .u8 10,.int .u8 a,.int .u8 bb,.int .u8 cc,.int .i64 n] 55)).alloc (.cells #[.int .i64 0,.int .i64 0,.int .i64 0,.int .i64 0,.int .i64 0,.int .i64 0,.int .i64 0,.int .i64 0,.int .i64 0,.int .i64 0,.int .i64 0,.int .i64 0,.int .i64 0,.int .i64 0,.int .i64 0,.int .i64 0,.int .i64 0,.int .i64 0,.int .i64 0,.int .i64 0,.slice none 0 0,.slice none 0 0,.int .i64 0,.int .i64 0] 44)=W:=⟨_,rfl⟩
  have hM:=yK (cellsS s (.slice AO s.aW.length cO) (.slice AU s.out.length cU)) #[.int .u8 10,.int .u8 a,.int .u8 bb,.int .u8 cc,.int .i64 n] #[.int .i64 0,.int .i64 0,.int .i64 0,.int .i64 0,.int .i64 0,.int .i64 0,.int .i64 0,.int .i64 0,.int .i64 0,.int .i64 0,.int .i64 0,.int .i64 0,.int .i64 0,.int .i64 0,.int .i64 0,.int .i64 0,.int .i64 0,.int .i64 0,.int .i64 0,.int .i64 0,.slice none 0 0,.slice none 0 0,.int .i64 0,.int .i64 0] w
  rw [hW,hG] at hM
  have HM:=ae.mk hM
  have HV:=ae.mk hv
  have HO:=ae.mk (Kd.bJ hO (by rw [hG];exact hM.mb))
  have SG:=Lib.hid hH0
  have RV:=Lib.hid hE0
  have yU:=Lib.hid hl0
  clear hH0 hE0 hl0
  have i0:W.cell? ⟨G+1,0,none⟩=some (.int .u8 10):=hM.m1.cell 0
  have i1:W.cell? ⟨G+1,1,none⟩=some (.int .u8 a):=hM.m1.cell 1
  have i2:W.cell? ⟨G+1,2,none⟩=some (.int .u8 bb):=hM.m1.cell 2
  have i4:W.cell? ⟨G+1,4,none⟩=some (.int .i64 n):=hM.m1.cell 4
  have c20:W.cell? ⟨G,20,none⟩=some (.slice AO s.aW.length cO):=hM.m0.cell 20
  have hai:(a:Int) < 8:=by omega
  have uM:(bb:Int) < 8:=by omega
  obtain ⟨q,hq⟩:∃ q:Int,q=(o:Int)+1:=⟨_,rfl⟩
  obtain ⟨z,hz⟩:∃ z:Int,z=(o:Int):=⟨_,rfl⟩
  have cp:W.cell? ⟨G,8+bb,none⟩=some (.int .i64 q):=by rw [hM.m0.mD bb hbb,hp,hq]
  subst hn
  have hzb:(q == 0)=false:=beq_eq_false_iff_ne.2 (by omega)
  have w1e:IntKind.i64.wrap (q - 1)=z:=by rw [hq,hz,Int.add_sub_cancel];exact IntWalk.i64_in _ (by omega)
  have w2e:wrap64 (q - 1)=z:=by rw [hq,hz,Int.add_sub_cancel];unfold wrap64;omega
  have j0:(0≤z)=True:=eq_true (by omega)
  have j1:(z < (s.aW.length:Int))=True:=eq_true (by omega)
  have j2:(0≤(m:Int))=True:=eq_true (by omega)
  have j3:((m:Int) < (row.length:Int))=True:=eq_true (by omega)
  have zt:o=z.toNat:=by omega
  obtain ⟨ad,A1,c1,e0,hx,hx1,hx2⟩:=Bz HO.out (o:Int) (by omega) (by omega)
  have MK:uG s.aW (o:Int)=row:=by show s.aW.getD (o:Int).toNat []=row;rw [Int.toNat_natCast,List.getD_eq_getElem?_getD,hr];rfl
  rw [MK] at hx hx1 hx2
  rw [Int.toNat_natCast,zt] at hx
  subst e0
  obtain ⟨sW,e2,hy⟩:=Kd.rH hx2 (m:Int) (by omega) (by omega)
  rw [Int.toNat_natCast] at hy
  subst e2
  obtain ⟨g,hg⟩:∃ g,W.heap.size=g:=⟨_,rfl⟩
  obtain ⟨wz,hwz⟩:∃ wz,W.alloc (.cells #[.int .i64 0,.int .i64 0,.int .i64 0,.int .i64 0,.int .i64 0,.int .i64 0,.int .i64 0,.int .i64 0] 35)=wz:=⟨_,rfl⟩
  have kz:Bk wz g #[.int .i64 0,.int .i64 0,.int .i64 0,.int .i64 0,.int .i64 0,.int .i64 0,.int .i64 0,.int .i64 0] 35:=by rw [← hwz,← hg];exact Bk.new W _ _
  have hbz:Below W.heap.size W wz:=by rw [← hwz];exact (Below.refl _ W).alloc (Nat.le_refl _) _
  have hrow:=hM.m0.ps
  have hG3:G+3≤g:=by rw [← hg];exact hM.sz
  have Ro:(ad.add z.toNat).block < W.heap.size:=block_lt_of_cell hx
  have G7:(sW.add m).block < W.heap.size:=block_lt_of_cell hy
  have HX:=Lib.hid hx
  have HY:=Lib.hid hy
  clear hx1 hx2 hr MK hp zt hq hz
  have O0:=Lib.hid hbz
  clear hM hv hU hO hx hy hbz
  go_enter Tryd.func26,Tryd.ntmps26
  go_upto_region 15 with (first|((with_reducible refine bI (N:=66) rfl ?_);refine qx rfl 35 (.tmp 65) rfl G 8 rfl (eu s.p) _ hrow Tryd.underlying35 rfl (by kernel_rfl) ?_)|(skip;refine wpList_store_row rfl 35 (.tmp 8) (.tmp 66) rfl g (eu s.p) rfl rfl 35 _ kz (by kernel_rfl) rfl (jq _) ?_))
  clear hW hrow cp i0 i1 i2 i4 c20
  have OQ:=ae.mk ((HM.out.below O0.out).gJ g (eu s.p) hG3)
  have qO:=ae.mk (kz.setRow (eu s.p))
  have hx:(wz.setRow g (eu s.p)).cell? (ad.add z.toNat)=some (.slice (some sW) row.length c1):=(World.cell?_of_block ((jV _ _ (by omega)).trans (O0.out.block _ Ro))).trans HX.out
  have hy:(wz.setRow g (eu s.p)).cell? (sW.add m)=some (.int .i64 (rd row (m:Int))):=(World.cell?_of_block ((jV _ _ (by omega)).trans (O0.out.block _ G7))).trans HY.out
  clear O0 kz HX HY hwz Ro G7
  generalize wz.setRow g (eu s.p)=W1 at OQ qO hx hy ⊢
  have i1:W1.cell? ⟨G+1,1,none⟩=some (.int .u8 a):=OQ.out.m1.cell 1
  have i4:W1.cell? ⟨G+1,4,none⟩=some (.int .i64 m):=OQ.out.m1.cell 4
  have c20:W1.cell? ⟨G,20,none⟩=some (.slice (some ad) s.aW.length cO):=OQ.out.m0.cell 20
  go_wp2
  go_still_tail 13,(by kernel_rfl)
  clear hx hy i1 i4 c20
  change wpList _ _ _ _ _ W1.drew
  have BG:=ae.mk OQ.out.drew
  have wK:=ae.mk (show Bk W1.drew g (eu s.p) 35 from qO.out)
  clear OQ qO
  generalize W1.drew=W2 at BG wK ⊢
  have fs:=wK.out.fr a
  have cs:=(wK.out.cell a).trans (oK s.p a ha)
  go_upto_region 16 with (fail)
  clear fs cs
  have RS:=ae.mk (BG.out.far g a (.int .i64 (rd row (m:Int))) hG3)
  have xZ:=ae.mk (qp s.p a ha (rd row (m:Int)) ▸ wK.out.set a (.int .i64 (rd row (m:Int))))
  clear BG wK
  change Code.wp _ _ _ _ (W2.setCell ⟨g,a,none⟩ (.int .i64 (rd row (m:Int))))
  generalize W2.setCell ⟨g,a,none⟩ (.int .i64 (rd row (m:Int)))=W3 at RS xZ ⊢
  have hl3:=xZ.out
  have hth:W3.there G 8 8:=RS.out.m0.there 8 8 (show 8+8≤24 by omega)
  go_upto_region 19 with (first|((with_reducible refine bI (N:=80) rfl ?_);refine wpList_load_row rfl 35 (.tmp 8) rfl g rfl 35 (eu (upd s.p a (rd row (m:Int)))) (0,0) _ hl3 Tryd.underlying35 rfl (by kernel_rfl) ?_)|(skip;refine wpList_store_mid rfl 35 (.tmp 81) (.tmp 80) rfl G 8 (eu (upd s.p a (rd row (m:Int)))) rfl rfl hth (by kernel_rfl) (jq _) ?_))
  have X9:=ae.mk (RS.out.cells 8 (eu (upd s.p a (rd row (m:Int)))).toList (RS.out.m0.yh (upd s.p a (rd row (m:Int)))))
  clear hl3 hth RS xZ
  change Code.wp _ _ _ _ (W3.setCells G 8 (eu (upd s.p a (rd row (m:Int)))).toList)
  generalize W3.setCells G 8 (eu (upd s.p a (rd row (m:Int)))).toList=W4 at X9 ⊢
  have hs:=X9.out.m0
  have hr:=X9.out.m2
  have hb2:=Lib.hid X9.out.mb
  have hone:=HV.out.rd.one { s with p:=upd s.p a (rd row (m:Int)) }
  go_wp2_with (first|((with_reducible refine bI (N:=96) rfl ?_);refine wpList_load_row rfl 44 (.tmp 2) rfl G rfl 44 (cellsS { s with p:=upd s.p a (rd row (m:Int)) } (.slice (some ad) s.aW.length cO) (.slice AU s.out.length cU)) (0,0) _ hs Tryd.underlying44 rfl (by kernel_rfl) ?_)|(skip;refine wpList_store_row rfl 44 (.tmp 4) (.tmp 96) rfl (G+1+1) (cellsS { s with p:=upd s.p a (rd row (m:Int)) } (.slice (some ad) s.aW.length cO) (.slice AU s.out.length cU)) rfl rfl 44 _ hr (by kernel_rfl) rfl hone ?_))
  (try simp only [Exit.inBlock,Exit.then])
  refine bodyPost_ret (fE rfl _ _ (G+1+1) 44 _ (0,0) _ rfl (hr.setRow (cellsS { s with p:=upd s.p a (rd row (m:Int)) } (.slice (some ad) s.aW.length cO) (.slice AU s.out.length cU))) Tryd.underlying44 rfl (by kernel_rfl)) rfl ?_
  have hb3:=dF (g:=G+2) hb2.out (by omega) (cellsS { s with p:=upd s.p a (rd row (m:Int)) } (.slice (some ad) s.aW.length cO) (.slice AU s.out.length cU))
  exact ⟨_,_,rfl,(HV.out.below (by rw [hG];exact hb3)).as rfl rfl,by first|exact hb3|(rw [hG];exact hb3)⟩
set_option maxRecDepth 100000 in
set_option maxHeartbeats 3200000 in
theorem abZ (s:St) (vO vU:Value) (a bb cc:Nat) (n:Int) (ha:a < 8) (hbb:bb < 8) (o m:Nat) (row:List Int) (hp:s.p a=(o:Int)+1) (ho:o < s.aW.length) (hlim:s.aW.length≤1000000) (hr:s.aW[o]? = some row) (hn:n=m) (hm:m < row.length) (hrl:row.length≤1000000) (w:World) (hv:qM s vO vU w) :
    Calls Tryd.prog 26 #[.agg (cellsS s vO vU),.agg #[.int .u8 9,.int .u8 a,.int .u8 bb,.int .u8 cc,.int .i64 n]] w fun e w'=>∃ o8 o7,e=.returned (.tuple #[.agg (cellsS { s with aW:=s.aW.set o (row.set n.toNat (s.x bb)) } o8 o7),.int .i64 0])∧qM { s with aW:=s.aW.set o (row.set n.toNat (s.x bb)) } o8 o7 w'∧Below w.heap.size w w':=by
  obtain ⟨AO,cO,hs0,rfl,Ob,hl0,hH0,hE0⟩:=hv.aW
  obtain ⟨AU,cU,rfl,XD,hU⟩:=hv.out
  have hO:Kd.C uJ w AO s.aW.length s.aW:=by
    obtain ⟨A5,c5,e5,h5,h6⟩:=hv.rd.aW
    injection e5 with e6 e7 e8
    rw [e6]
    exact h6
  obtain ⟨G,hG⟩:∃ G,w.heap.size=G:=⟨_,rfl⟩
  obtain ⟨W,hW⟩:∃ W,((w.alloc (.cells (cellsS s (.slice AO s.aW.length cO) (.slice AU s.out.length cU)) 44)).alloc (.cells #[.int .u8 9,.int .u8 a,.int .u8 bb,.int .u8 cc,.int .i64 n] 55)).alloc (.cells #[.int .i64 0,.int .i64 0,.int .i64 0,.int .i64 0,.int .i64 0,.int .i64 0,.int .i64 0,.int .i64 0,.int .i64 0,.int .i64 0,.int .i64 0,.int .i64 0,.int .i64 0,.int .i64 0,.int .i64 0,.int .i64 0,.int .i64 0,.int .i64 0,.int .i64 0,.int .i64 0,.slice none 0 0,.slice none 0 0,.int .i64 0,.int .i64 0] 44)=W:=⟨_,rfl⟩
  have hM:=yK (cellsS s (.slice AO s.aW.length cO) (.slice AU s.out.length cU)) #[.int .u8 9,.int .u8 a,.int .u8 bb,.int .u8 cc,.int .i64 n] #[.int .i64 0,.int .i64 0,.int .i64 0,.int .i64 0,.int .i64 0,.int .i64 0,.int .i64 0,.int .i64 0,.int .i64 0,.int .i64 0,.int .i64 0,.int .i64 0,.int .i64 0,.int .i64 0,.int .i64 0,.int .i64 0,.int .i64 0,.int .i64 0,.int .i64 0,.int .i64 0,.slice none 0 0,.slice none 0 0,.int .i64 0,.int .i64 0] w
  rw [hW,hG] at hM
  have HM:=ae.mk hM
  have HV:=ae.mk hv
  have HO:=ae.mk (Kd.bJ hO (by rw [hG];exact hM.mb))
  have SG:=Lib.hid hH0
  have RV:=Lib.hid hE0
  have yU:=Lib.hid hl0
  clear hH0 hE0 hl0
  have i0:W.cell? ⟨G+1,0,none⟩=some (.int .u8 9):=hM.m1.cell 0
  have i1:W.cell? ⟨G+1,1,none⟩=some (.int .u8 a):=hM.m1.cell 1
  have i2:W.cell? ⟨G+1,2,none⟩=some (.int .u8 bb):=hM.m1.cell 2
  have i4:W.cell? ⟨G+1,4,none⟩=some (.int .i64 n):=hM.m1.cell 4
  have c20:W.cell? ⟨G,20,none⟩=some (.slice AO s.aW.length cO):=hM.m0.cell 20
  have hai:(a:Int) < 8:=by omega
  have uM:(bb:Int) < 8:=by omega
  obtain ⟨q,hq⟩:∃ q:Int,q=(o:Int)+1:=⟨_,rfl⟩
  obtain ⟨z,hz⟩:∃ z:Int,z=(o:Int):=⟨_,rfl⟩
  have cp:W.cell? ⟨G,8+a,none⟩=some (.int .i64 q):=by rw [hM.m0.mD a ha,hp,hq]
  subst hn
  have hzb:(q == 0)=false:=beq_eq_false_iff_ne.2 (by omega)
  have w1e:IntKind.i64.wrap (q - 1)=z:=by rw [hq,hz,Int.add_sub_cancel];exact IntWalk.i64_in _ (by omega)
  have w2e:wrap64 (q - 1)=z:=by rw [hq,hz,Int.add_sub_cancel];unfold wrap64;omega
  have j0:(0≤z)=True:=eq_true (by omega)
  have j1:(z < (s.aW.length:Int))=True:=eq_true (by omega)
  have j2:(0≤(m:Int))=True:=eq_true (by omega)
  have j3:((m:Int) < (row.length:Int))=True:=eq_true (by omega)
  have zt:o=z.toNat:=by omega
  obtain ⟨ad,A1,c1,e0,hx,hx1,hx2⟩:=Bz HO.out (o:Int) (by omega) (by omega)
  have MK:uG s.aW (o:Int)=row:=by show s.aW.getD (o:Int).toNat []=row;rw [Int.toNat_natCast,List.getD_eq_getElem?_getD,hr];rfl
  rw [MK] at hx hx1 hx2
  rw [Int.toNat_natCast,zt] at hx
  subst e0
  have HRO:=Lib.hid hr
  have HQ:=Lib.hid hq
  have HOO:=Lib.hid ho
  have cr:W.cell? ⟨G,bb,none⟩=some (.int .i64 (s.x bb)):=hM.m0.wE bb hbb
  have HLM:=Lib.hid hlim
  have HML:=Lib.hid hm
  have HRL:=Lib.hid hrl
  clear hx hx1 hx2 hr MK hp zt hq hz j0 j1 j2 j3 w1e w2e
  have hgt:=hM.m0.lt
  clear hM hv hU hO
  go_enter Tryd.func26,Tryd.ntmps26
  go_wp2
  clear hW cp i0
  go_still_tail 10,(by kernel_rfl)
  clear cr i1 i2 i4 c20
  change wpList _ _ _ _ _ W.drew
  have BG:=ae.mk HM.out.drew
  have Fj:=ae.mk (Kd.dD HO.out)
  clear HM HO
  generalize W.drew=W1 at BG Fj ⊢
  have hq:=HQ.out
  subst hq
  go_upto_region 999 with (fail)
  have hHW:=SG.out W1 (fun k hk=>BG.out.mb.block k (by have:=hk.lt;omega))
  refine (C9 (some ad) cO s.aW hs0 row o m (s.x bb) W1 yU.out hHW Fj.out Ob HOO.out HLM.out HRO.out HML.out HRL.out).mono ?_
  rintro e w5 ⟨A5,c5,q5,rfl,hq5,hR5,hN5,hb5⟩
  have OZ:=ae.mk (BG.out.below hb5)
  have Hu:=Lib.hid hR5
  have Za:=Lib.hid hN5
  have Ci:=Lib.hid hq5
  have hsz5:G+3≤W1.heap.size:=BG.out.sz
  have d20:w5.cell? ⟨G,20,none⟩=some (.slice (some ad) s.aW.length cO):=OZ.out.m0.cell 20
  have f20:w5.frozen? ⟨G,20,none⟩=false:=OZ.out.m0.fr 20
  clear hR5 hN5 hq5 hb5 BG Fj hHW
  go_upto_region 19 with (fail)
  clear d20 f20
  have X8:=ae.mk (OZ.out.set 20 (.slice A5 s.aW.length c5) (show _=cellsS { s with aW:=s.aW.set o (row.set m (s.x bb)) } (.slice A5 s.aW.length c5) (.slice AU s.out.length cU) from rfl))
  have HK6:=Lib.hid (fun k (hk:W1.heap.size≤k)=>Below.heap_setCell w5 ⟨G,20,none⟩ (.slice A5 s.aW.length c5) k (show k ≠ G by omega))
  clear OZ
  change Code.wp _ _ _ _ (w5.setCell ⟨G,20,none⟩ (.slice A5 s.aW.length c5))
  generalize w5.setCell ⟨G,20,none⟩ (.slice A5 s.aW.length c5)=W6 at X8 HK6 ⊢
  have hs:=X8.out.m0
  have hr:=X8.out.m2
  have hb2:=Lib.hid X8.out.mb
  have hone:=(show (cellsS { s with aW:=s.aW.set o (row.set m (s.x bb)) } (.slice A5 s.aW.length c5) (.slice AU s.out.length cU)).all (·.oneCell')=true from by simp [cellsS,Value.oneCell'])
  go_wp2_with (first|((with_reducible refine bI (N:=96) rfl ?_);refine wpList_load_row rfl 44 (.tmp 2) rfl G rfl 44 (cellsS { s with aW:=s.aW.set o (row.set m (s.x bb)) } (.slice A5 s.aW.length c5) (.slice AU s.out.length cU)) (0,0) _ hs Tryd.underlying44 rfl (by kernel_rfl) ?_)|(skip;refine wpList_store_row rfl 44 (.tmp 4) (.tmp 96) rfl (G+1+1) (cellsS { s with aW:=s.aW.set o (row.set m (s.x bb)) } (.slice A5 s.aW.length c5) (.slice AU s.out.length cU)) rfl rfl 44 _ hr (by kernel_rfl) rfl hone ?_))
  (try simp only [Exit.inBlock,Exit.then])
  refine bodyPost_ret (fE rfl _ _ (G+1+1) 44 _ (0,0) _ rfl (hr.setRow (cellsS { s with aW:=s.aW.set o (row.set m (s.x bb)) } (.slice A5 s.aW.length c5) (.slice AU s.out.length cU))) Tryd.underlying44 rfl (by kernel_rfl)) rfl ?_
  have hb3:=dF (g:=G+2) hb2.out (by omega) (cellsS { s with aW:=s.aW.set o (row.set m (s.x bb)) } (.slice A5 s.aW.length c5) (.slice AU s.out.length cU))
  have Gq:Below w.heap.size w (W6.setRow (G+1+1) (cellsS { s with aW:=s.aW.set o (row.set m (s.x bb)) } (.slice A5 s.aW.length c5) (.slice AU s.out.length cU))):=by rw [hG];exact hb3
  have YA:∀ k,W1.heap.size≤k→(W6.setRow (G+1+1) (cellsS { s with aW:=s.aW.set o (row.set m (s.x bb)) } (.slice A5 s.aW.length c5) (.slice AU s.out.length cU))).heap[k]? = w5.heap[k]?:=fun k hk=>(jV _ k (by omega)).trans (HK6.out k hk)
  have hR6:=Kd.kL (w1:=W6.setRow (G+1+1) (cellsS { s with aW:=s.aW.set o (row.set m (s.x bb)) } (.slice A5 s.aW.length c5) (.slice AU s.out.length cU))) (Kd.lJ Hu.out) (fun k hk' _=>YA k hk'.2.1)
  have hN6:=Kd.kL (w1:=W6.setRow (G+1+1) (cellsS { s with aW:=s.aW.set o (row.set m (s.x bb)) } (.slice A5 s.aW.length c5) (.slice AU s.out.length cU))) (Kd.lJ Za.out) (fun k hk' _=>YA k hk'.2.1)
  have hrow:(row.set m (s.x bb)).length=q5.2.1:=by rw [List.length_set];exact Ci.out.symm
  refine ⟨_,_,rfl,⟨⟨A5,c5,hs0.set o q5,?_,?_,?_,fun wF hF=>?_,fun j hj=>?_⟩,(HV.out.below Gq).out⟩,by first|exact hb3|(rw [hG];exact hb3)⟩
  · show Value.slice A5 s.aW.length c5=.slice A5 (s.aW.set o (row.set (m:Int).toNat (s.x bb))).length c5
    rw [List.length_set]
  · show (s.aW.set o (row.set (m:Int).toNat (s.x bb))).length≤c5
    rw [List.length_set]
    exact (Kd.dW Hu.out).2.1
  · show (hs0.set o q5).length=(s.aW.set o (row.set (m:Int).toNat (s.x bb))).length
    rw [List.length_set,List.length_set]
    exact yU.out
  · show Kd.C kH wF A5 (s.aW.set o (row.set (m:Int).toNat (s.x bb))).length _
    have e9:(s.aW.set o (row.set (m:Int).toNat (s.x bb))).length=(hs0.set o q5).length:=by rw [List.length_set,List.length_set];exact yU.out.symm
    rw [e9]
    exact (Kd.dW (uY (wF:=wF) hR6 rfl (by decide) (fun k _ hn=>hF k hn))).2.2
  · have hj':j < s.aW.length:=by
      have:j < (s.aW.set o (row.set (m:Int).toNat (s.x bb))).length:=hj
      rwa [List.length_set] at this
    show ∃ q,(hs0.set o q5)[j]? = some q∧q.2.1=((s.aW.set o (row.set (m:Int).toNat (s.x bb)))[j]'(by rw [List.length_set];exact hj')).length∧((s.aW.set o (row.set (m:Int).toNat (s.x bb)))[j]'(by rw [List.length_set];exact hj')).length≤q.2.2∧∀ wF,Keep _ wF→Kd.C (Kd.int .i64) wF q.1 ((s.aW.set o (row.set (m:Int).toNat (s.x bb)))[j]'(by rw [List.length_set];exact hj')).length ((s.aW.set o (row.set (m:Int).toNat (s.x bb)))[j]'(by rw [List.length_set];exact hj'))
    by_cases hjo:o=j
    · subst hjo
      refine ⟨q5,List.getElem?_set_self (by rw [yU.out];exact hj'),?_⟩
      rw [List.getElem_set_self,Int.toNat_natCast]
      have h9:=Kd.dW Za.out
      exact ⟨hrow.symm,by rw [hrow];exact h9.2.1,fun wF hF=>(Kd.dW (uY (wF:=wF) hN6 rfl (by decide) (fun k _ hn=>hF k hn))).2.2⟩
    · obtain ⟨q,hq,q1,q2,q3⟩:=RV.out j hj'
      refine ⟨q,by rw [List.getElem?_set_ne hjo];exact hq,?_⟩
      rw [List.getElem_set_ne hjo]
      exact ⟨q1,q2,fun wF hF=>q3 wF (hF.after Gq)⟩
set_option maxRecDepth 100000 in
set_option maxHeartbeats 3200000 in
theorem ZR (s:St) (vO vU:Value) (a bb cc:Nat) (n:Int) (ha:a < 8) (hbb:bb < 8) (o m:Nat) (row:List Int) (hp:s.p a=(o:Int)+1) (ho:o < s.aW.length) (hlim:s.aW.length≤1000000) (hr:s.aW[o]? = some row) (hn:n=m) (hm:m < row.length) (hrl:row.length≤1000000) (w:World) (hv:qM s vO vU w) :
    Calls Tryd.prog 26 #[.agg (cellsS s vO vU),.agg #[.int .u8 11,.int .u8 a,.int .u8 bb,.int .u8 cc,.int .i64 n]] w fun e w'=>∃ o8 o7,e=.returned (.tuple #[.agg (cellsS { s with aW:=s.aW.set o (row.set n.toNat (s.p bb)) } o8 o7),.int .i64 0])∧qM { s with aW:=s.aW.set o (row.set n.toNat (s.p bb)) } o8 o7 w'∧Below w.heap.size w w':=by
  obtain ⟨AO,cO,hs0,rfl,Ob,hl0,hH0,hE0⟩:=hv.aW
  obtain ⟨AU,cU,rfl,XD,hU⟩:=hv.out
  have hO:Kd.C uJ w AO s.aW.length s.aW:=by
    obtain ⟨A5,c5,e5,h5,h6⟩:=hv.rd.aW
    injection e5 with e6 e7 e8
    rw [e6]
    exact h6
  obtain ⟨G,hG⟩:∃ G,w.heap.size=G:=⟨_,rfl⟩
  obtain ⟨W,hW⟩:∃ W,((w.alloc (.cells (cellsS s (.slice AO s.aW.length cO) (.slice AU s.out.length cU)) 44)).alloc (.cells #[.int .u8 11,.int .u8 a,.int .u8 bb,.int .u8 cc,.int .i64 n] 55)).alloc (.cells #[.int .i64 0,.int .i64 0,.int .i64 0,.int .i64 0,.int .i64 0,.int .i64 0,.int .i64 0,.int .i64 0,.int .i64 0,.int .i64 0,.int .i64 0,.int .i64 0,.int .i64 0,.int .i64 0,.int .i64 0,.int .i64 0,.int .i64 0,.int .i64 0,.int .i64 0,.int .i64 0,.slice none 0 0,.slice none 0 0,.int .i64 0,.int .i64 0] 44)=W:=⟨_,rfl⟩
  have hM:=yK (cellsS s (.slice AO s.aW.length cO) (.slice AU s.out.length cU)) #[.int .u8 11,.int .u8 a,.int .u8 bb,.int .u8 cc,.int .i64 n] #[.int .i64 0,.int .i64 0,.int .i64 0,.int .i64 0,.int .i64 0,.int .i64 0,.int .i64 0,.int .i64 0,.int .i64 0,.int .i64 0,.int .i64 0,.int .i64 0,.int .i64 0,.int .i64 0,.int .i64 0,.int .i64 0,.int .i64 0,.int .i64 0,.int .i64 0,.int .i64 0,.slice none 0 0,.slice none 0 0,.int .i64 0,.int .i64 0] w
  rw [hW,hG] at hM
  have HM:=ae.mk hM
  have HV:=ae.mk hv
  have HO:=ae.mk (Kd.bJ hO (by rw [hG];exact hM.mb))
  have SG:=Lib.hid hH0
  have RV:=Lib.hid hE0
  have yU:=Lib.hid hl0
  clear hH0 hE0 hl0
  have i0:W.cell? ⟨G+1,0,none⟩=some (.int .u8 11):=hM.m1.cell 0
  have i1:W.cell? ⟨G+1,1,none⟩=some (.int .u8 a):=hM.m1.cell 1
  have i2:W.cell? ⟨G+1,2,none⟩=some (.int .u8 bb):=hM.m1.cell 2
  have i4:W.cell? ⟨G+1,4,none⟩=some (.int .i64 n):=hM.m1.cell 4
  have c20:W.cell? ⟨G,20,none⟩=some (.slice AO s.aW.length cO):=hM.m0.cell 20
  have hai:(a:Int) < 8:=by omega
  have uM:(bb:Int) < 8:=by omega
  obtain ⟨q,hq⟩:∃ q:Int,q=(o:Int)+1:=⟨_,rfl⟩
  obtain ⟨z,hz⟩:∃ z:Int,z=(o:Int):=⟨_,rfl⟩
  have cp:W.cell? ⟨G,8+a,none⟩=some (.int .i64 q):=by rw [hM.m0.mD a ha,hp,hq]
  subst hn
  have hzb:(q == 0)=false:=beq_eq_false_iff_ne.2 (by omega)
  have w1e:IntKind.i64.wrap (q - 1)=z:=by rw [hq,hz,Int.add_sub_cancel];exact IntWalk.i64_in _ (by omega)
  have w2e:wrap64 (q - 1)=z:=by rw [hq,hz,Int.add_sub_cancel];unfold wrap64;omega
  have j0:(0≤z)=True:=eq_true (by omega)
  have j1:(z < (s.aW.length:Int))=True:=eq_true (by omega)
  have j2:(0≤(m:Int))=True:=eq_true (by omega)
  have j3:((m:Int) < (row.length:Int))=True:=eq_true (by omega)
  have zt:o=z.toNat:=by omega
  obtain ⟨ad,A1,c1,e0,hx,hx1,hx2⟩:=Bz HO.out (o:Int) (by omega) (by omega)
  have MK:uG s.aW (o:Int)=row:=by show s.aW.getD (o:Int).toNat []=row;rw [Int.toNat_natCast,List.getD_eq_getElem?_getD,hr];rfl
  rw [MK] at hx hx1 hx2
  rw [Int.toNat_natCast,zt] at hx
  subst e0
  have HRO:=Lib.hid hr
  have HQ:=Lib.hid hq
  have HOO:=Lib.hid ho
  have cr:W.cell? ⟨G,8+bb,none⟩=some (.int .i64 (s.p bb)):=hM.m0.mD bb hbb
  have HLM:=Lib.hid hlim
  have HML:=Lib.hid hm
  have HRL:=Lib.hid hrl
  clear hx hx1 hx2 hr MK hp zt hq hz j0 j1 j2 j3 w1e w2e
  have hgt:=hM.m0.lt
  clear hM hv hU hO
  go_enter Tryd.func26,Tryd.ntmps26
  go_wp2
  clear hW cp i0
  go_still_tail 10,(by kernel_rfl)
  clear cr i1 i2 i4 c20
  change wpList _ _ _ _ _ W.drew
  have BG:=ae.mk HM.out.drew
  have Fj:=ae.mk (Kd.dD HO.out)
  clear HM HO
  generalize W.drew=W1 at BG Fj ⊢
  have hq:=HQ.out
  subst hq
  go_upto_region 999 with (fail)
  have hHW:=SG.out W1 (fun k hk=>BG.out.mb.block k (by have:=hk.lt;omega))
  refine (C9 (some ad) cO s.aW hs0 row o m (s.p bb) W1 yU.out hHW Fj.out Ob HOO.out HLM.out HRO.out HML.out HRL.out).mono ?_
  rintro e w5 ⟨A5,c5,q5,rfl,hq5,hR5,hN5,hb5⟩
  have OZ:=ae.mk (BG.out.below hb5)
  have Hu:=Lib.hid hR5
  have Za:=Lib.hid hN5
  have Ci:=Lib.hid hq5
  have hsz5:G+3≤W1.heap.size:=BG.out.sz
  have d20:w5.cell? ⟨G,20,none⟩=some (.slice (some ad) s.aW.length cO):=OZ.out.m0.cell 20
  have f20:w5.frozen? ⟨G,20,none⟩=false:=OZ.out.m0.fr 20
  clear hR5 hN5 hq5 hb5 BG Fj hHW
  go_upto_region 19 with (fail)
  clear d20 f20
  have X8:=ae.mk (OZ.out.set 20 (.slice A5 s.aW.length c5) (show _=cellsS { s with aW:=s.aW.set o (row.set m (s.p bb)) } (.slice A5 s.aW.length c5) (.slice AU s.out.length cU) from rfl))
  have HK6:=Lib.hid (fun k (hk:W1.heap.size≤k)=>Below.heap_setCell w5 ⟨G,20,none⟩ (.slice A5 s.aW.length c5) k (show k ≠ G by omega))
  clear OZ
  change Code.wp _ _ _ _ (w5.setCell ⟨G,20,none⟩ (.slice A5 s.aW.length c5))
  generalize w5.setCell ⟨G,20,none⟩ (.slice A5 s.aW.length c5)=W6 at X8 HK6 ⊢
  have hs:=X8.out.m0
  have hr:=X8.out.m2
  have hb2:=Lib.hid X8.out.mb
  have hone:=(show (cellsS { s with aW:=s.aW.set o (row.set m (s.p bb)) } (.slice A5 s.aW.length c5) (.slice AU s.out.length cU)).all (·.oneCell')=true from by simp [cellsS,Value.oneCell'])
  go_wp2_with (first|((with_reducible refine bI (N:=96) rfl ?_);refine wpList_load_row rfl 44 (.tmp 2) rfl G rfl 44 (cellsS { s with aW:=s.aW.set o (row.set m (s.p bb)) } (.slice A5 s.aW.length c5) (.slice AU s.out.length cU)) (0,0) _ hs Tryd.underlying44 rfl (by kernel_rfl) ?_)|(skip;refine wpList_store_row rfl 44 (.tmp 4) (.tmp 96) rfl (G+1+1) (cellsS { s with aW:=s.aW.set o (row.set m (s.p bb)) } (.slice A5 s.aW.length c5) (.slice AU s.out.length cU)) rfl rfl 44 _ hr (by kernel_rfl) rfl hone ?_))
  (try simp only [Exit.inBlock,Exit.then])
  refine bodyPost_ret (fE rfl _ _ (G+1+1) 44 _ (0,0) _ rfl (hr.setRow (cellsS { s with aW:=s.aW.set o (row.set m (s.p bb)) } (.slice A5 s.aW.length c5) (.slice AU s.out.length cU))) Tryd.underlying44 rfl (by kernel_rfl)) rfl ?_
  have hb3:=dF (g:=G+2) hb2.out (by omega) (cellsS { s with aW:=s.aW.set o (row.set m (s.p bb)) } (.slice A5 s.aW.length c5) (.slice AU s.out.length cU))
  have Gq:Below w.heap.size w (W6.setRow (G+1+1) (cellsS { s with aW:=s.aW.set o (row.set m (s.p bb)) } (.slice A5 s.aW.length c5) (.slice AU s.out.length cU))):=by rw [hG];exact hb3
  have YA:∀ k,W1.heap.size≤k→(W6.setRow (G+1+1) (cellsS { s with aW:=s.aW.set o (row.set m (s.p bb)) } (.slice A5 s.aW.length c5) (.slice AU s.out.length cU))).heap[k]? = w5.heap[k]?:=fun k hk=>(jV _ k (by omega)).trans (HK6.out k hk)
  have hR6:=Kd.kL (w1:=W6.setRow (G+1+1) (cellsS { s with aW:=s.aW.set o (row.set m (s.p bb)) } (.slice A5 s.aW.length c5) (.slice AU s.out.length cU))) (Kd.lJ Hu.out) (fun k hk' _=>YA k hk'.2.1)
  have hN6:=Kd.kL (w1:=W6.setRow (G+1+1) (cellsS { s with aW:=s.aW.set o (row.set m (s.p bb)) } (.slice A5 s.aW.length c5) (.slice AU s.out.length cU))) (Kd.lJ Za.out) (fun k hk' _=>YA k hk'.2.1)
  have hrow:(row.set m (s.p bb)).length=q5.2.1:=by rw [List.length_set];exact Ci.out.symm
  refine ⟨_,_,rfl,⟨⟨A5,c5,hs0.set o q5,?_,?_,?_,fun wF hF=>?_,fun j hj=>?_⟩,(HV.out.below Gq).out⟩,by first|exact hb3|(rw [hG];exact hb3)⟩
  · show Value.slice A5 s.aW.length c5=.slice A5 (s.aW.set o (row.set (m:Int).toNat (s.p bb))).length c5
    rw [List.length_set]
  · show (s.aW.set o (row.set (m:Int).toNat (s.p bb))).length≤c5
    rw [List.length_set]
    exact (Kd.dW Hu.out).2.1
  · show (hs0.set o q5).length=(s.aW.set o (row.set (m:Int).toNat (s.p bb))).length
    rw [List.length_set,List.length_set]
    exact yU.out
  · show Kd.C kH wF A5 (s.aW.set o (row.set (m:Int).toNat (s.p bb))).length _
    have e9:(s.aW.set o (row.set (m:Int).toNat (s.p bb))).length=(hs0.set o q5).length:=by rw [List.length_set,List.length_set];exact yU.out.symm
    rw [e9]
    exact (Kd.dW (uY (wF:=wF) hR6 rfl (by decide) (fun k _ hn=>hF k hn))).2.2
  · have hj':j < s.aW.length:=by
      have:j < (s.aW.set o (row.set (m:Int).toNat (s.p bb))).length:=hj
      rwa [List.length_set] at this
    show ∃ q,(hs0.set o q5)[j]? = some q∧q.2.1=((s.aW.set o (row.set (m:Int).toNat (s.p bb)))[j]'(by rw [List.length_set];exact hj')).length∧((s.aW.set o (row.set (m:Int).toNat (s.p bb)))[j]'(by rw [List.length_set];exact hj')).length≤q.2.2∧∀ wF,Keep _ wF→Kd.C (Kd.int .i64) wF q.1 ((s.aW.set o (row.set (m:Int).toNat (s.p bb)))[j]'(by rw [List.length_set];exact hj')).length ((s.aW.set o (row.set (m:Int).toNat (s.p bb)))[j]'(by rw [List.length_set];exact hj'))
    by_cases hjo:o=j
    · subst hjo
      refine ⟨q5,List.getElem?_set_self (by rw [yU.out];exact hj'),?_⟩
      rw [List.getElem_set_self,Int.toNat_natCast]
      have h9:=Kd.dW Za.out
      exact ⟨hrow.symm,by rw [hrow];exact h9.2.1,fun wF hF=>(Kd.dW (uY (wF:=wF) hN6 rfl (by decide) (fun k _ hn=>hF k hn))).2.2⟩
    · obtain ⟨q,hq,q1,q2,q3⟩:=RV.out j hj'
      refine ⟨q,by rw [List.getElem?_set_ne hjo];exact hq,?_⟩
      rw [List.getElem_set_ne hjo]
      exact ⟨q1,q2,fun wF hF=>q3 wF (hF.after Gq)⟩
end Go.Proofs.YtlemecdddhdagaaDoor.P
end
section
namespace Go.Proofs.YtlemecdddhdagaaDoor.P
open Go.RowKit Go.Proofs.af.bD Go.Proofs.af.dB Go.Proofs.af.dM
def ZQ (s:St) (op a b c:Nat) (n:Int):Option (St × Bool) :=
  if op=1 then if a < 8 then some ({ s with x:=upd s.x a n },true) else none
  else if op=2 then if a < 8∧b < 8∧c < 8 then some ({ s with x:=upd s.x a (wrap64 (s.x b+s.x c)) },true) else none
  else if op=15 then if a < 8∧b < 8∧c < 8 then some ({ s with x:=upd s.x a (if s.p b=s.p c then 1 else 0) },true) else none
  else if op=14 then if a < 8∧s.out.length≤1000000 then some ({ s with out:=s.out++[s.x a] },true) else none
  else some (s,false)
def sF (s:St) (op a b:Nat) (n:Int):Option (St × Int) :=
  if a < 8∧b < 8∧s.aW.length≤1000000 then
    if op=8 then if s.p b=0 then some (s,9) else if BI s (s.p b) n then some ({ s with x:=upd s.x a (rd (rowOf s (s.p b)) n) },0) else none
    else if op=10 then if s.p b=0 then some (s,9) else if BI s (s.p b) n then some ({ s with p:=upd s.p a (rd (rowOf s (s.p b)) n) },0) else none
    else if op=9 then if s.p a=0 then some (s,9) else if BI s (s.p a) n then some ({ s with aW:=s.aW.set (s.p a - 1).toNat ((rowOf s (s.p a)).set n.toNat (s.x b)) },0) else none
    else if op=11 then if s.p a=0 then some (s,9) else if BI s (s.p a) n then some ({ s with aW:=s.aW.set (s.p a - 1).toNat ((rowOf s (s.p a)).set n.toNat (s.p b)) },0) else none
    else none
  else none
def abN (sz:Int→Option Int) (s:St) (op a b c:Nat) (n:Int):Option (St × Int) :=
  if op=3 then some ({ bump s with pc:=n },0)
  else if op=4 then if a < 8 then if s.x a=0 then some ({ bump s with pc:=n },0) else some (bump s,0) else none
  else (ZQ (bump s) op a b c n).bind fun u=>if u.2=true then some (u.1,0) else (Ij sz (bump s) op a b).bind fun v=>if v.2=true then some (v.1,0) else sF (bump s) op a b n
theorem FX (s s':St) (is:Bool) (vO vU:Value) (op a bb cc:Nat) (n:Int) (w:World) (hv:qM s vO vU w) (h:ZQ s op a bb cc n=some (s',is)) :
    Calls Tryd.prog 24 #[.agg (cellsS s vO vU),.agg #[.int .u8 op,.int .u8 a,.int .u8 bb,.int .u8 cc,.int .i64 n]] w fun e w'=>∃ o8 o7,e=.returned (.tuple #[.agg (cellsS s' o8 o7),.bool is])∧qM s' o8 o7 w'∧Below w.heap.size w w':=by
  unfold ZQ at h
  by_cases h1:op=1
  · rw [if_pos h1] at h
    subst h1
    by_cases hc:a < 8
    · rw [if_pos hc] at h
      obtain ⟨rfl,rfl⟩:=Prod.mk.inj (Option.some.inj h)
      exact NV s vO vU a bb cc n hc w hv
    · rw [if_neg hc] at h
      cases h
  rw [if_neg h1] at h
  by_cases h2:op=2
  · rw [if_pos h2] at h
    subst h2
    by_cases hc:a < 8∧bb < 8∧cc < 8
    · rw [if_pos hc] at h
      obtain ⟨rfl,rfl⟩:=Prod.mk.inj (Option.some.inj h)
      exact NU s vO vU a bb cc n hc.1 hc.2.1 hc.2.2 w hv
    · rw [if_neg hc] at h
      cases h
  rw [if_neg h2] at h
  by_cases h15:op=15
  · rw [if_pos h15] at h
    subst h15
    by_cases hc:a < 8∧bb < 8∧cc < 8
    · rw [if_pos hc] at h
      obtain ⟨rfl,rfl⟩:=Prod.mk.inj (Option.some.inj h)
      by_cases hz:s.p bb=s.p cc
      · rw [if_pos hz]
        exact Aw s vO vU a bb cc n hc.1 hc.2.1 hc.2.2 hz w hv
      · rw [if_neg hz]
        exact BU s vO vU a bb cc n hc.1 hc.2.1 hc.2.2 hz w hv
    · rw [if_neg hc] at h
      cases h
  rw [if_neg h15] at h
  by_cases h14:op=14
  · rw [if_pos h14] at h
    subst h14
    by_cases hc:a < 8∧s.out.length≤1000000
    · rw [if_pos hc] at h
      obtain ⟨rfl,rfl⟩:=Prod.mk.inj (Option.some.inj h)
      exact IC s vO vU a bb cc n hc.1 hc.2 w hv
    · rw [if_neg hc] at h
      cases h
  rw [if_neg h14] at h
  obtain ⟨rfl,rfl⟩:=Prod.mk.inj (Option.some.inj h)
  exact Eb s vO vU op a bb cc n h1 h2 h15 h14 w hv
theorem BI.open {s:St} {o n:Int} (h:BI s o n):∃ k m:Nat,o=(k:Int)+1∧k < s.aW.length∧s.aW[k]? = some (rowOf s o)∧n=m∧m < (rowOf s o).length∧(o - 1).toNat=k∧n.toNat=m:=by
  obtain ⟨h1,h2,h3,h4⟩:=h
  refine ⟨(o - 1).toNat,n.toNat,by omega,by omega,?_,by omega,by omega,rfl,rfl⟩
  unfold rowOf
  rw [List.getD_eq_getElem?_getD,List.getElem?_eq_getElem (by omega)]
  rfl
theorem IG (s s':St) (e':Int) (vO vU:Value) (op a bb cc:Nat) (n:Int) (w:World) (hv:qM s vO vU w) (hrow:∀ j (hj:j < s.aW.length),(s.aW[j]).length≤1000000) (h:sF s op a bb n=some (s',e')) :
    Calls Tryd.prog 26 #[.agg (cellsS s vO vU),.agg #[.int .u8 op,.int .u8 a,.int .u8 bb,.int .u8 cc,.int .i64 n]] w fun e w'=>∃ o8 o7,e=.returned (.tuple #[.agg (cellsS s' o8 o7),.int .i64 e'])∧qM s' o8 o7 w'∧Below w.heap.size w w':=by
  unfold sF at h
  by_cases hc:a < 8∧bb < 8∧s.aW.length≤1000000
  case neg =>
    rw [if_neg hc] at h
    cases h
  rw [if_pos hc] at h
  obtain ⟨ha,hb,hl⟩:=hc
  by_cases h8:op=8
  · rw [if_pos h8] at h
    subst h8
    by_cases hz:s.p bb=0
    · rw [if_pos hz] at h
      obtain ⟨rfl,rfl⟩:=Prod.mk.inj (Option.some.inj h)
      exact IJ s vO vU a bb cc n hb hz w hv
    rw [if_neg hz] at h
    by_cases hF:BI s (s.p bb) n
    · rw [if_pos hF] at h
      obtain ⟨rfl,rfl⟩:=Prod.mk.inj (Option.some.inj h)
      obtain ⟨k,m,e1,e2,e3,e4,e5,e6,e7⟩:=hF.open
      exact ab1 s vO vU a bb cc n ha hb k m (rowOf s (s.p bb)) e1 e2 hl e3 e4 e5 w hv
    · rw [if_neg hF] at h
      cases h
  rw [if_neg h8] at h
  by_cases h10:op=10
  · rw [if_pos h10] at h
    subst h10
    by_cases hz:s.p bb=0
    · rw [if_pos hz] at h
      obtain ⟨rfl,rfl⟩:=Prod.mk.inj (Option.some.inj h)
      exact F5 s vO vU a bb cc n hb hz w hv
    rw [if_neg hz] at h
    by_cases hF:BI s (s.p bb) n
    · rw [if_pos hF] at h
      obtain ⟨rfl,rfl⟩:=Prod.mk.inj (Option.some.inj h)
      obtain ⟨k,m,e1,e2,e3,e4,e5,e6,e7⟩:=hF.open
      exact ZT s vO vU a bb cc n ha hb k m (rowOf s (s.p bb)) e1 e2 hl e3 e4 e5 w hv
    · rw [if_neg hF] at h
      cases h
  rw [if_neg h10] at h
  have hlen:∀ {k:Nat} {row:List Int},s.aW[k]? = some row→row.length≤1000000:=fun {k row} hk=>by
    obtain ⟨hk',rfl⟩:=List.getElem?_eq_some_iff.1 hk
    exact hrow k hk'
  by_cases h9:op=9
  · rw [if_pos h9] at h
    subst h9
    by_cases hz:s.p a=0
    · rw [if_pos hz] at h
      obtain ⟨rfl,rfl⟩:=Prod.mk.inj (Option.some.inj h)
      exact II s vO vU a bb cc n ha hz w hv
    rw [if_neg hz] at h
    by_cases hF:BI s (s.p a) n
    · rw [if_pos hF] at h
      obtain ⟨rfl,rfl⟩:=Prod.mk.inj (Option.some.inj h)
      obtain ⟨k,m,e1,e2,e3,e4,e5,e6,e7⟩:=hF.open
      rw [e6]
      exact abZ s vO vU a bb cc n ha hb k m (rowOf s (s.p a)) e1 e2 hl e3 e4 e5 (hlen e3) w hv
    · rw [if_neg hF] at h
      cases h
  rw [if_neg h9] at h
  by_cases h11:op=11
  · rw [if_pos h11] at h
    subst h11
    by_cases hz:s.p a=0
    · rw [if_pos hz] at h
      obtain ⟨rfl,rfl⟩:=Prod.mk.inj (Option.some.inj h)
      exact FZ s vO vU a bb cc n ha hz w hv
    rw [if_neg hz] at h
    by_cases hF:BI s (s.p a) n
    · rw [if_pos hF] at h
      obtain ⟨rfl,rfl⟩:=Prod.mk.inj (Option.some.inj h)
      obtain ⟨k,m,e1,e2,e3,e4,e5,e6,e7⟩:=hF.open
      rw [e6]
      exact ZR s vO vU a bb cc n ha hb k m (rowOf s (s.p a)) e1 e2 hl e3 e4 e5 (hlen e3) w hv
    · rw [if_neg hF] at h
      cases h
  rw [if_neg h11] at h
  cases h
theorem NM {sz:Int→Option Int} {s:St} {op a b c:Nat} {n:Int} {r:St × Int} (hO:s.aW.length≤1000000) (hU:s.out.length≤1000000) (h:rF sz s op a b c n=some r):abN sz s op a b c n=some r:=by
  match op,h with
  | 0,h=>exact absurd h (by show ¬ (none:Option (St × Int))=some r;simp)
  | 1,h =>
    have h':(if a < 8 then some ({ bump s with x:=upd s.x a n },(0:Int)) else none)=some r:=h
    show (if a < 8 then some ({ bump s with x:=upd s.x a n },true) else none:Option (St × Bool)).bind (fun u=>if u.2=true then some (u.1,(0:Int)) else (Ij sz (bump s) 1 a b).bind fun v=>if v.2=true then some (v.1,0) else sF (bump s) 1 a b n)=some r
    by_cases hc:a < 8
    · rw [if_pos hc] at h'
      rw [if_pos hc]
      exact h'
    · rw [if_neg hc] at h'
      cases h'
  | 2,h =>
    have h':(if a < 8∧b < 8∧c < 8 then some ({ bump s with x:=upd s.x a (wrap64 (s.x b+s.x c)) },(0:Int)) else none)=some r:=h
    show (if a < 8∧b < 8∧c < 8 then some ({ bump s with x:=upd s.x a (wrap64 (s.x b+s.x c)) },true) else none:Option (St × Bool)).bind (fun u=>if u.2=true then some (u.1,(0:Int)) else (Ij sz (bump s) 2 a b).bind fun v=>if v.2=true then some (v.1,0) else sF (bump s) 2 a b n)=some r
    by_cases hc:a < 8∧b < 8∧c < 8
    · rw [if_pos hc] at h'
      rw [if_pos hc]
      exact h'
    · rw [if_neg hc] at h'
      cases h'
  | 3,h=>exact h
  | 4,h=>exact h
  | 5,h =>
    have h':(if a < 8 then (sz a).bind fun z=>if 0≤z∧z≤1000000 then some ({ bump s with aW:=s.aW++[List.replicate z.toNat 0],p:=upd s.p a ((s.aW.length:Int)+1) },(0:Int)) else none else none)=some r:=h
    show (some (bump s,false):Option (St × Bool)).bind (fun u=>if u.2=true then some (u.1,(0:Int)) else (if a < 8∧s.aW.length≤1000000 then (sz a).bind fun z=>if 0≤z∧z≤1000000 then some ({ bump s with aW:=s.aW++[List.replicate z.toNat 0],p:=upd s.p a ((s.aW.length:Int)+1) },true) else none else none:Option (St × Bool)).bind fun v=>if v.2=true then some (v.1,0) else sF (bump s) 5 a b n)=some r
    by_cases hc:a < 8
    · rw [if_pos hc] at h'
      rw [if_pos ⟨hc,hO⟩]
      obtain ⟨z,hz,h2⟩:=Option.bind_eq_some_iff.1 h'
      rw [hz,Option.bind_some,Option.bind_some]
      by_cases hz0:0≤z∧z≤1000000
      · rw [if_pos hz0] at h2 ⊢
        exact h2
      · rw [if_neg hz0] at h2
        cases h2
    · rw [if_neg hc] at h'
      cases h'
  | 6,h =>
    have h':(if a < 8 then some ({ bump s with p:=upd s.p a 0 },(0:Int)) else none)=some r:=h
    show (some (bump s,false):Option (St × Bool)).bind (fun u=>if u.2=true then some (u.1,(0:Int)) else (if a < 8 then some ({ bump s with p:=upd s.p a 0 },true) else none:Option (St × Bool)).bind fun v=>if v.2=true then some (v.1,0) else sF (bump s) 6 a b n)=some r
    by_cases hc:a < 8
    · rw [if_pos hc] at h'
      rw [if_pos hc]
      exact h'
    · rw [if_neg hc] at h'
      cases h'
  | 7,h =>
    have h':(if a < 8∧b < 8 then some ({ bump s with p:=upd s.p a (s.p b) },(0:Int)) else none)=some r:=h
    show (some (bump s,false):Option (St × Bool)).bind (fun u=>if u.2=true then some (u.1,(0:Int)) else (if a < 8∧b < 8 then some ({ bump s with p:=upd s.p a (s.p b) },true) else none:Option (St × Bool)).bind fun v=>if v.2=true then some (v.1,0) else sF (bump s) 7 a b n)=some r
    by_cases hc:a < 8∧b < 8
    · rw [if_pos hc] at h'
      rw [if_pos hc]
      exact h'
    · rw [if_neg hc] at h'
      cases h'
  | 8,h =>
    by_cases hc:a < 8∧b < 8
    · have e1:rF sz s (8:Nat) a b c n=(if s.p b=0 then some (bump s,(9:Int)) else _):=if_pos hc
      have e2:sF (bump s) 8 a b n=(if s.p b=0 then some (bump s,(9:Int)) else _):=if_pos ⟨hc.1,hc.2,hO⟩
      show sF (bump s) 8 a b n=some r
      rw [e2]
      rw [e1] at h
      exact h
    · have e1:rF sz s (8:Nat) a b c n=none:=if_neg hc
      rw [e1] at h
      cases h
  | 9,h =>
    by_cases hc:a < 8∧b < 8
    · have e1:rF sz s (9:Nat) a b c n=(if s.p a=0 then some (bump s,(9:Int)) else _):=if_pos hc
      have e2:sF (bump s) 9 a b n=(if s.p a=0 then some (bump s,(9:Int)) else _):=if_pos ⟨hc.1,hc.2,hO⟩
      show sF (bump s) 9 a b n=some r
      rw [e2]
      rw [e1] at h
      exact h
    · have e1:rF sz s (9:Nat) a b c n=none:=if_neg hc
      rw [e1] at h
      cases h
  | 10,h =>
    by_cases hc:a < 8∧b < 8
    · have e1:rF sz s (10:Nat) a b c n=(if s.p b=0 then some (bump s,(9:Int)) else _):=if_pos hc
      have e2:sF (bump s) 10 a b n=(if s.p b=0 then some (bump s,(9:Int)) else _):=if_pos ⟨hc.1,hc.2,hO⟩
      show sF (bump s) 10 a b n=some r
      rw [e2]
      rw [e1] at h
      exact h
    · have e1:rF sz s (10:Nat) a b c n=none:=if_neg hc
      rw [e1] at h
      cases h
  | 11,h =>
    by_cases hc:a < 8∧b < 8
    · have e1:rF sz s (11:Nat) a b c n=(if s.p a=0 then some (bump s,(9:Int)) else _):=if_pos hc
      have e2:sF (bump s) 11 a b n=(if s.p a=0 then some (bump s,(9:Int)) else _):=if_pos ⟨hc.1,hc.2,hO⟩
      show sF (bump s) 11 a b n=some r
      rw [e2]
      rw [e1] at h
      exact h
    · have e1:rF sz s (11:Nat) a b c n=none:=if_neg hc
      rw [e1] at h
      cases h
  | 12,h =>
    have h':(if a < 8∧b < 4 then some ({ bump s with p:=upd s.p a (s.g b) },(0:Int)) else none)=some r:=h
    show (some (bump s,false):Option (St × Bool)).bind (fun u=>if u.2=true then some (u.1,(0:Int)) else (if a < 8∧b < 4 then some ({ bump s with p:=upd s.p a (s.g b) },true) else none:Option (St × Bool)).bind fun v=>if v.2=true then some (v.1,0) else sF (bump s) 12 a b n)=some r
    by_cases hc:a < 8∧b < 4
    · rw [if_pos hc] at h'
      rw [if_pos hc]
      exact h'
    · rw [if_neg hc] at h'
      cases h'
  | 13,h =>
    have h':(if a < 4∧b < 8 then some ({ bump s with g:=upd s.g a (s.p b) },(0:Int)) else none)=some r:=h
    show (some (bump s,false):Option (St × Bool)).bind (fun u=>if u.2=true then some (u.1,(0:Int)) else (if a < 4∧b < 8 then some ({ bump s with g:=upd s.g a (s.p b) },true) else none:Option (St × Bool)).bind fun v=>if v.2=true then some (v.1,0) else sF (bump s) 13 a b n)=some r
    by_cases hc:a < 4∧b < 8
    · rw [if_pos hc] at h'
      rw [if_pos hc]
      exact h'
    · rw [if_neg hc] at h'
      cases h'
  | 14,h =>
    have h':(if a < 8 then some ({ bump s with out:=s.out++[s.x a] },(0:Int)) else none)=some r:=h
    show (if a < 8∧s.out.length≤1000000 then some ({ bump s with out:=s.out++[s.x a] },true) else none:Option (St × Bool)).bind (fun u=>if u.2=true then some (u.1,(0:Int)) else (Ij sz (bump s) 14 a b).bind fun v=>if v.2=true then some (v.1,0) else sF (bump s) 14 a b n)=some r
    by_cases hc:a < 8
    · rw [if_pos hc] at h'
      rw [if_pos ⟨hc,hU⟩]
      exact h'
    · rw [if_neg hc] at h'
      cases h'
  | 15,h =>
    have h':(if a < 8∧b < 8∧c < 8 then some ({ bump s with x:=upd s.x a (if s.p b=s.p c then 1 else 0) },(0:Int)) else none)=some r:=h
    show (if a < 8∧b < 8∧c < 8 then some ({ bump s with x:=upd s.x a (if s.p b=s.p c then 1 else 0) },true) else none:Option (St × Bool)).bind (fun u=>if u.2=true then some (u.1,(0:Int)) else (Ij sz (bump s) 15 a b).bind fun v=>if v.2=true then some (v.1,0) else sF (bump s) 15 a b n)=some r
    by_cases hc:a < 8∧b < 8∧c < 8
    · rw [if_pos hc] at h'
      rw [if_pos hc]
      exact h'
    · rw [if_neg hc] at h'
      cases h'
  | op+16,h =>
    exfalso
    unfold rF at h
    rw [if_neg (by omega),if_neg (by omega),if_neg (by omega),if_neg (by omega),if_neg (by omega),if_neg (by omega),if_neg (by omega),if_neg (by omega),if_neg (by omega),if_neg (by omega),if_neg (by omega),if_neg (by omega),if_neg (by omega),if_neg (by omega),if_neg (by omega)] at h
    cases h
end Go.Proofs.YtlemecdddhdagaaDoor.P
end
