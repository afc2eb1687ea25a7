/- Parts of the proof of LeakTrue: what the functions that it reaches compute, and plain facts about that. -/
import Derived.Test.YtgfnpdfhdgenbaaDoorTam
set_option linter.unusedVariables false
set_option linter.unusedSimpArgs false
section
section
namespace Go.Proofs.YtgfnpdfhdgenbaaDoor.P
open Go.RowKit Go.Proofs.ae.bf Go.Proofs.ae.bY Go.Proofs.ae.cZ
structure oq (G:Nat) (S I Z:Array Value) (w W:World):Prop where
  m0:Bk W G S 36
  m1:Bk W (G+1) I 45
  m2:Bk W (G+2) Z 36
  mb:Below G w W
  sz:G+3≤W.heap.size
section
variable {G:Nat} {S I Z:Array Value} {w W W1:World}
theorem oq.below (h:oq G S I Z w W) (hb:Below W.heap.size W W1):oq G S I Z w W1 :=
  ⟨h.m0.below hb,h.m1.below hb,h.m2.below hb,h.mb.trans (hb.mono (by have:=h.sz;omega)),Nat.le_trans h.sz hb.size⟩
theorem oq.drew (h:oq G S I Z w W):oq G S I Z w W.drew:=⟨h.m0,h.m1,h.m2,⟨h.mb.os,h.mb.tape,h.mb.output,h.mb.size,h.mb.block⟩,h.sz⟩
theorem oq.far (h:oq G S I Z w W) (g j:Nat) (v:Value) (hg:G+3≤g):oq G S I Z w (W.setCell ⟨g,j,none⟩ v) :=
  ⟨h.m0.far j v (by omega),h.m1.far j v (by omega),h.m2.far j v (by omega),h.mb.setCell (p:=⟨g,j,none⟩) (by show G≤g;omega) v,by simp [World.setCell];exact h.sz⟩
theorem oq.fK (h:oq G S I Z w W) (g:Nat) (cs:Array Value) (hg:G+3≤g):oq G S I Z w (W.setRow g cs) :=
  ⟨h.m0.fK cs (by omega),h.m1.fK cs (by omega),h.m2.fK cs (by omega),dm h.mb (by omega) cs,by rw [size_setRow];exact h.sz⟩
theorem oq.set {S':Array Value} (h:oq G S I Z w W) (j:Nat) (v:Value) (e:S.setIfInBounds j v=S'):oq G S' I Z w (W.setCell ⟨G,j,none⟩ v) :=
  ⟨e ▸ h.m0.set j v,h.m1.far j v (by omega),h.m2.far j v (by omega),h.mb.setCell (p:=⟨G,j,none⟩) (Nat.le_refl G) v,by simp [World.setCell];exact h.sz⟩
theorem oq.cells {S':Array Value} (h:oq G S I Z w W) (j:Nat) (vs:List Value) (e:Bk (W.setCells G j vs) G S' 36):oq G S' I Z w (W.setCells G j vs) :=
  ⟨e,h.m1.iR j vs (by omega),h.m2.iR j vs (by omega),gB vs _ G j h.mb (Nat.le_refl G),by rw [setCells_size];exact h.sz⟩
end
theorem xm (S I Z:Array Value) (w:World):oq w.heap.size S I Z w (((w.alloc (.cells S 36)).alloc (.cells I 45)).alloc (.cells Z 36)):=by
  have h1:=Bk.new w S 36
  have h2:=Bk.new (w.alloc (.cells S 36)) I 45
  have h3:=Bk.new ((w.alloc (.cells S 36)).alloc (.cells I 45)) Z 36
  rw [show (w.alloc (.cells S 36)).heap.size=w.heap.size+1 by simp] at h2
  rw [show ((w.alloc (.cells S 36)).alloc (.cells I 45)).heap.size=w.heap.size+2 by simp] at h3
  exact ⟨(h1.alloc _).alloc _,h2.alloc _,h3,(((Below.refl _ w).alloc (Nat.le_refl _) _).alloc (by simp) _).alloc (by simp;omega) _,by simp⟩
set_option maxRecDepth 100000 in
set_option maxHeartbeats 3200000 in
theorem Gz (s:St) (vO vU:Value) (a bb cc:Nat) (n:Int) (hbb:bb < 8) (hz:s.p bb=0) (w:World) (hv:nK s vO vU w) :
    Calls Tryd.prog 21 #[.agg (cellsS s vO vU),.agg #[.int .u8 8,.int .u8 a,.int .u8 bb,.int .u8 cc,.int .i64 n]] w fun e w'=>∃ o5 oZ,e=.returned (.tuple #[.agg (cellsS s o5 oZ),.int .i64 9])∧nK s o5 oZ w'∧Below w.heap.size w w':=by
  obtain ⟨AO,cO,hs0,rfl,MF,hl0,hH0,hE0⟩:=hv.aK
  obtain ⟨AU,cU,rfl,TM,hU⟩:=hv.out
  have hO:Kd.C wR w AO s.aK.length s.aK:=by
    obtain ⟨A5,c5,e5,h5,h6⟩:=hv.rd.aK
    injection e5 with e6 e7 e8
    rw [e6]
    exact h6
  obtain ⟨G,hG⟩:∃ G,w.heap.size=G:=⟨_,rfl⟩
  obtain ⟨W,hW⟩:∃ W,((w.alloc (.cells (cellsS s (.slice AO s.aK.length cO) (.slice AU s.out.length cU)) 36)).alloc (.cells #[.int .u8 8,.int .u8 a,.int .u8 bb,.int .u8 cc,.int .i64 n] 45)).alloc (.cells #[.int .i64 0,.int .i64 0,.int .i64 0,.int .i64 0,.int .i64 0,.int .i64 0,.int .i64 0,.int .i64 0,.int .i64 0,.int .i64 0,.int .i64 0,.int .i64 0,.int .i64 0,.int .i64 0,.int .i64 0,.int .i64 0,.int .i64 0,.int .i64 0,.int .i64 0,.int .i64 0,.slice none 0 0,.slice none 0 0,.int .i64 0,.int .i64 0] 36)=W:=⟨_,rfl⟩
  have hM:=xm (cellsS s (.slice AO s.aK.length cO) (.slice AU s.out.length cU)) #[.int .u8 8,.int .u8 a,.int .u8 bb,.int .u8 cc,.int .i64 n] #[.int .i64 0,.int .i64 0,.int .i64 0,.int .i64 0,.int .i64 0,.int .i64 0,.int .i64 0,.int .i64 0,.int .i64 0,.int .i64 0,.int .i64 0,.int .i64 0,.int .i64 0,.int .i64 0,.int .i64 0,.int .i64 0,.int .i64 0,.int .i64 0,.int .i64 0,.int .i64 0,.slice none 0 0,.slice none 0 0,.int .i64 0,.int .i64 0] w
  rw [hW,hG] at hM
  have HM:=af.mk hM
  have HV:=af.mk hv
  have HO:=af.mk (Kd.bQ hO (by rw [hG];exact hM.mb))
  have PK:=Lib.hid hH0
  have O6:=Lib.hid hE0
  have xE:=Lib.hid hl0
  clear hH0 hE0 hl0
  have i0:W.cell? ⟨G+1,0,none⟩=some (.int .u8 8):=hM.m1.cell 0
  have i1:W.cell? ⟨G+1,1,none⟩=some (.int .u8 a):=hM.m1.cell 1
  have i2:W.cell? ⟨G+1,2,none⟩=some (.int .u8 bb):=hM.m1.cell 2
  have i4:W.cell? ⟨G+1,4,none⟩=some (.int .i64 n):=hM.m1.cell 4
  have c20:W.cell? ⟨G,20,none⟩=some (.slice AO s.aK.length cO):=hM.m0.cell 20
  have zu:(bb:Int) < 8:=by omega
  have cp:W.cell? ⟨G,8+bb,none⟩=some (.int .i64 0):=by rw [hM.m0.qg bb hbb,hz]
  clear hz
  clear hM hv hU hO
  go_enter Tryd.func21,Tryd.ntmps21
  go_upto_region 6 with (fail)
  clear hW
  clear cp i0 i1 i2 i4 c20
  have hs:=HM.out.m0
  have hr:=HM.out.m2
  have hb2:=Lib.hid HM.out.mb
  have hone:=HV.out.rd.one s
  go_wp2_with (first|((with_reducible refine bD (N:=29) rfl ?_);refine wpList_load_row rfl 36 (.tmp 2) rfl G rfl 36 (cellsS s (.slice AO s.aK.length cO) (.slice AU s.out.length cU)) (0,0) _ hs Tryd.underlying36 rfl (by kernel_rfl) ?_)|(skip;refine wpList_store_row rfl 36 (.tmp 4) (.tmp 29) rfl (G+1+1) (cellsS s (.slice AO s.aK.length cO) (.slice AU s.out.length cU)) rfl rfl 36 _ hr (by kernel_rfl) rfl hone ?_))
  (try simp only [Exit.inBlock,Exit.then])
  refine bodyPost_ret (dU rfl _ _ (G+1+1) 36 _ (0,0) _ rfl (hr.setRow (cellsS s (.slice AO s.aK.length cO) (.slice AU s.out.length cU))) Tryd.underlying36 rfl (by kernel_rfl)) rfl ?_
  have hb3:=dm (g:=G+2) hb2.out (by omega) (cellsS s (.slice AO s.aK.length cO) (.slice AU s.out.length cU))
  exact ⟨_,_,rfl,(HV.out.below (by rw [hG];exact hb3)).as rfl rfl,by first|exact hb3|(rw [hG];exact hb3)⟩
set_option maxRecDepth 100000 in
set_option maxHeartbeats 3200000 in
theorem Ey (s:St) (vO vU:Value) (a bb cc:Nat) (n:Int) (hbb:bb < 8) (hz:s.p bb=0) (w:World) (hv:nK s vO vU w) :
    Calls Tryd.prog 21 #[.agg (cellsS s vO vU),.agg #[.int .u8 10,.int .u8 a,.int .u8 bb,.int .u8 cc,.int .i64 n]] w fun e w'=>∃ o5 oZ,e=.returned (.tuple #[.agg (cellsS s o5 oZ),.int .i64 9])∧nK s o5 oZ w'∧Below w.heap.size w w':=by
  obtain ⟨AO,cO,hs0,rfl,MF,hl0,hH0,hE0⟩:=hv.aK
  obtain ⟨AU,cU,rfl,TM,hU⟩:=hv.out
  have hO:Kd.C wR w AO s.aK.length s.aK:=by
    obtain ⟨A5,c5,e5,h5,h6⟩:=hv.rd.aK
    injection e5 with e6 e7 e8
    rw [e6]
    exact h6
  obtain ⟨G,hG⟩:∃ G,w.heap.size=G:=⟨_,rfl⟩
  obtain ⟨W,hW⟩:∃ W,((w.alloc (.cells (cellsS s (.slice AO s.aK.length cO) (.slice AU s.out.length cU)) 36)).alloc (.cells #[.int .u8 10,.int .u8 a,.int .u8 bb,.int .u8 cc,.int .i64 n] 45)).alloc (.cells #[.int .i64 0,.int .i64 0,.int .i64 0,.int .i64 0,.int .i64 0,.int .i64 0,.int .i64 0,.int .i64 0,.int .i64 0,.int .i64 0,.int .i64 0,.int .i64 0,.int .i64 0,.int .i64 0,.int .i64 0,.int .i64 0,.int .i64 0,.int .i64 0,.int .i64 0,.int .i64 0,.slice none 0 0,.slice none 0 0,.int .i64 0,.int .i64 0] 36)=W:=⟨_,rfl⟩
  have hM:=xm (cellsS s (.slice AO s.aK.length cO) (.slice AU s.out.length cU)) #[.int .u8 10,.int .u8 a,.int .u8 bb,.int .u8 cc,.int .i64 n] #[.int .i64 0,.int .i64 0,.int .i64 0,.int .i64 0,.int .i64 0,.int .i64 0,.int .i64 0,.int .i64 0,.int .i64 0,.int .i64 0,.int .i64 0,.int .i64 0,.int .i64 0,.int .i64 0,.int .i64 0,.int .i64 0,.int .i64 0,.int .i64 0,.int .i64 0,.int .i64 0,.slice none 0 0,.slice none 0 0,.int .i64 0,.int .i64 0] w
  rw [hW,hG] at hM
  have HM:=af.mk hM
  have HV:=af.mk hv
  have HO:=af.mk (Kd.bQ hO (by rw [hG];exact hM.mb))
  have PK:=Lib.hid hH0
  have O6:=Lib.hid hE0
  have xE:=Lib.hid hl0
  clear hH0 hE0 hl0
  have i0:W.cell? ⟨G+1,0,none⟩=some (.int .u8 10):=hM.m1.cell 0
  have i1:W.cell? ⟨G+1,1,none⟩=some (.int .u8 a):=hM.m1.cell 1
  have i2:W.cell? ⟨G+1,2,none⟩=some (.int .u8 bb):=hM.m1.cell 2
  have i4:W.cell? ⟨G+1,4,none⟩=some (.int .i64 n):=hM.m1.cell 4
  have c20:W.cell? ⟨G,20,none⟩=some (.slice AO s.aK.length cO):=hM.m0.cell 20
  have zu:(bb:Int) < 8:=by omega
  have cp:W.cell? ⟨G,8+bb,none⟩=some (.int .i64 0):=by rw [hM.m0.qg bb hbb,hz]
  clear hz
  clear hM hv hU hO
  go_enter Tryd.func21,Tryd.ntmps21
  go_upto_region 6 with (fail)
  clear hW
  clear cp i0 i1 i2 i4 c20
  have hs:=HM.out.m0
  have hr:=HM.out.m2
  have hb2:=Lib.hid HM.out.mb
  have hone:=HV.out.rd.one s
  go_wp2_with (first|((with_reducible refine bD (N:=29) rfl ?_);refine wpList_load_row rfl 36 (.tmp 2) rfl G rfl 36 (cellsS s (.slice AO s.aK.length cO) (.slice AU s.out.length cU)) (0,0) _ hs Tryd.underlying36 rfl (by kernel_rfl) ?_)|(skip;refine wpList_store_row rfl 36 (.tmp 4) (.tmp 29) rfl (G+1+1) (cellsS s (.slice AO s.aK.length cO) (.slice AU s.out.length cU)) rfl rfl 36 _ hr (by kernel_rfl) rfl hone ?_))
  (try simp only [Exit.inBlock,Exit.then])
  refine bodyPost_ret (dU rfl _ _ (G+1+1) 36 _ (0,0) _ rfl (hr.setRow (cellsS s (.slice AO s.aK.length cO) (.slice AU s.out.length cU))) Tryd.underlying36 rfl (by kernel_rfl)) rfl ?_
  have hb3:=dm (g:=G+2) hb2.out (by omega) (cellsS s (.slice AO s.aK.length cO) (.slice AU s.out.length cU))
  exact ⟨_,_,rfl,(HV.out.below (by rw [hG];exact hb3)).as rfl rfl,by first|exact hb3|(rw [hG];exact hb3)⟩
set_option maxRecDepth 100000 in
set_option maxHeartbeats 3200000 in
theorem Gy (s:St) (vO vU:Value) (a bb cc:Nat) (n:Int) (ha:a < 8) (hz:s.p a=0) (w:World) (hv:nK s vO vU w) :
    Calls Tryd.prog 21 #[.agg (cellsS s vO vU),.agg #[.int .u8 9,.int .u8 a,.int .u8 bb,.int .u8 cc,.int .i64 n]] w fun e w'=>∃ o5 oZ,e=.returned (.tuple #[.agg (cellsS s o5 oZ),.int .i64 9])∧nK s o5 oZ w'∧Below w.heap.size w w':=by
  obtain ⟨AO,cO,hs0,rfl,MF,hl0,hH0,hE0⟩:=hv.aK
  obtain ⟨AU,cU,rfl,TM,hU⟩:=hv.out
  have hO:Kd.C wR w AO s.aK.length s.aK:=by
    obtain ⟨A5,c5,e5,h5,h6⟩:=hv.rd.aK
    injection e5 with e6 e7 e8
    rw [e6]
    exact h6
  obtain ⟨G,hG⟩:∃ G,w.heap.size=G:=⟨_,rfl⟩
  obtain ⟨W,hW⟩:∃ W,((w.alloc (.cells (cellsS s (.slice AO s.aK.length cO) (.slice AU s.out.length cU)) 36)).alloc (.cells #[.int .u8 9,.int .u8 a,.int .u8 bb,.int .u8 cc,.int .i64 n] 45)).alloc (.cells #[.int .i64 0,.int .i64 0,.int .i64 0,.int .i64 0,.int .i64 0,.int .i64 0,.int .i64 0,.int .i64 0,.int .i64 0,.int .i64 0,.int .i64 0,.int .i64 0,.int .i64 0,.int .i64 0,.int .i64 0,.int .i64 0,.int .i64 0,.int .i64 0,.int .i64 0,.int .i64 0,.slice none 0 0,.slice none 0 0,.int .i64 0,.int .i64 0] 36)=W:=⟨_,rfl⟩
  have hM:=xm (cellsS s (.slice AO s.aK.length cO) (.slice AU s.out.length cU)) #[.int .u8 9,.int .u8 a,.int .u8 bb,.int .u8 cc,.int .i64 n] #[.int .i64 0,.int .i64 0,.int .i64 0,.int .i64 0,.int .i64 0,.int .i64 0,.int .i64 0,.int .i64 0,.int .i64 0,.int .i64 0,.int .i64 0,.int .i64 0,.int .i64 0,.int .i64 0,.int .i64 0,.int .i64 0,.int .i64 0,.int .i64 0,.int .i64 0,.int .i64 0,.slice none 0 0,.slice none 0 0,.int .i64 0,.int .i64 0] w
  rw [hW,hG] at hM
  have HM:=af.mk hM
  have HV:=af.mk hv
  have HO:=af.mk (Kd.bQ hO (by rw [hG];exact hM.mb))
  have PK:=Lib.hid hH0
  have O6:=Lib.hid hE0
  have xE:=Lib.hid hl0
  clear hH0 hE0 hl0
  have i0:W.cell? ⟨G+1,0,none⟩=some (.int .u8 9):=hM.m1.cell 0
  have i1:W.cell? ⟨G+1,1,none⟩=some (.int .u8 a):=hM.m1.cell 1
  have i2:W.cell? ⟨G+1,2,none⟩=some (.int .u8 bb):=hM.m1.cell 2
  have i4:W.cell? ⟨G+1,4,none⟩=some (.int .i64 n):=hM.m1.cell 4
  have c20:W.cell? ⟨G,20,none⟩=some (.slice AO s.aK.length cO):=hM.m0.cell 20
  have hai:(a:Int) < 8:=by omega
  have cp:W.cell? ⟨G,8+a,none⟩=some (.int .i64 0):=by rw [hM.m0.qg a ha,hz]
  clear hz
  clear hM hv hU hO
  go_enter Tryd.func21,Tryd.ntmps21
  go_upto_region 6 with (fail)
  clear hW
  clear cp i0 i1 i2 i4 c20
  have hs:=HM.out.m0
  have hr:=HM.out.m2
  have hb2:=Lib.hid HM.out.mb
  have hone:=HV.out.rd.one s
  go_wp2_with (first|((with_reducible refine bD (N:=29) rfl ?_);refine wpList_load_row rfl 36 (.tmp 2) rfl G rfl 36 (cellsS s (.slice AO s.aK.length cO) (.slice AU s.out.length cU)) (0,0) _ hs Tryd.underlying36 rfl (by kernel_rfl) ?_)|(skip;refine wpList_store_row rfl 36 (.tmp 4) (.tmp 29) rfl (G+1+1) (cellsS s (.slice AO s.aK.length cO) (.slice AU s.out.length cU)) rfl rfl 36 _ hr (by kernel_rfl) rfl hone ?_))
  (try simp only [Exit.inBlock,Exit.then])
  refine bodyPost_ret (dU rfl _ _ (G+1+1) 36 _ (0,0) _ rfl (hr.setRow (cellsS s (.slice AO s.aK.length cO) (.slice AU s.out.length cU))) Tryd.underlying36 rfl (by kernel_rfl)) rfl ?_
  have hb3:=dm (g:=G+2) hb2.out (by omega) (cellsS s (.slice AO s.aK.length cO) (.slice AU s.out.length cU))
  exact ⟨_,_,rfl,(HV.out.below (by rw [hG];exact hb3)).as rfl rfl,by first|exact hb3|(rw [hG];exact hb3)⟩
set_option maxRecDepth 100000 in
set_option maxHeartbeats 3200000 in
theorem Ew (s:St) (vO vU:Value) (a bb cc:Nat) (n:Int) (ha:a < 8) (hz:s.p a=0) (w:World) (hv:nK s vO vU w) :
    Calls Tryd.prog 21 #[.agg (cellsS s vO vU),.agg #[.int .u8 11,.int .u8 a,.int .u8 bb,.int .u8 cc,.int .i64 n]] w fun e w'=>∃ o5 oZ,e=.returned (.tuple #[.agg (cellsS s o5 oZ),.int .i64 9])∧nK s o5 oZ w'∧Below w.heap.size w w':=by
  obtain ⟨AO,cO,hs0,rfl,MF,hl0,hH0,hE0⟩:=hv.aK
  obtain ⟨AU,cU,rfl,TM,hU⟩:=hv.out
  have hO:Kd.C wR w AO s.aK.length s.aK:=by
    obtain ⟨A5,c5,e5,h5,h6⟩:=hv.rd.aK
    injection e5 with e6 e7 e8
    rw [e6]
    exact h6
  obtain ⟨G,hG⟩:∃ G,w.heap.size=G:=⟨_,rfl⟩
  obtain ⟨W,hW⟩:∃ W,((w.alloc (.cells (cellsS s (.slice AO s.aK.length cO) (.slice AU s.out.length cU)) 36)).alloc (.cells #[.int .u8 11,.int .u8 a,.int .u8 bb,.int .u8 cc,.int .i64 n] 45)).alloc (.cells #[.int .i64 0,.int .i64 0,.int .i64 0,.int .i64 0,.int .i64 0,.int .i64 0,.int .i64 0,.int .i64 0,.int .i64 0,.int .i64 0,.int .i64 0,.int .i64 0,.int .i64 0,.int .i64 0,.int .i64 0,.int .i64 0,.int .i64 0,.int .i64 0,.int .i64 0,.int .i64 0,.slice none 0 0,.slice none 0 0,.int .i64 0,.int .i64 0] 36)=W:=⟨_,rfl⟩
  have hM:=xm (cellsS s (.slice AO s.aK.length cO) (.slice AU s.out.length cU)) #[.int .u8 11,.int .u8 a,.int .u8 bb,.int .u8 cc,.int .i64 n] #[.int .i64 0,.int .i64 0,.int .i64 0,.int .i64 0,.int .i64 0,.int .i64 0,.int .i64 0,.int .i64 0,.int .i64 0,.int .i64 0,.int .i64 0,.int .i64 0,.int .i64 0,.int .i64 0,.int .i64 0,.int .i64 0,.int .i64 0,.int .i64 0,.int .i64 0,.int .i64 0,.slice none 0 0,.slice none 0 0,.int .i64 0,.int .i64 0] w
  rw [hW,hG] at hM
  have HM:=af.mk hM
  have HV:=af.mk hv
  have HO:=af.mk (Kd.bQ hO (by rw [hG];exact hM.mb))
  have PK:=Lib.hid hH0
  have O6:=Lib.hid hE0
  have xE:=Lib.hid hl0
  clear hH0 hE0 hl0
  have i0:W.cell? ⟨G+1,0,none⟩=some (.int .u8 11):=hM.m1.cell 0
  have i1:W.cell? ⟨G+1,1,none⟩=some (.int .u8 a):=hM.m1.cell 1
  have i2:W.cell? ⟨G+1,2,none⟩=some (.int .u8 bb):=hM.m1.cell 2
  have i4:W.cell? ⟨G+1,4,none⟩=some (.int .i64 n):=hM.m1.cell 4
  have c20:W.cell? ⟨G,20,none⟩=some (.slice AO s.aK.length cO):=hM.m0.cell 20
  have hai:(a:Int) < 8:=by omega
  have cp:W.cell? ⟨G,8+a,none⟩=some (.int .i64 0):=by rw [hM.m0.qg a ha,hz]
  clear hz
  clear hM hv hU hO
  go_enter Tryd.func21,Tryd.ntmps21
  go_upto_region 6 with (fail)
  clear hW
  clear cp i0 i1 i2 i4 c20
  have hs:=HM.out.m0
  have hr:=HM.out.m2
  have hb2:=Lib.hid HM.out.mb
  have hone:=HV.out.rd.one s
  go_wp2_with (first|((with_reducible refine bD (N:=29) rfl ?_);refine wpList_load_row rfl 36 (.tmp 2) rfl G rfl 36 (cellsS s (.slice AO s.aK.length cO) (.slice AU s.out.length cU)) (0,0) _ hs Tryd.underlying36 rfl (by kernel_rfl) ?_)|(skip;refine wpList_store_row rfl 36 (.tmp 4) (.tmp 29) rfl (G+1+1) (cellsS s (.slice AO s.aK.length cO) (.slice AU s.out.length cU)) rfl rfl 36 _ hr (by kernel_rfl) rfl hone ?_))
  (try simp only [Exit.inBlock,Exit.then])
  refine bodyPost_ret (dU rfl _ _ (G+1+1) 36 _ (0,0) _ rfl (hr.setRow (cellsS s (.slice AO s.aK.length cO) (.slice AU s.out.length cU))) Tryd.underlying36 rfl (by kernel_rfl)) rfl ?_
  have hb3:=dm (g:=G+2) hb2.out (by omega) (cellsS s (.slice AO s.aK.length cO) (.slice AU s.out.length cU))
  exact ⟨_,_,rfl,(HV.out.below (by rw [hG];exact hb3)).as rfl rfl,by first|exact hb3|(rw [hG];exact hb3)⟩
set_option maxRecDepth 100000 in
set_option maxHeartbeats 3200000 in
theorem YM (s:St) (vO vU:Value) (a bb cc:Nat) (n:Int) (ha:a < 8) (hbb:bb < 8) (o m:Nat) (row:List Int) (hp:s.p bb=(o:Int)+1) (ho:o < s.aK.length) (hlim:s.aK.length≤1000000) (hr:s.aK[o]? = some row) (hn:n=m) (hm:m < row.length) (w:World) (hv:nK s vO vU w) :
    Calls Tryd.prog 21 #[.agg (cellsS s vO vU),.agg #[.int .u8 8,.int .u8 a,.int .u8 bb,.int .u8 cc,.int .i64 n]] w fun e w'=>∃ o5 oZ,e=.returned (.tuple #[.agg (cellsS { s with x:=upd s.x a (rd row n) } o5 oZ),.int .i64 0])∧nK { s with x:=upd s.x a (rd row n) } o5 oZ w'∧Below w.heap.size w w':=by
  obtain ⟨AO,cO,hs0,rfl,MF,hl0,hH0,hE0⟩:=hv.aK
  obtain ⟨AU,cU,rfl,TM,hU⟩:=hv.out
  have hO:Kd.C wR w AO s.aK.length s.aK:=by
    obtain ⟨A5,c5,e5,h5,h6⟩:=hv.rd.aK
    injection e5 with e6 e7 e8
    rw [e6]
    exact h6
  obtain ⟨G,hG⟩:∃ G,w.heap.size=G:=⟨_,rfl⟩
  obtain ⟨W,hW⟩:∃ W,((w.alloc (.cells (cellsS s (.slice AO s.aK.length cO) (.slice AU s.out.length cU)) 36)).alloc (.cells #[.int .u8 8,.int .u8 a,.int .u8 bb,.int .u8 cc,.int .i64 n] 45)).alloc (.cells #[.int .i64 0,.int .i64 0,.int .i64 0,.int .i64 0,.int .i64 0,.int .i64 0,.int .i64 0,.int .i64 0,.int .i64 0,.int .i64 0,.int .i64 0,.int .i64 0,.int .i64 0,.int .i64 0,.int .i64 0,.int .i64 0,.int .i64 0,.int .i64 0,.int .i64 0,.int .i64 0,.slice none 0 0,.slice none 0 0,.int .i64 0,.int .i64 0] 36)=W:=⟨_,rfl⟩
  have hM:=xm (cellsS s (.slice AO s.aK.length cO) (.slice AU s.out.length cU)) #[.int .u8 8,.int .u8 a,.int .u8 bb,.int .u8 cc,.int .i64 n] #[.int .i64 0,.int .i64 0,.int .i64 0,.int .i64 0,.int .i64 0,.int .i64 0,.int .i64 0,.int .i64 0,.int .i64 0,.int .i64 0,.int .i64 0,.int .i64 0,.int .i64 0,.int .i64 0,.int .i64 0,.int .i64 0,.int .i64 0,.int .i64 0,.int .i64 0,.int .i64 0,.slice none 0 0,.slice none 0 0,.int .i64 0,.int .i64 0] w
  rw [hW,hG] at hM
  have HM:=af.mk hM
  have HV:=af.mk hv
  have HO:=af.mk (Kd.bQ hO (by rw [hG];exact hM.mb))
  have PK:=Lib.hid hH0
  have O6:=Lib.hid hE0
  have xE:=Lib.hid hl0
  clear hH0 hE0 hl0
  have i0:W.cell? ⟨G+1,0,none⟩=some (.int .u8 8):=hM.m1.cell 0
  have i1:W.cell? ⟨G+1,1,none⟩=some (.int .u8 a):=hM.m1.cell 1
  have i2:W.cell? ⟨G+1,2,none⟩=some (.int .u8 bb):=hM.m1.cell 2
  have i4:W.cell? ⟨G+1,4,none⟩=some (.int .i64 n):=hM.m1.cell 4
  have c20:W.cell? ⟨G,20,none⟩=some (.slice AO s.aK.length cO):=hM.m0.cell 20
  have hai:(a:Int) < 8:=by omega
  have zu:(bb:Int) < 8:=by omega
  obtain ⟨q,hq⟩:∃ q:Int,q=(o:Int)+1:=⟨_,rfl⟩
  obtain ⟨z,hz⟩:∃ z:Int,z=(o:Int):=⟨_,rfl⟩
  have cp:W.cell? ⟨G,8+bb,none⟩=some (.int .i64 q):=by rw [hM.m0.qg bb hbb,hp,hq]
  subst hn
  have hzb:(q == 0)=false:=beq_eq_false_iff_ne.2 (by omega)
  have Ye:IntKind.i64.wrap (q - 1)=z:=by rw [hq,hz,Int.add_sub_cancel];exact IntWalk.i64_in _ (by omega)
  have Yc:wrap64 (q - 1)=z:=by rw [hq,hz,Int.add_sub_cancel];unfold wrap64;omega
  have j0:(0≤z)=True:=eq_true (by omega)
  have j1:(z < (s.aK.length:Int))=True:=eq_true (by omega)
  have j2:(0≤(m:Int))=True:=eq_true (by omega)
  have j3:((m:Int) < (row.length:Int))=True:=eq_true (by omega)
  have zt:o=z.toNat:=by omega
  obtain ⟨ad,A1,c1,e0,hx,hx1,hx2⟩:=wW HO.out (o:Int) (by omega) (by omega)
  have KC:jl s.aK (o:Int)=row:=by show s.aK.getD (o:Int).toNat []=row;rw [Int.toNat_natCast,List.getD_eq_getElem?_getD,hr];rfl
  rw [KC] at hx hx1 hx2
  rw [Int.toNat_natCast,zt] at hx
  subst e0
  obtain ⟨PH,e2,hy⟩:=Kd.Ih hx2 (m:Int) (by omega) (by omega)
  rw [Int.toNat_natCast] at hy
  subst e2
  obtain ⟨g,hg⟩:∃ g,W.heap.size=g:=⟨_,rfl⟩
  obtain ⟨wz,hwz⟩:∃ wz,W.alloc (.cells #[.int .i64 0,.int .i64 0,.int .i64 0,.int .i64 0,.int .i64 0,.int .i64 0,.int .i64 0,.int .i64 0] 30)=wz:=⟨_,rfl⟩
  have kz:Bk wz g #[.int .i64 0,.int .i64 0,.int .i64 0,.int .i64 0,.int .i64 0,.int .i64 0,.int .i64 0,.int .i64 0] 30:=by rw [← hwz,← hg];exact Bk.new W _ _
  have hbz:Below W.heap.size W wz:=by rw [← hwz];exact (Below.refl _ W).alloc (Nat.le_refl _) _
  have hrow:=hM.m0.xs
  have hG3:G+3≤g:=by rw [← hg];exact hM.sz
  have OM:(ad.add z.toNat).block < W.heap.size:=block_lt_of_cell hx
  have Fh:(PH.add m).block < W.heap.size:=block_lt_of_cell hy
  have HX:=Lib.hid hx
  have HY:=Lib.hid hy
  clear hx1 hx2 hr KC hp zt hq hz
  have MJ:=Lib.hid hbz
  clear hM hv hU hO hx hy hbz
  go_enter Tryd.func21,Tryd.ntmps21
  go_upto_region 11 with (first|((with_reducible refine bD (N:=47) rfl ?_);refine nO rfl 30 (.tmp 46) rfl G 0 rfl (dK s.x) _ hrow Tryd.underlying30 rfl (by kernel_rfl) ?_)|(skip;refine wpList_store_row rfl 30 (.tmp 7) (.tmp 47) rfl g (dK s.x) rfl rfl 30 _ kz (by kernel_rfl) rfl (iQ _) ?_))
  clear hW hrow cp i0 i1 i2 i4 c20
  have Md:=af.mk ((HM.out.below MJ.out).fK g (dK s.x) hG3)
  have uG:=af.mk (kz.setRow (dK s.x))
  have hx:(wz.setRow g (dK s.x)).cell? (ad.add z.toNat)=some (.slice (some PH) row.length c1):=(World.cell?_of_block ((jw _ _ (by omega)).trans (MJ.out.block _ OM))).trans HX.out
  have hy:(wz.setRow g (dK s.x)).cell? (PH.add m)=some (.int .i64 (rd row (m:Int))):=(World.cell?_of_block ((jw _ _ (by omega)).trans (MJ.out.block _ Fh))).trans HY.out
  clear MJ kz HX HY hwz OM Fh
  generalize wz.setRow g (dK s.x)=W1 at Md uG hx hy ⊢
  have i1:W1.cell? ⟨G+1,1,none⟩=some (.int .u8 a):=Md.out.m1.cell 1
  have i4:W1.cell? ⟨G+1,4,none⟩=some (.int .i64 m):=Md.out.m1.cell 4
  have c20:W1.cell? ⟨G,20,none⟩=some (.slice (some ad) s.aK.length cO):=Md.out.m0.cell 20
  go_wp2
  go_still_tail 13,(by kernel_rfl)
  clear hx hy i1 i4 c20
  change wpList _ _ _ _ _ W1.drew
  have D7:=af.mk Md.out.drew
  have sJ:=af.mk (show Bk W1.drew g (dK s.x) 30 from uG.out)
  clear Md uG
  generalize W1.drew=W2 at D7 sJ ⊢
  have fs:=sJ.out.fr a
  have cs:=(sJ.out.cell a).trans (mW s.x a ha)
  go_upto_region 12 with (fail)
  clear fs cs
  have O3:=af.mk (D7.out.far g a (.int .i64 (rd row (m:Int))) hG3)
  have Ec:=af.mk (o6 s.x a ha (rd row (m:Int)) ▸ sJ.out.set a (.int .i64 (rd row (m:Int))))
  clear D7 sJ
  change Code.wp _ _ _ _ (W2.setCell ⟨g,a,none⟩ (.int .i64 (rd row (m:Int))))
  generalize W2.setCell ⟨g,a,none⟩ (.int .i64 (rd row (m:Int)))=W3 at O3 Ec ⊢
  have hl3:=Ec.out
  have hth:W3.there G 0 8:=O3.out.m0.there 0 8 (show 0+8≤24 by omega)
  go_upto_region 19 with (first|((with_reducible refine bD (N:=61) rfl ?_);refine wpList_load_row rfl 30 (.tmp 7) rfl g rfl 30 (dK (upd s.x a (rd row (m:Int)))) (0,0) _ hl3 Tryd.underlying30 rfl (by kernel_rfl) ?_)|(skip;refine wpList_store_mid rfl 30 (.tmp 62) (.tmp 61) rfl G 0 (dK (upd s.x a (rd row (m:Int)))) rfl rfl hth (by kernel_rfl) (iQ _) ?_))
  have Ur:=af.mk (O3.out.cells 0 (dK (upd s.x a (rd row (m:Int)))).toList (O3.out.m0.wI (upd s.x a (rd row (m:Int)))))
  clear hl3 hth O3 Ec
  change Code.wp _ _ _ _ (W3.setCells G 0 (dK (upd s.x a (rd row (m:Int)))).toList)
  generalize W3.setCells G 0 (dK (upd s.x a (rd row (m:Int)))).toList=W4 at Ur ⊢
  have hs:=Ur.out.m0
  have hr:=Ur.out.m2
  have hb2:=Lib.hid Ur.out.mb
  have hone:=HV.out.rd.one { s with x:=upd s.x a (rd row (m:Int)) }
  go_wp2_with (first|((with_reducible refine bD (N:=96) rfl ?_);refine wpList_load_row rfl 36 (.tmp 2) rfl G rfl 36 (cellsS { s with x:=upd s.x a (rd row (m:Int)) } (.slice (some ad) s.aK.length cO) (.slice AU s.out.length cU)) (0,0) _ hs Tryd.underlying36 rfl (by kernel_rfl) ?_)|(skip;refine wpList_store_row rfl 36 (.tmp 4) (.tmp 96) rfl (G+1+1) (cellsS { s with x:=upd s.x a (rd row (m:Int)) } (.slice (some ad) s.aK.length cO) (.slice AU s.out.length cU)) rfl rfl 36 _ hr (by kernel_rfl) rfl hone ?_))
  (try simp only [Exit.inBlock,Exit.then])
  refine bodyPost_ret (dU rfl _ _ (G+1+1) 36 _ (0,0) _ rfl (hr.setRow (cellsS { s with x:=upd s.x a (rd row (m:Int)) } (.slice (some ad) s.aK.length cO) (.slice AU s.out.length cU))) Tryd.underlying36 rfl (by kernel_rfl)) rfl ?_
  have hb3:=dm (g:=G+2) hb2.out (by omega) (cellsS { s with x:=upd s.x a (rd row (m:Int)) } (.slice (some ad) s.aK.length cO) (.slice AU s.out.length cU))
  exact ⟨_,_,rfl,(HV.out.below (by rw [hG];exact hb3)).as rfl rfl,by first|exact hb3|(rw [hG];exact hb3)⟩
set_option maxRecDepth 100000 in
set_option maxHeartbeats 3200000 in
theorem WC (s:St) (vO vU:Value) (a bb cc:Nat) (n:Int) (ha:a < 8) (hbb:bb < 8) (o m:Nat) (row:List Int) (hp:s.p bb=(o:Int)+1) (ho:o < s.aK.length) (hlim:s.aK.length≤1000000) (hr:s.aK[o]? = some row) (hn:n=m) (hm:m < row.length) (w:World) (hv:nK s vO vU w) :
    Calls Tryd.prog 21 #[.agg (cellsS s vO vU),.agg #[.int .u8 10,.int .u8 a,.int .u8 bb,.int .u8 cc,.int .i64 n]] w fun e w'=>∃ o5 oZ,e=.returned (.tuple #[.agg (cellsS { s with p:=upd s.p a (rd row n) } o5 oZ),.int .i64 0])∧nK { s with p:=upd s.p a (rd row n) } o5 oZ w'∧Below w.heap.size w w':=by
  obtain ⟨AO,cO,hs0,rfl,MF,hl0,hH0,hE0⟩:=hv.aK
  obtain ⟨AU,cU,rfl,TM,hU⟩:=hv.out
  have hO:Kd.C wR w AO s.aK.length s.aK:=by
    obtain ⟨A5,c5,e5,h5,h6⟩:=hv.rd.aK
    injection e5 with e6 e7 e8
    rw [e6]
    exact h6
  obtain ⟨G,hG⟩:∃ G,w.heap.size=G:=⟨_,rfl⟩
  obtain ⟨W,hW⟩:∃ W,((w.alloc (.cells (cellsS s (.slice AO s.aK.length cO) (.slice AU s.out.length cU)) 36)).alloc (.cells #[.int .u8 10,.int .u8 a,.int .u8 bb,.int .u8 cc,.int .i64 n] 45)).alloc (.cells #[.int .i64 0,.int .i64 0,.int .i64 0,.int .i64 0,.int .i64 0,.int .i64 0,.int .i64 0,.int .i64 0,.int .i64 0,.int .i64 0,.int .i64 0,.int .i64 0,.int .i64 0,.int .i64 0,.int .i64 0,.int .i64 0,.int .i64 0,.int .i64 0,.int .i64 0,.int .i64 0,.slice none 0 0,.slice none 0 0,.int .i64 0,.int .i64 0] 36)=W:=⟨_,rfl⟩
  have hM:=xm (cellsS s (.slice AO s.aK.length cO) (.slice AU s.out.length cU)) #[.int .u8 10,.int .u8 a,.int .u8 bb,.int .u8 cc,.int .i64 n] #[.int .i64 0,.int .i64 0,.int .i64 0,.int .i64 0,.int .i64 0,.int .i64 0,.int .i64 0,.int .i64 0,.int .i64 0,.int .i64 0,.int .i64 0,.int .i64 0,.int .i64 0,.int .i64 0,.int .i64 0,.int .i64 0,.int .i64 0,.int .i64 0,.int .i64 0,.int .i64 0,.slice none 0 0,.slice none 0 0,.int .i64 0,.int .i64 0] w
  rw [hW,hG] at hM
  have HM:=af.mk hM
  have HV:=af.mk hv
  have HO:=af.mk (Kd.bQ hO (by rw [hG];exact hM.mb))
  have PK:=Lib.hid hH0
  have O6:=Lib.hid hE0
  have xE:=Lib.hid hl0
  clear hH0 hE0 hl0
  have i0:W.cell? ⟨G+1,0,none⟩=some (.int .u8 10):=hM.m1.cell 0
  have i1:W.cell? ⟨G+1,1,none⟩=some (.int .u8 a):=hM.m1.cell 1
  have i2:W.cell? ⟨G+1,2,none⟩=some (.int .u8 bb):=hM.m1.cell 2
  have i4:W.cell? ⟨G+1,4,none⟩=some (.int .i64 n):=hM.m1.cell 4
  have c20:W.cell? ⟨G,20,none⟩=some (.slice AO s.aK.length cO):=hM.m0.cell 20
  have hai:(a:Int) < 8:=by omega
  have zu:(bb:Int) < 8:=by omega
  obtain ⟨q,hq⟩:∃ q:Int,q=(o:Int)+1:=⟨_,rfl⟩
  obtain ⟨z,hz⟩:∃ z:Int,z=(o:Int):=⟨_,rfl⟩
  have cp:W.cell? ⟨G,8+bb,none⟩=some (.int .i64 q):=by rw [hM.m0.qg bb hbb,hp,hq]
  subst hn
  have hzb:(q == 0)=false:=beq_eq_false_iff_ne.2 (by omega)
  have Ye:IntKind.i64.wrap (q - 1)=z:=by rw [hq,hz,Int.add_sub_cancel];exact IntWalk.i64_in _ (by omega)
  have Yc:wrap64 (q - 1)=z:=by rw [hq,hz,Int.add_sub_cancel];unfold wrap64;omega
  have j0:(0≤z)=True:=eq_true (by omega)
  have j1:(z < (s.aK.length:Int))=True:=eq_true (by omega)
  have j2:(0≤(m:Int))=True:=eq_true (by omega)
  have j3:((m:Int) < (row.length:Int))=True:=eq_true (by omega)
  have zt:o=z.toNat:=by omega
  obtain ⟨ad,A1,c1,e0,hx,hx1,hx2⟩:=wW HO.out (o:Int) (by omega) (by omega)
  have KC:jl s.aK (o:Int)=row:=by show s.aK.getD (o:Int).toNat []=row;rw [Int.toNat_natCast,List.getD_eq_getElem?_getD,hr];rfl
  rw [KC] at hx hx1 hx2
  rw [Int.toNat_natCast,zt] at hx
  subst e0
  obtain ⟨PH,e2,hy⟩:=Kd.Ih hx2 (m:Int) (by omega) (by omega)
  rw [Int.toNat_natCast] at hy
  subst e2
  obtain ⟨g,hg⟩:∃ g,W.heap.size=g:=⟨_,rfl⟩
  obtain ⟨wz,hwz⟩:∃ wz,W.alloc (.cells #[.int .i64 0,.int .i64 0,.int .i64 0,.int .i64 0,.int .i64 0,.int .i64 0,.int .i64 0,.int .i64 0] 31)=wz:=⟨_,rfl⟩
  have kz:Bk wz g #[.int .i64 0,.int .i64 0,.int .i64 0,.int .i64 0,.int .i64 0,.int .i64 0,.int .i64 0,.int .i64 0] 31:=by rw [← hwz,← hg];exact Bk.new W _ _
  have hbz:Below W.heap.size W wz:=by rw [← hwz];exact (Below.refl _ W).alloc (Nat.le_refl _) _
  have hrow:=hM.m0.ps
  have hG3:G+3≤g:=by rw [← hg];exact hM.sz
  have OM:(ad.add z.toNat).block < W.heap.size:=block_lt_of_cell hx
  have Fh:(PH.add m).block < W.heap.size:=block_lt_of_cell hy
  have HX:=Lib.hid hx
  have HY:=Lib.hid hy
  clear hx1 hx2 hr KC hp zt hq hz
  have MJ:=Lib.hid hbz
  clear hM hv hU hO hx hy hbz
  go_enter Tryd.func21,Tryd.ntmps21
  go_upto_region 15 with (first|((with_reducible refine bD (N:=66) rfl ?_);refine nO rfl 31 (.tmp 65) rfl G 8 rfl (dK s.p) _ hrow Tryd.underlying31 rfl (by kernel_rfl) ?_)|(skip;refine wpList_store_row rfl 31 (.tmp 8) (.tmp 66) rfl g (dK s.p) rfl rfl 31 _ kz (by kernel_rfl) rfl (iQ _) ?_))
  clear hW hrow cp i0 i1 i2 i4 c20
  have Md:=af.mk ((HM.out.below MJ.out).fK g (dK s.p) hG3)
  have uG:=af.mk (kz.setRow (dK s.p))
  have hx:(wz.setRow g (dK s.p)).cell? (ad.add z.toNat)=some (.slice (some PH) row.length c1):=(World.cell?_of_block ((jw _ _ (by omega)).trans (MJ.out.block _ OM))).trans HX.out
  have hy:(wz.setRow g (dK s.p)).cell? (PH.add m)=some (.int .i64 (rd row (m:Int))):=(World.cell?_of_block ((jw _ _ (by omega)).trans (MJ.out.block _ Fh))).trans HY.out
  clear MJ kz HX HY hwz OM Fh
  generalize wz.setRow g (dK s.p)=W1 at Md uG hx hy ⊢
  have i1:W1.cell? ⟨G+1,1,none⟩=some (.int .u8 a):=Md.out.m1.cell 1
  have i4:W1.cell? ⟨G+1,4,none⟩=some (.int .i64 m):=Md.out.m1.cell 4
  have c20:W1.cell? ⟨G,20,none⟩=some (.slice (some ad) s.aK.length cO):=Md.out.m0.cell 20
  go_wp2
  go_still_tail 13,(by kernel_rfl)
  clear hx hy i1 i4 c20
  change wpList _ _ _ _ _ W1.drew
  have D7:=af.mk Md.out.drew
  have sJ:=af.mk (show Bk W1.drew g (dK s.p) 31 from uG.out)
  clear Md uG
  generalize W1.drew=W2 at D7 sJ ⊢
  have fs:=sJ.out.fr a
  have cs:=(sJ.out.cell a).trans (mW s.p a ha)
  go_upto_region 16 with (fail)
  clear fs cs
  have O3:=af.mk (D7.out.far g a (.int .i64 (rd row (m:Int))) hG3)
  have Ec:=af.mk (o6 s.p a ha (rd row (m:Int)) ▸ sJ.out.set a (.int .i64 (rd row (m:Int))))
  clear D7 sJ
  change Code.wp _ _ _ _ (W2.setCell ⟨g,a,none⟩ (.int .i64 (rd row (m:Int))))
  generalize W2.setCell ⟨g,a,none⟩ (.int .i64 (rd row (m:Int)))=W3 at O3 Ec ⊢
  have hl3:=Ec.out
  have hth:W3.there G 8 8:=O3.out.m0.there 8 8 (show 8+8≤24 by omega)
  go_upto_region 19 with (first|((with_reducible refine bD (N:=80) rfl ?_);refine wpList_load_row rfl 31 (.tmp 8) rfl g rfl 31 (dK (upd s.p a (rd row (m:Int)))) (0,0) _ hl3 Tryd.underlying31 rfl (by kernel_rfl) ?_)|(skip;refine wpList_store_mid rfl 31 (.tmp 81) (.tmp 80) rfl G 8 (dK (upd s.p a (rd row (m:Int)))) rfl rfl hth (by kernel_rfl) (iQ _) ?_))
  have Ur:=af.mk (O3.out.cells 8 (dK (upd s.p a (rd row (m:Int)))).toList (O3.out.m0.wJ (upd s.p a (rd row (m:Int)))))
  clear hl3 hth O3 Ec
  change Code.wp _ _ _ _ (W3.setCells G 8 (dK (upd s.p a (rd row (m:Int)))).toList)
  generalize W3.setCells G 8 (dK (upd s.p a (rd row (m:Int)))).toList=W4 at Ur ⊢
  have hs:=Ur.out.m0
  have hr:=Ur.out.m2
  have hb2:=Lib.hid Ur.out.mb
  have hone:=HV.out.rd.one { s with p:=upd s.p a (rd row (m:Int)) }
  go_wp2_with (first|((with_reducible refine bD (N:=96) rfl ?_);refine wpList_load_row rfl 36 (.tmp 2) rfl G rfl 36 (cellsS { s with p:=upd s.p a (rd row (m:Int)) } (.slice (some ad) s.aK.length cO) (.slice AU s.out.length cU)) (0,0) _ hs Tryd.underlying36 rfl (by kernel_rfl) ?_)|(skip;refine wpList_store_row rfl 36 (.tmp 4) (.tmp 96) rfl (G+1+1) (cellsS { s with p:=upd s.p a (rd row (m:Int)) } (.slice (some ad) s.aK.length cO) (.slice AU s.out.length cU)) rfl rfl 36 _ hr (by kernel_rfl) rfl hone ?_))
  (try simp only [Exit.inBlock,Exit.then])
  refine bodyPost_ret (dU rfl _ _ (G+1+1) 36 _ (0,0) _ rfl (hr.setRow (cellsS { s with p:=upd s.p a (rd row (m:Int)) } (.slice (some ad) s.aK.length cO) (.slice AU s.out.length cU))) Tryd.underlying36 rfl (by kernel_rfl)) rfl ?_
  have hb3:=dm (g:=G+2) hb2.out (by omega) (cellsS { s with p:=upd s.p a (rd row (m:Int)) } (.slice (some ad) s.aK.length cO) (.slice AU s.out.length cU))
  exact ⟨_,_,rfl,(HV.out.below (by rw [hG];exact hb3)).as rfl rfl,by first|exact hb3|(rw [hG];exact hb3)⟩
set_option maxRecDepth 100000 in
set_option maxHeartbeats 3200000 in
theorem YL (s:St) (vO vU:Value) (a bb cc:Nat) (n:Int) (ha:a < 8) (hbb:bb < 8) (o m:Nat) (row:List Int) (hp:s.p a=(o:Int)+1) (ho:o < s.aK.length) (hlim:s.aK.length≤1000000) (hr:s.aK[o]? = some row) (hn:n=m) (hm:m < row.length) (hrl:row.length≤1000000) (w:World) (hv:nK s vO vU w) :
    Calls Tryd.prog 21 #[.agg (cellsS s vO vU),.agg #[.int .u8 9,.int .u8 a,.int .u8 bb,.int .u8 cc,.int .i64 n]] w fun e w'=>∃ o5 oZ,e=.returned (.tuple #[.agg (cellsS { s with aK:=s.aK.set o (row.set n.toNat (s.x bb)) } o5 oZ),.int .i64 0])∧nK { s with aK:=s.aK.set o (row.set n.toNat (s.x bb)) } o5 oZ w'∧Below w.heap.size w w':=by
  obtain ⟨AO,cO,hs0,rfl,MF,hl0,hH0,hE0⟩:=hv.aK
  obtain ⟨AU,cU,rfl,TM,hU⟩:=hv.out
  have hO:Kd.C wR w AO s.aK.length s.aK:=by
    obtain ⟨A5,c5,e5,h5,h6⟩:=hv.rd.aK
    injection e5 with e6 e7 e8
    rw [e6]
    exact h6
  obtain ⟨G,hG⟩:∃ G,w.heap.size=G:=⟨_,rfl⟩
  obtain ⟨W,hW⟩:∃ W,((w.alloc (.cells (cellsS s (.slice AO s.aK.length cO) (.slice AU s.out.length cU)) 36)).alloc (.cells #[.int .u8 9,.int .u8 a,.int .u8 bb,.int .u8 cc,.int .i64 n] 45)).alloc (.cells #[.int .i64 0,.int .i64 0,.int .i64 0,.int .i64 0,.int .i64 0,.int .i64 0,.int .i64 0,.int .i64 0,.int .i64 0,.int .i64 0,.int .i64 0,.int .i64 0,.int .i64 0,.int .i64 0,.int .i64 0,.int .i64 0,.int .i64 0,.int .i64 0,.int .i64 0,.int .i64 0,.slice none 0 0,.slice none 0 0,.int .i64 0,.int .i64 0] 36)=W:=⟨_,rfl⟩
  have hM:=xm (cellsS s (.slice AO s.aK.length cO) (.slice AU s.out.length cU)) #[.int .u8 9,.int .u8 a,.int .u8 bb,.int .u8 cc,.int .i64 n] #[.int .i64 0,.int .i64 0,.int .i64 0,.int .i64 0,.int .i64 0,.int .i64 0,.int .i64 0,.int .i64 0,.int .i64 0,.int .i64 0,.int .i64 0,.int .i64 0,.int .i64 0,.int .i64 0,.int .i64 0,.int .i64 0,.int .i64 0,.int .i64 0,.int .i64 0,.int .i64 0,.slice none 0 0,.slice none 0 0,.int .i64 0,.int .i64 0] w
  rw [hW,hG] at hM
  have HM:=af.mk hM
  have HV:=af.mk hv
  have HO:=af.mk (Kd.bQ hO (by rw [hG];exact hM.mb))
  have PK:=Lib.hid hH0
  have O6:=Lib.hid hE0
  have xE:=Lib.hid hl0
  clear hH0 hE0 hl0
  have i0:W.cell? ⟨G+1,0,none⟩=some (.int .u8 9):=hM.m1.cell 0
  have i1:W.cell? ⟨G+1,1,none⟩=some (.int .u8 a):=hM.m1.cell 1
  have i2:W.cell? ⟨G+1,2,none⟩=some (.int .u8 bb):=hM.m1.cell 2
  have i4:W.cell? ⟨G+1,4,none⟩=some (.int .i64 n):=hM.m1.cell 4
  have c20:W.cell? ⟨G,20,none⟩=some (.slice AO s.aK.length cO):=hM.m0.cell 20
  have hai:(a:Int) < 8:=by omega
  have zu:(bb:Int) < 8:=by omega
  obtain ⟨q,hq⟩:∃ q:Int,q=(o:Int)+1:=⟨_,rfl⟩
  obtain ⟨z,hz⟩:∃ z:Int,z=(o:Int):=⟨_,rfl⟩
  have cp:W.cell? ⟨G,8+a,none⟩=some (.int .i64 q):=by rw [hM.m0.qg a ha,hp,hq]
  subst hn
  have hzb:(q == 0)=false:=beq_eq_false_iff_ne.2 (by omega)
  have Ye:IntKind.i64.wrap (q - 1)=z:=by rw [hq,hz,Int.add_sub_cancel];exact IntWalk.i64_in _ (by omega)
  have Yc:wrap64 (q - 1)=z:=by rw [hq,hz,Int.add_sub_cancel];unfold wrap64;omega
  have j0:(0≤z)=True:=eq_true (by omega)
  have j1:(z < (s.aK.length:Int))=True:=eq_true (by omega)
  have j2:(0≤(m:Int))=True:=eq_true (by omega)
  have j3:((m:Int) < (row.length:Int))=True:=eq_true (by omega)
  have zt:o=z.toNat:=by omega
  obtain ⟨ad,A1,c1,e0,hx,hx1,hx2⟩:=wW HO.out (o:Int) (by omega) (by omega)
  have KC:jl s.aK (o:Int)=row:=by show s.aK.getD (o:Int).toNat []=row;rw [Int.toNat_natCast,List.getD_eq_getElem?_getD,hr];rfl
  rw [KC] at hx hx1 hx2
  rw [Int.toNat_natCast,zt] at hx
  subst e0
  have HRO:=Lib.hid hr
  have HQ:=Lib.hid hq
  have HOO:=Lib.hid ho
  have cr:W.cell? ⟨G,bb,none⟩=some (.int .i64 (s.x bb)):=hM.m0.VP bb hbb
  have HLM:=Lib.hid hlim
  have HML:=Lib.hid hm
  have HRL:=Lib.hid hrl
  clear hx hx1 hx2 hr KC hp zt hq hz j0 j1 j2 j3 Ye Yc
  have hgt:=hM.m0.lt
  clear hM hv hU hO
  go_enter Tryd.func21,Tryd.ntmps21
  go_wp2
  clear hW cp i0
  go_still_tail 10,(by kernel_rfl)
  clear cr i1 i2 i4 c20
  change wpList _ _ _ _ _ W.drew
  have D7:=af.mk HM.out.drew
  have PI:=af.mk (Kd.dS HO.out)
  clear HM HO
  generalize W.drew=W1 at D7 PI ⊢
  have hq:=HQ.out
  subst hq
  go_upto_region 999 with (fail)
  have Ze:=PK.out W1 (fun k hk=>D7.out.mb.block k (by have:=hk.lt;omega))
  refine (Ba (some ad) cO s.aK hs0 row o m (s.x bb) W1 xE.out Ze PI.out MF HOO.out HLM.out HRO.out HML.out HRL.out).mono ?_
  rintro e w5 ⟨A5,c5,q5,rfl,hq5,Zb,Zd,hb5⟩
  have Uo:=af.mk (D7.out.below hb5)
  have Ul:=Lib.hid Zb
  have HN5:=Lib.hid Zd
  have HQ5:=Lib.hid hq5
  have hsz5:G+3≤W1.heap.size:=D7.out.sz
  have d20:w5.cell? ⟨G,20,none⟩=some (.slice (some ad) s.aK.length cO):=Uo.out.m0.cell 20
  have f20:w5.frozen? ⟨G,20,none⟩=false:=Uo.out.m0.fr 20
  clear Zb Zd hq5 hb5 D7 PI Ze
  go_upto_region 19 with (fail)
  clear d20 f20
  have Un:=af.mk (Uo.out.set 20 (.slice A5 s.aK.length c5) (show _=cellsS { s with aK:=s.aK.set o (row.set m (s.x bb)) } (.slice A5 s.aK.length c5) (.slice AU s.out.length cU) from rfl))
  have HK6:=Lib.hid (fun k (hk:W1.heap.size≤k)=>Below.heap_setCell w5 ⟨G,20,none⟩ (.slice A5 s.aK.length c5) k (show k ≠ G by omega))
  clear Uo
  change Code.wp _ _ _ _ (w5.setCell ⟨G,20,none⟩ (.slice A5 s.aK.length c5))
  generalize w5.setCell ⟨G,20,none⟩ (.slice A5 s.aK.length c5)=W6 at Un HK6 ⊢
  have hs:=Un.out.m0
  have hr:=Un.out.m2
  have hb2:=Lib.hid Un.out.mb
  have hone:=(show (cellsS { s with aK:=s.aK.set o (row.set m (s.x bb)) } (.slice A5 s.aK.length c5) (.slice AU s.out.length cU)).all (·.oneCell')=true from by simp [cellsS,Value.oneCell'])
  go_wp2_with (first|((with_reducible refine bD (N:=96) rfl ?_);refine wpList_load_row rfl 36 (.tmp 2) rfl G rfl 36 (cellsS { s with aK:=s.aK.set o (row.set m (s.x bb)) } (.slice A5 s.aK.length c5) (.slice AU s.out.length cU)) (0,0) _ hs Tryd.underlying36 rfl (by kernel_rfl) ?_)|(skip;refine wpList_store_row rfl 36 (.tmp 4) (.tmp 96) rfl (G+1+1) (cellsS { s with aK:=s.aK.set o (row.set m (s.x bb)) } (.slice A5 s.aK.length c5) (.slice AU s.out.length cU)) rfl rfl 36 _ hr (by kernel_rfl) rfl hone ?_))
  (try simp only [Exit.inBlock,Exit.then])
  refine bodyPost_ret (dU rfl _ _ (G+1+1) 36 _ (0,0) _ rfl (hr.setRow (cellsS { s with aK:=s.aK.set o (row.set m (s.x bb)) } (.slice A5 s.aK.length c5) (.slice AU s.out.length cU))) Tryd.underlying36 rfl (by kernel_rfl)) rfl ?_
  have hb3:=dm (g:=G+2) hb2.out (by omega) (cellsS { s with aK:=s.aK.set o (row.set m (s.x bb)) } (.slice A5 s.aK.length c5) (.slice AU s.out.length cU))
  have EJ:Below w.heap.size w (W6.setRow (G+1+1) (cellsS { s with aK:=s.aK.set o (row.set m (s.x bb)) } (.slice A5 s.aK.length c5) (.slice AU s.out.length cU))):=by rw [hG];exact hb3
  have UY:∀ k,W1.heap.size≤k→(W6.setRow (G+1+1) (cellsS { s with aK:=s.aK.set o (row.set m (s.x bb)) } (.slice A5 s.aK.length c5) (.slice AU s.out.length cU))).heap[k]? = w5.heap[k]?:=fun k hk=>(jw _ k (by omega)).trans (HK6.out k hk)
  have hR6:=Kd.kY (w1:=W6.setRow (G+1+1) (cellsS { s with aK:=s.aK.set o (row.set m (s.x bb)) } (.slice A5 s.aK.length c5) (.slice AU s.out.length cU))) (Kd.mG Ul.out) (fun k hk' _=>UY k hk'.2.1)
  have hN6:=Kd.kY (w1:=W6.setRow (G+1+1) (cellsS { s with aK:=s.aK.set o (row.set m (s.x bb)) } (.slice A5 s.aK.length c5) (.slice AU s.out.length cU))) (Kd.mG HN5.out) (fun k hk' _=>UY k hk'.2.1)
  have hrow:(row.set m (s.x bb)).length=q5.2.1:=by rw [List.length_set];exact HQ5.out.symm
  refine ⟨_,_,rfl,⟨⟨A5,c5,hs0.set o q5,?_,?_,?_,fun wF hF=>?_,fun j hj=>?_⟩,(HV.out.below EJ).out⟩,by first|exact hb3|(rw [hG];exact hb3)⟩
  · show Value.slice A5 s.aK.length c5=.slice A5 (s.aK.set o (row.set (m:Int).toNat (s.x bb))).length c5
    rw [List.length_set]
  · show (s.aK.set o (row.set (m:Int).toNat (s.x bb))).length≤c5
    rw [List.length_set]
    exact (Kd.gp Ul.out).2.1
  · show (hs0.set o q5).length=(s.aK.set o (row.set (m:Int).toNat (s.x bb))).length
    rw [List.length_set,List.length_set]
    exact xE.out
  · show Kd.C kH wF A5 (s.aK.set o (row.set (m:Int).toNat (s.x bb))).length _
    have e9:(s.aK.set o (row.set (m:Int).toNat (s.x bb))).length=(hs0.set o q5).length:=by rw [List.length_set,List.length_set];exact xE.out.symm
    rw [e9]
    exact (Kd.gp (tY (wF:=wF) hR6 rfl (by decide) (fun k _ hn=>hF k hn))).2.2
  · have hj':j < s.aK.length:=by
      have:j < (s.aK.set o (row.set (m:Int).toNat (s.x bb))).length:=hj
      rwa [List.length_set] at this
    show ∃ q,(hs0.set o q5)[j]? = some q∧q.2.1=((s.aK.set o (row.set (m:Int).toNat (s.x bb)))[j]'(by rw [List.length_set];exact hj')).length∧((s.aK.set o (row.set (m:Int).toNat (s.x bb)))[j]'(by rw [List.length_set];exact hj')).length≤q.2.2∧∀ wF,Keep _ wF→Kd.C (Kd.int .i64) wF q.1 ((s.aK.set o (row.set (m:Int).toNat (s.x bb)))[j]'(by rw [List.length_set];exact hj')).length ((s.aK.set o (row.set (m:Int).toNat (s.x bb)))[j]'(by rw [List.length_set];exact hj'))
    by_cases hjo:o=j
    · subst hjo
      refine ⟨q5,List.getElem?_set_self (by rw [xE.out];exact hj'),?_⟩
      rw [List.getElem_set_self,Int.toNat_natCast]
      have h9:=Kd.gp HN5.out
      exact ⟨hrow.symm,by rw [hrow];exact h9.2.1,fun wF hF=>(Kd.gp (tY (wF:=wF) hN6 rfl (by decide) (fun k _ hn=>hF k hn))).2.2⟩
    · obtain ⟨q,hq,q1,q2,q3⟩:=O6.out j hj'
      refine ⟨q,by rw [List.getElem?_set_ne hjo];exact hq,?_⟩
      rw [List.getElem_set_ne hjo]
      exact ⟨q1,q2,fun wF hF=>q3 wF (hF.after EJ)⟩
set_option maxRecDepth 100000 in
set_option maxHeartbeats 3200000 in
theorem WB (s:St) (vO vU:Value) (a bb cc:Nat) (n:Int) (ha:a < 8) (hbb:bb < 8) (o m:Nat) (row:List Int) (hp:s.p a=(o:Int)+1) (ho:o < s.aK.length) (hlim:s.aK.length≤1000000) (hr:s.aK[o]? = some row) (hn:n=m) (hm:m < row.length) (hrl:row.length≤1000000) (w:World) (hv:nK s vO vU w) :
    Calls Tryd.prog 21 #[.agg (cellsS s vO vU),.agg #[.int .u8 11,.int .u8 a,.int .u8 bb,.int .u8 cc,.int .i64 n]] w fun e w'=>∃ o5 oZ,e=.returned (.tuple #[.agg (cellsS { s with aK:=s.aK.set o (row.set n.toNat (s.p bb)) } o5 oZ),.int .i64 0])∧nK { s with aK:=s.aK.set o (row.set n.toNat (s.p bb)) } o5 oZ w'∧Below w.heap.size w w':=by
  obtain ⟨AO,cO,hs0,rfl,MF,hl0,hH0,hE0⟩:=hv.aK
  obtain ⟨AU,cU,rfl,TM,hU⟩:=hv.out
  have hO:Kd.C wR w AO s.aK.length s.aK:=by
    obtain ⟨A5,c5,e5,h5,h6⟩:=hv.rd.aK
    injection e5 with e6 e7 e8
    rw [e6]
    exact h6
  obtain ⟨G,hG⟩:∃ G,w.heap.size=G:=⟨_,rfl⟩
  obtain ⟨W,hW⟩:∃ W,((w.alloc (.cells (cellsS s (.slice AO s.aK.length cO) (.slice AU s.out.length cU)) 36)).alloc (.cells #[.int .u8 11,.int .u8 a,.int .u8 bb,.int .u8 cc,.int .i64 n] 45)).alloc (.cells #[.int .i64 0,.int .i64 0,.int .i64 0,.int .i64 0,.int .i64 0,.int .i64 0,.int .i64 0,.int .i64 0,.int .i64 0,.int .i64 0,.int .i64 0,.int .i64 0,.int .i64 0,.int .i64 0,.int .i64 0,.int .i64 0,.int .i64 0,.int .i64 0,.int .i64 0,.int .i64 0,.slice none 0 0,.slice none 0 0,.int .i64 0,.int .i64 0] 36)=W:=⟨_,rfl⟩
  have hM:=xm (cellsS s (.slice AO s.aK.length cO) (.slice AU s.out.length cU)) #[.int .u8 11,.int .u8 a,.int .u8 bb,.int .u8 cc,.int .i64 n] #[.int .i64 0,.int .i64 0,.int .i64 0,.int .i64 0,.int .i64 0,.int .i64 0,.int .i64 0,.int .i64 0,.int .i64 0,.int .i64 0,.int .i64 0,.int .i64 0,.int .i64 0,.int .i64 0,.int .i64 0,.int .i64 0,.int .i64 0,.int .i64 0,.int .i64 0,.int .i64 0,.slice none 0 0,.slice none 0 0,.int .i64 0,.int .i64 0] w
  rw [hW,hG] at hM
  have HM:=af.mk hM
  have HV:=af.mk hv
  have HO:=af.mk (Kd.bQ hO (by rw [hG];exact hM.mb))
  have PK:=Lib.hid hH0
  have O6:=Lib.hid hE0
  have xE:=Lib.hid hl0
  clear hH0 hE0 hl0
  have i0:W.cell? ⟨G+1,0,none⟩=some (.int .u8 11):=hM.m1.cell 0
  have i1:W.cell? ⟨G+1,1,none⟩=some (.int .u8 a):=hM.m1.cell 1
  have i2:W.cell? ⟨G+1,2,none⟩=some (.int .u8 bb):=hM.m1.cell 2
  have i4:W.cell? ⟨G+1,4,none⟩=some (.int .i64 n):=hM.m1.cell 4
  have c20:W.cell? ⟨G,20,none⟩=some (.slice AO s.aK.length cO):=hM.m0.cell 20
  have hai:(a:Int) < 8:=by omega
  have zu:(bb:Int) < 8:=by omega
  obtain ⟨q,hq⟩:∃ q:Int,q=(o:Int)+1:=⟨_,rfl⟩
  obtain ⟨z,hz⟩:∃ z:Int,z=(o:Int):=⟨_,rfl⟩
  have cp:W.cell? ⟨G,8+a,none⟩=some (.int .i64 q):=by rw [hM.m0.qg a ha,hp,hq]
  subst hn
  have hzb:(q == 0)=false:=beq_eq_false_iff_ne.2 (by omega)
  have Ye:IntKind.i64.wrap (q - 1)=z:=by rw [hq,hz,Int.add_sub_cancel];exact IntWalk.i64_in _ (by omega)
  have Yc:wrap64 (q - 1)=z:=by rw [hq,hz,Int.add_sub_cancel];unfold wrap64;omega
  have j0:(0≤z)=True:=eq_true (by omega)
  have j1:(z < (s.aK.length:Int))=True:=eq_true (by omega)
  have j2:(0≤(m:Int))=True:=eq_true (by omega)
  have j3:((m:Int) < (row.length:Int))=True:=eq_true (by omega)
  have zt:o=z.toNat:=by omega
  obtain ⟨ad,A1,c1,e0,hx,hx1,hx2⟩:=wW HO.out (o:Int) (by omega) (by omega)
  have KC:jl s.aK (o:Int)=row:=by show s.aK.getD (o:Int).toNat []=row;rw [Int.toNat_natCast,List.getD_eq_getElem?_getD,hr];rfl
  rw [KC] at hx hx1 hx2
  rw [Int.toNat_natCast,zt] at hx
  subst e0
  have HRO:=Lib.hid hr
  have HQ:=Lib.hid hq
  have HOO:=Lib.hid ho
  have cr:W.cell? ⟨G,8+bb,none⟩=some (.int .i64 (s.p bb)):=hM.m0.qg bb hbb
  have HLM:=Lib.hid hlim
  have HML:=Lib.hid hm
  have HRL:=Lib.hid hrl
  clear hx hx1 hx2 hr KC hp zt hq hz j0 j1 j2 j3 Ye Yc
  have hgt:=hM.m0.lt
  clear hM hv hU hO
  go_enter Tryd.func21,Tryd.ntmps21
  go_wp2
  clear hW cp i0
  go_still_tail 10,(by kernel_rfl)
  clear cr i1 i2 i4 c20
  change wpList _ _ _ _ _ W.drew
  have D7:=af.mk HM.out.drew
  have PI:=af.mk (Kd.dS HO.out)
  clear HM HO
  generalize W.drew=W1 at D7 PI ⊢
  have hq:=HQ.out
  subst hq
  go_upto_region 999 with (fail)
  have Ze:=PK.out W1 (fun k hk=>D7.out.mb.block k (by have:=hk.lt;omega))
  refine (Ba (some ad) cO s.aK hs0 row o m (s.p bb) W1 xE.out Ze PI.out MF HOO.out HLM.out HRO.out HML.out HRL.out).mono ?_
  rintro e w5 ⟨A5,c5,q5,rfl,hq5,Zb,Zd,hb5⟩
  have Uo:=af.mk (D7.out.below hb5)
  have Ul:=Lib.hid Zb
  have HN5:=Lib.hid Zd
  have HQ5:=Lib.hid hq5
  have hsz5:G+3≤W1.heap.size:=D7.out.sz
  have d20:w5.cell? ⟨G,20,none⟩=some (.slice (some ad) s.aK.length cO):=Uo.out.m0.cell 20
  have f20:w5.frozen? ⟨G,20,none⟩=false:=Uo.out.m0.fr 20
  clear Zb Zd hq5 hb5 D7 PI Ze
  go_upto_region 19 with (fail)
  clear d20 f20
  have Un:=af.mk (Uo.out.set 20 (.slice A5 s.aK.length c5) (show _=cellsS { s with aK:=s.aK.set o (row.set m (s.p bb)) } (.slice A5 s.aK.length c5) (.slice AU s.out.length cU) from rfl))
  have HK6:=Lib.hid (fun k (hk:W1.heap.size≤k)=>Below.heap_setCell w5 ⟨G,20,none⟩ (.slice A5 s.aK.length c5) k (show k ≠ G by omega))
  clear Uo
  change Code.wp _ _ _ _ (w5.setCell ⟨G,20,none⟩ (.slice A5 s.aK.length c5))
  generalize w5.setCell ⟨G,20,none⟩ (.slice A5 s.aK.length c5)=W6 at Un HK6 ⊢
  have hs:=Un.out.m0
  have hr:=Un.out.m2
  have hb2:=Lib.hid Un.out.mb
  have hone:=(show (cellsS { s with aK:=s.aK.set o (row.set m (s.p bb)) } (.slice A5 s.aK.length c5) (.slice AU s.out.length cU)).all (·.oneCell')=true from by simp [cellsS,Value.oneCell'])
  go_wp2_with (first|((with_reducible refine bD (N:=96) rfl ?_);refine wpList_load_row rfl 36 (.tmp 2) rfl G rfl 36 (cellsS { s with aK:=s.aK.set o (row.set m (s.p bb)) } (.slice A5 s.aK.length c5) (.slice AU s.out.length cU)) (0,0) _ hs Tryd.underlying36 rfl (by kernel_rfl) ?_)|(skip;refine wpList_store_row rfl 36 (.tmp 4) (.tmp 96) rfl (G+1+1) (cellsS { s with aK:=s.aK.set o (row.set m (s.p bb)) } (.slice A5 s.aK.length c5) (.slice AU s.out.length cU)) rfl rfl 36 _ hr (by kernel_rfl) rfl hone ?_))
  (try simp only [Exit.inBlock,Exit.then])
  refine bodyPost_ret (dU rfl _ _ (G+1+1) 36 _ (0,0) _ rfl (hr.setRow (cellsS { s with aK:=s.aK.set o (row.set m (s.p bb)) } (.slice A5 s.aK.length c5) (.slice AU s.out.length cU))) Tryd.underlying36 rfl (by kernel_rfl)) rfl ?_
  have hb3:=dm (g:=G+2) hb2.out (by omega) (cellsS { s with aK:=s.aK.set o (row.set m (s.p bb)) } (.slice A5 s.aK.length c5) (.slice AU s.out.length cU))
  have EJ:Below w.heap.size w (W6.setRow (G+1+1) (cellsS { s with aK:=s.aK.set o (row.set m (s.p bb)) } (.slice A5 s.aK.length c5) (.slice AU s.out.length cU))):=by rw [hG];exact hb3
  have UY:∀ k,W1.heap.size≤k→(W6.setRow (G+1+1) (cellsS { s with aK:=s.aK.set o (row.set m (s.p bb)) } (.slice A5 s.aK.length c5) (.slice AU s.out.length cU))).heap[k]? = w5.heap[k]?:=fun k hk=>(jw _ k (by omega)).trans (HK6.out k hk)
  have hR6:=Kd.kY (w1:=W6.setRow (G+1+1) (cellsS { s with aK:=s.aK.set o (row.set m (s.p bb)) } (.slice A5 s.aK.length c5) (.slice AU s.out.length cU))) (Kd.mG Ul.out) (fun k hk' _=>UY k hk'.2.1)
  have hN6:=Kd.kY (w1:=W6.setRow (G+1+1) (cellsS { s with aK:=s.aK.set o (row.set m (s.p bb)) } (.slice A5 s.aK.length c5) (.slice AU s.out.length cU))) (Kd.mG HN5.out) (fun k hk' _=>UY k hk'.2.1)
  have hrow:(row.set m (s.p bb)).length=q5.2.1:=by rw [List.length_set];exact HQ5.out.symm
  refine ⟨_,_,rfl,⟨⟨A5,c5,hs0.set o q5,?_,?_,?_,fun wF hF=>?_,fun j hj=>?_⟩,(HV.out.below EJ).out⟩,by first|exact hb3|(rw [hG];exact hb3)⟩
  · show Value.slice A5 s.aK.length c5=.slice A5 (s.aK.set o (row.set (m:Int).toNat (s.p bb))).length c5
    rw [List.length_set]
  · show (s.aK.set o (row.set (m:Int).toNat (s.p bb))).length≤c5
    rw [List.length_set]
    exact (Kd.gp Ul.out).2.1
  · show (hs0.set o q5).length=(s.aK.set o (row.set (m:Int).toNat (s.p bb))).length
    rw [List.length_set,List.length_set]
    exact xE.out
  · show Kd.C kH wF A5 (s.aK.set o (row.set (m:Int).toNat (s.p bb))).length _
    have e9:(s.aK.set o (row.set (m:Int).toNat (s.p bb))).length=(hs0.set o q5).length:=by rw [List.length_set,List.length_set];exact xE.out.symm
    rw [e9]
    exact (Kd.gp (tY (wF:=wF) hR6 rfl (by decide) (fun k _ hn=>hF k hn))).2.2
  · have hj':j < s.aK.length:=by
      have:j < (s.aK.set o (row.set (m:Int).toNat (s.p bb))).length:=hj
      rwa [List.length_set] at this
    show ∃ q,(hs0.set o q5)[j]? = some q∧q.2.1=((s.aK.set o (row.set (m:Int).toNat (s.p bb)))[j]'(by rw [List.length_set];exact hj')).length∧((s.aK.set o (row.set (m:Int).toNat (s.p bb)))[j]'(by rw [List.length_set];exact hj')).length≤q.2.2∧∀ wF,Keep _ wF→Kd.C (Kd.int .i64) wF q.1 ((s.aK.set o (row.set (m:Int).toNat (s.p bb)))[j]'(by rw [List.length_set];exact hj')).length ((s.aK.set o (row.set (m:Int).toNat (s.p bb)))[j]'(by rw [List.length_set];exact hj'))
    by_cases hjo:o=j
    · subst hjo
      refine ⟨q5,List.getElem?_set_self (by rw [xE.out];exact hj'),?_⟩
      rw [List.getElem_set_self,Int.toNat_natCast]
      have h9:=Kd.gp HN5.out
      exact ⟨hrow.symm,by rw [hrow];exact h9.2.1,fun wF hF=>(Kd.gp (tY (wF:=wF) hN6 rfl (by decide) (fun k _ hn=>hF k hn))).2.2⟩
    · obtain ⟨q,hq,q1,q2,q3⟩:=O6.out j hj'
      refine ⟨q,by rw [List.getElem?_set_ne hjo];exact hq,?_⟩
      rw [List.getElem_set_ne hjo]
      exact ⟨q1,q2,fun wF hF=>q3 wF (hF.after EJ)⟩
end Go.Proofs.YtgfnpdfhdgenbaaDoor.P
end
end
