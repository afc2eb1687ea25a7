/- Parts of the proof of LeakTrue: what the functions that it reaches compute, and plain facts about that. -/
import Derived.Test.YtgfnpdfhdgenbaaDoorTak
set_option linter.unusedVariables false
set_option linter.unusedSimpArgs false
section
section
namespace Go.Proofs.YtgfnpdfhdgenbaaDoor.P
open Go.RowKit Go.Proofs.ae.bf Go.Proofs.ae.bY Go.Proofs.ae.cZ
theorem PX (f:Nat→Int) (j:Nat) (u v:Int):upd (upd f j u) j v=upd f j v:=by
  funext i
  unfold upd
  split <;> rfl
theorem Bc (cs I zs zx:Array Value) (w:World):let wa:=((w.alloc (.cells cs 36)).alloc (.cells I 45)).alloc (.cells zs 36);let wb:=wa.alloc (.cells zx 30)
    Bk wa w.heap.size cs 36∧Bk wb w.heap.size cs 36∧Bk wb (w.heap.size+1) I 45∧Bk wb (w.heap.size+2) zs 36∧Bk wb (w.heap.size+3) zx 30∧Below w.heap.size w wb∧wa.heap.size=w.heap.size+3∧wb.heap.size=w.heap.size+4:=by
  have h1:=Bk.new w cs 36
  have h2:=Bk.new (w.alloc (.cells cs 36)) I 45
  have h3:=Bk.new ((w.alloc (.cells cs 36)).alloc (.cells I 45)) zs 36
  have h4:=Bk.new (((w.alloc (.cells cs 36)).alloc (.cells I 45)).alloc (.cells zs 36)) zx 30
  rw [show (w.alloc (.cells cs 36)).heap.size=w.heap.size+1 by simp] at h2
  rw [show ((w.alloc (.cells cs 36)).alloc (.cells I 45)).heap.size=w.heap.size+2 by simp] at h3
  rw [show (((w.alloc (.cells cs 36)).alloc (.cells I 45)).alloc (.cells zs 36)).heap.size=w.heap.size+3 by simp] at h4
  exact ⟨(h1.alloc _).alloc _,((h1.alloc _).alloc _).alloc _,(h2.alloc _).alloc _,h3.alloc _,h4,((((Below.refl _ w).alloc (Nat.le_refl _) _).alloc (by simp) _).alloc (by simp;omega) _).alloc (by simp;omega) _,by simp,by simp⟩
set_option maxRecDepth 100000 in
set_option maxHeartbeats 3200000 in
theorem Ls (s:St) (vO vU:Value) (a bb cc:Nat) (n:Int) (ha:a < 8) (w:World) (hv:nK s vO vU w) :
    Calls Tryd.prog 19 #[.agg (cellsS s vO vU),.agg #[.int .u8 1,.int .u8 a,.int .u8 bb,.int .u8 cc,.int .i64 n]] w fun e w'=>∃ o5 oZ,e=.returned (.tuple #[.agg (cellsS { s with x:=upd s.x a n } o5 oZ),.bool true])∧nK { s with x:=upd s.x a n } o5 oZ w'∧Below w.heap.size w w':=by
  obtain ⟨G,hG⟩:∃ G,w.heap.size=G:=⟨_,rfl⟩
  obtain ⟨wa,Bi⟩:∃ wa,((w.alloc (.cells (cellsS s vO vU) 36)).alloc (.cells #[.int .u8 1,.int .u8 a,.int .u8 bb,.int .u8 cc,.int .i64 n] 45)).alloc (.cells #[.int .i64 0,.int .i64 0,.int .i64 0,.int .i64 0,.int .i64 0,.int .i64 0,.int .i64 0,.int .i64 0,.int .i64 0,.int .i64 0,.int .i64 0,.int .i64 0,.int .i64 0,.int .i64 0,.int .i64 0,.int .i64 0,.int .i64 0,.int .i64 0,.int .i64 0,.int .i64 0,.slice none 0 0,.slice none 0 0,.int .i64 0,.int .i64 0] 36)=wa:=⟨_,rfl⟩
  obtain ⟨wb,hwb⟩:∃ wb,wa.alloc (.cells #[.int .i64 0,.int .i64 0,.int .i64 0,.int .i64 0,.int .i64 0,.int .i64 0,.int .i64 0,.int .i64 0] 30)=wb:=⟨_,rfl⟩
  obtain ⟨k,k0,k1,k2,k3,hB,hsa,hsz⟩:=Bc (cellsS s vO vU) #[.int .u8 1,.int .u8 a,.int .u8 bb,.int .u8 cc,.int .i64 n] #[.int .i64 0,.int .i64 0,.int .i64 0,.int .i64 0,.int .i64 0,.int .i64 0,.int .i64 0,.int .i64 0,.int .i64 0,.int .i64 0,.int .i64 0,.int .i64 0,.int .i64 0,.int .i64 0,.int .i64 0,.int .i64 0,.int .i64 0,.int .i64 0,.int .i64 0,.int .i64 0,.slice none 0 0,.slice none 0 0,.int .i64 0,.int .i64 0] #[.int .i64 0,.int .i64 0,.int .i64 0,.int .i64 0,.int .i64 0,.int .i64 0,.int .i64 0,.int .i64 0] w
  rw [Bi] at k k0 k1 k2 k3 hB hsa hsz
  rw [hwb] at k0 k1 k2 k3 hB hsz
  have HV:=af.mk hv
  rw [hG] at k k0 k1 k2 k3 hB hsa hsz
  have K0:=af.mk k0
  have K1:=af.mk k1
  have K2:=af.mk k2
  have K3:=af.mk k3
  have HB:=af.mk hB
  have hx:=k.xs
  clear k k0 k1 k2 hB hv
  go_enter Tryd.func19,Tryd.ntmps19
  go_upto_region 2 with (first|((with_reducible refine bD (N:=9) rfl ?_);refine nO rfl 30 (.tmp 8) rfl G 0 rfl (dK s.x) _ hx Tryd.underlying30 rfl (by kernel_rfl) ?_)|(skip;refine wpList_store_row rfl 30 (.tmp 6) (.tmp 9) rfl (G+3) (dK s.x) rfl rfl 30 _ k3 (by kernel_rfl) rfl (iQ _) ?_))
  clear hx hwb Bi hsa
  have M0:=af.mk (K0.out.fK (h:=G+3) (dK s.x) (by omega))
  have M1:=af.mk (K1.out.fK (h:=G+3) (dK s.x) (by omega))
  have M2:=af.mk (K2.out.fK (h:=G+3) (dK s.x) (by omega))
  have M3:=af.mk (K3.out.setRow (dK s.x))
  have MB:=af.mk (dm (g:=G+3) HB.out (by omega) (dK s.x))
  have hWs:G+4≤(wb.setRow (G+3) (dK s.x)).heap.size:=by rw [size_setRow];omega
  clear K0 K1 K2 K3 HB k3 hsz
  change Code.wp _ _ _ _ (wb.setRow (G+3) (dK s.x))
  generalize wb.setRow (G+3) (dK s.x)=W at M0 M1 M2 M3 MB hWs ⊢
  have i0:W.cell? ⟨G+1,0,none⟩=some (.int .u8 1):=M1.out.cell 0
  have i1:W.cell? ⟨G+1,1,none⟩=some (.int .u8 a):=M1.out.cell 1
  have i2:W.cell? ⟨G+1,2,none⟩=some (.int .u8 bb):=M1.out.cell 2
  have i3:W.cell? ⟨G+1,3,none⟩=some (.int .u8 cc):=M1.out.cell 3
  have i4:W.cell? ⟨G+1,4,none⟩=some (.int .i64 n):=M1.out.cell 4
  have hai:(a:Int) < 8:=by omega
  have c3:W.cell? ⟨G+3,a,none⟩=some (.int .i64 (s.x a)):=(M3.out.cell a).trans (mW s.x a ha)
  have f3:=M3.out.fr a
  go_upto_region 15 with (fail)
  clear c3 f3 i0 i1 i2 i3 i4
  have T0:=af.mk (M0.out.far (h:=G+3) a (.int .i64 (n)) (by omega))
  have T1:=af.mk (M1.out.far (h:=G+3) a (.int .i64 (n)) (by omega))
  have T2:=af.mk (M2.out.far (h:=G+3) a (.int .i64 (n)) (by omega))
  have T3:=af.mk (show Bk (W.setCell ⟨G+3,a,none⟩ (.int .i64 (n))) (G+3) (dK (upd s.x a (n))) 30 from o6 s.x a ha (n) ▸ M3.out.set a (.int .i64 (n)))
  have TB:=af.mk (MB.out.setCell (p:=⟨G+3,a,none⟩) (by show G≤G+3;omega) (.int .i64 (n)))
  change Code.wp _ _ _ _ (W.setCell ⟨G+3,a,none⟩ (.int .i64 (n)))
  generalize W.setCell ⟨G+3,a,none⟩ (.int .i64 (n))=W2 at T0 T1 T2 T3 TB ⊢
  have hl3:=T3.out
  have hth:W2.there G 0 8:=T0.out.there 0 8 (show 0+8≤24 by omega)
  go_upto_region 16 with (first|((with_reducible refine bD (N:=67) rfl ?_);refine wpList_load_row rfl 30 (.tmp 6) rfl (G+3) rfl 30 (dK (upd s.x a n)) (0,0) _ hl3 Tryd.underlying30 rfl (by kernel_rfl) ?_)|(skip;refine wpList_store_mid rfl 30 (.tmp 68) (.tmp 67) rfl G 0 (dK (upd s.x a n)) rfl rfl hth (by kernel_rfl) (iQ _) ?_))
  have hs:=T0.out.wI (upd s.x a n)
  have hr:=T2.out.iR (h:=G) 0 (dK (upd s.x a n)).toList (by omega)
  have hb2:=Lib.hid (gB (dK (upd s.x a n)).toList _ G 0 TB.out (Nat.le_refl _))
  clear hl3 hth T0 T1 T2 T3 TB
  change Code.wp _ _ _ _ (W2.setCells G 0 (dK (upd s.x a n)).toList)
  generalize W2.setCells G 0 (dK (upd s.x a n)).toList=W3 at hs hr hb2 ⊢
  have hone:=HV.out.rd.one { s with x:=upd s.x a n }
  go_wp2_with (first|((with_reducible refine bD (N:=69) rfl ?_);refine wpList_load_row rfl 36 (.tmp 2) rfl G rfl 36 (cellsS { s with x:=upd s.x a n } vO vU) (0,0) _ hs Tryd.underlying36 rfl (by kernel_rfl) ?_)|(skip;refine wpList_store_row rfl 36 (.tmp 4) (.tmp 69) rfl (G+1+1) (cellsS { s with x:=upd s.x a n } vO vU) rfl rfl 36 _ hr (by kernel_rfl) rfl hone ?_))
  (try simp only [Exit.inBlock,Exit.then])
  refine bodyPost_ret (dU rfl _ _ (G+1+1) 36 _ (0,0) _ rfl (hr.setRow (cellsS { s with x:=upd s.x a n } vO vU)) Tryd.underlying36 rfl (by kernel_rfl)) rfl ?_
  have hb3:=dm (g:=G+2) hb2.out (by omega) (cellsS { s with x:=upd s.x a n } vO vU)
  exact ⟨_,_,rfl,(HV.out.below (by rw [hG];exact hb3)).as rfl rfl,by rw [hG];exact hb3⟩
set_option maxRecDepth 100000 in
set_option maxHeartbeats 3200000 in
theorem Lr (s:St) (vO vU:Value) (a bb cc:Nat) (n:Int) (ha:a < 8) (hbb:bb < 8) (hcc:cc < 8) (w:World) (hv:nK s vO vU w) :
    Calls Tryd.prog 19 #[.agg (cellsS s vO vU),.agg #[.int .u8 2,.int .u8 a,.int .u8 bb,.int .u8 cc,.int .i64 n]] w fun e w'=>∃ o5 oZ,e=.returned (.tuple #[.agg (cellsS { s with x:=upd s.x a (wrap64 (s.x bb+s.x cc)) } o5 oZ),.bool true])∧nK { s with x:=upd s.x a (wrap64 (s.x bb+s.x cc)) } o5 oZ w'∧Below w.heap.size w w':=by
  obtain ⟨G,hG⟩:∃ G,w.heap.size=G:=⟨_,rfl⟩
  obtain ⟨wa,Bi⟩:∃ wa,((w.alloc (.cells (cellsS s vO vU) 36)).alloc (.cells #[.int .u8 2,.int .u8 a,.int .u8 bb,.int .u8 cc,.int .i64 n] 45)).alloc (.cells #[.int .i64 0,.int .i64 0,.int .i64 0,.int .i64 0,.int .i64 0,.int .i64 0,.int .i64 0,.int .i64 0,.int .i64 0,.int .i64 0,.int .i64 0,.int .i64 0,.int .i64 0,.int .i64 0,.int .i64 0,.int .i64 0,.int .i64 0,.int .i64 0,.int .i64 0,.int .i64 0,.slice none 0 0,.slice none 0 0,.int .i64 0,.int .i64 0] 36)=wa:=⟨_,rfl⟩
  obtain ⟨wb,hwb⟩:∃ wb,wa.alloc (.cells #[.int .i64 0,.int .i64 0,.int .i64 0,.int .i64 0,.int .i64 0,.int .i64 0,.int .i64 0,.int .i64 0] 30)=wb:=⟨_,rfl⟩
  obtain ⟨k,k0,k1,k2,k3,hB,hsa,hsz⟩:=Bc (cellsS s vO vU) #[.int .u8 2,.int .u8 a,.int .u8 bb,.int .u8 cc,.int .i64 n] #[.int .i64 0,.int .i64 0,.int .i64 0,.int .i64 0,.int .i64 0,.int .i64 0,.int .i64 0,.int .i64 0,.int .i64 0,.int .i64 0,.int .i64 0,.int .i64 0,.int .i64 0,.int .i64 0,.int .i64 0,.int .i64 0,.int .i64 0,.int .i64 0,.int .i64 0,.int .i64 0,.slice none 0 0,.slice none 0 0,.int .i64 0,.int .i64 0] #[.int .i64 0,.int .i64 0,.int .i64 0,.int .i64 0,.int .i64 0,.int .i64 0,.int .i64 0,.int .i64 0] w
  rw [Bi] at k k0 k1 k2 k3 hB hsa hsz
  rw [hwb] at k0 k1 k2 k3 hB hsz
  have HV:=af.mk hv
  rw [hG] at k k0 k1 k2 k3 hB hsa hsz
  have K0:=af.mk k0
  have K1:=af.mk k1
  have K2:=af.mk k2
  have K3:=af.mk k3
  have HB:=af.mk hB
  have hx:=k.xs
  clear k k0 k1 k2 hB hv
  go_enter Tryd.func19,Tryd.ntmps19
  go_upto_region 2 with (first|((with_reducible refine bD (N:=9) rfl ?_);refine nO rfl 30 (.tmp 8) rfl G 0 rfl (dK s.x) _ hx Tryd.underlying30 rfl (by kernel_rfl) ?_)|(skip;refine wpList_store_row rfl 30 (.tmp 6) (.tmp 9) rfl (G+3) (dK s.x) rfl rfl 30 _ k3 (by kernel_rfl) rfl (iQ _) ?_))
  clear hx hwb Bi hsa
  have M0:=af.mk (K0.out.fK (h:=G+3) (dK s.x) (by omega))
  have M1:=af.mk (K1.out.fK (h:=G+3) (dK s.x) (by omega))
  have M2:=af.mk (K2.out.fK (h:=G+3) (dK s.x) (by omega))
  have M3:=af.mk (K3.out.setRow (dK s.x))
  have MB:=af.mk (dm (g:=G+3) HB.out (by omega) (dK s.x))
  have hWs:G+4≤(wb.setRow (G+3) (dK s.x)).heap.size:=by rw [size_setRow];omega
  clear K0 K1 K2 K3 HB k3 hsz
  change Code.wp _ _ _ _ (wb.setRow (G+3) (dK s.x))
  generalize wb.setRow (G+3) (dK s.x)=W at M0 M1 M2 M3 MB hWs ⊢
  have i0:W.cell? ⟨G+1,0,none⟩=some (.int .u8 2):=M1.out.cell 0
  have i1:W.cell? ⟨G+1,1,none⟩=some (.int .u8 a):=M1.out.cell 1
  have i2:W.cell? ⟨G+1,2,none⟩=some (.int .u8 bb):=M1.out.cell 2
  have i3:W.cell? ⟨G+1,3,none⟩=some (.int .u8 cc):=M1.out.cell 3
  have i4:W.cell? ⟨G+1,4,none⟩=some (.int .i64 n):=M1.out.cell 4
  have hai:(a:Int) < 8:=by omega
  have zu:(bb:Int) < 8:=by omega
  have Y8:(cc:Int) < 8:=by omega
  have cbb:W.cell? ⟨G+3,bb,none⟩=some (.int .i64 (s.x bb)):=(M3.out.cell bb).trans (mW (s.x) bb hbb)
  have ccc:W.cell? ⟨G+3,cc,none⟩=some (.int .i64 (s.x cc)):=(M3.out.cell cc).trans (mW (s.x) cc hcc)
  go_wp2
  go_still_tail 12,(by kernel_rfl)
  clear cbb ccc i0 i1 i2 i3 i4
  change wpList _ _ _ _ _ W.drew
  replace M0:=af.mk (show Bk W.drew _ _ _ from M0.out)
  replace M1:=af.mk (show Bk W.drew _ _ _ from M1.out)
  replace M2:=af.mk (show Bk W.drew _ _ _ from M2.out)
  replace M3:=af.mk (show Bk W.drew _ _ _ from M3.out)
  replace MB:=af.mk (show Below G w W.drew from ⟨MB.out.os,MB.out.tape,MB.out.output,MB.out.size,MB.out.block⟩)
  replace hWs:G+4≤W.drew.heap.size:=hWs
  generalize W.drew=W1 at M0 M1 M2 M3 MB hWs ⊢
  have ca:W1.cell? ⟨G+3,a,none⟩=some (.int .i64 (s.x a)):=(M3.out.cell a).trans (mW (s.x) a ha)
  have f3:=M3.out.fr a
  go_upto_region 15 with (fail)
  clear ca f3
  have T0:=af.mk (M0.out.far (h:=G+3) a (.int .i64 (wrap64 (s.x bb+s.x cc))) (by omega))
  have T1:=af.mk (M1.out.far (h:=G+3) a (.int .i64 (wrap64 (s.x bb+s.x cc))) (by omega))
  have T2:=af.mk (M2.out.far (h:=G+3) a (.int .i64 (wrap64 (s.x bb+s.x cc))) (by omega))
  have T3:=af.mk (show Bk (W1.setCell ⟨G+3,a,none⟩ (.int .i64 (wrap64 (s.x bb+s.x cc)))) (G+3) (dK (upd s.x a (wrap64 (s.x bb+s.x cc)))) 30 from o6 s.x a ha (wrap64 (s.x bb+s.x cc)) ▸ M3.out.set a (.int .i64 (wrap64 (s.x bb+s.x cc))))
  have TB:=af.mk (MB.out.setCell (p:=⟨G+3,a,none⟩) (by show G≤G+3;omega) (.int .i64 (wrap64 (s.x bb+s.x cc))))
  change Code.wp _ _ _ _ (W1.setCell ⟨G+3,a,none⟩ (.int .i64 (wrap64 (s.x bb+s.x cc))))
  generalize W1.setCell ⟨G+3,a,none⟩ (.int .i64 (wrap64 (s.x bb+s.x cc)))=W2 at T0 T1 T2 T3 TB ⊢
  have hl3:=T3.out
  have hth:W2.there G 0 8:=T0.out.there 0 8 (show 0+8≤24 by omega)
  go_upto_region 16 with (first|((with_reducible refine bD (N:=67) rfl ?_);refine wpList_load_row rfl 30 (.tmp 6) rfl (G+3) rfl 30 (dK (upd s.x a (wrap64 (s.x bb+s.x cc)))) (0,0) _ hl3 Tryd.underlying30 rfl (by kernel_rfl) ?_)|(skip;refine wpList_store_mid rfl 30 (.tmp 68) (.tmp 67) rfl G 0 (dK (upd s.x a (wrap64 (s.x bb+s.x cc)))) rfl rfl hth (by kernel_rfl) (iQ _) ?_))
  have hs:=T0.out.wI (upd s.x a (wrap64 (s.x bb+s.x cc)))
  have hr:=T2.out.iR (h:=G) 0 (dK (upd s.x a (wrap64 (s.x bb+s.x cc)))).toList (by omega)
  have hb2:=Lib.hid (gB (dK (upd s.x a (wrap64 (s.x bb+s.x cc)))).toList _ G 0 TB.out (Nat.le_refl _))
  clear hl3 hth T0 T1 T2 T3 TB
  change Code.wp _ _ _ _ (W2.setCells G 0 (dK (upd s.x a (wrap64 (s.x bb+s.x cc)))).toList)
  generalize W2.setCells G 0 (dK (upd s.x a (wrap64 (s.x bb+s.x cc)))).toList=W3 at hs hr hb2 ⊢
  have hone:=HV.out.rd.one { s with x:=upd s.x a (wrap64 (s.x bb+s.x cc)) }
  go_wp2_with (first|((with_reducible refine bD (N:=69) rfl ?_);refine wpList_load_row rfl 36 (.tmp 2) rfl G rfl 36 (cellsS { s with x:=upd s.x a (wrap64 (s.x bb+s.x cc)) } vO vU) (0,0) _ hs Tryd.underlying36 rfl (by kernel_rfl) ?_)|(skip;refine wpList_store_row rfl 36 (.tmp 4) (.tmp 69) rfl (G+1+1) (cellsS { s with x:=upd s.x a (wrap64 (s.x bb+s.x cc)) } vO vU) rfl rfl 36 _ hr (by kernel_rfl) rfl hone ?_))
  (try simp only [Exit.inBlock,Exit.then])
  refine bodyPost_ret (dU rfl _ _ (G+1+1) 36 _ (0,0) _ rfl (hr.setRow (cellsS { s with x:=upd s.x a (wrap64 (s.x bb+s.x cc)) } vO vU)) Tryd.underlying36 rfl (by kernel_rfl)) rfl ?_
  have hb3:=dm (g:=G+2) hb2.out (by omega) (cellsS { s with x:=upd s.x a (wrap64 (s.x bb+s.x cc)) } vO vU)
  exact ⟨_,_,rfl,(HV.out.below (by rw [hG];exact hb3)).as rfl rfl,by rw [hG];exact hb3⟩
set_option maxRecDepth 100000 in
set_option maxHeartbeats 3200000 in
theorem zg (s:St) (vO vU:Value) (a bb cc:Nat) (n:Int) (ha:a < 8) (hbb:bb < 8) (hcc:cc < 8) (hz:s.p bb=s.p cc) (w:World) (hv:nK s vO vU w) :
    Calls Tryd.prog 19 #[.agg (cellsS s vO vU),.agg #[.int .u8 15,.int .u8 a,.int .u8 bb,.int .u8 cc,.int .i64 n]] w fun e w'=>∃ o5 oZ,e=.returned (.tuple #[.agg (cellsS { s with x:=upd s.x a 1 } o5 oZ),.bool true])∧nK { s with x:=upd s.x a 1 } o5 oZ w'∧Below w.heap.size w w':=by
  obtain ⟨G,hG⟩:∃ G,w.heap.size=G:=⟨_,rfl⟩
  obtain ⟨wa,Bi⟩:∃ wa,((w.alloc (.cells (cellsS s vO vU) 36)).alloc (.cells #[.int .u8 15,.int .u8 a,.int .u8 bb,.int .u8 cc,.int .i64 n] 45)).alloc (.cells #[.int .i64 0,.int .i64 0,.int .i64 0,.int .i64 0,.int .i64 0,.int .i64 0,.int .i64 0,.int .i64 0,.int .i64 0,.int .i64 0,.int .i64 0,.int .i64 0,.int .i64 0,.int .i64 0,.int .i64 0,.int .i64 0,.int .i64 0,.int .i64 0,.int .i64 0,.int .i64 0,.slice none 0 0,.slice none 0 0,.int .i64 0,.int .i64 0] 36)=wa:=⟨_,rfl⟩
  obtain ⟨wb,hwb⟩:∃ wb,wa.alloc (.cells #[.int .i64 0,.int .i64 0,.int .i64 0,.int .i64 0,.int .i64 0,.int .i64 0,.int .i64 0,.int .i64 0] 30)=wb:=⟨_,rfl⟩
  obtain ⟨k,k0,k1,k2,k3,hB,hsa,hsz⟩:=Bc (cellsS s vO vU) #[.int .u8 15,.int .u8 a,.int .u8 bb,.int .u8 cc,.int .i64 n] #[.int .i64 0,.int .i64 0,.int .i64 0,.int .i64 0,.int .i64 0,.int .i64 0,.int .i64 0,.int .i64 0,.int .i64 0,.int .i64 0,.int .i64 0,.int .i64 0,.int .i64 0,.int .i64 0,.int .i64 0,.int .i64 0,.int .i64 0,.int .i64 0,.int .i64 0,.int .i64 0,.slice none 0 0,.slice none 0 0,.int .i64 0,.int .i64 0] #[.int .i64 0,.int .i64 0,.int .i64 0,.int .i64 0,.int .i64 0,.int .i64 0,.int .i64 0,.int .i64 0] w
  rw [Bi] at k k0 k1 k2 k3 hB hsa hsz
  rw [hwb] at k0 k1 k2 k3 hB hsz
  have HV:=af.mk hv
  rw [hG] at k k0 k1 k2 k3 hB hsa hsz
  have K0:=af.mk k0
  have K1:=af.mk k1
  have K2:=af.mk k2
  have K3:=af.mk k3
  have HB:=af.mk hB
  have hx:=k.xs
  clear k k0 k1 k2 hB hv
  go_enter Tryd.func19,Tryd.ntmps19
  go_upto_region 2 with (first|((with_reducible refine bD (N:=9) rfl ?_);refine nO rfl 30 (.tmp 8) rfl G 0 rfl (dK s.x) _ hx Tryd.underlying30 rfl (by kernel_rfl) ?_)|(skip;refine wpList_store_row rfl 30 (.tmp 6) (.tmp 9) rfl (G+3) (dK s.x) rfl rfl 30 _ k3 (by kernel_rfl) rfl (iQ _) ?_))
  clear hx hwb Bi hsa
  have M0:=af.mk (K0.out.fK (h:=G+3) (dK s.x) (by omega))
  have M1:=af.mk (K1.out.fK (h:=G+3) (dK s.x) (by omega))
  have M2:=af.mk (K2.out.fK (h:=G+3) (dK s.x) (by omega))
  have M3:=af.mk (K3.out.setRow (dK s.x))
  have MB:=af.mk (dm (g:=G+3) HB.out (by omega) (dK s.x))
  have hWs:G+4≤(wb.setRow (G+3) (dK s.x)).heap.size:=by rw [size_setRow];omega
  clear K0 K1 K2 K3 HB k3 hsz
  change Code.wp _ _ _ _ (wb.setRow (G+3) (dK s.x))
  generalize wb.setRow (G+3) (dK s.x)=W at M0 M1 M2 M3 MB hWs ⊢
  have i0:W.cell? ⟨G+1,0,none⟩=some (.int .u8 15):=M1.out.cell 0
  have i1:W.cell? ⟨G+1,1,none⟩=some (.int .u8 a):=M1.out.cell 1
  have i2:W.cell? ⟨G+1,2,none⟩=some (.int .u8 bb):=M1.out.cell 2
  have i3:W.cell? ⟨G+1,3,none⟩=some (.int .u8 cc):=M1.out.cell 3
  have i4:W.cell? ⟨G+1,4,none⟩=some (.int .i64 n):=M1.out.cell 4
  have hai:(a:Int) < 8:=by omega
  have zu:(bb:Int) < 8:=by omega
  have Y8:(cc:Int) < 8:=by omega
  have ca:W.cell? ⟨G+3,a,none⟩=some (.int .i64 (s.x a)):=(M3.out.cell a).trans (mW (s.x) a ha)
  have f3:=M3.out.fr a
  go_upto_region 10 with (fail)
  clear ca f3 i0 i1 i2 i3 i4
  have T0:=af.mk (M0.out.far (h:=G+3) a (.int .i64 (0)) (by omega))
  have T1:=af.mk (M1.out.far (h:=G+3) a (.int .i64 (0)) (by omega))
  have T2:=af.mk (M2.out.far (h:=G+3) a (.int .i64 (0)) (by omega))
  have T3:=af.mk (show Bk (W.setCell ⟨G+3,a,none⟩ (.int .i64 (0))) (G+3) (dK (upd s.x a (0))) 30 from o6 s.x a ha (0) ▸ M3.out.set a (.int .i64 (0)))
  have TB:=af.mk (MB.out.setCell (p:=⟨G+3,a,none⟩) (by show G≤G+3;omega) (.int .i64 (0)))
  change Code.wp _ _ _ _ (W.setCell ⟨G+3,a,none⟩ (.int .i64 (0)))
  generalize W.setCell ⟨G+3,a,none⟩ (.int .i64 (0))=W2 at T0 T1 T2 T3 TB ⊢
  have i1:W2.cell? ⟨G+1,1,none⟩=some (.int .u8 a):=T1.out.cell 1
  have i2:W2.cell? ⟨G+1,2,none⟩=some (.int .u8 bb):=T1.out.cell 2
  have i3:W2.cell? ⟨G+1,3,none⟩=some (.int .u8 cc):=T1.out.cell 3
  have p2:=T0.out.qg bb hbb
  have p3:=T0.out.qg cc hcc
  have hq:(s.p bb == s.p cc)=true:=beq_iff_eq.2 hz
  clear hz
  go_quiet (fail)
  clear p2 p3
  have M0:=af.mk (show Bk (W2.drewN nq) _ _ _ from T0.out)
  have M1:=af.mk (show Bk (W2.drewN nq) _ _ _ from T1.out)
  have M2:=af.mk (show Bk (W2.drewN nq) _ _ _ from T2.out)
  have M3:=af.mk (show Bk (W2.drewN nq) _ _ _ from T3.out)
  have MB:=af.mk (show Below G w (W2.drewN nq) from ⟨TB.out.os,TB.out.tape,TB.out.output,TB.out.size,TB.out.block⟩)
  clear T0 T1 T2 T3 TB i1 i2 i3
  generalize W2.drewN nq=W1 at M0 M1 M2 M3 MB ⊢
  have i1:W1.cell? ⟨G+1,1,none⟩=some (.int .u8 a):=M1.out.cell 1
  have ca:W1.cell? ⟨G+3,a,none⟩=some (.int .i64 ((upd s.x a 0) a)):=(M3.out.cell a).trans (mW (upd s.x a 0) a ha)
  have f3:=M3.out.fr a
  go_upto_region 15 with (fail)
  clear ca f3 i1
  have T0:=af.mk (M0.out.far (h:=G+3) a (.int .i64 (1)) (by omega))
  have T1:=af.mk (M1.out.far (h:=G+3) a (.int .i64 (1)) (by omega))
  have T2:=af.mk (M2.out.far (h:=G+3) a (.int .i64 (1)) (by omega))
  have T3:=af.mk (show Bk (W1.setCell ⟨G+3,a,none⟩ (.int .i64 (1))) (G+3) (dK (upd (upd s.x a 0) a (1))) 30 from o6 (upd s.x a 0) a ha (1) ▸ M3.out.set a (.int .i64 (1)))
  have TB:=af.mk (MB.out.setCell (p:=⟨G+3,a,none⟩) (by show G≤G+3;omega) (.int .i64 (1)))
  change Code.wp _ _ _ _ (W1.setCell ⟨G+3,a,none⟩ (.int .i64 (1)))
  generalize W1.setCell ⟨G+3,a,none⟩ (.int .i64 (1))=W4 at T0 T1 T2 T3 TB ⊢
  replace T3:=af.mk (show Bk W4 (G+3) (dK (upd s.x a 1)) 30 from PX s.x a 0 1 ▸ T3.out)
  have hl3:=T3.out
  have hth:W4.there G 0 8:=T0.out.there 0 8 (show 0+8≤24 by omega)
  go_upto_region 16 with (first|((with_reducible refine bD (N:=67) rfl ?_);refine wpList_load_row rfl 30 (.tmp 6) rfl (G+3) rfl 30 (dK (upd s.x a 1)) (0,0) _ hl3 Tryd.underlying30 rfl (by kernel_rfl) ?_)|(skip;refine wpList_store_mid rfl 30 (.tmp 68) (.tmp 67) rfl G 0 (dK (upd s.x a 1)) rfl rfl hth (by kernel_rfl) (iQ _) ?_))
  have hs:=T0.out.wI (upd s.x a 1)
  have hr:=T2.out.iR (h:=G) 0 (dK (upd s.x a 1)).toList (by omega)
  have hb2:=Lib.hid (gB (dK (upd s.x a 1)).toList _ G 0 TB.out (Nat.le_refl _))
  clear hl3 hth T0 T1 T2 T3 TB
  change Code.wp _ _ _ _ (W4.setCells G 0 (dK (upd s.x a 1)).toList)
  generalize W4.setCells G 0 (dK (upd s.x a 1)).toList=W3 at hs hr hb2 ⊢
  have hone:=HV.out.rd.one { s with x:=upd s.x a 1 }
  go_wp2_with (first|((with_reducible refine bD (N:=69) rfl ?_);refine wpList_load_row rfl 36 (.tmp 2) rfl G rfl 36 (cellsS { s with x:=upd s.x a 1 } vO vU) (0,0) _ hs Tryd.underlying36 rfl (by kernel_rfl) ?_)|(skip;refine wpList_store_row rfl 36 (.tmp 4) (.tmp 69) rfl (G+1+1) (cellsS { s with x:=upd s.x a 1 } vO vU) rfl rfl 36 _ hr (by kernel_rfl) rfl hone ?_))
  (try simp only [Exit.inBlock,Exit.then])
  refine bodyPost_ret (dU rfl _ _ (G+1+1) 36 _ (0,0) _ rfl (hr.setRow (cellsS { s with x:=upd s.x a 1 } vO vU)) Tryd.underlying36 rfl (by kernel_rfl)) rfl ?_
  have hb3:=dm (g:=G+2) hb2.out (by omega) (cellsS { s with x:=upd s.x a 1 } vO vU)
  exact ⟨_,_,rfl,(HV.out.below (by rw [hG];exact hb3)).as rfl rfl,by rw [hG];exact hb3⟩
set_option maxRecDepth 100000 in
set_option maxHeartbeats 3200000 in
theorem Aa (s:St) (vO vU:Value) (a bb cc:Nat) (n:Int) (ha:a < 8) (hbb:bb < 8) (hcc:cc < 8) (hz:s.p bb ≠ s.p cc) (w:World) (hv:nK s vO vU w) :
    Calls Tryd.prog 19 #[.agg (cellsS s vO vU),.agg #[.int .u8 15,.int .u8 a,.int .u8 bb,.int .u8 cc,.int .i64 n]] w fun e w'=>∃ o5 oZ,e=.returned (.tuple #[.agg (cellsS { s with x:=upd s.x a 0 } o5 oZ),.bool true])∧nK { s with x:=upd s.x a 0 } o5 oZ w'∧Below w.heap.size w w':=by
  obtain ⟨G,hG⟩:∃ G,w.heap.size=G:=⟨_,rfl⟩
  obtain ⟨wa,Bi⟩:∃ wa,((w.alloc (.cells (cellsS s vO vU) 36)).alloc (.cells #[.int .u8 15,.int .u8 a,.int .u8 bb,.int .u8 cc,.int .i64 n] 45)).alloc (.cells #[.int .i64 0,.int .i64 0,.int .i64 0,.int .i64 0,.int .i64 0,.int .i64 0,.int .i64 0,.int .i64 0,.int .i64 0,.int .i64 0,.int .i64 0,.int .i64 0,.int .i64 0,.int .i64 0,.int .i64 0,.int .i64 0,.int .i64 0,.int .i64 0,.int .i64 0,.int .i64 0,.slice none 0 0,.slice none 0 0,.int .i64 0,.int .i64 0] 36)=wa:=⟨_,rfl⟩
  obtain ⟨wb,hwb⟩:∃ wb,wa.alloc (.cells #[.int .i64 0,.int .i64 0,.int .i64 0,.int .i64 0,.int .i64 0,.int .i64 0,.int .i64 0,.int .i64 0] 30)=wb:=⟨_,rfl⟩
  obtain ⟨k,k0,k1,k2,k3,hB,hsa,hsz⟩:=Bc (cellsS s vO vU) #[.int .u8 15,.int .u8 a,.int .u8 bb,.int .u8 cc,.int .i64 n] #[.int .i64 0,.int .i64 0,.int .i64 0,.int .i64 0,.int .i64 0,.int .i64 0,.int .i64 0,.int .i64 0,.int .i64 0,.int .i64 0,.int .i64 0,.int .i64 0,.int .i64 0,.int .i64 0,.int .i64 0,.int .i64 0,.int .i64 0,.int .i64 0,.int .i64 0,.int .i64 0,.slice none 0 0,.slice none 0 0,.int .i64 0,.int .i64 0] #[.int .i64 0,.int .i64 0,.int .i64 0,.int .i64 0,.int .i64 0,.int .i64 0,.int .i64 0,.int .i64 0] w
  rw [Bi] at k k0 k1 k2 k3 hB hsa hsz
  rw [hwb] at k0 k1 k2 k3 hB hsz
  have HV:=af.mk hv
  rw [hG] at k k0 k1 k2 k3 hB hsa hsz
  have K0:=af.mk k0
  have K1:=af.mk k1
  have K2:=af.mk k2
  have K3:=af.mk k3
  have HB:=af.mk hB
  have hx:=k.xs
  clear k k0 k1 k2 hB hv
  go_enter Tryd.func19,Tryd.ntmps19
  go_upto_region 2 with (first|((with_reducible refine bD (N:=9) rfl ?_);refine nO rfl 30 (.tmp 8) rfl G 0 rfl (dK s.x) _ hx Tryd.underlying30 rfl (by kernel_rfl) ?_)|(skip;refine wpList_store_row rfl 30 (.tmp 6) (.tmp 9) rfl (G+3) (dK s.x) rfl rfl 30 _ k3 (by kernel_rfl) rfl (iQ _) ?_))
  clear hx hwb Bi hsa
  have M0:=af.mk (K0.out.fK (h:=G+3) (dK s.x) (by omega))
  have M1:=af.mk (K1.out.fK (h:=G+3) (dK s.x) (by omega))
  have M2:=af.mk (K2.out.fK (h:=G+3) (dK s.x) (by omega))
  have M3:=af.mk (K3.out.setRow (dK s.x))
  have MB:=af.mk (dm (g:=G+3) HB.out (by omega) (dK s.x))
  have hWs:G+4≤(wb.setRow (G+3) (dK s.x)).heap.size:=by rw [size_setRow];omega
  clear K0 K1 K2 K3 HB k3 hsz
  change Code.wp _ _ _ _ (wb.setRow (G+3) (dK s.x))
  generalize wb.setRow (G+3) (dK s.x)=W at M0 M1 M2 M3 MB hWs ⊢
  have i0:W.cell? ⟨G+1,0,none⟩=some (.int .u8 15):=M1.out.cell 0
  have i1:W.cell? ⟨G+1,1,none⟩=some (.int .u8 a):=M1.out.cell 1
  have i2:W.cell? ⟨G+1,2,none⟩=some (.int .u8 bb):=M1.out.cell 2
  have i3:W.cell? ⟨G+1,3,none⟩=some (.int .u8 cc):=M1.out.cell 3
  have i4:W.cell? ⟨G+1,4,none⟩=some (.int .i64 n):=M1.out.cell 4
  have hai:(a:Int) < 8:=by omega
  have zu:(bb:Int) < 8:=by omega
  have Y8:(cc:Int) < 8:=by omega
  have ca:W.cell? ⟨G+3,a,none⟩=some (.int .i64 (s.x a)):=(M3.out.cell a).trans (mW (s.x) a ha)
  have f3:=M3.out.fr a
  go_upto_region 10 with (fail)
  clear ca f3 i0 i1 i2 i3 i4
  have T0:=af.mk (M0.out.far (h:=G+3) a (.int .i64 (0)) (by omega))
  have T1:=af.mk (M1.out.far (h:=G+3) a (.int .i64 (0)) (by omega))
  have T2:=af.mk (M2.out.far (h:=G+3) a (.int .i64 (0)) (by omega))
  have T3:=af.mk (show Bk (W.setCell ⟨G+3,a,none⟩ (.int .i64 (0))) (G+3) (dK (upd s.x a (0))) 30 from o6 s.x a ha (0) ▸ M3.out.set a (.int .i64 (0)))
  have TB:=af.mk (MB.out.setCell (p:=⟨G+3,a,none⟩) (by show G≤G+3;omega) (.int .i64 (0)))
  change Code.wp _ _ _ _ (W.setCell ⟨G+3,a,none⟩ (.int .i64 (0)))
  generalize W.setCell ⟨G+3,a,none⟩ (.int .i64 (0))=W2 at T0 T1 T2 T3 TB ⊢
  have i1:W2.cell? ⟨G+1,1,none⟩=some (.int .u8 a):=T1.out.cell 1
  have i2:W2.cell? ⟨G+1,2,none⟩=some (.int .u8 bb):=T1.out.cell 2
  have i3:W2.cell? ⟨G+1,3,none⟩=some (.int .u8 cc):=T1.out.cell 3
  have p2:=T0.out.qg bb hbb
  have p3:=T0.out.qg cc hcc
  have hq:(s.p bb == s.p cc)=false:=beq_eq_false_iff_ne.2 hz
  clear hz
  go_quiet (fail)
  clear p2 p3
  have M0:=af.mk (show Bk (W2.drewN nq) _ _ _ from T0.out)
  have M1:=af.mk (show Bk (W2.drewN nq) _ _ _ from T1.out)
  have M2:=af.mk (show Bk (W2.drewN nq) _ _ _ from T2.out)
  have M3:=af.mk (show Bk (W2.drewN nq) _ _ _ from T3.out)
  have MB:=af.mk (show Below G w (W2.drewN nq) from ⟨TB.out.os,TB.out.tape,TB.out.output,TB.out.size,TB.out.block⟩)
  clear T0 T1 T2 T3 TB i1 i2 i3
  generalize W2.drewN nq=W1 at M0 M1 M2 M3 MB ⊢
  go_upto_region 15 with (fail)
  have T0:=M0
  have T1:=M1
  have T2:=M2
  have T3:=M3
  have TB:=MB
  clear M0 M1 M2 M3 MB
  have hl3:=T3.out
  have hth:W1.there G 0 8:=T0.out.there 0 8 (show 0+8≤24 by omega)
  go_upto_region 16 with (first|((with_reducible refine bD (N:=67) rfl ?_);refine wpList_load_row rfl 30 (.tmp 6) rfl (G+3) rfl 30 (dK (upd s.x a 0)) (0,0) _ hl3 Tryd.underlying30 rfl (by kernel_rfl) ?_)|(skip;refine wpList_store_mid rfl 30 (.tmp 68) (.tmp 67) rfl G 0 (dK (upd s.x a 0)) rfl rfl hth (by kernel_rfl) (iQ _) ?_))
  have hs:=T0.out.wI (upd s.x a 0)
  have hr:=T2.out.iR (h:=G) 0 (dK (upd s.x a 0)).toList (by omega)
  have hb2:=Lib.hid (gB (dK (upd s.x a 0)).toList _ G 0 TB.out (Nat.le_refl _))
  clear hl3 hth T0 T1 T2 T3 TB
  change Code.wp _ _ _ _ (W1.setCells G 0 (dK (upd s.x a 0)).toList)
  generalize W1.setCells G 0 (dK (upd s.x a 0)).toList=W3 at hs hr hb2 ⊢
  have hone:=HV.out.rd.one { s with x:=upd s.x a 0 }
  go_wp2_with (first|((with_reducible refine bD (N:=69) rfl ?_);refine wpList_load_row rfl 36 (.tmp 2) rfl G rfl 36 (cellsS { s with x:=upd s.x a 0 } vO vU) (0,0) _ hs Tryd.underlying36 rfl (by kernel_rfl) ?_)|(skip;refine wpList_store_row rfl 36 (.tmp 4) (.tmp 69) rfl (G+1+1) (cellsS { s with x:=upd s.x a 0 } vO vU) rfl rfl 36 _ hr (by kernel_rfl) rfl hone ?_))
  (try simp only [Exit.inBlock,Exit.then])
  refine bodyPost_ret (dU rfl _ _ (G+1+1) 36 _ (0,0) _ rfl (hr.setRow (cellsS { s with x:=upd s.x a 0 } vO vU)) Tryd.underlying36 rfl (by kernel_rfl)) rfl ?_
  have hb3:=dm (g:=G+2) hb2.out (by omega) (cellsS { s with x:=upd s.x a 0 } vO vU)
  exact ⟨_,_,rfl,(HV.out.below (by rw [hG];exact hb3)).as rfl rfl,by rw [hG];exact hb3⟩
set_option maxRecDepth 100000 in
set_option maxHeartbeats 3200000 in
theorem Gv (s:St) (vO vU:Value) (a bb cc:Nat) (n:Int) (ha:a < 8) (hl:s.out.length≤1000000) (w:World) (hv:nK s vO vU w) :
    Calls Tryd.prog 19 #[.agg (cellsS s vO vU),.agg #[.int .u8 14,.int .u8 a,.int .u8 bb,.int .u8 cc,.int .i64 n]] w fun e w'=>∃ o5 oZ,e=.returned (.tuple #[.agg (cellsS { s with out:=s.out++[s.x a] } o5 oZ),.bool true])∧nK { s with out:=s.out++[s.x a] } o5 oZ w'∧Below w.heap.size w w':=by
  obtain ⟨AU,cU,rfl,TM,hU0⟩:=hv.out
  have hU:=hU0 w (fun _ _=>rfl)
  obtain ⟨AO,cO,hsO,rfl,MF,hlO,hHO,hEO⟩:=hv.aK
  obtain ⟨m,hm⟩:∃ m,m=(s.out++[s.x a]).length:=⟨_,rfl⟩
  have HM:=Lib.hid hm
  clear hm
  obtain ⟨G,hG⟩:∃ G,w.heap.size=G:=⟨_,rfl⟩
  obtain ⟨wa,Bi⟩:∃ wa,((w.alloc (.cells (cellsS s (.slice AO s.aK.length cO) (.slice AU s.out.length cU)) 36)).alloc (.cells #[.int .u8 14,.int .u8 a,.int .u8 bb,.int .u8 cc,.int .i64 n] 45)).alloc (.cells #[.int .i64 0,.int .i64 0,.int .i64 0,.int .i64 0,.int .i64 0,.int .i64 0,.int .i64 0,.int .i64 0,.int .i64 0,.int .i64 0,.int .i64 0,.int .i64 0,.int .i64 0,.int .i64 0,.int .i64 0,.int .i64 0,.int .i64 0,.int .i64 0,.int .i64 0,.int .i64 0,.slice none 0 0,.slice none 0 0,.int .i64 0,.int .i64 0] 36)=wa:=⟨_,rfl⟩
  obtain ⟨wb,hwb⟩:∃ wb,wa.alloc (.cells #[.int .i64 0,.int .i64 0,.int .i64 0,.int .i64 0,.int .i64 0,.int .i64 0,.int .i64 0,.int .i64 0] 30)=wb:=⟨_,rfl⟩
  obtain ⟨k,k0,k1,k2,k3,hB,hsa,hsz⟩:=Bc (cellsS s (.slice AO s.aK.length cO) (.slice AU s.out.length cU)) #[.int .u8 14,.int .u8 a,.int .u8 bb,.int .u8 cc,.int .i64 n] #[.int .i64 0,.int .i64 0,.int .i64 0,.int .i64 0,.int .i64 0,.int .i64 0,.int .i64 0,.int .i64 0,.int .i64 0,.int .i64 0,.int .i64 0,.int .i64 0,.int .i64 0,.int .i64 0,.int .i64 0,.int .i64 0,.int .i64 0,.int .i64 0,.int .i64 0,.int .i64 0,.slice none 0 0,.slice none 0 0,.int .i64 0,.int .i64 0] #[.int .i64 0,.int .i64 0,.int .i64 0,.int .i64 0,.int .i64 0,.int .i64 0,.int .i64 0,.int .i64 0] w
  rw [Bi] at k k0 k1 k2 k3 hB hsa hsz
  rw [hwb] at k0 k1 k2 k3 hB hsz
  have HV:=af.mk hv
  rw [hG] at k k0 k1 k2 k3 hB hsa hsz
  have K0:=af.mk k0
  have K1:=af.mk k1
  have K2:=af.mk k2
  have K3:=af.mk k3
  have HB:=af.mk hB
  have hx:=k.xs
  clear k k0 k1 k2 hB hv
  go_enter Tryd.func19,Tryd.ntmps19
  go_upto_region 2 with (first|((with_reducible refine bD (N:=9) rfl ?_);refine nO rfl 30 (.tmp 8) rfl G 0 rfl (dK s.x) _ hx Tryd.underlying30 rfl (by kernel_rfl) ?_)|(skip;refine wpList_store_row rfl 30 (.tmp 6) (.tmp 9) rfl (G+3) (dK s.x) rfl rfl 30 _ k3 (by kernel_rfl) rfl (iQ _) ?_))
  clear hx hwb Bi hsa
  have M0:=af.mk (K0.out.fK (h:=G+3) (dK s.x) (by omega))
  have M1:=af.mk (K1.out.fK (h:=G+3) (dK s.x) (by omega))
  have M2:=af.mk (K2.out.fK (h:=G+3) (dK s.x) (by omega))
  have M3:=af.mk (K3.out.setRow (dK s.x))
  have MB:=af.mk (dm (g:=G+3) HB.out (by omega) (dK s.x))
  have hWs:G+4≤(wb.setRow (G+3) (dK s.x)).heap.size:=by rw [size_setRow];omega
  clear K0 K1 K2 K3 HB k3 hsz
  change Code.wp _ _ _ _ (wb.setRow (G+3) (dK s.x))
  generalize wb.setRow (G+3) (dK s.x)=W at M0 M1 M2 M3 MB hWs ⊢
  have i0:W.cell? ⟨G+1,0,none⟩=some (.int .u8 14):=M1.out.cell 0
  have i1:W.cell? ⟨G+1,1,none⟩=some (.int .u8 a):=M1.out.cell 1
  have i2:W.cell? ⟨G+1,2,none⟩=some (.int .u8 bb):=M1.out.cell 2
  have i3:W.cell? ⟨G+1,3,none⟩=some (.int .u8 cc):=M1.out.cell 3
  have i4:W.cell? ⟨G+1,4,none⟩=some (.int .i64 n):=M1.out.cell 4
  have hai:(a:Int) < 8:=by omega
  have ca:W.cell? ⟨G+3,a,none⟩=some (.int .i64 (s.x a)):=(M3.out.cell a).trans (mW (s.x) a ha)
  have c21:(W.alloc (.cells #[] 2)).cell? ⟨G,21,none⟩=some (.slice AU s.out.length cU):=(M0.out.alloc _).cell 21
  have HO:=af.mk (yH (Kd.int .i64) 2 W G (fun _=>True) (by omega) trivial)
  have HBe:=af.mk (MB.out.alloc (show G≤W.heap.size by omega) (.cells #[] 2))
  have HC:=af.mk (Kd.dG (Kd.bQ hU (by rw [hG];exact MB.out)) (.cells #[] 2))
  clear hU hU0 hHO hEO
  go_upto_region 14 with ((with_reducible refine lu (b:=.append) (xs:=#[.tmp 55,.tmp 57]) rfl ?_);at_builtin;refine Kd.oW (Kd.int .i64) (w0:=w) G rfl (.tmp 55) (.tmp 57) 34 2 (.int .i64 0) 8 rfl Tryd.underlying34 Je rfl (by decide) (by omega) _ [] s.out _ _ _ (fun _=>True) (fun _=>False) rfl rfl HO.out HC.out (fun _ _ h=>h) (fun _ h=>h.elim) (fun _ _=>trivial) HBe.out (by simp;omega) (by simp;omega) ?_;intro v1 w1 hR1 hB1 hg1 vN;have HR1:=Lib.hid hR1;have HB1:=Lib.hid hB1;have HG1:=Lib.hid hg1;have HT1:=Lib.hid vN;clear hR1 hB1 hg1 vN)
  have hown:∀ k,k < W.heap.size→some k ≠ v1.ownBlock:=fun k hk he=>by
    rcases HT1.out with q|⟨q,q1,q2⟩
    · rw [q] at he
      have h1:k=W.heap.size:=Option.some.inj he
      omega
    · rw [q1] at he
      simp at he q2
      omega
  have kp:∀ k,k < W.heap.size→w1.heap[k]? = W.heap[k]?:=fun k hk=>(HG1.out.block k (by simp;omega) (fun he=>by have h1:k=W.heap.size:=Option.some.inj he;omega)).trans (Below.heap_alloc _ _ _ hk)
  have hsz1:W.heap.size≤w1.heap.size:=by
    have:=HG1.out.size
    simp at this
    omega
  replace M0:=af.mk (M0.out.of (kp _ M0.out.lt))
  replace M1:=af.mk (M1.out.of (kp _ M1.out.lt))
  replace M2:=af.mk (M2.out.of (kp _ M2.out.lt))
  replace M3:=af.mk (M3.out.of (kp _ M3.out.lt))
  have HOWN:=Lib.hid hown
  have amk:G+4≤w1.heap.size:=by omega
  have Zc:(Kd.int .i64).R 2 w1 G (fun _=>True) v1 s.out:=by have q:=HR1.out;simpa using q
  have O1:=Lib.hid Zc
  clear Zc HR1 hown kp HO HBe HC c21 ca i0 i1 i2 i3 i4
  have i1:w1.cell? ⟨G+1,1,none⟩=some (.int .u8 a):=M1.out.cell 1
  have ca:w1.cell? ⟨G+3,a,none⟩=some (.int .i64 (s.x a)):=(M3.out.cell a).trans (mW (s.x) a ha)
  have hlim:(s.out.length+1) * 8≤140737488355328:=by omega
  go_upto_region 15 with ((with_reducible refine lu (b:=.append) (xs:=#[.tmp 59,.tmp 64]) rfl ?_);at_builtin;refine Kd.zN (Kd.int .i64) (w0:=w) G rfl (.tmp 59) (.tmp 64) 34 2 (.int .i64 0) 8 rfl Tryd.underlying34 Je rfl (by decide) (by omega) v1 s.out (s.x a) [.int .i64 (s.x a)] (fun _=>True) (fun _=>False) rfl rfl rfl (fun _ h=>h.elim) (fun _ _=>trivial) O1.out HB1.out (by omega) hlim ?_;intro v2 w2 hR2 hB2 hg2 LP;obtain ⟨A2,c2,e2⟩:=Kd.oV hR2;rw [← HM.out] at e2;subst e2;have HR2:=Lib.hid hR2;have HB2:=Lib.hid hB2;have HG2:=Lib.hid hg2;have d21:w2.cell? ⟨G,21,none⟩=some (.slice AU s.out.length cU):=(M0.out.of (hg2.block G M0.out.lt (HOWN.out G (by omega)))).cell 21;have f21:w2.frozen? ⟨G,21,none⟩=false:=(M0.out.of (hg2.block G M0.out.lt (HOWN.out G (by omega)))).fr 21;clear hR2 hB2 hg2 LP)
  have kp:∀ k,k < W.heap.size→w2.heap[k]? = w1.heap[k]?:=fun k hk=>HG2.out.block k (by omega) (HOWN.out k hk)
  have T0:=af.mk (show Bk _ G (cellsS { s with out:=s.out++[s.x a] } (.slice AO s.aK.length cO) (.slice A2 m c2)) 36 from (M0.out.of (kp G (by omega))).set 21 (.slice A2 m c2))
  have T1:=af.mk ((M1.out.of (kp (G+1) (by omega))).far (h:=G) 21 (.slice A2 m c2) (by omega))
  have T2:=af.mk ((M2.out.of (kp (G+2) (by omega))).far (h:=G) 21 (.slice A2 m c2) (by omega))
  have T3:=af.mk ((M3.out.of (kp (G+3) (by omega))).far (h:=G) 21 (.slice A2 m c2) (by omega))
  have TB:=af.mk (HB2.out.setCell (p:=⟨G,21,none⟩) (Nat.le_refl G) (.slice A2 m c2))
  have TR:=af.mk (Kd.kY (w1:=w2.setCell ⟨G,21,none⟩ (.slice A2 m c2)) (Kd.mg (Kd.oU (Kd.oU HR2.out (M0.out.of (kp G (by omega))) (by intro q hq;simp [Kd.int,Kd.scalar] at hq;omega)) (M2.out.of (kp (G+2) (by omega))) (by intro q hq;simp [Kd.int,Kd.scalar] at hq;omega)) (ok':=fun k=>k ≠ G∧k ≠ G+2) (fun k hk=>⟨hk.1.2,hk.2⟩)) (fun k hk _=>Below.heap_setCell w2 ⟨G,21,none⟩ _ k hk.1))
  clear M0 M1 M2 M3 kp d21 f21 i1 ca HR2 O1
  change Code.wp _ _ _ _ (w2.setCell ⟨G,21,none⟩ (.slice A2 m c2))
  generalize w2.setCell ⟨G,21,none⟩ (.slice A2 m c2)=W2 at T0 T1 T2 T3 TB TR ⊢
  have hl3:=T3.out
  have hth:W2.there G 0 8:=T0.out.there 0 8 (show 0+8≤24 by omega)
  go_upto_region 16 with (first|((with_reducible refine bD (N:=67) rfl ?_);refine wpList_load_row rfl 30 (.tmp 6) rfl (G+3) rfl 30 (dK (s.x)) (0,0) _ hl3 Tryd.underlying30 rfl (by kernel_rfl) ?_)|(skip;refine wpList_store_mid rfl 30 (.tmp 68) (.tmp 67) rfl G 0 (dK (s.x)) rfl rfl hth (by kernel_rfl) (iQ _) ?_))
  have hs:=T0.out.wI (s.x)
  have hr:=T2.out.iR (h:=G) 0 (dK (s.x)).toList (by omega)
  have hb2:=Lib.hid (gB (dK (s.x)).toList _ G 0 TB.out (Nat.le_refl _))
  have XU:=Kd.kY (w1:=W2.setCells G 0 (dK (s.x)).toList) TR.out (fun k hk _=>mr _ W2 0 hk.1)
  clear hl3 hth TR T0 T1 T2 T3 TB
  change Code.wp _ _ _ _ (W2.setCells G 0 (dK (s.x)).toList)
  generalize W2.setCells G 0 (dK (s.x)).toList=W3 at hs hr hb2 XU ⊢
  have HR3:=Lib.hid XU
  clear XU
  have hone:(cellsS { s with out:=s.out++[s.x a] } (.slice AO s.aK.length cO) (.slice A2 m c2)).all (·.oneCell')=true:=by simp [cellsS,Value.oneCell']
  go_wp2_with (first|((with_reducible refine bD (N:=69) rfl ?_);refine wpList_load_row rfl 36 (.tmp 2) rfl G rfl 36 (cellsS { s with out:=s.out++[s.x a] } (.slice AO s.aK.length cO) (.slice A2 m c2)) (0,0) _ hs Tryd.underlying36 rfl (by kernel_rfl) ?_)|(skip;refine wpList_store_row rfl 36 (.tmp 4) (.tmp 69) rfl (G+1+1) (cellsS { s with out:=s.out++[s.x a] } (.slice AO s.aK.length cO) (.slice A2 m c2)) rfl rfl 36 _ hr (by kernel_rfl) rfl hone ?_))
  (try simp only [Exit.inBlock,Exit.then])
  refine bodyPost_ret (dU rfl _ _ (G+1+1) 36 _ (0,0) _ rfl (hr.setRow (cellsS { s with out:=s.out++[s.x a] } (.slice AO s.aK.length cO) (.slice A2 m c2))) Tryd.underlying36 rfl (by kernel_rfl)) rfl ?_
  have hb3:=dm (g:=G+2) hb2.out (by omega) (cellsS { s with out:=s.out++[s.x a] } (.slice AO s.aK.length cO) (.slice A2 m c2))
  have EJ:Below w.heap.size w (W3.setRow (G+1+1) (cellsS { s with out:=s.out++[s.x a] } (.slice AO s.aK.length cO) (.slice A2 m c2))):=by rw [hG];exact hb3
  refine ⟨_,_,rfl,⟨(HV.out.below EJ).aK,A2,c2,by show Value.slice A2 m c2=.slice A2 (s.out++[s.x a]).length c2;rw [← HM.out],?_,fun wF hF=>?_⟩,by first|exact hb3|(rw [hG];exact hb3)⟩
  · show (s.out++[s.x a]).length≤c2
    rw [← HM.out]
    exact (Kd.gp HR3.out).2.1
  · have hR4:=Kd.mg (Kd.kY (w1:=W3.setRow (G+1+1) (cellsS { s with out:=s.out++[s.x a] } (.slice AO s.aK.length cO) (.slice A2 m c2))) HR3.out (fun k hk _=>jw _ k hk.2)) (ok':=fun _=>True) (fun _ _=>trivial)
    exact (Kd.gp (tY (wF:=wF) hR4 rfl (by decide) (fun k _ hn=>hF k hn))).2.2
set_option maxRecDepth 100000 in
set_option maxHeartbeats 3200000 in
theorem BX (s:St) (vO vU:Value) (op a bb cc:Nat) (n:Int) (h1:op ≠ 1) (h2:op ≠ 2) (h15:op ≠ 15) (Yj:op ≠ 14) (w:World) (hv:nK s vO vU w) :
    Calls Tryd.prog 19 #[.agg (cellsS s vO vU),.agg #[.int .u8 op,.int .u8 a,.int .u8 bb,.int .u8 cc,.int .i64 n]] w fun e w'=>∃ o5 oZ,e=.returned (.tuple #[.agg (cellsS s o5 oZ),.bool false])∧nK s o5 oZ w'∧Below w.heap.size w w':=by
  obtain ⟨G,hG⟩:∃ G,w.heap.size=G:=⟨_,rfl⟩
  obtain ⟨wa,Bi⟩:∃ wa,((w.alloc (.cells (cellsS s vO vU) 36)).alloc (.cells #[.int .u8 op,.int .u8 a,.int .u8 bb,.int .u8 cc,.int .i64 n] 45)).alloc (.cells #[.int .i64 0,.int .i64 0,.int .i64 0,.int .i64 0,.int .i64 0,.int .i64 0,.int .i64 0,.int .i64 0,.int .i64 0,.int .i64 0,.int .i64 0,.int .i64 0,.int .i64 0,.int .i64 0,.int .i64 0,.int .i64 0,.int .i64 0,.int .i64 0,.int .i64 0,.int .i64 0,.slice none 0 0,.slice none 0 0,.int .i64 0,.int .i64 0] 36)=wa:=⟨_,rfl⟩
  obtain ⟨wb,hwb⟩:∃ wb,wa.alloc (.cells #[.int .i64 0,.int .i64 0,.int .i64 0,.int .i64 0,.int .i64 0,.int .i64 0,.int .i64 0,.int .i64 0] 30)=wb:=⟨_,rfl⟩
  obtain ⟨k,k0,k1,k2,k3,hB,hsa,hsz⟩:=Bc (cellsS s vO vU) #[.int .u8 op,.int .u8 a,.int .u8 bb,.int .u8 cc,.int .i64 n] #[.int .i64 0,.int .i64 0,.int .i64 0,.int .i64 0,.int .i64 0,.int .i64 0,.int .i64 0,.int .i64 0,.int .i64 0,.int .i64 0,.int .i64 0,.int .i64 0,.int .i64 0,.int .i64 0,.int .i64 0,.int .i64 0,.int .i64 0,.int .i64 0,.int .i64 0,.int .i64 0,.slice none 0 0,.slice none 0 0,.int .i64 0,.int .i64 0] #[.int .i64 0,.int .i64 0,.int .i64 0,.int .i64 0,.int .i64 0,.int .i64 0,.int .i64 0,.int .i64 0] w
  rw [Bi] at k k0 k1 k2 k3 hB hsa hsz
  rw [hwb] at k0 k1 k2 k3 hB hsz
  have HV:=af.mk hv
  rw [hG] at k k0 k1 k2 k3 hB hsa hsz
  have K0:=af.mk k0
  have K1:=af.mk k1
  have K2:=af.mk k2
  have K3:=af.mk k3
  have HB:=af.mk hB
  have hx:=k.xs
  clear k k0 k1 k2 hB hv
  go_enter Tryd.func19,Tryd.ntmps19
  go_upto_region 2 with (first|((with_reducible refine bD (N:=9) rfl ?_);refine nO rfl 30 (.tmp 8) rfl G 0 rfl (dK s.x) _ hx Tryd.underlying30 rfl (by kernel_rfl) ?_)|(skip;refine wpList_store_row rfl 30 (.tmp 6) (.tmp 9) rfl (G+3) (dK s.x) rfl rfl 30 _ k3 (by kernel_rfl) rfl (iQ _) ?_))
  clear hx hwb Bi hsa
  have M0:=af.mk (K0.out.fK (h:=G+3) (dK s.x) (by omega))
  have M1:=af.mk (K1.out.fK (h:=G+3) (dK s.x) (by omega))
  have M2:=af.mk (K2.out.fK (h:=G+3) (dK s.x) (by omega))
  have M3:=af.mk (K3.out.setRow (dK s.x))
  have MB:=af.mk (dm (g:=G+3) HB.out (by omega) (dK s.x))
  have hWs:G+4≤(wb.setRow (G+3) (dK s.x)).heap.size:=by rw [size_setRow];omega
  clear K0 K1 K2 K3 HB k3 hsz
  change Code.wp _ _ _ _ (wb.setRow (G+3) (dK s.x))
  generalize wb.setRow (G+3) (dK s.x)=W at M0 M1 M2 M3 MB hWs ⊢
  have i0:W.cell? ⟨G+1,0,none⟩=some (.int .u8 op):=M1.out.cell 0
  have i1:W.cell? ⟨G+1,1,none⟩=some (.int .u8 a):=M1.out.cell 1
  have i2:W.cell? ⟨G+1,2,none⟩=some (.int .u8 bb):=M1.out.cell 2
  have i3:W.cell? ⟨G+1,3,none⟩=some (.int .u8 cc):=M1.out.cell 3
  have i4:W.cell? ⟨G+1,4,none⟩=some (.int .i64 n):=M1.out.cell 4
  have d1:((op:Int) == 1)=false:=beq_eq_false_iff_ne.2 (by omega)
  have d2:((op:Int) == 2)=false:=beq_eq_false_iff_ne.2 (by omega)
  have d3:((op:Int) == 15)=false:=beq_eq_false_iff_ne.2 (by omega)
  have d4:((op:Int) == 14)=false:=beq_eq_false_iff_ne.2 (by omega)
  clear h1 h2 h15 Yj
  go_upto_region 3 with (fail)
  clear i0 i1 i2 i3 i4
  have hs:=M0.out
  have hr:=M2.out
  have hone:=HV.out.rd.one s
  go_wp2_with (first|((with_reducible refine bD (N:=12) rfl ?_);refine wpList_load_row rfl 36 (.tmp 2) rfl G rfl 36 (cellsS s vO vU) (0,0) _ hs Tryd.underlying36 rfl (by kernel_rfl) ?_)|(skip;refine wpList_store_row rfl 36 (.tmp 4) (.tmp 12) rfl (G+1+1) (cellsS s vO vU) rfl rfl 36 _ hr (by kernel_rfl) rfl hone ?_))
  (try simp only [Exit.inBlock,Exit.then])
  refine bodyPost_ret (dU rfl _ _ (G+1+1) 36 _ (0,0) _ rfl (hr.setRow (cellsS s vO vU)) Tryd.underlying36 rfl (by kernel_rfl)) rfl ?_
  have hb3:=dm (g:=G+2) MB.out (by omega) (cellsS s vO vU)
  exact ⟨_,_,rfl,(HV.out.below (by rw [hG];exact hb3)).as rfl rfl,by rw [hG];exact hb3⟩
end Go.Proofs.YtgfnpdfhdgenbaaDoor.P
end
end
