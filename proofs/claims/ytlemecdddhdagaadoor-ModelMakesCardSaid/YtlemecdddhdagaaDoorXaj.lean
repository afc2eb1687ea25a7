/- Parts of the proof of ModelMakes: what the functions that it reaches compute, and plain facts about that. -/
import Derived.Test.YtlemecdddhdagaaDoorXad
import Derived.Test.YtlemecdddhdagaaDoorXai
import Derived.Deep.LoopGhost
import Derived.Test.YtlemecdddhdagaaDoorXah
set_option linter.unusedVariables false
set_option linter.unusedSimpArgs false
section
namespace Go.Proofs.YtlemecdddhdagaaDoor.P
open Go.RowKit Go.Proofs.ag.bH Go.Proofs.ag.dM Go.Proofs.ag.dY
attribute [local go_sem ↓] Go.wp_at_zero Go.wp_at_succ
theorem X7:(Tryd.prog.info? 28).map (fun i=>(i.zero,i.size,i.bytes))=some (some (.slice none 0 0),1,24):=by kernel_rfl
theorem Mid.below {b:Nat} {s:St} {vO vU:Value} {P I:Array Value} {w W W':World} (h:Mid b s vO vU P I w W) (hb:Below W.heap.size W W'):Mid b s vO vU P I w W':=by
  have hs:=h.size
  refine ⟨h.st.of_block (hb.block b h.st.lt),h.ow.trans (Ow.of_below hb),Nat.le_trans h.size hb.size,h.lt,fun i u hu=>?_,fun i u hu=>?_⟩
  · exact (World.cell?_of_block (a:=⟨w.heap.size,i,none⟩) (hb.block w.heap.size (by omega))).trans (h.prog i u hu)
  · exact (World.cell?_of_block (a:=⟨w.heap.size+1,i,none⟩) (hb.block (w.heap.size+1) (by omega))).trans (h.ins i u hu)
set_option maxRecDepth 100000 in
set_option maxHeartbeats 3200000 in
theorem aks (k b:Nat) (s:St) (vO vU:Value) (a bb cc:Nat) (n:Int) (A0:Option Addr) (c0:Nat) (l0:List ByteArray) (a1 a2:ByteArray) (A3:Option Addr) (c3:Nat) (l3:List gY) (t z:Int)
    (ha:a < 8) (hlim:(s.cZ.length+1) * 24≤140737488355328) (hl:gq.f k l0 a1 a2 l3 a=some t) (hz:jv.f k l0 t=some z) (hz0:0≤z) (hzl:z.toNat * 8≤281474976710656)
    (W0 w:World) (hb:W0.heap.size≤b) (hB:Below W0.heap.size W0 w) (hr0:Kd.C Kd.string W0 A0 l0.length l0) (hc0:l0.length≤c0) (hr3:Kd.C tu W0 A3 l3.length l3) (hc3:l3.length≤c3) (h:kD b s vO vU w) (hR:Rows W0.heap.size b s vO vU w) :
    Calls Tryd.prog 22 #[.pointer (some ⟨b,0,none⟩),.agg #[.slice A0 l0.length c0,.string a1,.string a2,.slice A3 l3.length c3],.agg #[.int .u8 5,.int .u8 a,.int .u8 bb,.int .u8 cc,.int .i64 n]] w fun e w'=>e=.returned (.int .i64 0)∧uu W0.heap.size b { bump s with cZ:=s.cZ++[List.replicate z.toNat 0],p:=upd s.p a ((s.cZ.length:Int)+1) } w'∧Below W0.heap.size w w':=by
  have hlt:=h.lt
  have hne:b ≠ w.heap.size:=by omega
  have f22:=h.fr 22
  have f23:=h.fr 23
  have qw:w.cell? ⟨b,22,none⟩=some (.int .i64 s.pc):=h.cell 22
  have c23:w.cell? ⟨b,23,none⟩=some (.int .i64 s.steps):=h.cell 23
  have HP:=ae.mk (mX (P:=#[.slice A0 l0.length c0,.string a1,.string a2,.slice A3 l3.length c3]) (I:=#[.int .u8 5,.int .u8 a,.int .u8 bb,.int .u8 cc,.int .i64 n]) h)
  have HR:=ae.mk (hR.ow (s':=bump s) HP.out.ow rfl rfl)
  have HB:=ae.mk (hB.trans (HP.out.ow.low hb hlt))
  have Xd:=Lib.hid (Kd.acB hR.cZ)
  replace hr0:=Lib.hid hr0
  replace hr3:=Lib.hid hr3
  replace hl:=Lib.hid hl
  replace hz:=Lib.hid hz
  clear h hR hB
  go_enter Tryd.func22,Tryd.ntmps22
  go_wp2
  change Code.wp _ _ _ _ (mP b s #[.slice A0 l0.length c0,.string a1,.string a2,.slice A3 l3.length c3] #[.int .u8 5,.int .u8 a,.int .u8 bb,.int .u8 cc,.int .i64 n] w)
  generalize mP b s #[.slice A0 l0.length c0,.string a1,.string a2,.slice A3 l3.length c3] #[.int .u8 5,.int .u8 a,.int .u8 bb,.int .u8 cc,.int .i64 n] w=W at HP HR HB ⊢
  clear f22 f23 qw c23
  have HQ:=ae.mk HP.out.drew
  have HR2:=ae.mk (HR.out.move (w':=W.drew) (s':=bump s) (fun _ _ _=>rfl) rfl rfl)
  have HB2:=ae.mk (show Below W0.heap.size W0 W.drew from HB.out.drew)
  have c20:W.drew.cell? ⟨b,20,none⟩=some vO:=HQ.out.st.cell 20
  have q0:W.drew.cell? ⟨w.heap.size,0,none⟩=some (.slice A0 l0.length c0):=HQ.out.prog 0 _ rfl
  have q1:W.drew.cell? ⟨w.heap.size,1,none⟩=some (.string a1):=HQ.out.prog 1 _ rfl
  have q2:W.drew.cell? ⟨w.heap.size,2,none⟩=some (.string a2):=HQ.out.prog 2 _ rfl
  have q3:W.drew.cell? ⟨w.heap.size,3,none⟩=some (.slice A3 l3.length c3):=HQ.out.prog 3 _ rfl
  have i1:W.drew.cell? ⟨w.heap.size+1,1,none⟩=some (.int .u8 a):=HQ.out.ins 1 _ rfl
  clear HP HR HB
  refine wp_region_noPanic ?_
  refine qG (n:=18) (S:=fun w'=>w'.cell? ⟨b,20,none⟩=some vO∧w'.cell? ⟨w.heap.size,0,none⟩=some (.slice A0 l0.length c0)∧w'.cell? ⟨w.heap.size,1,none⟩=some (.string a1)∧w'.cell? ⟨w.heap.size,2,none⟩=some (.string a2)∧w'.cell? ⟨w.heap.size,3,none⟩=some (.slice A3 l3.length c3)∧w'.cell? ⟨w.heap.size+1,1,none⟩=some (.int .u8 a)) (ds:=[17]) #[false,false,false,false,false,false,false,false,false,false,false,false,false,false,false,false,false,false] (by kernel_rfl) rfl rfl ⟨c20,q0,q1,q2,q3,i1⟩ (fun hHeld=>?_)
  clear c20 q0 q1 q2 q3 i1
  generalize W.drew=W2 at HQ HR2 HB2 hHeld ⊢
  refine gW (i:=0) (N:=some 83) (v:=?_) (a':=?_) #[true,false,false,false,false,false,false,false,false,false,false,false,false,false,false,false,false,false] rfl rfl (by kernel_rfl) (fun _ _ _ h=>h) (Or.inl ⟨by rfl,?_⟩) ?_ ?_
  rotate_left
  · intro w'
    go_simp
    with_reducible rfl
  rotate_left
  · simp only [Act.put,List.setIfInBounds_toArray,List.set_cons_zero,List.set_cons_succ,bY,bZ]
    rfl
  refine gW (i:=1) (N:=some 84) (v:=?_) (a':=?_) #[true,true,false,false,false,false,false,false,false,false,false,false,false,false,false,false,false,false] rfl rfl (by kernel_rfl) (fun _ _ _ h=>h) (Or.inl ⟨by rfl,?_⟩) ?_ ?_
  rotate_left
  · intro w'
    go_simp
    with_reducible rfl
  rotate_left
  · simp only [Act.put,List.setIfInBounds_toArray,List.set_cons_zero,List.set_cons_succ,bY,bZ]
    rfl
  refine gW (i:=2) (N:=some 85) (v:=?_) (a':=?_) #[true,true,true,false,false,false,false,false,false,false,false,false,false,false,false,false,false,false] rfl rfl (by kernel_rfl) (fun _ _ _ h=>h) (Or.inl ⟨by rfl,?_⟩) ?_ ?_
  rotate_left
  · intro w'
    go_simp
    with_reducible rfl
  rotate_left
  · simp only [Act.put,List.setIfInBounds_toArray,List.set_cons_zero,List.set_cons_succ,bY,bZ]
    rfl
  refine gW (i:=3) (N:=some 86) (v:=?_) (a':=?_) #[true,true,true,true,false,false,false,false,false,false,false,false,false,false,false,false,false,false] rfl rfl (by kernel_rfl) (fun _ _ _ h=>h) (Or.inl ⟨by rfl,?_⟩) ?_ ?_
  rotate_left
  · intro w'
    go_simp
    with_reducible rfl
  rotate_left
  · simp only [Act.put,List.setIfInBounds_toArray,List.set_cons_zero,List.set_cons_succ,bY,bZ]
    rfl
  refine kG (i:=4) (N:=some 87) (v:=?_) (a':=?_) #[true,true,true,true,true,false,false,false,false,false,false,false,false,false,false,false,false,false] rfl rfl (by kernel_rfl) (fun _ _ _ h=>h) (Or.inl ⟨by rfl,?_⟩) hHeld ?_ ?_
  rotate_left
  · rintro w' ⟨Vz,Ye,Yd,Yc,Yb,Yg⟩
    go_simp
    with_reducible rfl
  rotate_left
  · simp only [Act.put,List.setIfInBounds_toArray,List.set_cons_zero,List.set_cons_succ,bY,bZ]
    rfl
  refine gW (i:=5) (N:=some 88) (v:=?_) (a':=?_) #[true,true,true,true,true,true,false,false,false,false,false,false,false,false,false,false,false,false] rfl rfl (by kernel_rfl) (fun _ _ _ h=>h) (Or.inl ⟨by rfl,?_⟩) ?_ ?_
  rotate_left
  · intro w'
    go_simp
    with_reducible rfl
  rotate_left
  · simp only [Act.put,List.setIfInBounds_toArray,List.set_cons_zero,List.set_cons_succ,bY,bZ]
    rfl
  refine kG (i:=6) (N:=some 89) (v:=?_) (a':=?_) #[true,true,true,true,true,true,true,false,false,false,false,false,false,false,false,false,false,false] rfl rfl (by kernel_rfl) (fun _ _ _ h=>h) (Or.inl ⟨by rfl,?_⟩) hHeld ?_ ?_
  rotate_left
  · rintro w' ⟨Vz,Ye,Yd,Yc,Yb,Yg⟩
    go_simp
    with_reducible rfl
  rotate_left
  · simp only [Act.put,List.setIfInBounds_toArray,List.set_cons_zero,List.set_cons_succ,bY,bZ]
    rfl
  refine kG (i:=7) (N:=some 90) (v:=?_) (a':=?_) #[true,true,true,true,true,true,true,true,false,false,false,false,false,false,false,false,false,false] rfl rfl (by kernel_rfl) (fun _ _ _ h=>h) (Or.inl ⟨by rfl,?_⟩) hHeld ?_ ?_
  rotate_left
  · rintro w' ⟨Vz,Ye,Yd,Yc,Yb,Yg⟩
    go_simp
    with_reducible rfl
  rotate_left
  · simp only [Act.put,List.setIfInBounds_toArray,List.set_cons_zero,List.set_cons_succ,bY,bZ]
    rfl
  refine gW (i:=8) (N:=some 91) (v:=?_) (a':=?_) #[true,true,true,true,true,true,true,true,true,false,false,false,false,false,false,false,false,false] rfl rfl (by kernel_rfl) (fun _ _ _ h=>h) (Or.inl ⟨by rfl,?_⟩) ?_ ?_
  rotate_left
  · intro w'
    go_simp
    with_reducible rfl
  rotate_left
  · simp only [Act.put,List.setIfInBounds_toArray,List.set_cons_zero,List.set_cons_succ,bY,bZ]
    rfl
  refine kG (i:=9) (N:=some 92) (v:=?_) (a':=?_) #[true,true,true,true,true,true,true,true,true,true,false,false,false,false,false,false,false,false] rfl rfl (by kernel_rfl) (fun _ _ _ h=>h) (Or.inl ⟨by rfl,?_⟩) hHeld ?_ ?_
  rotate_left
  · rintro w' ⟨Vz,Ye,Yd,Yc,Yb,Yg⟩
    go_simp
    with_reducible rfl
  rotate_left
  · simp only [Act.put,List.setIfInBounds_toArray,List.set_cons_zero,List.set_cons_succ,bY,bZ]
    rfl
  refine pY (i:=10) (N:=some 93) #[true,true,true,true,true,true,true,true,true,true,true,false,false,false,false,false,false,false] rfl rfl (by kernel_rfl) (by decide) (fun K hK=>?_)
  refine pF Tryd.func36 (by kernel_rfl) rfl #[.agg #[.slice A0 l0.length c0,.string a1,.string a2,.slice A3 l3.length c3],.int .u8 a] (by rfl) rfl rfl (by (try simp only [List.map_toArray,List.map_cons,List.map_nil]);rfl) ?_
  refine (gq.calls k A0 c0 l0 a1 a2 A3 c3 l3 a t W2 (Kd.bJ hr0.out HB2.out) hc0 (Kd.bJ hr3.out HB2.out) hc3 hl.out).mono ?_
  rintro e w3 ⟨rfl,hb3⟩
  refine ⟨_,rfl,?_⟩
  have Xc:=ae.mk (HQ.out.below hb3)
  have HR3:=ae.mk (HR2.out.ow (s':=bump s) (Ow.of_below hb3) rfl rfl)
  have HB3:=ae.mk (HB2.out.trans (hb3.mono HB2.out.size))
  clear HQ HR2 HB2 hb3 hHeld
  refine hK.out _ _ ⟨Xc.out.st.cell 20,Xc.out.prog 0 _ rfl,Xc.out.prog 1 _ rfl,Xc.out.prog 2 _ rfl,Xc.out.prog 3 _ rfl,Xc.out.ins 1 _ rfl⟩ (fun hHeld=>?_)
  clear hK K
  refine jo (a':=?_) ?_ ?_
  rotate_left
  · show Act.put _ (some 93) _=_
    simp only [Act.put,List.setIfInBounds_toArray,List.set_cons_zero,List.set_cons_succ,bY,bZ]
    rfl
  refine pY (i:=11) (N:=some 94) #[true,true,true,true,true,true,true,true,true,true,true,true,false,false,false,false,false,false] rfl rfl (by kernel_rfl) (by decide) (fun K hK=>?_)
  refine pF Tryd.func35 (by kernel_rfl) rfl #[.slice A0 l0.length c0,.int .i64 t] (by rfl) rfl rfl (by (try simp only [List.map_toArray,List.map_cons,List.map_nil]);rfl) ?_
  refine (jv.calls k A0 c0 l0 t z w3 (Kd.bJ hr0.out HB3.out) hc0 hz.out).mono ?_
  rintro e w4 ⟨rfl,hd4⟩
  have hb4:=hd4.below
  refine ⟨_,rfl,?_⟩
  have P6:=ae.mk (Xc.out.below hb4)
  have HR4:=ae.mk (HR3.out.ow (s':=bump s) (Ow.of_below hb4) rfl rfl)
  have HB4:=ae.mk (HB3.out.trans (hb4.mono HB3.out.size))
  clear Xc HR3 HB3 hb4 hd4 hHeld
  refine hK.out _ _ ⟨P6.out.st.cell 20,P6.out.prog 0 _ rfl,P6.out.prog 1 _ rfl,P6.out.prog 2 _ rfl,P6.out.prog 3 _ rfl,P6.out.ins 1 _ rfl⟩ (fun hHeld=>?_)
  clear hK K
  refine jo (a':=?_) ?_ ?_
  rotate_left
  · show Act.put _ (some 94) _=_
    simp only [Act.put,List.setIfInBounds_toArray,List.set_cons_zero,List.set_cons_succ,bY,bZ]
    rfl
  refine pY (i:=12) (N:=some 95) #[true,true,true,true,true,true,true,true,true,true,true,true,true,false,false,false,false,false] rfl rfl (by kernel_rfl) (by decide) (fun K hK=>?_)
  obtain ⟨n4,hn4⟩:∃ n4,n4=w4.heap.size:=⟨_,rfl⟩
  refine Kd.Fg (Kd.int .i64) (w0:=w4) w4.heap.size 2 (by rfl) rfl 28 (.tmp 94) (.tmp 94) rfl z rfl rfl (by kernel_rfl) (.int .i64 0) 8 NM rfl (by decide) (by decide) 0 (ok:=fun k=>w4.heap.size≤k) (pq:=fun _=>False) rfl (fun _ hk=>hk.elim) (Nat.le_refl _) hz0 hzl (Below.refl _ _) (Nat.le_refl _) ?_
  intro v1 w5 hM5 hb5 hg5 aj1
  obtain ⟨A5,c5,e5⟩:=Kd.jy hM5
  obtain ⟨m5,Yf⟩:∃ m,m=(List.replicate z.toNat (0:Int)).length:=⟨_,rfl⟩
  rw [← Yf] at e5
  subst e5
  have Fh:=ae.mk (P6.out.below hb5)
  have Zw:=ae.mk (HR4.out.ow (s':=bump s) (Ow.of_below hb5) rfl rfl)
  have KA:=ae.mk (HB4.out.trans (hb5.mono HB4.out.size))
  have HT5:=ae.mk (Kd.Af (ok':=fun k=>(k ≠ b∧some k ≠ vU.ownBlock)∧¬ w4.heap.size≤k) (Kd.DI (Kd.Kq HR4.out.cZ) (fun k hk hlt=>hb5.block k hlt)) (fun k hk=>⟨hk.1,by have:=hk.2.2.1;omega⟩))
  have HN5:=Lib.hid (Kd.je hM5 (show W0.heap.size≤w4.heap.size by have:=P6.out.st.lt;omega))
  have abf:=Kd.acB HR4.out.cZ
  have hUlt:=Kd.Me HR4.out.out
  have ame:=P6.out.st.lt
  have anQ:=hb5.size
  clear P6 HR4 HB4 hM5 hb5 hg5 aj1 hHeld
  refine hK.out _ _ ⟨Fh.out.st.cell 20,Fh.out.prog 0 _ rfl,Fh.out.prog 1 _ rfl,Fh.out.prog 2 _ rfl,Fh.out.prog 3 _ rfl,Fh.out.ins 1 _ rfl⟩ (fun hHeld=>?_)
  clear hK K
  refine jo (a':=?_) ?_ ?_
  rotate_left
  · show Act.put _ (some 95) _=_
    simp only [Act.put,List.setIfInBounds_toArray,List.set_cons_zero,List.set_cons_succ,bY,bZ]
    rfl
  refine pY (i:=13) (N:=some 96) #[true,true,true,true,true,true,true,true,true,true,true,true,true,true,false,false,false,false] rfl rfl (by kernel_rfl) (by decide) (fun K hK=>?_)
  refine zl (w1:=w5.alloc (.cells #[.slice A5 m5 c5] 28)) (v:=.slice (some ⟨w5.heap.size,0,none⟩) 1 1) (by rfl) rfl ?_ ?_
  · go_simp
  have Y6:=Fh.out.below ((Below.refl w5.heap.size w5).alloc (Nat.le_refl _) (.cells #[.slice A5 m5 c5] 28))
  refine hK.out _ _ ⟨Y6.st.cell 20,Y6.prog 0 _ rfl,Y6.prog 1 _ rfl,Y6.prog 2 _ rfl,Y6.prog 3 _ rfl,Y6.ins 1 _ rfl⟩ (fun hHeld=>?_)
  clear Y6
  clear hK K
  refine jo (a':=?_) ?_ ?_
  rotate_left
  · show Act.put _ (some 96) _=_
    simp only [Act.put,List.setIfInBounds_toArray,List.set_cons_zero,List.set_cons_succ,bY,bZ]
    rfl
  refine pY (i:=14) (N:=some 97) #[true,true,true,true,true,true,true,true,true,true,true,true,true,true,true,false,false,false] rfl rfl (by kernel_rfl) (by decide) (fun K hK=>?_)
  refine Kd.AX xx (w0:=w5) W0.heap.size (by rfl) (.tmp 87) (.tmp 96) 37 28 (.slice none 0 0) 24 rfl (by kernel_rfl) X7 rfl (by decide) (by decide) vO s.cZ (List.replicate z.toNat 0) [.slice A5 m5 c5] (fun k=>k ≠ b∧some k ≠ vU.ownBlock) (fun k=>w4.heap.size≤k) rfl rfl ⟨_,rfl,HN5.out⟩ (fun k hk=>⟨⟨by omega,fun he=>by have:=hUlt k he.symm;omega⟩,fun he=>by have:=abf k he.symm;omega⟩) (fun k hk=>⟨by omega,fun he=>by have:=hUlt k he.symm;omega⟩) HT5.out (Below.refl _ _) (by omega) hlim ?_
  intro Xt w6 hS6 hb6 MH Vp
  obtain ⟨A6,c6,e6⟩:=Kd.DJ hS6
  rw [List.length_append,List.length_singleton] at e6
  subst e6
  have hUa:=Zw.out.apart
  have Yo:=Zw.out.ZM
  have hOb:=Zw.out.aju
  have abb:=Fh.out.st.lt
  have hsz5:=Fh.out.size
  have eb:w6.heap[b]? = w5.heap[b]?:=MH.block b abb hOb
  have ep:w6.heap[w.heap.size]? = w5.heap[w.heap.size]?:=MH.block _ (by omega) (fun he=>by have:=Xd.out _ he.symm;omega)
  have ei:w6.heap[w.heap.size+1]? = w5.heap[w.heap.size+1]?:=MH.block _ (by omega) (fun he=>by have:=Xd.out _ he.symm;omega)
  have Zu:Kd.R (Kd.int .i64) 2 w6 W0.heap.size (fun k=>k ≠ b) vU s.out:=Kd.jP (Kd.lI (Kd.Kt (show (Kd.int .i64).E=[] from rfl) Zw.out.out) (fun k hk hlt=>MH.block k hlt (hUa k hk.symm))) (fun k hk he=>Yo (he ▸ hk))
  have VX:=Fh.out.st.of_block eb
  have d20:w6.cell? ⟨b,20,none⟩=some vO:=VX.cell 20
  have f20:w6.frozen? ⟨b,20,none⟩=false:=VX.fr 20
  have dp0:w6.cell? ⟨w.heap.size,0,none⟩=some (.slice A0 l0.length c0):=(World.cell?_of_block ep).trans (Fh.out.prog 0 _ rfl)
  have dp1:w6.cell? ⟨w.heap.size,1,none⟩=some (.string a1):=(World.cell?_of_block ep).trans (Fh.out.prog 1 _ rfl)
  have dp2:w6.cell? ⟨w.heap.size,2,none⟩=some (.string a2):=(World.cell?_of_block ep).trans (Fh.out.prog 2 _ rfl)
  have dp3:w6.cell? ⟨w.heap.size,3,none⟩=some (.slice A3 l3.length c3):=(World.cell?_of_block ep).trans (Fh.out.prog 3 _ rfl)
  have di:w6.cell? ⟨w.heap.size+1,1,none⟩=some (.int .u8 a):=(World.cell?_of_block ei).trans (Fh.out.ins 1 _ rfl)
  have HE:=Lib.hid (show kD b { bump s with cZ:=s.cZ++[List.replicate z.toNat 0] } (.slice A6 (s.cZ.length+1) c6) vU (w6.setCell ⟨b,20,none⟩ (.slice A6 (s.cZ.length+1) c6)) from VX.Eh _ _)
  have HF:=Lib.hid (show Rows W0.heap.size b { bump s with cZ:=s.cZ++[List.replicate z.toNat 0] } (.slice A6 (s.cZ.length+1) c6) vU w6 from ⟨hS6,Zu⟩)
  have HBb:=Lib.hid (show Below W0.heap.size w w6 from (Fh.out.ow.low hb hlt).grown MH (by omega) (Kd.YX Zw.out.cZ))
  have anK:=MH.size
  have HD:=Lib.hid di
  clear hUa Yo hOb eb ep ei VX Fh Zw KA HT5 HN5 hS6 hb6 MH Vp Zu hHeld abf hUlt
  refine hK.out _ _ ⟨d20,dp0,dp1,dp2,dp3,di⟩ (fun hHeld=>?_)
  clear hK K
  refine jo (a':=?_) ?_ ?_
  rotate_left
  · show Act.put _ (some 97) _=_
    simp only [Act.put,List.setIfInBounds_toArray,List.set_cons_zero,List.set_cons_succ,bY,bZ]
    rfl
  refine gW (i:=15) (N:=some 98) (v:=?_) (a':=?_) #[true,true,true,true,true,true,true,true,true,true,true,true,true,true,true,true,false,false] rfl rfl (by kernel_rfl) (fun _ _ _ h=>h) (Or.inl ⟨by rfl,?_⟩) ?_ ?_
  rotate_left
  · intro w'
    go_simp
    with_reducible rfl
  rotate_left
  · simp only [Act.put,List.setIfInBounds_toArray,List.set_cons_zero,List.set_cons_succ,bY,bZ]
    rfl
  refine gW (i:=16) (N:=some 99) (v:=?_) (a':=?_) #[true,true,true,true,true,true,true,true,true,true,true,true,true,true,true,true,true,false] rfl rfl (by kernel_rfl) (fun _ _ _ h=>h) (Or.inl ⟨by rfl,?_⟩) ?_ ?_
  rotate_left
  · intro w'
    go_simp
    with_reducible rfl
  rotate_left
  · simp only [Act.put,List.setIfInBounds_toArray,List.set_cons_zero,List.set_cons_succ,bY,bZ]
    rfl
  refine zI (i:=17) (N:=none) #[true,true,true,true,true,true,true,true,true,true,true,true,true,true,true,true,true,true] rfl rfl (by kernel_rfl) (by decide) (fun K hK=>?_)
  refine Bf (w1:=w6.setCell ⟨b,20,none⟩ (.slice A6 (s.cZ.length+1) c6)) (by rfl) rfl ?_ ?_
  · go_simp
  refine hK.out _ _ ?_
  clear hK K
  refine ug (by kernel_rfl) ?_
  refine NoPanic.normal ?_
  clear hHeld d20 f20 dp0 dp1 dp2 dp3 di
  have j1:(w6.setCell ⟨b,20,none⟩ (.slice A6 (s.cZ.length+1) c6)).cell? ⟨w.heap.size+1,1,none⟩=some (.int .u8 a):=(World.cell?_of_block (Below.heap_setCell _ _ _ _ (by show w.heap.size+1 ≠ b;omega))).trans HD.out
  have Zx:=Lib.hid (HF.out.set (s':={ bump s with cZ:=s.cZ++[List.replicate z.toNat 0] }) 20 (.slice A6 (s.cZ.length+1) c6) rfl rfl)
  have HB7:=Lib.hid (HBb.out.setCell (p:=⟨b,20,none⟩) hb (.slice A6 (s.cZ.length+1) c6))
  clear HF HBb HD
  generalize w6.setCell ⟨b,20,none⟩ (.slice A6 (s.cZ.length+1) c6)=w7 at HE Zx HB7 j1 ⊢
  have hai:(a:Int) < 8:=by omega
  have e20:w7.cell? ⟨b,20,none⟩=some (.slice A6 (s.cZ.length+1) c6):=HE.out.cell 20
  go_wp2
  go_still_tail 11,(by kernel_rfl)
  change wpList _ _ _ _ _ w7.drew
  have HE8:=Lib.hid (show kD b _ _ _ w7.drew from HE.out.of_block rfl)
  have HF8:=Lib.hid (Zx.out.move (w':=w7.drew) (s':={ bump s with cZ:=s.cZ++[List.replicate z.toNat 0] }) (fun _ _ _=>rfl) rfl rfl)
  have HB8:=Lib.hid (show Below W0.heap.size w w7.drew from HB7.out.drew)
  clear HE Zx HB7 e20 j1
  generalize w7.drew=w8 at HE8 HF8 HB8 ⊢
  have fs:=HE8.out.fr (8+a)
  have cs:=HE8.out.sF a ha
  go_wp2
  go_ret
  exact ⟨rfl,⟨hb,_,_,HE8.out.Ee a ha _,HF8.out.set _ _ rfl rfl⟩,HB8.out.setCell (p:=⟨b,8+a,none⟩) hb _⟩
end Go.Proofs.YtlemecdddhdagaaDoor.P
end
section
namespace Go.Proofs.YtlemecdddhdagaaDoor.P
open Go.RowKit Go.Proofs.ag.bH Go.Proofs.ag.dM Go.Proofs.ag.dY
attribute [local go_sem ↓] Go.wp_at_zero Go.wp_at_succ
set_option maxRecDepth 100000 in
set_option maxHeartbeats 3200000 in
theorem abv (b:Nat) (s:St) (vO vU:Value) (a bb cc:Nat) (n r:Int) (w:World) (h:kD b s vO vU w) (p0 p1 p2 p3:Value) (Q:World→Prop)
    (hc:∀ W,Mid b (bump s) vO vU #[p0,p1,p2,p3] #[.int .u8 8,.int .u8 a,.int .u8 bb,.int .u8 cc,.int .i64 n] w W→Calls Tryd.prog 37 #[.pointer (some ⟨b,0,none⟩),.agg #[.int .u8 8,.int .u8 a,.int .u8 bb,.int .u8 cc,.int .i64 n]] W fun e w'=>e=.returned (.int .i64 r)∧Q w') :
    Calls Tryd.prog 22 #[.pointer (some ⟨b,0,none⟩),.agg #[p0,p1,p2,p3],.agg #[.int .u8 8,.int .u8 a,.int .u8 bb,.int .u8 cc,.int .i64 n]] w fun e w'=>e=.returned (.int .i64 r)∧Q w':=by
  have hlt:=h.lt
  have hne:b ≠ w.heap.size:=by omega
  have f22:=h.fr 22
  have f23:=h.fr 23
  have qw:w.cell? ⟨b,22,none⟩=some (.int .i64 s.pc):=h.cell 22
  have c23:w.cell? ⟨b,23,none⟩=some (.int .i64 s.steps):=h.cell 23
  have HP:=ae.mk (mX (P:=#[p0,p1,p2,p3]) (I:=#[.int .u8 8,.int .u8 a,.int .u8 bb,.int .u8 cc,.int .i64 n]) h)
  replace hc:=Lib.hid hc
  clear h
  go_enter Tryd.func22,Tryd.ntmps22
  go_upto_region 999 with (fail)
  refine (hc.out (mP b s #[p0,p1,p2,p3] #[.int .u8 8,.int .u8 a,.int .u8 bb,.int .u8 cc,.int .i64 n] w) HP.out).mono ?_
  rintro e w' ⟨rfl,hq⟩
  replace hq:=Lib.hid hq
  clear f22 f23 qw c23 hc HP
  go_wp2
  go_ret
  exact ⟨rfl,hq.out⟩
set_option maxRecDepth 100000 in
set_option maxHeartbeats 3200000 in
theorem WN (b:Nat) (s:St) (vO vU:Value) (a bb cc:Nat) (n r:Int) (w:World) (h:kD b s vO vU w) (p0 p1 p2 p3:Value) (Q:World→Prop)
    (hc:∀ W,Mid b (bump s) vO vU #[p0,p1,p2,p3] #[.int .u8 10,.int .u8 a,.int .u8 bb,.int .u8 cc,.int .i64 n] w W→Calls Tryd.prog 37 #[.pointer (some ⟨b,0,none⟩),.agg #[.int .u8 10,.int .u8 a,.int .u8 bb,.int .u8 cc,.int .i64 n]] W fun e w'=>e=.returned (.int .i64 r)∧Q w') :
    Calls Tryd.prog 22 #[.pointer (some ⟨b,0,none⟩),.agg #[p0,p1,p2,p3],.agg #[.int .u8 10,.int .u8 a,.int .u8 bb,.int .u8 cc,.int .i64 n]] w fun e w'=>e=.returned (.int .i64 r)∧Q w':=by
  have hlt:=h.lt
  have hne:b ≠ w.heap.size:=by omega
  have f22:=h.fr 22
  have f23:=h.fr 23
  have qw:w.cell? ⟨b,22,none⟩=some (.int .i64 s.pc):=h.cell 22
  have c23:w.cell? ⟨b,23,none⟩=some (.int .i64 s.steps):=h.cell 23
  have HP:=ae.mk (mX (P:=#[p0,p1,p2,p3]) (I:=#[.int .u8 10,.int .u8 a,.int .u8 bb,.int .u8 cc,.int .i64 n]) h)
  replace hc:=Lib.hid hc
  clear h
  go_enter Tryd.func22,Tryd.ntmps22
  go_upto_region 999 with (fail)
  refine (hc.out (mP b s #[p0,p1,p2,p3] #[.int .u8 10,.int .u8 a,.int .u8 bb,.int .u8 cc,.int .i64 n] w) HP.out).mono ?_
  rintro e w' ⟨rfl,hq⟩
  replace hq:=Lib.hid hq
  clear f22 f23 qw c23 hc HP
  go_wp2
  go_ret
  exact ⟨rfl,hq.out⟩
set_option maxRecDepth 100000 in
set_option maxHeartbeats 3200000 in
theorem abu (b:Nat) (s:St) (vO vU:Value) (a bb cc:Nat) (n r:Int) (w:World) (h:kD b s vO vU w) (p0 p1 p2 p3:Value) (Q:World→Prop)
    (hc:∀ W,Mid b (bump s) vO vU #[p0,p1,p2,p3] #[.int .u8 9,.int .u8 a,.int .u8 bb,.int .u8 cc,.int .i64 n] w W→Calls Tryd.prog 38 #[.pointer (some ⟨b,0,none⟩),.agg #[.int .u8 9,.int .u8 a,.int .u8 bb,.int .u8 cc,.int .i64 n]] W fun e w'=>e=.returned (.int .i64 r)∧Q w') :
    Calls Tryd.prog 22 #[.pointer (some ⟨b,0,none⟩),.agg #[p0,p1,p2,p3],.agg #[.int .u8 9,.int .u8 a,.int .u8 bb,.int .u8 cc,.int .i64 n]] w fun e w'=>e=.returned (.int .i64 r)∧Q w':=by
  have hlt:=h.lt
  have hne:b ≠ w.heap.size:=by omega
  have f22:=h.fr 22
  have f23:=h.fr 23
  have qw:w.cell? ⟨b,22,none⟩=some (.int .i64 s.pc):=h.cell 22
  have c23:w.cell? ⟨b,23,none⟩=some (.int .i64 s.steps):=h.cell 23
  have HP:=ae.mk (mX (P:=#[p0,p1,p2,p3]) (I:=#[.int .u8 9,.int .u8 a,.int .u8 bb,.int .u8 cc,.int .i64 n]) h)
  replace hc:=Lib.hid hc
  clear h
  go_enter Tryd.func22,Tryd.ntmps22
  go_upto_region 999 with (fail)
  refine (hc.out (mP b s #[p0,p1,p2,p3] #[.int .u8 9,.int .u8 a,.int .u8 bb,.int .u8 cc,.int .i64 n] w) HP.out).mono ?_
  rintro e w' ⟨rfl,hq⟩
  replace hq:=Lib.hid hq
  clear f22 f23 qw c23 hc HP
  go_wp2
  go_ret
  exact ⟨rfl,hq.out⟩
set_option maxRecDepth 100000 in
set_option maxHeartbeats 3200000 in
theorem WM (b:Nat) (s:St) (vO vU:Value) (a bb cc:Nat) (n r:Int) (w:World) (h:kD b s vO vU w) (p0 p1 p2 p3:Value) (Q:World→Prop)
    (hc:∀ W,Mid b (bump s) vO vU #[p0,p1,p2,p3] #[.int .u8 11,.int .u8 a,.int .u8 bb,.int .u8 cc,.int .i64 n] w W→Calls Tryd.prog 38 #[.pointer (some ⟨b,0,none⟩),.agg #[.int .u8 11,.int .u8 a,.int .u8 bb,.int .u8 cc,.int .i64 n]] W fun e w'=>e=.returned (.int .i64 r)∧Q w') :
    Calls Tryd.prog 22 #[.pointer (some ⟨b,0,none⟩),.agg #[p0,p1,p2,p3],.agg #[.int .u8 11,.int .u8 a,.int .u8 bb,.int .u8 cc,.int .i64 n]] w fun e w'=>e=.returned (.int .i64 r)∧Q w':=by
  have hlt:=h.lt
  have hne:b ≠ w.heap.size:=by omega
  have f22:=h.fr 22
  have f23:=h.fr 23
  have qw:w.cell? ⟨b,22,none⟩=some (.int .i64 s.pc):=h.cell 22
  have c23:w.cell? ⟨b,23,none⟩=some (.int .i64 s.steps):=h.cell 23
  have HP:=ae.mk (mX (P:=#[p0,p1,p2,p3]) (I:=#[.int .u8 11,.int .u8 a,.int .u8 bb,.int .u8 cc,.int .i64 n]) h)
  replace hc:=Lib.hid hc
  clear h
  go_enter Tryd.func22,Tryd.ntmps22
  go_upto_region 999 with (fail)
  refine (hc.out (mP b s #[p0,p1,p2,p3] #[.int .u8 11,.int .u8 a,.int .u8 bb,.int .u8 cc,.int .i64 n] w) HP.out).mono ?_
  rintro e w' ⟨rfl,hq⟩
  replace hq:=Lib.hid hq
  clear f22 f23 qw c23 hc HP
  go_wp2
  go_ret
  exact ⟨rfl,hq.out⟩
end Go.Proofs.YtlemecdddhdagaaDoor.P
end
section
namespace Go.Proofs.YtlemecdddhdagaaDoor.P
open Go.RowKit Go.Proofs.ag.bH Go.Proofs.ag.dM Go.Proofs.ag.dY
attribute [local go_sem ↓] Go.wp_at_zero Go.wp_at_succ
set_option maxRecDepth 100000 in
set_option maxHeartbeats 3200000 in
theorem zn (b:Nat) (s:St) (vO vU:Value) (op a bb cc:Nat) (n:Int) (ha:a < 8) (hz:s.p a=0) (w:World) (h:kD b s vO vU w) :
    Calls Tryd.prog 38 #[.pointer (some ⟨b,0,none⟩),.agg #[.int .u8 op,.int .u8 a,.int .u8 bb,.int .u8 cc,.int .i64 n]] w fun e w'=>e=.returned (.int .i64 9)∧kD b s vO vU w'∧Ow b w w':=by
  have hlt:=h.lt
  have hai:(a:Int) < 8:=by omega
  have HP:=ae.mk (uH (I:=#[.int .u8 op,.int .u8 a,.int .u8 bb,.int .u8 cc,.int .i64 n]) h)
  clear h
  go_enter Tryd.func38,Tryd.ntmps38
  go_wp2
  generalize w.alloc (.cells #[.int .u8 op,.int .u8 a,.int .u8 bb,.int .u8 cc,.int .i64 n] 55)=W at HP ⊢
  have i1:W.cell? ⟨w.heap.size,1,none⟩=some (.int .u8 a):=HP.out.ins 1 _ rfl
  have ca:W.cell? ⟨b,8+a,none⟩=some (.int .i64 0):=by rw [HP.out.st.sF a ha,hz]
  clear hz
  go_quiet (fail)
  rename_i nq
  have HQ:=ae.mk (HP.out.drewN nq)
  clear HP ca i1
  generalize W.drewN nq=W2 at HQ ⊢
  go_wp2
  go_ret
  exact ⟨rfl,HQ.out.st,HQ.out.ow⟩
theorem Rows.ZV {base b:Nat} {s:St} {vO vU:Value} {W:World} (hR:Rows base b s vO vU W) (hlt:b < W.heap.size) (hb:base≤b) (o n:Int) (ho1:1≤o) (ho2:o≤s.cZ.length) (row:List Int) (hrow:s.cZ.getD (o - 1).toNat []=row) (hn0:0≤n) (hn1:n < row.length) :
    ∃ ad vK cO c1 old,vO=.slice (some ad) s.cZ.length cO∧W.cell? (ad.add (o.toNat - 1))=some (.slice (some vK) row.length c1)∧W.cell? (vK.add n.toNat)=some old∧W.frozen? (vK.add n.toNat)=false ∧
      ∀ (o':Obj) (k:Nat) (v:Int) (s':St),s'.cZ=s.cZ.set (o - 1).toNat (row.set n.toNat v)→s'.out=s.out →
        Rows base b s' vO vU (((W.alloc o').drewN k).setCell (vK.add n.toNat) (.int .i64 v))∧(((W.alloc o').drewN k).setCell (vK.add n.toNat) (.int .i64 v)).heap[b]? = W.heap[b]?∧Below base W (((W.alloc o').drewN k).setCell (vK.add n.toNat) (.int .i64 v)):=by
  obtain ⟨hS,hU⟩:=hR
  obtain ⟨g,cO,rfl,hg1,hg2,_⟩:=Kd.YW hS (by omega)
  obtain ⟨xk,c,hcl,hM,hcc,QW,hback⟩:=Kd.PG hS ([]:List Int) (o - 1) (by omega) (by omega)
  rw [hrow] at hM
  obtain ⟨v,rfl,hv⟩:=hM
  obtain ⟨g2,c1,rfl,hg3,hg4,_⟩:=Kd.DN hv (by omega)
  obtain ⟨e1,e2⟩:=Kd.DR (h1:=fun _=>rfl) (0:Int) hv n hn0 hn1
  have hki:xk g2:=hv.1 g2 (by simp [Value.ownBlock])
  obtain ⟨⟨hnb,hnU⟩,hnO⟩:=QW g2 hki
  have ea:(⟨g2,0,none⟩:Addr).add n.toNat=⟨g2,n.toNat,none⟩:=by rw [PD,Nat.zero_add]
  refine ⟨⟨g,0,none⟩,⟨g2,0,none⟩,cO,c1,_,rfl,?_,by rw [ea];exact e1,by rw [ea];exact e2,fun o' k x s' hs1 hs2=>?_⟩
  · have:=hcc 0 _ rfl
    rw [show (o - 1).toNat * xx.sz+0=o.toNat - 1 by show (o - 1).toNat * 1+0=_;omega] at this
    exact this
  · rw [ea]
    have hv1:(Kd.int .i64).R 2 ((W.alloc o').drewN k) base xk (.slice (some ⟨g2,0,none⟩) row.length c1) row:=Kd.lI hv (fun j _ hj=>Below.heap_alloc W o' j hj)
    obtain ⟨hp,hgr⟩:=Kd.YZ (h1:=fun _=>rfl) hv1 n x
    have hG:W.grownBy (((W.alloc o').drewN k).setCell ⟨g2,n.toNat,none⟩ (.int .i64 x)) (some g2):=by
      refine ⟨hgr.os,hgr.tape,hgr.output,Nat.le_trans (show W.heap.size≤(W.heap.push o').size by simp) hgr.size,fun j hj hn=>?_⟩
      rw [hgr.block j (Nat.lt_of_lt_of_le hj (by show W.heap.size≤(W.heap.push o').size;simp)) hn]
      exact Below.heap_alloc W o' j hj
    refine ⟨⟨?_,?_⟩,hG.block b hlt (fun he=>hnb (by injection he with he;exact he.symm)),?_⟩
    · rw [hs1]
      exact hback hG (fun j hj=>by injection hj with hj;exact hj ▸ hki) ⟨_,rfl,hp⟩
    · rw [hs2]
      have Yo:some b ≠ vU.ownBlock:=Kd.GM hU (fun k hk=>hk)
      exact Kd.jP (Kd.lI (Kd.Kt (show (Kd.int .i64).E=[] from rfl) hU) (fun j hj hlt=>hG.block j hlt (fun he=>hnU (by rw [← he,hj])))) (fun j hj he=>Yo (he ▸ hj))
    · exact (Below.refl base W).grown hG (by omega) (fun j hj=>by injection hj with hj;omega)
def MS (k:Nat) (l0:List ByteArray) (a1 a2:ByteArray) (l3:List gY) (a:Int):Option Int:=(gq.f k l0 a1 a2 l3 a).bind (jv.f k l0)
def rowOf (s:St) (o:Int):List Int:=s.cZ.getD (o - 1).toNat []
def MB (s:St) (o n:Int):Prop:=1≤o∧o≤s.cZ.length∧0≤n∧n < (rowOf s o).length
instance (s:St) (o n:Int):Decidable (MB s o n):=inferInstanceAs (Decidable (1≤o∧o≤s.cZ.length∧0≤n∧n < (rowOf s o).length))
def uh (sz:Int→Option Int) (s:St) (op:Int) (a bb cc:Nat) (n:Int):Option (St × Int) :=
    if op=1 then if a < 8 then some ({ bump s with x:=upd s.x a n },0) else none
    else if op=2 then if a < 8∧bb < 8∧cc < 8 then some ({ bump s with x:=upd s.x a (wrap64 (s.x bb+s.x cc)) },0) else none
    else if op=3 then some ({ bump s with pc:=n },0)
    else if op=4 then if a < 8 then if s.x a=0 then some ({ bump s with pc:=n },0) else some (bump s,0) else none
    else if op=5 then if a < 8 then (sz a).bind fun z=>if 0≤z∧z≤1000000 then some ({ bump s with cZ:=s.cZ++[List.replicate z.toNat 0],p:=upd s.p a ((s.cZ.length:Int)+1) },0) else none else none
    else if op=6 then if a < 8 then some ({ bump s with p:=upd s.p a 0 },0) else none
    else if op=7 then if a < 8∧bb < 8 then some ({ bump s with p:=upd s.p a (s.p bb) },0) else none
    else if op=8 then if a < 8∧bb < 8 then if s.p bb=0 then some (bump s,9) else if MB s (s.p bb) n then some ({ bump s with x:=upd s.x a (rd (rowOf s (s.p bb)) n) },0) else none else none
    else if op=9 then if a < 8∧bb < 8 then if s.p a=0 then some (bump s,9) else if MB s (s.p a) n then some ({ bump s with cZ:=s.cZ.set (s.p a - 1).toNat ((rowOf s (s.p a)).set n.toNat (s.x bb)) },0) else none else none
    else if op=10 then if a < 8∧bb < 8 then if s.p bb=0 then some (bump s,9) else if MB s (s.p bb) n then some ({ bump s with p:=upd s.p a (rd (rowOf s (s.p bb)) n) },0) else none else none
    else if op=11 then if a < 8∧bb < 8 then if s.p a=0 then some (bump s,9) else if MB s (s.p a) n then some ({ bump s with cZ:=s.cZ.set (s.p a - 1).toNat ((rowOf s (s.p a)).set n.toNat (s.p bb)) },0) else none else none
    else if op=12 then if a < 8∧bb < 4 then some ({ bump s with p:=upd s.p a (s.g bb) },0) else none
    else if op=13 then if a < 4∧bb < 8 then some ({ bump s with g:=upd s.g a (s.p bb) },0) else none
    else if op=14 then if a < 8 then some ({ bump s with out:=s.out++[s.x a] },0) else none
    else if op=15 then if a < 8∧bb < 8∧cc < 8 then some ({ bump s with x:=upd s.x a (if s.p bb=s.p cc then 1 else 0) },0) else none
    else none
def MI (sz:Int→Option Int) (s:St) (i:gY):Option (St × Int) :=
  if 0≤i.f1∧0≤i.f2∧0≤i.f3∧s.cZ.length≤1000000∧s.out.length≤1000000 then uh sz s i.f0 i.f1.toNat i.f2.toNat i.f3.toNat i.f4 else none
theorem KI (f:Nat→Int) (j:Nat) (u v:Int):upd (upd f j u) j v=upd f j v:=by
  funext i
  unfold upd
  split <;> rfl
theorem mV {base b:Nat} {s s':St} {vO vU:Value} {w w':World} (hb:base≤b) (hlt:b < w.heap.size) (hR:Rows base b s vO vU w) (h1:kD b s' vO vU w') (h2:Ow b w w') (e1:s'.cZ=s.cZ) (e2:s'.out=s.out):uu base b s' w'∧Below base w w' :=
  ⟨⟨hb,vO,vU,h1,hR.ow h2 e1 e2⟩,h2.low hb hlt⟩
section
variable {k b:Nat} {s s':St} {e:Int} {A0 A3:Option Addr} {c0 c3:Nat} {l0:List ByteArray} {a1 a2:ByteArray} {l3:List gY} {W0 w:World}
theorem O4 {vO vU:Value} {a bb cc:Nat} {n:Int} (ha:a < 8) (hbb:bb < 8) (hl1:s.cZ.length≤1000000) (hb:W0.heap.size≤b) (hst:kD b s vO vU w) (hR:Rows W0.heap.size b s vO vU w) (p0 p1 p2 p3:Value) (hF:MB s (s.p bb) n) :
    Calls Tryd.prog 22 #[.pointer (some ⟨b,0,none⟩),.agg #[p0,p1,p2,p3],.agg #[.int .u8 8,.int .u8 a,.int .u8 bb,.int .u8 cc,.int .i64 n]] w fun e' w'=>e'=.returned (.int .i64 0)∧uu W0.heap.size b { bump s with x:=upd s.x a (rd (rowOf s (s.p bb)) n) } w'∧Below W0.heap.size w w':=by
  have hlt:=hst.lt
  obtain ⟨h1,h2,h3,h4⟩:=hF
  refine abv b s vO vU a bb cc n 0 w hst p0 p1 p2 p3 _ fun W hM=>?_
  have Yp:=hR.ow (s':=bump s) hM.ow rfl rfl
  obtain ⟨A,cO,rfl,_,hC⟩:=Kd.Ko Yp.cZ
  refine (XY b (bump s) A cO vU a bb cc n (s.p bb) _ (rowOf s (s.p bb)) ha hbb rfl h1 h2 (by show s.cZ.length≤_;omega) rfl h3 h4 rfl W hM.st hC).mono ?_
  rintro e' w' ⟨rfl,q1,q2⟩
  have q:=mV (s':={ bump s with x:=upd s.x a (rd (rowOf s (s.p bb)) n) }) hb hlt hR q1 (hM.ow.trans q2) rfl rfl
  exact ⟨rfl,q.1,q.2⟩
theorem LU {vO vU:Value} {a bb cc:Nat} {n:Int} (ha:a < 8) (hbb:bb < 8) (hl1:s.cZ.length≤1000000) (hb:W0.heap.size≤b) (hst:kD b s vO vU w) (hR:Rows W0.heap.size b s vO vU w) (p0 p1 p2 p3:Value) (hF:MB s (s.p bb) n) :
    Calls Tryd.prog 22 #[.pointer (some ⟨b,0,none⟩),.agg #[p0,p1,p2,p3],.agg #[.int .u8 10,.int .u8 a,.int .u8 bb,.int .u8 cc,.int .i64 n]] w fun e' w'=>e'=.returned (.int .i64 0)∧uu W0.heap.size b { bump s with p:=upd s.p a (rd (rowOf s (s.p bb)) n) } w'∧Below W0.heap.size w w':=by
  have hlt:=hst.lt
  obtain ⟨h1,h2,h3,h4⟩:=hF
  refine WN b s vO vU a bb cc n 0 w hst p0 p1 p2 p3 _ fun W hM=>?_
  have Yp:=hR.ow (s':=bump s) hM.ow rfl rfl
  obtain ⟨A,cO,rfl,_,hC⟩:=Kd.Ko Yp.cZ
  refine (XZ b (bump s) A cO vU a bb cc n (s.p bb) _ (rowOf s (s.p bb)) ha hbb rfl h1 h2 (by show s.cZ.length≤_;omega) rfl h3 h4 rfl W hM.st hC).mono ?_
  rintro e' w' ⟨rfl,q1,q2⟩
  have q:=mV (s':={ bump s with p:=upd s.p a (rd (rowOf s (s.p bb)) n) }) hb hlt hR q1 (hM.ow.trans q2) rfl rfl
  exact ⟨rfl,q.1,q.2⟩
theorem LQ {vO vU:Value} {a bb cc:Nat} {n:Int} (ha:a < 8) (hbb:bb < 8) (hl1:s.cZ.length≤1000000) (hb:W0.heap.size≤b) (hst:kD b s vO vU w) (hR:Rows W0.heap.size b s vO vU w) (p0 p1 p2 p3:Value) (hF:MB s (s.p a) n) :
    Calls Tryd.prog 22 #[.pointer (some ⟨b,0,none⟩),.agg #[p0,p1,p2,p3],.agg #[.int .u8 9,.int .u8 a,.int .u8 bb,.int .u8 cc,.int .i64 n]] w fun e' w'=>e'=.returned (.int .i64 0)∧uu W0.heap.size b { bump s with cZ:=s.cZ.set (s.p a - 1).toNat ((rowOf s (s.p a)).set n.toNat (s.x bb)) } w'∧Below W0.heap.size w w':=by
  have hlt:=hst.lt
  obtain ⟨h1,h2,h3,h4⟩:=hF
  refine abu b s vO vU a bb cc n 0 w hst p0 p1 p2 p3 _ fun W hM=>?_
  have Yp:=hR.ow (s':=bump s) hM.ow rfl rfl
  obtain ⟨ad,vK,cO,c1,old,rfl,x1,x2,x3,x4⟩:=Yp.ZV hM.st.lt hb (s.p a) n h1 h2 (rowOf s (s.p a)) rfl h3 h4
  refine (Qs b (bump s) ad vK cO c1 _ vU old a bb cc n (s.p a) ha hbb rfl h1 h2 (by show s.cZ.length≤_;omega) h3 h4 W hM.st x1 x2 x3).mono ?_
  rintro e' w' ⟨rfl,m,rfl⟩
  obtain ⟨y1,y2,y3⟩:=x4 (.cells #[.int .u8 9,.int .u8 a,.int .u8 bb,.int .u8 cc,.int .i64 n] 55) m (s.x bb) { bump s with cZ:=s.cZ.set (s.p a - 1).toNat ((rowOf s (s.p a)).set n.toNat (s.x bb)) } rfl rfl
  exact ⟨rfl,⟨hb,_,_,⟨(hM.st.of_block y2).blk⟩,y1⟩,(hM.ow.low hb hlt).trans y3⟩
theorem Gs {vO vU:Value} {a bb cc:Nat} {n:Int} (ha:a < 8) (hbb:bb < 8) (hl1:s.cZ.length≤1000000) (hb:W0.heap.size≤b) (hst:kD b s vO vU w) (hR:Rows W0.heap.size b s vO vU w) (p0 p1 p2 p3:Value) (hF:MB s (s.p a) n) :
    Calls Tryd.prog 22 #[.pointer (some ⟨b,0,none⟩),.agg #[p0,p1,p2,p3],.agg #[.int .u8 11,.int .u8 a,.int .u8 bb,.int .u8 cc,.int .i64 n]] w fun e' w'=>e'=.returned (.int .i64 0)∧uu W0.heap.size b { bump s with cZ:=s.cZ.set (s.p a - 1).toNat ((rowOf s (s.p a)).set n.toNat (s.p bb)) } w'∧Below W0.heap.size w w':=by
  have hlt:=hst.lt
  obtain ⟨h1,h2,h3,h4⟩:=hF
  refine WM b s vO vU a bb cc n 0 w hst p0 p1 p2 p3 _ fun W hM=>?_
  have Yp:=hR.ow (s':=bump s) hM.ow rfl rfl
  obtain ⟨ad,vK,cO,c1,old,rfl,x1,x2,x3,x4⟩:=Yp.ZV hM.st.lt hb (s.p a) n h1 h2 (rowOf s (s.p a)) rfl h3 h4
  refine (Qu b (bump s) ad vK cO c1 _ vU old a bb cc n (s.p a) ha hbb rfl h1 h2 (by show s.cZ.length≤_;omega) h3 h4 W hM.st x1 x2 x3).mono ?_
  rintro e' w' ⟨rfl,m,rfl⟩
  obtain ⟨y1,y2,y3⟩:=x4 (.cells #[.int .u8 11,.int .u8 a,.int .u8 bb,.int .u8 cc,.int .i64 n] 55) m (s.p bb) { bump s with cZ:=s.cZ.set (s.p a - 1).toNat ((rowOf s (s.p a)).set n.toNat (s.p bb)) } rfl rfl
  exact ⟨rfl,⟨hb,_,_,⟨(hM.st.of_block y2).blk⟩,y1⟩,(hM.ow.low hb hlt).trans y3⟩
theorem akp (hB:Below W0.heap.size W0 w) (hr0:Kd.C Kd.string W0 A0 l0.length l0) (hc0:l0.length≤c0) (hr3:Kd.C tu W0 A3 l3.length l3) (hc3:l3.length≤c3) (hM:uu W0.heap.size b s w) (op:Int) (a bb cc:Nat) (n:Int) (g4:s.cZ.length≤1000000) (g5:s.out.length≤1000000) (h:uh (MS k l0 a1 a2 l3) s op a bb cc n=some (s',e)) :
    Calls Tryd.prog 22 #[.pointer (some ⟨b,0,none⟩),.agg #[.slice A0 l0.length c0,.string a1,.string a2,.slice A3 l3.length c3],.agg #[.int .u8 op,.int .u8 a,.int .u8 bb,.int .u8 cc,.int .i64 n]] w fun e' w'=>e'=.returned (.int .i64 e)∧uu W0.heap.size b s' w'∧Below W0.heap.size w w':=by
  obtain ⟨hb,vO,vU,hst,hR⟩:=hM
  have hlt:=hst.lt
  unfold uh at h
  by_cases he:op=1
  · rw [if_pos he] at h
    subst he
    split at h
    case isFalse=>cases h
    obtain ⟨rfl,rfl⟩:=Prod.mk.inj (Option.some.inj h)
    refine (do_1 b s vO vU a bb cc n (by omega) w hst _ _ _ _).mono ?_
    rintro e' w' ⟨rfl,q1,q2⟩
    exact ⟨rfl,mV hb hlt hR q1 q2 rfl rfl⟩
  rw [if_neg he] at h
  clear he
  by_cases he:op=2
  · rw [if_pos he] at h
    subst he
    split at h
    case isFalse=>cases h
    rename_i hx
    obtain ⟨rfl,rfl⟩:=Prod.mk.inj (Option.some.inj h)
    refine (aku b s vO vU a bb cc n (by omega) (by omega) (by omega) w hst _ _ _ _).mono ?_
    rintro e' w' ⟨rfl,q1,q2⟩
    exact ⟨rfl,mV hb hlt hR q1 q2 rfl rfl⟩
  rw [if_neg he] at h
  clear he
  by_cases he:op=3
  · rw [if_pos he] at h
    subst he
    obtain ⟨rfl,rfl⟩:=Prod.mk.inj (Option.some.inj h)
    refine (akt b s vO vU a bb cc n w hst _ _ _ _).mono ?_
    rintro e' w' ⟨rfl,q1,q2⟩
    exact ⟨rfl,mV hb hlt hR q1 q2 rfl rfl⟩
  rw [if_neg he] at h
  clear he
  by_cases he:op=4
  · rw [if_pos he] at h
    subst he
    split at h
    case isFalse=>cases h
    split at h
    · rename_i hz
      obtain ⟨rfl,rfl⟩:=Prod.mk.inj (Option.some.inj h)
      refine (O6 b s vO vU a bb cc n (by omega) hz w hst _ _ _ _).mono ?_
      rintro e' w' ⟨rfl,q1,q2⟩
      exact ⟨rfl,mV hb hlt hR q1 q2 rfl rfl⟩
    · rename_i hz
      obtain ⟨rfl,rfl⟩:=Prod.mk.inj (Option.some.inj h)
      refine (VC b s vO vU a bb cc n (by omega) hz w hst _ _ _ _).mono ?_
      rintro e' w' ⟨rfl,q1,q2⟩
      exact ⟨rfl,mV hb hlt hR q1 q2 rfl rfl⟩
  rw [if_neg he] at h
  clear he
  by_cases he:op=5
  · rw [if_pos he] at h
    subst he
    split at h
    case isFalse=>cases h
    obtain ⟨z,hz,h⟩:=Option.bind_eq_some_iff.1 h
    obtain ⟨t,ht,hz⟩:=Option.bind_eq_some_iff.1 hz
    split at h
    case isFalse=>cases h
    obtain ⟨rfl,rfl⟩:=Prod.mk.inj (Option.some.inj h)
    exact aks k b s vO vU a bb cc n A0 c0 l0 a1 a2 A3 c3 l3 t z (by omega) (by omega) ht hz (by omega) (by omega) W0 w hb hB hr0 hc0 hr3 hc3 hst hR
  rw [if_neg he] at h
  clear he
  by_cases he:op=6
  · rw [if_pos he] at h
    subst he
    split at h
    case isFalse=>cases h
    obtain ⟨rfl,rfl⟩:=Prod.mk.inj (Option.some.inj h)
    refine (akr b s vO vU a bb cc n (by omega) w hst _ _ _ _).mono ?_
    rintro e' w' ⟨rfl,q1,q2⟩
    exact ⟨rfl,mV hb hlt hR q1 q2 rfl rfl⟩
  rw [if_neg he] at h
  clear he
  by_cases he:op=7
  · rw [if_pos he] at h
    subst he
    split at h
    case isFalse=>cases h
    obtain ⟨rfl,rfl⟩:=Prod.mk.inj (Option.some.inj h)
    refine (akq b s vO vU a bb cc n (by omega) (by omega) w hst _ _ _ _).mono ?_
    rintro e' w' ⟨rfl,q1,q2⟩
    exact ⟨rfl,mV hb hlt hR q1 q2 rfl rfl⟩
  rw [if_neg he] at h
  clear he
  by_cases he:op=8
  · rw [if_pos he] at h
    subst he
    split at h
    case isFalse=>cases h
    split at h
    · rename_i hz
      obtain ⟨rfl,rfl⟩:=Prod.mk.inj (Option.some.inj h)
      refine abv b s vO vU a bb cc n 9 w hst _ _ _ _ _ fun W hM=>?_
      refine (Bz b (bump s) vO vU 8 a bb cc n (by omega) hz W hM.st).mono ?_
      rintro e' w' ⟨rfl,q1,q2⟩
      exact ⟨rfl,mV hb hlt hR q1 (hM.ow.trans q2) rfl rfl⟩
    · split at h
      case isFalse=>cases h
      rename_i hF
      obtain ⟨rfl,rfl⟩:=Prod.mk.inj (Option.some.inj h)
      exact O4 (by omega) (by omega) g4 hb hst hR _ _ _ _ hF
  rw [if_neg he] at h
  clear he
  by_cases he:op=9
  · rw [if_pos he] at h
    subst he
    split at h
    case isFalse=>cases h
    split at h
    · rename_i hz
      obtain ⟨rfl,rfl⟩:=Prod.mk.inj (Option.some.inj h)
      refine abu b s vO vU a bb cc n 9 w hst _ _ _ _ _ fun W hM=>?_
      refine (zn b (bump s) vO vU 9 a bb cc n (by omega) hz W hM.st).mono ?_
      rintro e' w' ⟨rfl,q1,q2⟩
      exact ⟨rfl,mV hb hlt hR q1 (hM.ow.trans q2) rfl rfl⟩
    · split at h
      case isFalse=>cases h
      rename_i hF
      obtain ⟨rfl,rfl⟩:=Prod.mk.inj (Option.some.inj h)
      exact LQ (by omega) (by omega) g4 hb hst hR _ _ _ _ hF
  rw [if_neg he] at h
  clear he
  by_cases he:op=10
  · rw [if_pos he] at h
    subst he
    split at h
    case isFalse=>cases h
    split at h
    · rename_i hz
      obtain ⟨rfl,rfl⟩:=Prod.mk.inj (Option.some.inj h)
      refine WN b s vO vU a bb cc n 9 w hst _ _ _ _ _ fun W hM=>?_
      refine (Bz b (bump s) vO vU 10 a bb cc n (by omega) hz W hM.st).mono ?_
      rintro e' w' ⟨rfl,q1,q2⟩
      exact ⟨rfl,mV hb hlt hR q1 (hM.ow.trans q2) rfl rfl⟩
    · split at h
      case isFalse=>cases h
      rename_i hF
      obtain ⟨rfl,rfl⟩:=Prod.mk.inj (Option.some.inj h)
      exact LU (by omega) (by omega) g4 hb hst hR _ _ _ _ hF
  rw [if_neg he] at h
  clear he
  by_cases he:op=11
  · rw [if_pos he] at h
    subst he
    split at h
    case isFalse=>cases h
    split at h
    · rename_i hz
      obtain ⟨rfl,rfl⟩:=Prod.mk.inj (Option.some.inj h)
      refine WM b s vO vU a bb cc n 9 w hst _ _ _ _ _ fun W hM=>?_
      refine (zn b (bump s) vO vU 11 a bb cc n (by omega) hz W hM.st).mono ?_
      rintro e' w' ⟨rfl,q1,q2⟩
      exact ⟨rfl,mV hb hlt hR q1 (hM.ow.trans q2) rfl rfl⟩
    · split at h
      case isFalse=>cases h
      rename_i hF
      obtain ⟨rfl,rfl⟩:=Prod.mk.inj (Option.some.inj h)
      exact Gs (by omega) (by omega) g4 hb hst hR _ _ _ _ hF
  rw [if_neg he] at h
  clear he
  by_cases he:op=12
  · rw [if_pos he] at h
    subst he
    split at h
    case isFalse=>cases h
    obtain ⟨rfl,rfl⟩:=Prod.mk.inj (Option.some.inj h)
    refine (aby b s vO vU a bb cc n (by omega) (by omega) w hst _ _ _ _).mono ?_
    rintro e' w' ⟨rfl,q1,q2⟩
    exact ⟨rfl,mV hb hlt hR q1 q2 rfl rfl⟩
  rw [if_neg he] at h
  clear he
  by_cases he:op=13
  · rw [if_pos he] at h
    subst he
    split at h
    case isFalse=>cases h
    obtain ⟨rfl,rfl⟩:=Prod.mk.inj (Option.some.inj h)
    refine (abx b s vO vU a bb cc n (by omega) (by omega) w hst _ _ _ _).mono ?_
    rintro e' w' ⟨rfl,q1,q2⟩
    exact ⟨rfl,mV hb hlt hR q1 q2 rfl rfl⟩
  rw [if_neg he] at h
  clear he
  by_cases he:op=14
  · rw [if_pos he] at h
    subst he
    split at h
    case isFalse=>cases h
    obtain ⟨rfl,rfl⟩:=Prod.mk.inj (Option.some.inj h)
    exact abw W0.heap.size b s vO vU a bb cc n (by omega) (by omega) hb w hst hR _ _ _ _
  rw [if_neg he] at h
  clear he
  by_cases he:op=15
  · rw [if_pos he] at h
    subst he
    split at h
    case isFalse=>cases h
    obtain ⟨rfl,rfl⟩:=Prod.mk.inj (Option.some.inj h)
    by_cases hz:s.p bb=s.p cc
    · rw [if_pos hz]
      refine (LV b s vO vU a bb cc n (by omega) (by omega) (by omega) hz w hst _ _ _ _).mono ?_
      rintro e' w' ⟨rfl,q1,q2⟩
      rw [KI] at q1
      exact ⟨rfl,mV hb hlt hR q1 q2 rfl rfl⟩
    · rw [if_neg hz]
      refine (O7 b s vO vU a bb cc n (by omega) (by omega) (by omega) hz w hst _ _ _ _).mono ?_
      rintro e' w' ⟨rfl,q1,q2⟩
      exact ⟨rfl,mV hb hlt hR q1 q2 rfl rfl⟩
  rw [if_neg he] at h
  cases h
theorem O5 (hB:Below W0.heap.size W0 w) (hr0:Kd.C Kd.string W0 A0 l0.length l0) (hc0:l0.length≤c0) (hr3:Kd.C tu W0 A3 l3.length l3) (hc3:l3.length≤c3) (hM:uu W0.heap.size b s w) (i:gY) (h:MI (MS k l0 a1 a2 l3) s i=some (s',e)) :
    Calls Tryd.prog 22 #[.pointer (some ⟨b,0,none⟩),.agg #[.slice A0 l0.length c0,.string a1,.string a2,.slice A3 l3.length c3],.agg #[.int .u8 i.f0,.int .u8 i.f1,.int .u8 i.f2,.int .u8 i.f3,.int .i64 i.f4]] w fun e' w'=>e'=.returned (.int .i64 e)∧uu W0.heap.size b s' w'∧Below W0.heap.size w w':=by
  unfold MI at h
  split at h
  case isFalse=>cases h
  rename_i hg
  obtain ⟨g1,g2,g3,g4,g5⟩:=hg
  have:=akp hB hr0 hc0 hr3 hc3 hM i.f0 i.f1.toNat i.f2.toNat i.f3.toNat i.f4 g4 g5 h
  rwa [Int.toNat_of_nonneg g1,Int.toNat_of_nonneg g2,Int.toNat_of_nonneg g3] at this
end
end Go.Proofs.YtlemecdddhdagaaDoor.P
end
section
namespace Go.Proofs.YtlemecdddhdagaaDoor.P
open Go.RowKit Go.Proofs.ag.bH Go.Proofs.ag.dM Go.Proofs.ag.dY
attribute [local go_sem ↓] Go.wp_at_zero Go.wp_at_succ
def P5:St:=⟨fun _=>0,fun _=>0,fun _=>0,[],[],0,0⟩
def zq (sz:Int→Option Int) (code:List gY):Nat→St→Int→Option (List Int × Int)
  | 0,_,_=>none
  | k+1,s,fuel =>
    if s.pc < code.length then
      if 0≤s.pc then (MI sz s (az code s.pc)).bind fun t =>
        if s.out.length≤t.1.out.length then
          if t.2=0 then if fuel=0 then some (t.1.out.take s.out.length,10) else zq sz code k t.1 (wrap64 (fuel - 1))
          else some (t.1.out.take s.out.length,t.2)
        else none
      else none
    else some (s.out,0)
def gz.f (k:Nat) (l0:List ByteArray) (a1 a2:ByteArray) (l3:List gY) (fuel:Int):Option (List Int × Int) :=
  (bz.f k l0 a1 a2 l3).bind fun c=>if c.2=0 then if fuel < 0 then some ([],2) else zq (MS k l0 a1 a2 l3) l3 k P5 fuel else some ([],2)
theorem uu.drew {base b:Nat} {s:St} {w:World} (h:uu base b s w):uu base b s w.drew:=by
  obtain ⟨hb,vO,vU,h1,h2⟩:=h
  exact ⟨hb,vO,vU,h1.of_block rfl,h2.move (fun _ _ _=>rfl) rfl rfl⟩
theorem EN {sz sz':Int→Option Int} (h:∀ a,dK (sz a) (sz' a)) (s:St) (i:gY):dK (MI sz s i) (MI sz' s i):=by
  unfold MI uh
  repeat' first
      | (with_reducible exact dK.refl _)
      | (with_reducible refine dK.ite ?_ ?_)
      | (with_reducible refine dK.bind (h _) (fun _=>?_))
theorem Bi {sz sz':Int→Option Int} (h:∀ a,dK (sz a) (sz' a)) (code:List gY):∀ (k:Nat) (s:St) (fuel:Int),dK (zq sz code k s fuel) (zq sz' code (k+1) s fuel)
  | 0,_,_=>dK.none _
  | k+1,s,fuel=>by
    rw [zq,zq]
    repeat' first
      | (with_reducible exact Bi h code k _ _)
      | (with_reducible exact dK.refl _)
      | (with_reducible refine dK.ite ?_ ?_)
      | (with_reducible refine dK.bind (EN h _ _) (fun _=>?_))
theorem gz.mono (l0:List ByteArray) (a1 a2:ByteArray) (l3:List gY) (fuel:Int) (k:Nat):dK (gz.f k l0 a1 a2 l3 fuel) (gz.f (k+1) l0 a1 a2 l3 fuel):=by
  unfold gz.f
  refine dK.bind (bz.mono _ _ _ _ _) fun c=>dK.ite (dK.ite (dK.refl _) (Bi (fun a=>?_) _ _ _ _)) (dK.refl _)
  exact dK.bind (gq.mono _ _ _ _ _ _) fun t=>jv.mono _ _ _
set_option maxRecDepth 100000 in
set_option maxHeartbeats 3200000 in
theorem gz.calls (k:Nat) (A0:Option Addr) (c0:Nat) (l0:List ByteArray) (a1 a2:ByteArray) (A3:Option Addr) (c3:Nat) (l3:List gY) (fuel:Int) (r1:List Int) (r2:Int) (w:World) (hr0:Kd.C Kd.string w A0 l0.length l0) (hc0:l0.length≤c0) (hr3:Kd.C tu w A3 l3.length l3) (hc3:l3.length≤c3) (kX:Kd.C Kd.string w qo jX.length jX) (h:gz.f k l0 a1 a2 l3 fuel=some (r1,r2)) :
    Calls Tryd.prog 12 #[.agg #[.slice A0 l0.length c0,.string a1,.string a2,.slice A3 l3.length c3],.int .i64 fuel] w fun e w'=>∃ ZB,e=.returned (.tuple #[ZB,.int .i64 r2])∧Kd.R (Kd.int .i64) 2 w' w.heap.size (fun _=>True) ZB r1∧Below w.heap.size w w':=by
  obtain ⟨⟨e1,e2⟩,OC,h1⟩:=Option.bind_eq_some_iff.1 h
  obtain ⟨wb,hwb⟩:∃ wb,w.alloc (.cells #[.slice A0 l0.length c0,.string a1,.string a2,.slice A3 l3.length c3] 25)=wb:=⟨_,rfl⟩
  have hB1:Below w.heap.size w wb:=by rw [← hwb];exact (Below.refl _ w).alloc (Nat.le_refl _) _
  obtain ⟨G,hG⟩:∃ G,w.heap.size=G:=⟨_,rfl⟩
  have hP1:∀ (j:Nat) (v:Value),(#[.slice A0 l0.length c0,.string a1,.string a2,.slice A3 l3.length c3]:Array Value)[j]? = some v→wb.cell? ⟨G,j,none⟩=some v:=by
    intro j v hv
    have e:wb.heap[G]? = some (.cells #[.slice A0 l0.length c0,.string a1,.string a2,.slice A3 l3.length c3] 25 (0,0)):=by rw [← hwb,← hG];exact heap_alloc_new w _
    simp only [World.cell?,e]
    exact hv
  have hs1:G < wb.heap.size:=by rw [← hwb,← hG];simp
  have HH:=ae.mk h1
  have HR0:=ae.mk (Kd.bJ hr0 hB1)
  have HR3:=ae.mk (Kd.bJ hr3 hB1)
  have wo:=ae.mk (Kd.bJ kX hB1)
  have Zb:=ae.mk OC
  have HB1:=ae.mk hB1
  have p0:wb.cell? ⟨G,0,none⟩=some (.slice A0 l0.length c0):=hP1 0 _ rfl
  have p1:wb.cell? ⟨G,1,none⟩=some (.string a1):=hP1 1 _ rfl
  have p2:wb.cell? ⟨G,2,none⟩=some (.string a2):=hP1 2 _ rfl
  have p3:wb.cell? ⟨G,3,none⟩=some (.slice A3 l3.length c3):=hP1 3 _ rfl
  clear h1 h hr0 hr3 kX OC hB1 hP1
  go_enter Tryd.func12,Tryd.ntmps12
  go_upto_region 999 with (fail)
  refine (bz.calls k A0 c0 l0 a1 a2 A3 c3 l3 e1 e2 wb HR0.out hc0 HR3.out hc3 wo.out Zb.out).mono ?_
  rintro e W1 ⟨rfl,hb1⟩
  have q0:W1.cell? ⟨G,0,none⟩=some (.slice A0 l0.length c0):=(World.cell?_of_block (a:=⟨G,0,none⟩) (hb1.block G hs1)).trans p0
  have q1:W1.cell? ⟨G,1,none⟩=some (.string a1):=(World.cell?_of_block (a:=⟨G,1,none⟩) (hb1.block G hs1)).trans p1
  have q2:W1.cell? ⟨G,2,none⟩=some (.string a2):=(World.cell?_of_block (a:=⟨G,2,none⟩) (hb1.block G hs1)).trans p2
  have q3:W1.cell? ⟨G,3,none⟩=some (.slice A3 l3.length c3):=(World.cell?_of_block (a:=⟨G,3,none⟩) (hb1.block G hs1)).trans p3
  replace HR0:=ae.mk (Kd.bJ HR0.out hb1)
  replace HR3:=ae.mk (Kd.bJ HR3.out hb1)
  have hs2:G < W1.heap.size:=Nat.lt_of_lt_of_le hs1 hb1.size
  replace HB1:=ae.mk (show Below w.heap.size w W1 from HB1.out.trans (hb1.mono (by omega)))
  clear hb1 wo Zb p0 p1 p2 p3 hwb hs1
  by_cases he2:e2=0
  case neg =>
    have hb2:(e2 == 0)=false:=beq_eq_false_iff_ne.2 he2
    have hb3:(e2 != 0)=true:=by simp [he2]
    have hb4:decide (e2=0)=false:=decide_eq_false he2
    have qZ:ae (some (([]:List Int),(2:Int))=some (r1,r2)):=⟨(if_neg he2).symm.trans HH.out⟩
    obtain ⟨rfl,rfl⟩:=Prod.mk.inj (Option.some.inj qZ.out)
    clear HH qZ
    go_wp2
    go_ret2
    exact ⟨_,rfl,Kd.Ag _ _ _ _ _,HB1.out⟩
  case pos =>
  replace HH:=ae.mk ((if_pos he2).symm.trans HH.out)
  subst he2
  by_cases hf:fuel < 0
  · have qZ:ae (some (([]:List Int),(2:Int))=some (r1,r2)):=⟨(if_pos hf).symm.trans HH.out⟩
    obtain ⟨rfl,rfl⟩:=Prod.mk.inj (Option.some.inj qZ.out)
    clear HH qZ
    go_wp2
    go_ret2
    exact ⟨_,rfl,Kd.Ag _ _ _ _ _,HB1.out⟩
  have hf':decide (fuel < 0)=false:=decide_eq_false hf
  have qZ:ae (zq (MS k l0 a1 a2 l3) l3 k P5 fuel=some (r1,r2)):=⟨(if_neg hf).symm.trans HH.out⟩
  clear HH hf
  obtain ⟨b,hb⟩:∃ b,W1.heap.size=b:=⟨_,rfl⟩
  obtain ⟨Wz,Wx⟩:∃ Wz,W1.alloc (.cells (cellsS P5 (.slice none 0 0) (.slice none 0 0)) 39)=Wz:=⟨_,rfl⟩
  have hM0:uu W1.heap.size b P5 Wz:=by
    refine ⟨Nat.le_of_eq hb,.slice none 0 0,.slice none 0 0,⟨?_⟩,⟨Kd.WV _ _ _ _ _,Kd.Ag _ _ _ _ _⟩⟩
    rw [← Wx,← hb]
    exact heap_alloc_new W1 _
  have hBz:Below W1.heap.size W1 Wz:=by rw [← Wx];exact (Below.refl _ W1).alloc (Nat.le_refl _) _
  have HMz:=ae.mk hM0
  have HBz:=ae.mk hBz
  clear hM0 hBz
  unfold cellsS P5 at Wx
  go_wp2
  have Q0:=Lib.hid q0
  have Q1:=Lib.hid q1
  have Q2:=Lib.hid q2
  have Q3:=Lib.hid q3
  clear q0 q1 q2 q3 hf' Wx
  have hG2:=hs2
  go_loopg [1] k (fun kq fv wr=>∃ (s:St) (fu:Int),fv=.int .i64 fu∧ae (zq (MS k l0 a1 a2 l3) l3 kq s fu=some (r1,r2))∧ae (uu W1.heap.size b s wr)∧ae (Below W1.heap.size W1 wr))
  case atStart=>exact ⟨_,_,rfl,qZ,HMz,HBz⟩
  case round =>
  clear qZ HMz HBz Wz
  obtain ⟨s,fu,rfl,HH,HM,HB⟩:=hrel
  cases gk with
  | zero=>exact absurd HH.out (by simp [zq])
  | succ gk =>
  have p0:wr.cell? ⟨G,0,none⟩=some (.slice A0 l0.length c0):=(HB.out.cell (p:=⟨G,0,none⟩) hG2).trans Q0.out
  have p1:wr.cell? ⟨G,1,none⟩=some (.string a1):=(HB.out.cell (p:=⟨G,1,none⟩) hG2).trans Q1.out
  have p2:wr.cell? ⟨G,2,none⟩=some (.string a2):=(HB.out.cell (p:=⟨G,2,none⟩) hG2).trans Q2.out
  have p3:wr.cell? ⟨G,3,none⟩=some (.slice A3 l3.length c3):=(HB.out.cell (p:=⟨G,3,none⟩) hG2).trans Q3.out
  have hG3:=Lib.hid hG2
  clear hG2 hs2
  obtain ⟨hlow,vO,vU,hst,OU⟩:=HM.out
  obtain ⟨AU,cU,rfl⟩:=Kd.jy OU.out
  have cpc:wr.cell? ⟨b,22,none⟩=some (.int .i64 s.pc):=hst.cell 22
  have c21:wr.cell? ⟨b,21,none⟩=some (.slice AU s.out.length cU):=hst.cell 21
  have HRW:=Lib.hid OU
  have hH:=HH.out
  rw [zq] at hH
  clear hst OU HH
  by_cases hlt:s.pc < l3.length
  case neg =>
    rw [if_neg hlt] at hH
    obtain ⟨rfl,rfl⟩:=Prod.mk.inj (Option.some.inj hH)
    have hlt':decide (s.pc < (l3.length:Int))=false:=decide_eq_false hlt
    clear hH hlt
    go_wp2
    go_ret2
    refine ⟨_,rfl,?_,HB1.out.trans (HB.out.mono (by have:=hG3.out;omega))⟩
    exact Kd.je (Kd.jP HRW.out.out (fun _ _=>trivial)) (by have:=hG3.out;omega)
  rw [if_pos hlt] at hH
  by_cases hp0:0≤s.pc
  case neg =>
    rw [if_neg hp0] at hH
    cases hH
  rw [if_pos hp0] at hH
  obtain ⟨⟨s5,e5⟩,hD,hH⟩:=Option.bind_eq_some_iff.1 hH
  simp only at hH
  have HD:=ae.mk hD
  clear hD
  split at hH
  case isFalse=>cases hH
  rename_i hlen
  have HH:=ae.mk hH
  have hlen:=Lib.hid hlen
  clear hH
  have hlt':decide (s.pc < (l3.length:Int))=true:=decide_eq_true hlt
  obtain ⟨ad,hA,d0,d1,d2,d3,d4⟩:=xG (Kd.bJ HR3.out HB.out) s.pc hp0 hlt
  subst hA
  have j0:(0≤s.pc)=True:=eq_true hp0
  have j1:(s.pc < (l3.length:Int))=True:=eq_true hlt
  clear hlt hp0
  go_wp2
  refine wp_region_noPanic ?_
  refine qG (n:=9) (S:=fun w'=>w'.cell? ⟨G,0,none⟩=some (.slice A0 l0.length c0)∧w'.cell? ⟨G,1,none⟩=some (.string a1)∧w'.cell? ⟨G,2,none⟩=some (.string a2)∧w'.cell? ⟨G,3,none⟩=some (.slice (some ad) l3.length c3)∧w'.cell? ⟨b,22,none⟩=some (.int .i64 s.pc)∧w'.cell? (ad.add (s.pc.toNat * 5))=some (.int .u8 (az l3 s.pc).f0)∧w'.cell? ⟨(ad.add (s.pc.toNat * 5)).block,(ad.add (s.pc.toNat * 5)).off+1,none⟩=some (.int .u8 (az l3 s.pc).f1)∧w'.cell? ⟨(ad.add (s.pc.toNat * 5)).block,(ad.add (s.pc.toNat * 5)).off+2,none⟩=some (.int .u8 (az l3 s.pc).f2)∧w'.cell? ⟨(ad.add (s.pc.toNat * 5)).block,(ad.add (s.pc.toNat * 5)).off+3,none⟩=some (.int .u8 (az l3 s.pc).f3)∧w'.cell? ⟨(ad.add (s.pc.toNat * 5)).block,(ad.add (s.pc.toNat * 5)).off+4,none⟩=some (.int .i64 (az l3 s.pc).f4)) (ds:=[7,8]) #[false,false,false,false,false,false,false,false,false] (by kernel_rfl) rfl rfl ⟨p0,p1,p2,p3,cpc,d0,d1,d2,d3,d4⟩ (fun hHeld=>?_)
  clear p0 p1 p2 p3 cpc d0 d1 d2 d3 d4 c21
  have Y9:=ae.mk (HM.out.drew)
  have HB2:=ae.mk (show Below W1.heap.size W1 wr.drew from HB.out.drew)
  clear HM HB
  generalize wr.drew=wy at Y9 HB2 hHeld ⊢
  refine kG (i:=0) (N:=some 33) (v:=?_) (a':=?_) #[true,false,false,false,false,false,false,false,false] rfl rfl (by kernel_rfl) (fun _ _ _ h=>h) (Or.inl ⟨by rfl,?_⟩) hHeld ?_ ?_
  rotate_left
  · rintro w' ⟨XV,XN,XM,XL,Gt,YI,YH,YG,YF,YE⟩
    go_simp
    with_reducible rfl
  rotate_left
  · simp only [Act.put,List.setIfInBounds_toArray,List.set_cons_zero,List.set_cons_succ,bY,bZ]
    rfl
  refine gW (i:=1) (N:=some 34) (v:=?_) (a':=?_) #[true,true,false,false,false,false,false,false,false] rfl rfl (by kernel_rfl) (fun _ _ _ h=>h) (Or.inl ⟨by rfl,?_⟩) ?_ ?_
  rotate_left
  · intro w'
    go_simp
    with_reducible rfl
  rotate_left
  · simp only [Act.put,List.setIfInBounds_toArray,List.set_cons_zero,List.set_cons_succ,bY,bZ]
    rfl
  refine kG (i:=2) (N:=some 35) (v:=?_) (a':=?_) #[true,true,true,false,false,false,false,false,false] rfl rfl (by kernel_rfl) (fun _ _ _ h=>h) (Or.inl ⟨by rfl,?_⟩) hHeld ?_ ?_
  rotate_left
  · rintro w' ⟨XV,XN,XM,XL,Gt,YI,YH,YG,YF,YE⟩
    go_simp
    with_reducible rfl
  rotate_left
  · simp only [Act.put,List.setIfInBounds_toArray,List.set_cons_zero,List.set_cons_succ,bY,bZ]
    rfl
  refine gW (i:=3) (N:=some 36) (v:=?_) (a':=?_) #[true,true,true,true,false,false,false,false,false] rfl rfl (by kernel_rfl) (fun _ _ _ h=>h) (Or.inl ⟨by rfl,?_⟩) ?_ ?_
  rotate_left
  · intro w'
    go_simp
    with_reducible rfl
  rotate_left
  · simp only [Act.put,List.setIfInBounds_toArray,List.set_cons_zero,List.set_cons_succ,bY,bZ]
    rfl
  refine kG (i:=4) (N:=some 37) (v:=?_) (a':=?_) #[true,true,true,true,true,false,false,false,false] rfl rfl (by kernel_rfl) (fun _ _ _ h=>h) (Or.inl ⟨by rfl,?_⟩) hHeld ?_ ?_
  rotate_left
  · rintro w' ⟨XV,XN,XM,XL,Gt,YI,YH,YG,YF,YE⟩
    go_simp
    with_reducible rfl
  rotate_left
  · simp only [Act.put,List.setIfInBounds_toArray,List.set_cons_zero,List.set_cons_succ,bY,bZ]
    rfl
  refine gW (i:=5) (N:=some 38) (v:=?_) (a':=?_) #[true,true,true,true,true,true,false,false,false] rfl rfl (by kernel_rfl) (fun _ _ _ h=>h) (Or.inl ⟨by rfl,?_⟩) ?_ ?_
  rotate_left
  · intro w'
    go_simp
    with_reducible rfl
  rotate_left
  · simp only [Act.put,List.setIfInBounds_toArray,List.set_cons_zero,List.set_cons_succ,bY,bZ]
    rfl
  refine kG (i:=6) (N:=some 39) (v:=?_) (a':=?_) #[true,true,true,true,true,true,true,false,false] rfl rfl (by kernel_rfl) (fun _ _ _ h=>h) (Or.inl ⟨by rfl,?_⟩) hHeld ?_ ?_
  rotate_left
  · rintro w' ⟨XV,XN,XM,XL,Gt,YI,YH,YG,YF,YE⟩
    go_simp
    with_reducible rfl
  rotate_left
  · simp only [Act.put,List.setIfInBounds_toArray,List.set_cons_zero,List.set_cons_succ,bY,bZ]
    rfl
  refine zI (i:=7) (N:=some 40) #[true,true,true,true,true,true,true,true,false] rfl rfl (by kernel_rfl) (by decide) (fun K hK=>?_)
  refine pF Tryd.func22 (by kernel_rfl) rfl #[.pointer (some ⟨b,0,none⟩),.agg #[.slice A0 l0.length c0,.string a1,.string a2,.slice (some ad) l3.length c3],.agg #[.int .u8 (az l3 s.pc).f0,.int .u8 (az l3 s.pc).f1,.int .u8 (az l3 s.pc).f2,.int .u8 (az l3 s.pc).f3,.int .i64 (az l3 s.pc).f4]] (by rfl) rfl rfl (by (try simp only [List.map_toArray,List.map_cons,List.map_nil]);rfl) ?_
  refine (O5 HB2.out HR0.out hc0 HR3.out hc3 Y9.out (az l3 s.pc) HD.out).mono ?_
  rintro e w5 ⟨rfl,Yf,hb5⟩
  have HM5:=ae.mk Yf
  have KA:=ae.mk (HB2.out.trans hb5)
  clear Y9 HB2 Yf hb5 hHeld
  refine ⟨_,rfl,?_⟩
  refine hK.out _ _ ?_
  clear hK K
  refine jo (a':=?_) ?_ ?_
  rotate_left
  · show Act.put _ (some 40) _=_
    simp only [Act.put,List.setIfInBounds_toArray,List.set_cons_zero,List.set_cons_succ,bY,bZ]
    rfl
  refine zI (i:=8) (N:=some 10) #[true,true,true,true,true,true,true,true,true] rfl rfl (by kernel_rfl) (by decide) (fun K hK=>?_)
  refine zl (w1:=w5) (v:=.int .i64 e5) (by rfl) rfl (by go_simp) ?_
  refine hK.out _ _ ?_
  clear hK K
  refine jo (a':=?_) ?_ ?_
  rotate_left
  · show Act.put _ (some 10) _=_
    simp only [Act.put,List.setIfInBounds_toArray,List.set_cons_zero,List.set_cons_succ,bY,bZ]
    rfl
  refine ug (by kernel_rfl) ?_
  refine NoPanic.normal ?_
  obtain ⟨aav,Zm,Zl,hst5,tX⟩:=HM5.out
  obtain ⟨AU5,cU5,rfl⟩:=Kd.jy tX.out
  have k21:w5.cell? ⟨b,21,none⟩=some (.slice AU5 s5.out.length cU5):=hst5.cell 21
  have HU5:=Lib.hid tX.out
  have hcap:s5.out.length≤cU5:=(Kd.fK tX.out).2.1
  have hcut:((s.out.length:Int)≤(cU5:Int))=True:=eq_true (by have:=hlen.out;omega)
  have amd:(0≤(s.out.length:Int))=True:=eq_true (by omega)
  clear hst5 tX hcap
  by_cases Oi:e5=0
  case neg =>
    have hb2:(e5 == 0)=false:=beq_eq_false_iff_ne.2 Oi
    have hb3:(e5 != 0)=true:=by simp [Oi]
    have hb4:decide (e5=0)=false:=decide_eq_false Oi
    have qZ:ae (some (s5.out.take s.out.length,e5)=some (r1,r2)):=⟨(if_neg Oi).symm.trans HH.out⟩
    obtain ⟨rfl,rfl⟩:=Prod.mk.inj (Option.some.inj qZ.out)
    clear HH qZ
    go_wp2
    go_ret2
    refine ⟨_,rfl,?_,by have q:=HB1.out.trans (KA.out.mono (show w.heap.size≤W1.heap.size by have:=hG3.out;omega));first|exact q|(rw [hG] at q;exact q)⟩
    exact Kd.je (Kd.jP (Kd.PI HU5.out hlen.out) (fun _ _=>trivial)) (by have:=hG3.out;omega)
  case pos =>
  subst Oi
  have qZ:ae ((if fu=0 then some (s5.out.take s.out.length,(10:Int)) else zq (MS k l0 a1 a2 l3) l3 gk s5 (wrap64 (fu - 1)))=some (r1,r2)):=⟨(if_pos rfl).symm.trans HH.out⟩
  clear HH
  by_cases hfu:fu=0
  case pos =>
    replace qZ:=ae.mk ((if_pos hfu).symm.trans qZ.out)
    subst hfu
    obtain ⟨rfl,rfl⟩:=Prod.mk.inj (Option.some.inj qZ.out)
    clear qZ
    go_wp2
    go_ret2
    refine ⟨_,rfl,?_,by have q:=HB1.out.trans (KA.out.mono (show w.heap.size≤W1.heap.size by have:=hG3.out;omega));first|exact q|(rw [hG] at q;exact q)⟩
    exact Kd.je (Kd.jP (Kd.PI HU5.out hlen.out) (fun _ _=>trivial)) (by have:=hG3.out;omega)
  case neg =>
    replace qZ:=ae.mk ((if_neg hfu).symm.trans qZ.out)
    have hb2:(fu == 0)=false:=beq_eq_false_iff_ne.2 hfu
    go_wp2
    go_roundg gk
    case measure=>omega
    case rel=>exact ⟨s5,_,rfl,qZ,HM5,KA⟩
end Go.Proofs.YtlemecdddhdagaaDoor.P
end
