/- Parts of the proof of ModelRuns: what the functions that it reaches compute, and plain facts about that. -/
import Derived.Test.YtlemecdddhdagaaDoorYad
import Derived.Test.YtlemecdddhdagaaDoorYai
import Derived.Deep.LoopGhost
import Derived.Test.YtlemecdddhdagaaDoorYah
set_option linter.unusedVariables false
set_option linter.unusedSimpArgs false
section
namespace Go.Proofs.YtlemecdddhdagaaDoor.P
open Go.RowKit Go.Proofs.af.bD Go.Proofs.af.dB Go.Proofs.af.dM
attribute [local go_sem ↓] Go.wp_at_zero Go.wp_at_succ
theorem ZZ:(Tryd.prog.info? 28).map (fun i=>(i.zero,i.size,i.bytes))=some (some (.slice none 0 0),1,24):=by kernel_rfl
theorem Mid.below {b:Nat} {s:St} {vO vU:Value} {P I:Array Value} {w W W':World} (h:Mid b s vO vU P I w W) (hb:Below W.heap.size W W'):Mid b s vO vU P I w W':=by
  have hs:=h.size
  refine ⟨h.st.of_block (hb.block b h.st.lt),h.ow.trans (Ow.of_below hb),Nat.le_trans h.size hb.size,h.lt,fun i u hu=>?_,fun i u hu=>?_⟩
  · exact (World.cell?_of_block (a:=⟨w.heap.size,i,none⟩) (hb.block w.heap.size (by omega))).trans (h.prog i u hu)
  · exact (World.cell?_of_block (a:=⟨w.heap.size+1,i,none⟩) (hb.block (w.heap.size+1) (by omega))).trans (h.ins i u hu)
set_option maxRecDepth 100000 in
set_option maxHeartbeats 3200000 in
theorem am4 (k b:Nat) (s:St) (vO vU:Value) (a bb cc:Nat) (n:Int) (A0:Option Addr) (c0:Nat) (l0:List ByteArray) (a1 a2:ByteArray) (A3:Option Addr) (c3:Nat) (l3:List iw) (t z:Int)
    (ha:a < 8) (hlim:(s.aW.length+1) * 24≤140737488355328) (hl:gB.f k l0 a1 a2 l3 a=some t) (hz:jG.f k l0 t=some z) (hz0:0≤z) (hzl:z.toNat * 8≤281474976710656)
    (W0 w:World) (hb:W0.heap.size≤b) (hB:Below W0.heap.size W0 w) (hr0:Kd.C Kd.string W0 A0 l0.length l0) (hc0:l0.length≤c0) (hr3:Kd.C uq W0 A3 l3.length l3) (hc3:l3.length≤c3) (h:lC b s vO vU w) (hR:Rows W0.heap.size b s vO vU w) :
    Calls Tryd.prog 22 #[.pointer (some ⟨b,0,none⟩),.agg #[.slice A0 l0.length c0,.string a1,.string a2,.slice A3 l3.length c3],.agg #[.int .u8 5,.int .u8 a,.int .u8 bb,.int .u8 cc,.int .i64 n]] w fun e w'=>e=.returned (.int .i64 0)∧wJ W0.heap.size b { bump s with aW:=s.aW++[List.replicate z.toNat 0],p:=upd s.p a ((s.aW.length:Int)+1) } w'∧Below W0.heap.size w w':=by
  have hlt:=h.lt
  have hne:b ≠ w.heap.size:=by omega
  have f22:=h.fr 22
  have f23:=h.fr 23
  have qU:w.cell? ⟨b,22,none⟩=some (.int .i64 s.pc):=h.cell 22
  have c23:w.cell? ⟨b,23,none⟩=some (.int .i64 s.steps):=h.cell 23
  have HP:=ae.mk (nK (P:=#[.slice A0 l0.length c0,.string a1,.string a2,.slice A3 l3.length c3]) (I:=#[.int .u8 5,.int .u8 a,.int .u8 bb,.int .u8 cc,.int .i64 n]) h)
  have HR:=ae.mk (hR.ow (s':=bump s) HP.out.ow rfl rfl)
  have HB:=ae.mk (hB.trans (HP.out.ow.low hb hlt))
  have Y9:=Lib.hid (Kd.aeN hR.aW)
  replace hr0:=Lib.hid hr0
  replace hr3:=Lib.hid hr3
  replace hl:=Lib.hid hl
  replace hz:=Lib.hid hz
  clear h hR hB
  go_enter Tryd.func22,Tryd.ntmps22
  go_wp2
  change Code.wp _ _ _ _ (nG b s #[.slice A0 l0.length c0,.string a1,.string a2,.slice A3 l3.length c3] #[.int .u8 5,.int .u8 a,.int .u8 bb,.int .u8 cc,.int .i64 n] w)
  generalize nG b s #[.slice A0 l0.length c0,.string a1,.string a2,.slice A3 l3.length c3] #[.int .u8 5,.int .u8 a,.int .u8 bb,.int .u8 cc,.int .i64 n] w=W at HP HR HB ⊢
  clear f22 f23 qU c23
  have HQ:=ae.mk HP.out.drew
  have HR2:=ae.mk (HR.out.move (w':=W.drew) (s':=bump s) (fun _ _ _=>rfl) rfl rfl)
  have HB2:=ae.mk (show Below W0.heap.size W0 W.drew from HB.out.drew)
  have c20:W.drew.cell? ⟨b,20,none⟩=some vO:=HQ.out.st.cell 20
  have q0:W.drew.cell? ⟨w.heap.size,0,none⟩=some (.slice A0 l0.length c0):=HQ.out.prog 0 _ rfl
  have q1:W.drew.cell? ⟨w.heap.size,1,none⟩=some (.string a1):=HQ.out.prog 1 _ rfl
  have q2:W.drew.cell? ⟨w.heap.size,2,none⟩=some (.string a2):=HQ.out.prog 2 _ rfl
  have q3:W.drew.cell? ⟨w.heap.size,3,none⟩=some (.slice A3 l3.length c3):=HQ.out.prog 3 _ rfl
  have i1:W.drew.cell? ⟨w.heap.size+1,1,none⟩=some (.int .u8 a):=HQ.out.ins 1 _ rfl
  clear HP HR HB
  refine wp_region_noPanic ?_
  refine rf (n:=18) (S:=fun w'=>w'.cell? ⟨b,20,none⟩=some vO∧w'.cell? ⟨w.heap.size,0,none⟩=some (.slice A0 l0.length c0)∧w'.cell? ⟨w.heap.size,1,none⟩=some (.string a1)∧w'.cell? ⟨w.heap.size,2,none⟩=some (.string a2)∧w'.cell? ⟨w.heap.size,3,none⟩=some (.slice A3 l3.length c3)∧w'.cell? ⟨w.heap.size+1,1,none⟩=some (.int .u8 a)) (ds:=[17]) #[false,false,false,false,false,false,false,false,false,false,false,false,false,false,false,false,false,false] (by kernel_rfl) rfl rfl ⟨c20,q0,q1,q2,q3,i1⟩ (fun hHeld=>?_)
  clear c20 q0 q1 q2 q3 i1
  generalize W.drew=W2 at HQ HR2 HB2 hHeld ⊢
  refine iy (i:=0) (N:=some 83) (v:=?_) (a':=?_) #[true,false,false,false,false,false,false,false,false,false,false,false,false,false,false,false,false,false] rfl rfl (by kernel_rfl) (fun _ _ _ h=>h) (Or.inl ⟨by rfl,?_⟩) ?_ ?_
  rotate_left
  · intro w'
    go_simp
    with_reducible rfl
  rotate_left
  · simp only [Act.put,List.setIfInBounds_toArray,List.set_cons_zero,List.set_cons_succ,bW,cu]
    rfl
  refine iy (i:=1) (N:=some 84) (v:=?_) (a':=?_) #[true,true,false,false,false,false,false,false,false,false,false,false,false,false,false,false,false,false] rfl rfl (by kernel_rfl) (fun _ _ _ h=>h) (Or.inl ⟨by rfl,?_⟩) ?_ ?_
  rotate_left
  · intro w'
    go_simp
    with_reducible rfl
  rotate_left
  · simp only [Act.put,List.setIfInBounds_toArray,List.set_cons_zero,List.set_cons_succ,bW,cu]
    rfl
  refine iy (i:=2) (N:=some 85) (v:=?_) (a':=?_) #[true,true,true,false,false,false,false,false,false,false,false,false,false,false,false,false,false,false] rfl rfl (by kernel_rfl) (fun _ _ _ h=>h) (Or.inl ⟨by rfl,?_⟩) ?_ ?_
  rotate_left
  · intro w'
    go_simp
    with_reducible rfl
  rotate_left
  · simp only [Act.put,List.setIfInBounds_toArray,List.set_cons_zero,List.set_cons_succ,bW,cu]
    rfl
  refine iy (i:=3) (N:=some 86) (v:=?_) (a':=?_) #[true,true,true,true,false,false,false,false,false,false,false,false,false,false,false,false,false,false] rfl rfl (by kernel_rfl) (fun _ _ _ h=>h) (Or.inl ⟨by rfl,?_⟩) ?_ ?_
  rotate_left
  · intro w'
    go_simp
    with_reducible rfl
  rotate_left
  · simp only [Act.put,List.setIfInBounds_toArray,List.set_cons_zero,List.set_cons_succ,bW,cu]
    rfl
  refine kU (i:=4) (N:=some 87) (v:=?_) (a':=?_) #[true,true,true,true,true,false,false,false,false,false,false,false,false,false,false,false,false,false] rfl rfl (by kernel_rfl) (fun _ _ _ h=>h) (Or.inl ⟨by rfl,?_⟩) hHeld ?_ ?_
  rotate_left
  · rintro w' ⟨aao,aac,aab,Z9,Z8,aad⟩
    go_simp
    with_reducible rfl
  rotate_left
  · simp only [Act.put,List.setIfInBounds_toArray,List.set_cons_zero,List.set_cons_succ,bW,cu]
    rfl
  refine iy (i:=5) (N:=some 88) (v:=?_) (a':=?_) #[true,true,true,true,true,true,false,false,false,false,false,false,false,false,false,false,false,false] rfl rfl (by kernel_rfl) (fun _ _ _ h=>h) (Or.inl ⟨by rfl,?_⟩) ?_ ?_
  rotate_left
  · intro w'
    go_simp
    with_reducible rfl
  rotate_left
  · simp only [Act.put,List.setIfInBounds_toArray,List.set_cons_zero,List.set_cons_succ,bW,cu]
    rfl
  refine kU (i:=6) (N:=some 89) (v:=?_) (a':=?_) #[true,true,true,true,true,true,true,false,false,false,false,false,false,false,false,false,false,false] rfl rfl (by kernel_rfl) (fun _ _ _ h=>h) (Or.inl ⟨by rfl,?_⟩) hHeld ?_ ?_
  rotate_left
  · rintro w' ⟨aao,aac,aab,Z9,Z8,aad⟩
    go_simp
    with_reducible rfl
  rotate_left
  · simp only [Act.put,List.setIfInBounds_toArray,List.set_cons_zero,List.set_cons_succ,bW,cu]
    rfl
  refine kU (i:=7) (N:=some 90) (v:=?_) (a':=?_) #[true,true,true,true,true,true,true,true,false,false,false,false,false,false,false,false,false,false] rfl rfl (by kernel_rfl) (fun _ _ _ h=>h) (Or.inl ⟨by rfl,?_⟩) hHeld ?_ ?_
  rotate_left
  · rintro w' ⟨aao,aac,aab,Z9,Z8,aad⟩
    go_simp
    with_reducible rfl
  rotate_left
  · simp only [Act.put,List.setIfInBounds_toArray,List.set_cons_zero,List.set_cons_succ,bW,cu]
    rfl
  refine iy (i:=8) (N:=some 91) (v:=?_) (a':=?_) #[true,true,true,true,true,true,true,true,true,false,false,false,false,false,false,false,false,false] rfl rfl (by kernel_rfl) (fun _ _ _ h=>h) (Or.inl ⟨by rfl,?_⟩) ?_ ?_
  rotate_left
  · intro w'
    go_simp
    with_reducible rfl
  rotate_left
  · simp only [Act.put,List.setIfInBounds_toArray,List.set_cons_zero,List.set_cons_succ,bW,cu]
    rfl
  refine kU (i:=9) (N:=some 92) (v:=?_) (a':=?_) #[true,true,true,true,true,true,true,true,true,true,false,false,false,false,false,false,false,false] rfl rfl (by kernel_rfl) (fun _ _ _ h=>h) (Or.inl ⟨by rfl,?_⟩) hHeld ?_ ?_
  rotate_left
  · rintro w' ⟨aao,aac,aab,Z9,Z8,aad⟩
    go_simp
    with_reducible rfl
  rotate_left
  · simp only [Act.put,List.setIfInBounds_toArray,List.set_cons_zero,List.set_cons_succ,bW,cu]
    rfl
  refine o6 (i:=10) (N:=some 93) #[true,true,true,true,true,true,true,true,true,true,true,false,false,false,false,false,false,false] rfl rfl (by kernel_rfl) (by decide) (fun K hK=>?_)
  refine qy Tryd.func36 (by kernel_rfl) rfl #[.agg #[.slice A0 l0.length c0,.string a1,.string a2,.slice A3 l3.length c3],.int .u8 a] (by rfl) rfl rfl (by (try simp only [List.map_toArray,List.map_cons,List.map_nil]);rfl) ?_
  refine (gB.calls k A0 c0 l0 a1 a2 A3 c3 l3 a t W2 (Kd.bJ hr0.out HB2.out) hc0 (Kd.bJ hr3.out HB2.out) hc3 hl.out).mono ?_
  rintro e w3 ⟨rfl,hb3⟩
  refine ⟨_,rfl,?_⟩
  have Y8:=ae.mk (HQ.out.below hb3)
  have HR3:=ae.mk (HR2.out.ow (s':=bump s) (Ow.of_below hb3) rfl rfl)
  have HB3:=ae.mk (HB2.out.trans (hb3.mono HB2.out.size))
  clear HQ HR2 HB2 hb3 hHeld
  refine hK.out _ _ ⟨Y8.out.st.cell 20,Y8.out.prog 0 _ rfl,Y8.out.prog 1 _ rfl,Y8.out.prog 2 _ rfl,Y8.out.prog 3 _ rfl,Y8.out.ins 1 _ rfl⟩ (fun hHeld=>?_)
  clear hK K
  refine ji (a':=?_) ?_ ?_
  rotate_left
  · show Act.put _ (some 93) _=_
    simp only [Act.put,List.setIfInBounds_toArray,List.set_cons_zero,List.set_cons_succ,bW,cu]
    rfl
  refine o6 (i:=11) (N:=some 94) #[true,true,true,true,true,true,true,true,true,true,true,true,false,false,false,false,false,false] rfl rfl (by kernel_rfl) (by decide) (fun K hK=>?_)
  refine qy Tryd.func35 (by kernel_rfl) rfl #[.slice A0 l0.length c0,.int .i64 t] (by rfl) rfl rfl (by (try simp only [List.map_toArray,List.map_cons,List.map_nil]);rfl) ?_
  refine (jG.calls k A0 c0 l0 t z w3 (Kd.bJ hr0.out HB3.out) hc0 hz.out).mono ?_
  rintro e w4 ⟨rfl,hd4⟩
  have hb4:=hd4.below
  refine ⟨_,rfl,?_⟩
  have SE:=ae.mk (Y8.out.below hb4)
  have HR4:=ae.mk (HR3.out.ow (s':=bump s) (Ow.of_below hb4) rfl rfl)
  have HB4:=ae.mk (HB3.out.trans (hb4.mono HB3.out.size))
  clear Y8 HR3 HB3 hb4 hd4 hHeld
  refine hK.out _ _ ⟨SE.out.st.cell 20,SE.out.prog 0 _ rfl,SE.out.prog 1 _ rfl,SE.out.prog 2 _ rfl,SE.out.prog 3 _ rfl,SE.out.ins 1 _ rfl⟩ (fun hHeld=>?_)
  clear hK K
  refine ji (a':=?_) ?_ ?_
  rotate_left
  · show Act.put _ (some 94) _=_
    simp only [Act.put,List.setIfInBounds_toArray,List.set_cons_zero,List.set_cons_succ,bW,cu]
    rfl
  refine o6 (i:=12) (N:=some 95) #[true,true,true,true,true,true,true,true,true,true,true,true,true,false,false,false,false,false] rfl rfl (by kernel_rfl) (by decide) (fun K hK=>?_)
  obtain ⟨n4,hn4⟩:∃ n4,n4=w4.heap.size:=⟨_,rfl⟩
  refine Kd.G9 (Kd.int .i64) (w0:=w4) w4.heap.size 2 (by rfl) rfl 28 (.tmp 94) (.tmp 94) rfl z rfl rfl (by kernel_rfl) (.int .i64 0) 8 Dp rfl (by decide) (by decide) 0 (ok:=fun k=>w4.heap.size≤k) (oQ:=fun _=>False) rfl (fun _ hk=>hk.elim) (Nat.le_refl _) hz0 hzl (Below.refl _ _) (Nat.le_refl _) ?_
  intro v1 w5 hM5 hb5 hg5 amG
  obtain ⟨A5,c5,e5⟩:=Kd.jR hM5
  obtain ⟨m5,hm5⟩:∃ m,m=(List.replicate z.toNat (0:Int)).length:=⟨_,rfl⟩
  rw [← hm5] at e5
  subst e5
  have Ci:=ae.mk (SE.out.below hb5)
  have Hu:=ae.mk (HR4.out.ow (s':=bump s) (Ow.of_below hb5) rfl rfl)
  have zZ:=ae.mk (HB4.out.trans (hb5.mono HB4.out.size))
  have zY:=ae.mk (Kd.EX (ok':=fun k=>(k ≠ b∧some k ≠ vU.ownBlock)∧¬ w4.heap.size≤k) (Kd.Jd (Kd.MW HR4.out.aW) (fun k hk hlt=>hb5.block k hlt)) (fun k hk=>⟨hk.1,by have:=hk.2.2.1;omega⟩))
  have Za:=Lib.hid (Kd.jS hM5 (show W0.heap.size≤w4.heap.size by have:=SE.out.st.lt;omega))
  have ads:=Kd.aeN HR4.out.aW
  have hUlt:=Kd.Jf HR4.out.out
  have ao3:=SE.out.st.lt
  have aqH:=hb5.size
  clear SE HR4 HB4 hM5 hb5 hg5 amG hHeld
  refine hK.out _ _ ⟨Ci.out.st.cell 20,Ci.out.prog 0 _ rfl,Ci.out.prog 1 _ rfl,Ci.out.prog 2 _ rfl,Ci.out.prog 3 _ rfl,Ci.out.ins 1 _ rfl⟩ (fun hHeld=>?_)
  clear hK K
  refine ji (a':=?_) ?_ ?_
  rotate_left
  · show Act.put _ (some 95) _=_
    simp only [Act.put,List.setIfInBounds_toArray,List.set_cons_zero,List.set_cons_succ,bW,cu]
    rfl
  refine o6 (i:=13) (N:=some 96) #[true,true,true,true,true,true,true,true,true,true,true,true,true,true,false,false,false,false] rfl rfl (by kernel_rfl) (by decide) (fun K hK=>?_)
  refine tZ (w1:=w5.alloc (.cells #[.slice A5 m5 c5] 28)) (v:=.slice (some ⟨w5.heap.size,0,none⟩) 1 1) (by rfl) rfl ?_ ?_
  · go_simp
  have HQ6:=Ci.out.below ((Below.refl w5.heap.size w5).alloc (Nat.le_refl _) (.cells #[.slice A5 m5 c5] 28))
  refine hK.out _ _ ⟨HQ6.st.cell 20,HQ6.prog 0 _ rfl,HQ6.prog 1 _ rfl,HQ6.prog 2 _ rfl,HQ6.prog 3 _ rfl,HQ6.ins 1 _ rfl⟩ (fun hHeld=>?_)
  clear HQ6
  clear hK K
  refine ji (a':=?_) ?_ ?_
  rotate_left
  · show Act.put _ (some 96) _=_
    simp only [Act.put,List.setIfInBounds_toArray,List.set_cons_zero,List.set_cons_succ,bW,cu]
    rfl
  refine o6 (i:=14) (N:=some 97) #[true,true,true,true,true,true,true,true,true,true,true,true,true,true,true,false,false,false] rfl rfl (by kernel_rfl) (by decide) (fun K hK=>?_)
  refine Kd.Ce uJ (w0:=w5) W0.heap.size (by rfl) (.tmp 87) (.tmp 96) 37 28 (.slice none 0 0) 24 rfl (by kernel_rfl) ZZ rfl (by decide) (by decide) vO s.aW (List.replicate z.toNat 0) [.slice A5 m5 c5] (fun k=>k ≠ b∧some k ≠ vU.ownBlock) (fun k=>w4.heap.size≤k) rfl rfl ⟨_,rfl,Za.out⟩ (fun k hk=>⟨⟨by omega,fun he=>by have:=hUlt k he.symm;omega⟩,fun he=>by have:=ads k he.symm;omega⟩) (fun k hk=>⟨by omega,fun he=>by have:=hUlt k he.symm;omega⟩) zY.out (Below.refl _ _) (by omega) hlim ?_
  intro BP w6 hS6 hb6 OW XE
  obtain ⟨A6,c6,e6⟩:=Kd.X3 hS6
  rw [List.length_append,List.length_singleton] at e6
  subst e6
  have hUa:=Hu.out.apart
  have hUb:=Hu.out.abU
  have hOb:=Hu.out.al2
  have ado:=Ci.out.st.lt
  have hsz5:=Ci.out.size
  have eb:w6.heap[b]? = w5.heap[b]?:=OW.block b ado hOb
  have ep:w6.heap[w.heap.size]? = w5.heap[w.heap.size]?:=OW.block _ (by omega) (fun he=>by have:=Y9.out _ he.symm;omega)
  have ei:w6.heap[w.heap.size+1]? = w5.heap[w.heap.size+1]?:=OW.block _ (by omega) (fun he=>by have:=Y9.out _ he.symm;omega)
  have HU6:Kd.R (Kd.int .i64) 2 w6 W0.heap.size (fun k=>k ≠ b) vU s.out:=Kd.kS (Kd.kL (Kd.MZ (show (Kd.int .i64).E=[] from rfl) Hu.out.out) (fun k hk hlt=>OW.block k hlt (hUa k hk.symm))) (fun k hk he=>hUb (he ▸ hk))
  have Yh:=Ci.out.st.of_block eb
  have d20:w6.cell? ⟨b,20,none⟩=some vO:=Yh.cell 20
  have f20:w6.frozen? ⟨b,20,none⟩=false:=Yh.fr 20
  have dp0:w6.cell? ⟨w.heap.size,0,none⟩=some (.slice A0 l0.length c0):=(World.cell?_of_block ep).trans (Ci.out.prog 0 _ rfl)
  have dp1:w6.cell? ⟨w.heap.size,1,none⟩=some (.string a1):=(World.cell?_of_block ep).trans (Ci.out.prog 1 _ rfl)
  have dp2:w6.cell? ⟨w.heap.size,2,none⟩=some (.string a2):=(World.cell?_of_block ep).trans (Ci.out.prog 2 _ rfl)
  have dp3:w6.cell? ⟨w.heap.size,3,none⟩=some (.slice A3 l3.length c3):=(World.cell?_of_block ep).trans (Ci.out.prog 3 _ rfl)
  have di:w6.cell? ⟨w.heap.size+1,1,none⟩=some (.int .u8 a):=(World.cell?_of_block ei).trans (Ci.out.ins 1 _ rfl)
  have HE:=Lib.hid (show lC b { bump s with aW:=s.aW++[List.replicate z.toNat 0] } (.slice A6 (s.aW.length+1) c6) vU (w6.setCell ⟨b,20,none⟩ (.slice A6 (s.aW.length+1) c6)) from Yh.PQ _ _)
  have HF:=Lib.hid (show Rows W0.heap.size b { bump s with aW:=s.aW++[List.replicate z.toNat 0] } (.slice A6 (s.aW.length+1) c6) vU w6 from ⟨hS6,HU6⟩)
  have HBb:=Lib.hid (show Below W0.heap.size w w6 from (Ci.out.ow.low hb hlt).grown OW (by omega) (Kd.aaT Hu.out.aW))
  have aqB:=OW.size
  have HD:=Lib.hid di
  clear hUa hUb hOb eb ep ei Yh Ci Hu zZ zY Za hS6 hb6 OW XE HU6 hHeld ads hUlt
  refine hK.out _ _ ⟨d20,dp0,dp1,dp2,dp3,di⟩ (fun hHeld=>?_)
  clear hK K
  refine ji (a':=?_) ?_ ?_
  rotate_left
  · show Act.put _ (some 97) _=_
    simp only [Act.put,List.setIfInBounds_toArray,List.set_cons_zero,List.set_cons_succ,bW,cu]
    rfl
  refine iy (i:=15) (N:=some 98) (v:=?_) (a':=?_) #[true,true,true,true,true,true,true,true,true,true,true,true,true,true,true,true,false,false] rfl rfl (by kernel_rfl) (fun _ _ _ h=>h) (Or.inl ⟨by rfl,?_⟩) ?_ ?_
  rotate_left
  · intro w'
    go_simp
    with_reducible rfl
  rotate_left
  · simp only [Act.put,List.setIfInBounds_toArray,List.set_cons_zero,List.set_cons_succ,bW,cu]
    rfl
  refine iy (i:=16) (N:=some 99) (v:=?_) (a':=?_) #[true,true,true,true,true,true,true,true,true,true,true,true,true,true,true,true,true,false] rfl rfl (by kernel_rfl) (fun _ _ _ h=>h) (Or.inl ⟨by rfl,?_⟩) ?_ ?_
  rotate_left
  · intro w'
    go_simp
    with_reducible rfl
  rotate_left
  · simp only [Act.put,List.setIfInBounds_toArray,List.set_cons_zero,List.set_cons_succ,bW,cu]
    rfl
  refine Dk (i:=17) (N:=none) #[true,true,true,true,true,true,true,true,true,true,true,true,true,true,true,true,true,true] rfl rfl (by kernel_rfl) (by decide) (fun K hK=>?_)
  refine FB (w1:=w6.setCell ⟨b,20,none⟩ (.slice A6 (s.aW.length+1) c6)) (by rfl) rfl ?_ ?_
  · go_simp
  refine hK.out _ _ ?_
  clear hK K
  refine uQ (by kernel_rfl) ?_
  refine NoPanic.normal ?_
  clear hHeld d20 f20 dp0 dp1 dp2 dp3 di
  have j1:(w6.setCell ⟨b,20,none⟩ (.slice A6 (s.aW.length+1) c6)).cell? ⟨w.heap.size+1,1,none⟩=some (.int .u8 a):=(World.cell?_of_block (Below.heap_setCell _ _ _ _ (by show w.heap.size+1 ≠ b;omega))).trans HD.out
  have HF7:=Lib.hid (HF.out.set (s':={ bump s with aW:=s.aW++[List.replicate z.toNat 0] }) 20 (.slice A6 (s.aW.length+1) c6) rfl rfl)
  have Ff:=Lib.hid (HBb.out.setCell (p:=⟨b,20,none⟩) hb (.slice A6 (s.aW.length+1) c6))
  clear HF HBb HD
  generalize w6.setCell ⟨b,20,none⟩ (.slice A6 (s.aW.length+1) c6)=w7 at HE HF7 Ff j1 ⊢
  have hai:(a:Int) < 8:=by omega
  have e20:w7.cell? ⟨b,20,none⟩=some (.slice A6 (s.aW.length+1) c6):=HE.out.cell 20
  go_wp2
  go_still_tail 11,(by kernel_rfl)
  change wpList _ _ _ _ _ w7.drew
  have HE8:=Lib.hid (show lC b _ _ _ w7.drew from HE.out.of_block rfl)
  have HF8:=Lib.hid (HF7.out.move (w':=w7.drew) (s':={ bump s with aW:=s.aW++[List.replicate z.toNat 0] }) (fun _ _ _=>rfl) rfl rfl)
  have RY:=Lib.hid (show Below W0.heap.size w w7.drew from Ff.out.drew)
  clear HE HF7 Ff e20 j1
  generalize w7.drew=w8 at HE8 HF8 RY ⊢
  have fs:=HE8.out.fr (8+a)
  have cs:=HE8.out.mD a ha
  go_wp2
  go_ret
  exact ⟨rfl,⟨hb,_,_,HE8.out.FU a ha _,HF8.out.set _ _ rfl rfl⟩,RY.out.setCell (p:=⟨b,8+a,none⟩) hb _⟩
end Go.Proofs.YtlemecdddhdagaaDoor.P
end
section
namespace Go.Proofs.YtlemecdddhdagaaDoor.P
open Go.RowKit Go.Proofs.af.bD Go.Proofs.af.dB Go.Proofs.af.dM
attribute [local go_sem ↓] Go.wp_at_zero Go.wp_at_succ
set_option maxRecDepth 100000 in
set_option maxHeartbeats 3200000 in
theorem adJ (b:Nat) (s:St) (vO vU:Value) (a bb cc:Nat) (n r:Int) (w:World) (h:lC b s vO vU w) (p0 p1 p2 p3:Value) (Q:World→Prop)
    (hc:∀ W,Mid b (bump s) vO vU #[p0,p1,p2,p3] #[.int .u8 8,.int .u8 a,.int .u8 bb,.int .u8 cc,.int .i64 n] w W→Calls Tryd.prog 37 #[.pointer (some ⟨b,0,none⟩),.agg #[.int .u8 8,.int .u8 a,.int .u8 bb,.int .u8 cc,.int .i64 n]] W fun e w'=>e=.returned (.int .i64 r)∧Q w') :
    Calls Tryd.prog 22 #[.pointer (some ⟨b,0,none⟩),.agg #[p0,p1,p2,p3],.agg #[.int .u8 8,.int .u8 a,.int .u8 bb,.int .u8 cc,.int .i64 n]] w fun e w'=>e=.returned (.int .i64 r)∧Q w':=by
  have hlt:=h.lt
  have hne:b ≠ w.heap.size:=by omega
  have f22:=h.fr 22
  have f23:=h.fr 23
  have qU:w.cell? ⟨b,22,none⟩=some (.int .i64 s.pc):=h.cell 22
  have c23:w.cell? ⟨b,23,none⟩=some (.int .i64 s.steps):=h.cell 23
  have HP:=ae.mk (nK (P:=#[p0,p1,p2,p3]) (I:=#[.int .u8 8,.int .u8 a,.int .u8 bb,.int .u8 cc,.int .i64 n]) h)
  replace hc:=Lib.hid hc
  clear h
  go_enter Tryd.func22,Tryd.ntmps22
  go_upto_region 999 with (fail)
  refine (hc.out (nG b s #[p0,p1,p2,p3] #[.int .u8 8,.int .u8 a,.int .u8 bb,.int .u8 cc,.int .i64 n] w) HP.out).mono ?_
  rintro e w' ⟨rfl,hq⟩
  replace hq:=Lib.hid hq
  clear f22 f23 qU c23 hc HP
  go_wp2
  go_ret
  exact ⟨rfl,hq.out⟩
set_option maxRecDepth 100000 in
set_option maxHeartbeats 3200000 in
theorem YX (b:Nat) (s:St) (vO vU:Value) (a bb cc:Nat) (n r:Int) (w:World) (h:lC b s vO vU w) (p0 p1 p2 p3:Value) (Q:World→Prop)
    (hc:∀ W,Mid b (bump s) vO vU #[p0,p1,p2,p3] #[.int .u8 10,.int .u8 a,.int .u8 bb,.int .u8 cc,.int .i64 n] w W→Calls Tryd.prog 37 #[.pointer (some ⟨b,0,none⟩),.agg #[.int .u8 10,.int .u8 a,.int .u8 bb,.int .u8 cc,.int .i64 n]] W fun e w'=>e=.returned (.int .i64 r)∧Q w') :
    Calls Tryd.prog 22 #[.pointer (some ⟨b,0,none⟩),.agg #[p0,p1,p2,p3],.agg #[.int .u8 10,.int .u8 a,.int .u8 bb,.int .u8 cc,.int .i64 n]] w fun e w'=>e=.returned (.int .i64 r)∧Q w':=by
  have hlt:=h.lt
  have hne:b ≠ w.heap.size:=by omega
  have f22:=h.fr 22
  have f23:=h.fr 23
  have qU:w.cell? ⟨b,22,none⟩=some (.int .i64 s.pc):=h.cell 22
  have c23:w.cell? ⟨b,23,none⟩=some (.int .i64 s.steps):=h.cell 23
  have HP:=ae.mk (nK (P:=#[p0,p1,p2,p3]) (I:=#[.int .u8 10,.int .u8 a,.int .u8 bb,.int .u8 cc,.int .i64 n]) h)
  replace hc:=Lib.hid hc
  clear h
  go_enter Tryd.func22,Tryd.ntmps22
  go_upto_region 999 with (fail)
  refine (hc.out (nG b s #[p0,p1,p2,p3] #[.int .u8 10,.int .u8 a,.int .u8 bb,.int .u8 cc,.int .i64 n] w) HP.out).mono ?_
  rintro e w' ⟨rfl,hq⟩
  replace hq:=Lib.hid hq
  clear f22 f23 qU c23 hc HP
  go_wp2
  go_ret
  exact ⟨rfl,hq.out⟩
set_option maxRecDepth 100000 in
set_option maxHeartbeats 3200000 in
theorem adI (b:Nat) (s:St) (vO vU:Value) (a bb cc:Nat) (n r:Int) (w:World) (h:lC b s vO vU w) (p0 p1 p2 p3:Value) (Q:World→Prop)
    (hc:∀ W,Mid b (bump s) vO vU #[p0,p1,p2,p3] #[.int .u8 9,.int .u8 a,.int .u8 bb,.int .u8 cc,.int .i64 n] w W→Calls Tryd.prog 38 #[.pointer (some ⟨b,0,none⟩),.agg #[.int .u8 9,.int .u8 a,.int .u8 bb,.int .u8 cc,.int .i64 n]] W fun e w'=>e=.returned (.int .i64 r)∧Q w') :
    Calls Tryd.prog 22 #[.pointer (some ⟨b,0,none⟩),.agg #[p0,p1,p2,p3],.agg #[.int .u8 9,.int .u8 a,.int .u8 bb,.int .u8 cc,.int .i64 n]] w fun e w'=>e=.returned (.int .i64 r)∧Q w':=by
  have hlt:=h.lt
  have hne:b ≠ w.heap.size:=by omega
  have f22:=h.fr 22
  have f23:=h.fr 23
  have qU:w.cell? ⟨b,22,none⟩=some (.int .i64 s.pc):=h.cell 22
  have c23:w.cell? ⟨b,23,none⟩=some (.int .i64 s.steps):=h.cell 23
  have HP:=ae.mk (nK (P:=#[p0,p1,p2,p3]) (I:=#[.int .u8 9,.int .u8 a,.int .u8 bb,.int .u8 cc,.int .i64 n]) h)
  replace hc:=Lib.hid hc
  clear h
  go_enter Tryd.func22,Tryd.ntmps22
  go_upto_region 999 with (fail)
  refine (hc.out (nG b s #[p0,p1,p2,p3] #[.int .u8 9,.int .u8 a,.int .u8 bb,.int .u8 cc,.int .i64 n] w) HP.out).mono ?_
  rintro e w' ⟨rfl,hq⟩
  replace hq:=Lib.hid hq
  clear f22 f23 qU c23 hc HP
  go_wp2
  go_ret
  exact ⟨rfl,hq.out⟩
set_option maxRecDepth 100000 in
set_option maxHeartbeats 3200000 in
theorem YW (b:Nat) (s:St) (vO vU:Value) (a bb cc:Nat) (n r:Int) (w:World) (h:lC b s vO vU w) (p0 p1 p2 p3:Value) (Q:World→Prop)
    (hc:∀ W,Mid b (bump s) vO vU #[p0,p1,p2,p3] #[.int .u8 11,.int .u8 a,.int .u8 bb,.int .u8 cc,.int .i64 n] w W→Calls Tryd.prog 38 #[.pointer (some ⟨b,0,none⟩),.agg #[.int .u8 11,.int .u8 a,.int .u8 bb,.int .u8 cc,.int .i64 n]] W fun e w'=>e=.returned (.int .i64 r)∧Q w') :
    Calls Tryd.prog 22 #[.pointer (some ⟨b,0,none⟩),.agg #[p0,p1,p2,p3],.agg #[.int .u8 11,.int .u8 a,.int .u8 bb,.int .u8 cc,.int .i64 n]] w fun e w'=>e=.returned (.int .i64 r)∧Q w':=by
  have hlt:=h.lt
  have hne:b ≠ w.heap.size:=by omega
  have f22:=h.fr 22
  have f23:=h.fr 23
  have qU:w.cell? ⟨b,22,none⟩=some (.int .i64 s.pc):=h.cell 22
  have c23:w.cell? ⟨b,23,none⟩=some (.int .i64 s.steps):=h.cell 23
  have HP:=ae.mk (nK (P:=#[p0,p1,p2,p3]) (I:=#[.int .u8 11,.int .u8 a,.int .u8 bb,.int .u8 cc,.int .i64 n]) h)
  replace hc:=Lib.hid hc
  clear h
  go_enter Tryd.func22,Tryd.ntmps22
  go_upto_region 999 with (fail)
  refine (hc.out (nG b s #[p0,p1,p2,p3] #[.int .u8 11,.int .u8 a,.int .u8 bb,.int .u8 cc,.int .i64 n] w) HP.out).mono ?_
  rintro e w' ⟨rfl,hq⟩
  replace hq:=Lib.hid hq
  clear f22 f23 qU c23 hc HP
  go_wp2
  go_ret
  exact ⟨rfl,hq.out⟩
end Go.Proofs.YtlemecdddhdagaaDoor.P
end
section
namespace Go.Proofs.YtlemecdddhdagaaDoor.P
open Go.RowKit Go.Proofs.af.bD Go.Proofs.af.dB Go.Proofs.af.dM
attribute [local go_sem ↓] Go.wp_at_zero Go.wp_at_succ
set_option maxRecDepth 100000 in
set_option maxHeartbeats 3200000 in
theorem Af (b:Nat) (s:St) (vO vU:Value) (op a bb cc:Nat) (n:Int) (ha:a < 8) (hz:s.p a=0) (w:World) (h:lC b s vO vU w) :
    Calls Tryd.prog 38 #[.pointer (some ⟨b,0,none⟩),.agg #[.int .u8 op,.int .u8 a,.int .u8 bb,.int .u8 cc,.int .i64 n]] w fun e w'=>e=.returned (.int .i64 9)∧lC b s vO vU w'∧Ow b w w':=by
  have hlt:=h.lt
  have hai:(a:Int) < 8:=by omega
  have HP:=ae.mk (vJ (I:=#[.int .u8 op,.int .u8 a,.int .u8 bb,.int .u8 cc,.int .i64 n]) h)
  clear h
  go_enter Tryd.func38,Tryd.ntmps38
  go_wp2
  generalize w.alloc (.cells #[.int .u8 op,.int .u8 a,.int .u8 bb,.int .u8 cc,.int .i64 n] 55)=W at HP ⊢
  have i1:W.cell? ⟨w.heap.size,1,none⟩=some (.int .u8 a):=HP.out.ins 1 _ rfl
  have ca:W.cell? ⟨b,8+a,none⟩=some (.int .i64 0):=by rw [HP.out.st.mD a ha,hz]
  clear hz
  go_quiet (fail)
  rename_i nq
  have HQ:=ae.mk (HP.out.drewN nq)
  clear HP ca i1
  generalize W.drewN nq=W2 at HQ ⊢
  go_wp2
  go_ret
  exact ⟨rfl,HQ.out.st,HQ.out.ow⟩
theorem Rows.ab6 {base b:Nat} {s:St} {vO vU:Value} {W:World} (hR:Rows base b s vO vU W) (hlt:b < W.heap.size) (hb:base≤b) (o n:Int) (ho1:1≤o) (ho2:o≤s.aW.length) (row:List Int) (hrow:s.aW.getD (o - 1).toNat []=row) (hn0:0≤n) (hn1:n < row.length) :
    ∃ ad sW cO c1 old,vO=.slice (some ad) s.aW.length cO∧W.cell? (ad.add (o.toNat - 1))=some (.slice (some sW) row.length c1)∧W.cell? (sW.add n.toNat)=some old∧W.frozen? (sW.add n.toNat)=false ∧
      ∀ (o':Obj) (k:Nat) (v:Int) (s':St),s'.aW=s.aW.set (o - 1).toNat (row.set n.toNat v)→s'.out=s.out →
        Rows base b s' vO vU (((W.alloc o').drewN k).setCell (sW.add n.toNat) (.int .i64 v))∧(((W.alloc o').drewN k).setCell (sW.add n.toNat) (.int .i64 v)).heap[b]? = W.heap[b]?∧Below base W (((W.alloc o').drewN k).setCell (sW.add n.toNat) (.int .i64 v)):=by
  obtain ⟨hS,hU⟩:=hR
  obtain ⟨g,cO,rfl,hg1,hg2,_⟩:=Kd.aaS hS (by omega)
  obtain ⟨yf,c,hcl,hM,hcc,Ui,hback⟩:=Kd.Rw hS ([]:List Int) (o - 1) (by omega) (by omega)
  rw [hrow] at hM
  obtain ⟨v,rfl,hv⟩:=hM
  obtain ⟨g2,c1,rfl,hg3,hg4,_⟩:=Kd.BA hv (by omega)
  obtain ⟨e1,e2⟩:=Kd.E5 (h1:=fun _=>rfl) (0:Int) hv n hn0 hn1
  have hki:yf g2:=hv.1 g2 (by simp [Value.ownBlock])
  obtain ⟨⟨hnb,hnU⟩,hnO⟩:=Ui g2 hki
  have ea:(⟨g2,0,none⟩:Addr).add n.toNat=⟨g2,n.toNat,none⟩:=by rw [Rq,Nat.zero_add]
  refine ⟨⟨g,0,none⟩,⟨g2,0,none⟩,cO,c1,_,rfl,?_,by rw [ea];exact e1,by rw [ea];exact e2,fun o' k x s' hs1 hs2=>?_⟩
  · have:=hcc 0 _ rfl
    rw [show (o - 1).toNat * uJ.sz+0=o.toNat - 1 by show (o - 1).toNat * 1+0=_;omega] at this
    exact this
  · rw [ea]
    have hv1:(Kd.int .i64).R 2 ((W.alloc o').drewN k) base yf (.slice (some ⟨g2,0,none⟩) row.length c1) row:=Kd.kL hv (fun j _ hj=>Below.heap_alloc W o' j hj)
    obtain ⟨hp,hgr⟩:=Kd.aaV (h1:=fun _=>rfl) hv1 n x
    have hG:W.grownBy (((W.alloc o').drewN k).setCell ⟨g2,n.toNat,none⟩ (.int .i64 x)) (some g2):=by
      refine ⟨hgr.os,hgr.tape,hgr.output,Nat.le_trans (show W.heap.size≤(W.heap.push o').size by simp) hgr.size,fun j hj hn=>?_⟩
      rw [hgr.block j (Nat.lt_of_lt_of_le hj (by show W.heap.size≤(W.heap.push o').size;simp)) hn]
      exact Below.heap_alloc W o' j hj
    refine ⟨⟨?_,?_⟩,hG.block b hlt (fun he=>hnb (by injection he with he;exact he.symm)),?_⟩
    · rw [hs1]
      exact hback hG (fun j hj=>by injection hj with hj;exact hj ▸ hki) ⟨_,rfl,hp⟩
    · rw [hs2]
      have hUb:some b ≠ vU.ownBlock:=Kd.Jh hU (fun k hk=>hk)
      exact Kd.kS (Kd.kL (Kd.MZ (show (Kd.int .i64).E=[] from rfl) hU) (fun j hj hlt=>hG.block j hlt (fun he=>hnU (by rw [← he,hj])))) (fun j hj he=>hUb (he ▸ hj))
    · exact (Below.refl base W).grown hG (by omega) (fun j hj=>by injection hj with hj;omega)
def ND (k:Nat) (l0:List ByteArray) (a1 a2:ByteArray) (l3:List iw) (a:Int):Option Int:=(gB.f k l0 a1 a2 l3 a).bind (jG.f k l0)
def rowOf (s:St) (o:Int):List Int:=s.aW.getD (o - 1).toNat []
def BI (s:St) (o n:Int):Prop:=1≤o∧o≤s.aW.length∧0≤n∧n < (rowOf s o).length
instance (s:St) (o n:Int):Decidable (BI s o n):=inferInstanceAs (Decidable (1≤o∧o≤s.aW.length∧0≤n∧n < (rowOf s o).length))
def rF (sz:Int→Option Int) (s:St) (op:Int) (a bb cc:Nat) (n:Int):Option (St × Int) :=
    if op=1 then if a < 8 then some ({ bump s with x:=upd s.x a n },0) else none
    else if op=2 then if a < 8∧bb < 8∧cc < 8 then some ({ bump s with x:=upd s.x a (wrap64 (s.x bb+s.x cc)) },0) else none
    else if op=3 then some ({ bump s with pc:=n },0)
    else if op=4 then if a < 8 then if s.x a=0 then some ({ bump s with pc:=n },0) else some (bump s,0) else none
    else if op=5 then if a < 8 then (sz a).bind fun z=>if 0≤z∧z≤1000000 then some ({ bump s with aW:=s.aW++[List.replicate z.toNat 0],p:=upd s.p a ((s.aW.length:Int)+1) },0) else none else none
    else if op=6 then if a < 8 then some ({ bump s with p:=upd s.p a 0 },0) else none
    else if op=7 then if a < 8∧bb < 8 then some ({ bump s with p:=upd s.p a (s.p bb) },0) else none
    else if op=8 then if a < 8∧bb < 8 then if s.p bb=0 then some (bump s,9) else if BI s (s.p bb) n then some ({ bump s with x:=upd s.x a (rd (rowOf s (s.p bb)) n) },0) else none else none
    else if op=9 then if a < 8∧bb < 8 then if s.p a=0 then some (bump s,9) else if BI s (s.p a) n then some ({ bump s with aW:=s.aW.set (s.p a - 1).toNat ((rowOf s (s.p a)).set n.toNat (s.x bb)) },0) else none else none
    else if op=10 then if a < 8∧bb < 8 then if s.p bb=0 then some (bump s,9) else if BI s (s.p bb) n then some ({ bump s with p:=upd s.p a (rd (rowOf s (s.p bb)) n) },0) else none else none
    else if op=11 then if a < 8∧bb < 8 then if s.p a=0 then some (bump s,9) else if BI s (s.p a) n then some ({ bump s with aW:=s.aW.set (s.p a - 1).toNat ((rowOf s (s.p a)).set n.toNat (s.p bb)) },0) else none else none
    else if op=12 then if a < 8∧bb < 4 then some ({ bump s with p:=upd s.p a (s.g bb) },0) else none
    else if op=13 then if a < 4∧bb < 8 then some ({ bump s with g:=upd s.g a (s.p bb) },0) else none
    else if op=14 then if a < 8 then some ({ bump s with out:=s.out++[s.x a] },0) else none
    else if op=15 then if a < 8∧bb < 8∧cc < 8 then some ({ bump s with x:=upd s.x a (if s.p bb=s.p cc then 1 else 0) },0) else none
    else none
def OC (sz:Int→Option Int) (s:St) (i:iw):Option (St × Int) :=
  if 0≤i.f1∧0≤i.f2∧0≤i.f3∧s.aW.length≤1000000∧s.out.length≤1000000 then rF sz s i.f0 i.f1.toNat i.f2.toNat i.f3.toNat i.f4 else none
theorem NC (f:Nat→Int) (j:Nat) (u v:Int):upd (upd f j u) j v=upd f j v:=by
  funext i
  unfold upd
  split <;> rfl
theorem nI {base b:Nat} {s s':St} {vO vU:Value} {w w':World} (hb:base≤b) (hlt:b < w.heap.size) (hR:Rows base b s vO vU w) (h1:lC b s' vO vU w') (h2:Ow b w w') (e1:s'.aW=s.aW) (e2:s'.out=s.out):wJ base b s' w'∧Below base w w' :=
  ⟨⟨hb,vO,vU,h1,hR.ow h2 e1 e2⟩,h2.low hb hlt⟩
section
variable {k b:Nat} {s s':St} {e:Int} {A0 A3:Option Addr} {c0 c3:Nat} {l0:List ByteArray} {a1 a2:ByteArray} {l3:List iw} {W0 w:World}
theorem QW {vO vU:Value} {a bb cc:Nat} {n:Int} (ha:a < 8) (hbb:bb < 8) (hl1:s.aW.length≤1000000) (hb:W0.heap.size≤b) (hst:lC b s vO vU w) (hR:Rows W0.heap.size b s vO vU w) (p0 p1 p2 p3:Value) (hF:BI s (s.p bb) n) :
    Calls Tryd.prog 22 #[.pointer (some ⟨b,0,none⟩),.agg #[p0,p1,p2,p3],.agg #[.int .u8 8,.int .u8 a,.int .u8 bb,.int .u8 cc,.int .i64 n]] w fun e' w'=>e'=.returned (.int .i64 0)∧wJ W0.heap.size b { bump s with x:=upd s.x a (rd (rowOf s (s.p bb)) n) } w'∧Below W0.heap.size w w':=by
  have hlt:=hst.lt
  obtain ⟨h1,h2,h3,h4⟩:=hF
  refine adJ b s vO vU a bb cc n 0 w hst p0 p1 p2 p3 _ fun W hM=>?_
  have hRW:=hR.ow (s':=bump s) hM.ow rfl rfl
  obtain ⟨A,cO,rfl,_,hC⟩:=Kd.MV hRW.aW
  refine (ZU b (bump s) A cO vU a bb cc n (s.p bb) _ (rowOf s (s.p bb)) ha hbb rfl h1 h2 (by show s.aW.length≤_;omega) rfl h3 h4 rfl W hM.st hC).mono ?_
  rintro e' w' ⟨rfl,q1,q2⟩
  have q:=nI (s':={ bump s with x:=upd s.x a (rd (rowOf s (s.p bb)) n) }) hb hlt hR q1 (hM.ow.trans q2) rfl rfl
  exact ⟨rfl,q.1,q.2⟩
theorem OA {vO vU:Value} {a bb cc:Nat} {n:Int} (ha:a < 8) (hbb:bb < 8) (hl1:s.aW.length≤1000000) (hb:W0.heap.size≤b) (hst:lC b s vO vU w) (hR:Rows W0.heap.size b s vO vU w) (p0 p1 p2 p3:Value) (hF:BI s (s.p bb) n) :
    Calls Tryd.prog 22 #[.pointer (some ⟨b,0,none⟩),.agg #[p0,p1,p2,p3],.agg #[.int .u8 10,.int .u8 a,.int .u8 bb,.int .u8 cc,.int .i64 n]] w fun e' w'=>e'=.returned (.int .i64 0)∧wJ W0.heap.size b { bump s with p:=upd s.p a (rd (rowOf s (s.p bb)) n) } w'∧Below W0.heap.size w w':=by
  have hlt:=hst.lt
  obtain ⟨h1,h2,h3,h4⟩:=hF
  refine YX b s vO vU a bb cc n 0 w hst p0 p1 p2 p3 _ fun W hM=>?_
  have hRW:=hR.ow (s':=bump s) hM.ow rfl rfl
  obtain ⟨A,cO,rfl,_,hC⟩:=Kd.MV hRW.aW
  refine (ZV b (bump s) A cO vU a bb cc n (s.p bb) _ (rowOf s (s.p bb)) ha hbb rfl h1 h2 (by show s.aW.length≤_;omega) rfl h3 h4 rfl W hM.st hC).mono ?_
  rintro e' w' ⟨rfl,q1,q2⟩
  have q:=nI (s':={ bump s with p:=upd s.p a (rd (rowOf s (s.p bb)) n) }) hb hlt hR q1 (hM.ow.trans q2) rfl rfl
  exact ⟨rfl,q.1,q.2⟩
theorem Oz {vO vU:Value} {a bb cc:Nat} {n:Int} (ha:a < 8) (hbb:bb < 8) (hl1:s.aW.length≤1000000) (hb:W0.heap.size≤b) (hst:lC b s vO vU w) (hR:Rows W0.heap.size b s vO vU w) (p0 p1 p2 p3:Value) (hF:BI s (s.p a) n) :
    Calls Tryd.prog 22 #[.pointer (some ⟨b,0,none⟩),.agg #[p0,p1,p2,p3],.agg #[.int .u8 9,.int .u8 a,.int .u8 bb,.int .u8 cc,.int .i64 n]] w fun e' w'=>e'=.returned (.int .i64 0)∧wJ W0.heap.size b { bump s with aW:=s.aW.set (s.p a - 1).toNat ((rowOf s (s.p a)).set n.toNat (s.x bb)) } w'∧Below W0.heap.size w w':=by
  have hlt:=hst.lt
  obtain ⟨h1,h2,h3,h4⟩:=hF
  refine adI b s vO vU a bb cc n 0 w hst p0 p1 p2 p3 _ fun W hM=>?_
  have hRW:=hR.ow (s':=bump s) hM.ow rfl rfl
  obtain ⟨ad,sW,cO,c1,old,rfl,x1,x2,x3,x4⟩:=hRW.ab6 hM.st.lt hb (s.p a) n h1 h2 (rowOf s (s.p a)) rfl h3 h4
  refine (Tv b (bump s) ad sW cO c1 _ vU old a bb cc n (s.p a) ha hbb rfl h1 h2 (by show s.aW.length≤_;omega) h3 h4 W hM.st x1 x2 x3).mono ?_
  rintro e' w' ⟨rfl,m,rfl⟩
  obtain ⟨y1,y2,y3⟩:=x4 (.cells #[.int .u8 9,.int .u8 a,.int .u8 bb,.int .u8 cc,.int .i64 n] 55) m (s.x bb) { bump s with aW:=s.aW.set (s.p a - 1).toNat ((rowOf s (s.p a)).set n.toNat (s.x bb)) } rfl rfl
  exact ⟨rfl,⟨hb,_,_,⟨(hM.st.of_block y2).blk⟩,y1⟩,(hM.ow.low hb hlt).trans y3⟩
theorem I4 {vO vU:Value} {a bb cc:Nat} {n:Int} (ha:a < 8) (hbb:bb < 8) (hl1:s.aW.length≤1000000) (hb:W0.heap.size≤b) (hst:lC b s vO vU w) (hR:Rows W0.heap.size b s vO vU w) (p0 p1 p2 p3:Value) (hF:BI s (s.p a) n) :
    Calls Tryd.prog 22 #[.pointer (some ⟨b,0,none⟩),.agg #[p0,p1,p2,p3],.agg #[.int .u8 11,.int .u8 a,.int .u8 bb,.int .u8 cc,.int .i64 n]] w fun e' w'=>e'=.returned (.int .i64 0)∧wJ W0.heap.size b { bump s with aW:=s.aW.set (s.p a - 1).toNat ((rowOf s (s.p a)).set n.toNat (s.p bb)) } w'∧Below W0.heap.size w w':=by
  have hlt:=hst.lt
  obtain ⟨h1,h2,h3,h4⟩:=hF
  refine YW b s vO vU a bb cc n 0 w hst p0 p1 p2 p3 _ fun W hM=>?_
  have hRW:=hR.ow (s':=bump s) hM.ow rfl rfl
  obtain ⟨ad,sW,cO,c1,old,rfl,x1,x2,x3,x4⟩:=hRW.ab6 hM.st.lt hb (s.p a) n h1 h2 (rowOf s (s.p a)) rfl h3 h4
  refine (Tz b (bump s) ad sW cO c1 _ vU old a bb cc n (s.p a) ha hbb rfl h1 h2 (by show s.aW.length≤_;omega) h3 h4 W hM.st x1 x2 x3).mono ?_
  rintro e' w' ⟨rfl,m,rfl⟩
  obtain ⟨y1,y2,y3⟩:=x4 (.cells #[.int .u8 11,.int .u8 a,.int .u8 bb,.int .u8 cc,.int .i64 n] 55) m (s.p bb) { bump s with aW:=s.aW.set (s.p a - 1).toNat ((rowOf s (s.p a)).set n.toNat (s.p bb)) } rfl rfl
  exact ⟨rfl,⟨hb,_,_,⟨(hM.st.of_block y2).blk⟩,y1⟩,(hM.ow.low hb hlt).trans y3⟩
theorem am1 (hB:Below W0.heap.size W0 w) (hr0:Kd.C Kd.string W0 A0 l0.length l0) (hc0:l0.length≤c0) (hr3:Kd.C uq W0 A3 l3.length l3) (hc3:l3.length≤c3) (hM:wJ W0.heap.size b s w) (op:Int) (a bb cc:Nat) (n:Int) (g4:s.aW.length≤1000000) (g5:s.out.length≤1000000) (h:rF (ND k l0 a1 a2 l3) s op a bb cc n=some (s',e)) :
    Calls Tryd.prog 22 #[.pointer (some ⟨b,0,none⟩),.agg #[.slice A0 l0.length c0,.string a1,.string a2,.slice A3 l3.length c3],.agg #[.int .u8 op,.int .u8 a,.int .u8 bb,.int .u8 cc,.int .i64 n]] w fun e' w'=>e'=.returned (.int .i64 e)∧wJ W0.heap.size b s' w'∧Below W0.heap.size w w':=by
  obtain ⟨hb,vO,vU,hst,hR⟩:=hM
  have hlt:=hst.lt
  unfold rF at h
  by_cases he:op=1
  · rw [if_pos he] at h
    subst he
    split at h
    case isFalse=>cases h
    obtain ⟨rfl,rfl⟩:=Prod.mk.inj (Option.some.inj h)
    refine (do_1 b s vO vU a bb cc n (by omega) w hst _ _ _ _).mono ?_
    rintro e' w' ⟨rfl,q1,q2⟩
    exact ⟨rfl,nI hb hlt hR q1 q2 rfl rfl⟩
  rw [if_neg he] at h
  clear he
  by_cases he:op=2
  · rw [if_pos he] at h
    subst he
    split at h
    case isFalse=>cases h
    rename_i hx
    obtain ⟨rfl,rfl⟩:=Prod.mk.inj (Option.some.inj h)
    refine (am6 b s vO vU a bb cc n (by omega) (by omega) (by omega) w hst _ _ _ _).mono ?_
    rintro e' w' ⟨rfl,q1,q2⟩
    exact ⟨rfl,nI hb hlt hR q1 q2 rfl rfl⟩
  rw [if_neg he] at h
  clear he
  by_cases he:op=3
  · rw [if_pos he] at h
    subst he
    obtain ⟨rfl,rfl⟩:=Prod.mk.inj (Option.some.inj h)
    refine (am5 b s vO vU a bb cc n w hst _ _ _ _).mono ?_
    rintro e' w' ⟨rfl,q1,q2⟩
    exact ⟨rfl,nI hb hlt hR q1 q2 rfl rfl⟩
  rw [if_neg he] at h
  clear he
  by_cases he:op=4
  · rw [if_pos he] at h
    subst he
    split at h
    case isFalse=>cases h
    split at h
    · rename_i hz
      obtain ⟨rfl,rfl⟩:=Prod.mk.inj (Option.some.inj h)
      refine (QX b s vO vU a bb cc n (by omega) hz w hst _ _ _ _).mono ?_
      rintro e' w' ⟨rfl,q1,q2⟩
      exact ⟨rfl,nI hb hlt hR q1 q2 rfl rfl⟩
    · rename_i hz
      obtain ⟨rfl,rfl⟩:=Prod.mk.inj (Option.some.inj h)
      refine (XP b s vO vU a bb cc n (by omega) hz w hst _ _ _ _).mono ?_
      rintro e' w' ⟨rfl,q1,q2⟩
      exact ⟨rfl,nI hb hlt hR q1 q2 rfl rfl⟩
  rw [if_neg he] at h
  clear he
  by_cases he:op=5
  · rw [if_pos he] at h
    subst he
    split at h
    case isFalse=>cases h
    obtain ⟨z,hz,h⟩:=Option.bind_eq_some_iff.1 h
    obtain ⟨t,ht,hz⟩:=Option.bind_eq_some_iff.1 hz
    split at h
    case isFalse=>cases h
    obtain ⟨rfl,rfl⟩:=Prod.mk.inj (Option.some.inj h)
    exact am4 k b s vO vU a bb cc n A0 c0 l0 a1 a2 A3 c3 l3 t z (by omega) (by omega) ht hz (by omega) (by omega) W0 w hb hB hr0 hc0 hr3 hc3 hst hR
  rw [if_neg he] at h
  clear he
  by_cases he:op=6
  · rw [if_pos he] at h
    subst he
    split at h
    case isFalse=>cases h
    obtain ⟨rfl,rfl⟩:=Prod.mk.inj (Option.some.inj h)
    refine (am3 b s vO vU a bb cc n (by omega) w hst _ _ _ _).mono ?_
    rintro e' w' ⟨rfl,q1,q2⟩
    exact ⟨rfl,nI hb hlt hR q1 q2 rfl rfl⟩
  rw [if_neg he] at h
  clear he
  by_cases he:op=7
  · rw [if_pos he] at h
    subst he
    split at h
    case isFalse=>cases h
    obtain ⟨rfl,rfl⟩:=Prod.mk.inj (Option.some.inj h)
    refine (am2 b s vO vU a bb cc n (by omega) (by omega) w hst _ _ _ _).mono ?_
    rintro e' w' ⟨rfl,q1,q2⟩
    exact ⟨rfl,nI hb hlt hR q1 q2 rfl rfl⟩
  rw [if_neg he] at h
  clear he
  by_cases he:op=8
  · rw [if_pos he] at h
    subst he
    split at h
    case isFalse=>cases h
    split at h
    · rename_i hz
      obtain ⟨rfl,rfl⟩:=Prod.mk.inj (Option.some.inj h)
      refine adJ b s vO vU a bb cc n 9 w hst _ _ _ _ _ fun W hM=>?_
      refine (Dj b (bump s) vO vU 8 a bb cc n (by omega) hz W hM.st).mono ?_
      rintro e' w' ⟨rfl,q1,q2⟩
      exact ⟨rfl,nI hb hlt hR q1 (hM.ow.trans q2) rfl rfl⟩
    · split at h
      case isFalse=>cases h
      rename_i hF
      obtain ⟨rfl,rfl⟩:=Prod.mk.inj (Option.some.inj h)
      exact QW (by omega) (by omega) g4 hb hst hR _ _ _ _ hF
  rw [if_neg he] at h
  clear he
  by_cases he:op=9
  · rw [if_pos he] at h
    subst he
    split at h
    case isFalse=>cases h
    split at h
    · rename_i hz
      obtain ⟨rfl,rfl⟩:=Prod.mk.inj (Option.some.inj h)
      refine adI b s vO vU a bb cc n 9 w hst _ _ _ _ _ fun W hM=>?_
      refine (Af b (bump s) vO vU 9 a bb cc n (by omega) hz W hM.st).mono ?_
      rintro e' w' ⟨rfl,q1,q2⟩
      exact ⟨rfl,nI hb hlt hR q1 (hM.ow.trans q2) rfl rfl⟩
    · split at h
      case isFalse=>cases h
      rename_i hF
      obtain ⟨rfl,rfl⟩:=Prod.mk.inj (Option.some.inj h)
      exact Oz (by omega) (by omega) g4 hb hst hR _ _ _ _ hF
  rw [if_neg he] at h
  clear he
  by_cases he:op=10
  · rw [if_pos he] at h
    subst he
    split at h
    case isFalse=>cases h
    split at h
    · rename_i hz
      obtain ⟨rfl,rfl⟩:=Prod.mk.inj (Option.some.inj h)
      refine YX b s vO vU a bb cc n 9 w hst _ _ _ _ _ fun W hM=>?_
      refine (Dj b (bump s) vO vU 10 a bb cc n (by omega) hz W hM.st).mono ?_
      rintro e' w' ⟨rfl,q1,q2⟩
      exact ⟨rfl,nI hb hlt hR q1 (hM.ow.trans q2) rfl rfl⟩
    · split at h
      case isFalse=>cases h
      rename_i hF
      obtain ⟨rfl,rfl⟩:=Prod.mk.inj (Option.some.inj h)
      exact OA (by omega) (by omega) g4 hb hst hR _ _ _ _ hF
  rw [if_neg he] at h
  clear he
  by_cases he:op=11
  · rw [if_pos he] at h
    subst he
    split at h
    case isFalse=>cases h
    split at h
    · rename_i hz
      obtain ⟨rfl,rfl⟩:=Prod.mk.inj (Option.some.inj h)
      refine YW b s vO vU a bb cc n 9 w hst _ _ _ _ _ fun W hM=>?_
      refine (Af b (bump s) vO vU 11 a bb cc n (by omega) hz W hM.st).mono ?_
      rintro e' w' ⟨rfl,q1,q2⟩
      exact ⟨rfl,nI hb hlt hR q1 (hM.ow.trans q2) rfl rfl⟩
    · split at h
      case isFalse=>cases h
      rename_i hF
      obtain ⟨rfl,rfl⟩:=Prod.mk.inj (Option.some.inj h)
      exact I4 (by omega) (by omega) g4 hb hst hR _ _ _ _ hF
  rw [if_neg he] at h
  clear he
  by_cases he:op=12
  · rw [if_pos he] at h
    subst he
    split at h
    case isFalse=>cases h
    obtain ⟨rfl,rfl⟩:=Prod.mk.inj (Option.some.inj h)
    refine (adM b s vO vU a bb cc n (by omega) (by omega) w hst _ _ _ _).mono ?_
    rintro e' w' ⟨rfl,q1,q2⟩
    exact ⟨rfl,nI hb hlt hR q1 q2 rfl rfl⟩
  rw [if_neg he] at h
  clear he
  by_cases he:op=13
  · rw [if_pos he] at h
    subst he
    split at h
    case isFalse=>cases h
    obtain ⟨rfl,rfl⟩:=Prod.mk.inj (Option.some.inj h)
    refine (adL b s vO vU a bb cc n (by omega) (by omega) w hst _ _ _ _).mono ?_
    rintro e' w' ⟨rfl,q1,q2⟩
    exact ⟨rfl,nI hb hlt hR q1 q2 rfl rfl⟩
  rw [if_neg he] at h
  clear he
  by_cases he:op=14
  · rw [if_pos he] at h
    subst he
    split at h
    case isFalse=>cases h
    obtain ⟨rfl,rfl⟩:=Prod.mk.inj (Option.some.inj h)
    exact adK W0.heap.size b s vO vU a bb cc n (by omega) (by omega) hb w hst hR _ _ _ _
  rw [if_neg he] at h
  clear he
  by_cases he:op=15
  · rw [if_pos he] at h
    subst he
    split at h
    case isFalse=>cases h
    obtain ⟨rfl,rfl⟩:=Prod.mk.inj (Option.some.inj h)
    by_cases hz:s.p bb=s.p cc
    · rw [if_pos hz]
      refine (OB b s vO vU a bb cc n (by omega) (by omega) (by omega) hz w hst _ _ _ _).mono ?_
      rintro e' w' ⟨rfl,q1,q2⟩
      rw [NC] at q1
      exact ⟨rfl,nI hb hlt hR q1 q2 rfl rfl⟩
    · rw [if_neg hz]
      refine (QY b s vO vU a bb cc n (by omega) (by omega) (by omega) hz w hst _ _ _ _).mono ?_
      rintro e' w' ⟨rfl,q1,q2⟩
      exact ⟨rfl,nI hb hlt hR q1 q2 rfl rfl⟩
  rw [if_neg he] at h
  cases h
theorem aav (hB:Below W0.heap.size W0 w) (hr0:Kd.C Kd.string W0 A0 l0.length l0) (hc0:l0.length≤c0) (hr3:Kd.C uq W0 A3 l3.length l3) (hc3:l3.length≤c3) (hM:wJ W0.heap.size b s w) (i:iw) (h:OC (ND k l0 a1 a2 l3) s i=some (s',e)) :
    Calls Tryd.prog 22 #[.pointer (some ⟨b,0,none⟩),.agg #[.slice A0 l0.length c0,.string a1,.string a2,.slice A3 l3.length c3],.agg #[.int .u8 i.f0,.int .u8 i.f1,.int .u8 i.f2,.int .u8 i.f3,.int .i64 i.f4]] w fun e' w'=>e'=.returned (.int .i64 e)∧wJ W0.heap.size b s' w'∧Below W0.heap.size w w':=by
  unfold OC at h
  split at h
  case isFalse=>cases h
  rename_i hg
  obtain ⟨g1,g2,g3,g4,g5⟩:=hg
  have:=am1 hB hr0 hc0 hr3 hc3 hM i.f0 i.f1.toNat i.f2.toNat i.f3.toNat i.f4 g4 g5 h
  rwa [Int.toNat_of_nonneg g1,Int.toNat_of_nonneg g2,Int.toNat_of_nonneg g3] at this
end
end Go.Proofs.YtlemecdddhdagaaDoor.P
end
section
namespace Go.Proofs.YtlemecdddhdagaaDoor.P
open Go.RowKit Go.Proofs.af.bD Go.Proofs.af.dB Go.Proofs.af.dM
attribute [local go_sem ↓] Go.wp_at_zero Go.wp_at_succ
def zV:St:=⟨fun _=>0,fun _=>0,fun _=>0,[],[],0,0⟩
def rX (sz:Int→Option Int) (code:List iw):Nat→St→Int→Option (List Int × Int)
  | 0,_,_=>none
  | k+1,s,fuel =>
    if s.pc < code.length then
      if 0≤s.pc then (OC sz s (aA code s.pc)).bind fun t =>
        if s.out.length≤t.1.out.length then
          if t.2=0 then if fuel=0 then some (t.1.out.take s.out.length,10) else rX sz code k t.1 (wrap64 (fuel - 1))
          else some (t.1.out.take s.out.length,t.2)
        else none
      else none
    else some (s.out,0)
def fU.f (k:Nat) (l0:List ByteArray) (a1 a2:ByteArray) (l3:List iw) (fuel:Int):Option (List Int × Int) :=
  (bC.f k l0 a1 a2 l3).bind fun c=>if c.2=0 then if fuel < 0 then some ([],2) else rX (ND k l0 a1 a2 l3) l3 k zV fuel else some ([],2)
theorem wJ.drew {base b:Nat} {s:St} {w:World} (h:wJ base b s w):wJ base b s w.drew:=by
  obtain ⟨hb,vO,vU,h1,h2⟩:=h
  exact ⟨hb,vO,vU,h1.of_block rfl,h2.move (fun _ _ _=>rfl) rfl rfl⟩
theorem GG {sz sz':Int→Option Int} (h:∀ a,dO (sz a) (sz' a)) (s:St) (i:iw):dO (OC sz s i) (OC sz' s i):=by
  unfold OC rF
  repeat' first
      | (with_reducible exact dO.refl _)
      | (with_reducible refine dO.ite ?_ ?_)
      | (with_reducible refine dO.bind (h _) (fun _=>?_))
theorem vC {sz sz':Int→Option Int} (h:∀ a,dO (sz a) (sz' a)) (code:List iw):∀ (k:Nat) (s:St) (fuel:Int),dO (rX sz code k s fuel) (rX sz' code (k+1) s fuel)
  | 0,_,_=>dO.none _
  | k+1,s,fuel=>by
    rw [rX,rX]
    repeat' first
      | (with_reducible exact vC h code k _ _)
      | (with_reducible exact dO.refl _)
      | (with_reducible refine dO.ite ?_ ?_)
      | (with_reducible refine dO.bind (GG h _ _) (fun _=>?_))
theorem fU.mono (l0:List ByteArray) (a1 a2:ByteArray) (l3:List iw) (fuel:Int) (k:Nat):dO (fU.f k l0 a1 a2 l3 fuel) (fU.f (k+1) l0 a1 a2 l3 fuel):=by
  unfold fU.f
  refine dO.bind (bC.mono _ _ _ _ _) fun c=>dO.ite (dO.ite (dO.refl _) (vC (fun a=>?_) _ _ _ _)) (dO.refl _)
  exact dO.bind (gB.mono _ _ _ _ _ _) fun t=>jG.mono _ _ _
set_option maxRecDepth 100000 in
set_option maxHeartbeats 3200000 in
theorem fU.calls (k:Nat) (A0:Option Addr) (c0:Nat) (l0:List ByteArray) (a1 a2:ByteArray) (A3:Option Addr) (c3:Nat) (l3:List iw) (fuel:Int) (r1:List Int) (r2:Int) (w:World) (hr0:Kd.C Kd.string w A0 l0.length l0) (hc0:l0.length≤c0) (hr3:Kd.C uq w A3 l3.length l3) (hc3:l3.length≤c3) (lQ:Kd.C Kd.string w qZ kP.length kP) (h:fU.f k l0 a1 a2 l3 fuel=some (r1,r2)) :
    Calls Tryd.prog 12 #[.agg #[.slice A0 l0.length c0,.string a1,.string a2,.slice A3 l3.length c3],.int .i64 fuel] w fun e w'=>∃ v0_,e=.returned (.tuple #[v0_,.int .i64 r2])∧Kd.R (Kd.int .i64) 2 w' w.heap.size (fun _=>True) v0_ r1∧Below w.heap.size w w':=by
  obtain ⟨⟨e1,e2⟩,QB,h1⟩:=Option.bind_eq_some_iff.1 h
  obtain ⟨wb,hwb⟩:∃ wb,w.alloc (.cells #[.slice A0 l0.length c0,.string a1,.string a2,.slice A3 l3.length c3] 25)=wb:=⟨_,rfl⟩
  have hB1:Below w.heap.size w wb:=by rw [← hwb];exact (Below.refl _ w).alloc (Nat.le_refl _) _
  obtain ⟨G,hG⟩:∃ G,w.heap.size=G:=⟨_,rfl⟩
  have hP1:∀ (j:Nat) (v:Value),(#[.slice A0 l0.length c0,.string a1,.string a2,.slice A3 l3.length c3]:Array Value)[j]? = some v→wb.cell? ⟨G,j,none⟩=some v:=by
    intro j v hv
    have e:wb.heap[G]? = some (.cells #[.slice A0 l0.length c0,.string a1,.string a2,.slice A3 l3.length c3] 25 (0,0)):=by rw [← hwb,← hG];exact heap_alloc_new w _
    simp only [World.cell?,e]
    exact hv
  have hs1:G < wb.heap.size:=by rw [← hwb,← hG];simp
  have HH:=ae.mk h1
  have HR0:=ae.mk (Kd.bJ hr0 hB1)
  have HR3:=ae.mk (Kd.bJ hr3 hB1)
  have yT:=ae.mk (Kd.bJ lQ hB1)
  have HCK:=ae.mk QB
  have HB1:=ae.mk hB1
  have p0:wb.cell? ⟨G,0,none⟩=some (.slice A0 l0.length c0):=hP1 0 _ rfl
  have p1:wb.cell? ⟨G,1,none⟩=some (.string a1):=hP1 1 _ rfl
  have p2:wb.cell? ⟨G,2,none⟩=some (.string a2):=hP1 2 _ rfl
  have p3:wb.cell? ⟨G,3,none⟩=some (.slice A3 l3.length c3):=hP1 3 _ rfl
  clear h1 h hr0 hr3 lQ QB hB1 hP1
  go_enter Tryd.func12,Tryd.ntmps12
  go_upto_region 999 with (fail)
  refine (bC.calls k A0 c0 l0 a1 a2 A3 c3 l3 e1 e2 wb HR0.out hc0 HR3.out hc3 yT.out HCK.out).mono ?_
  rintro e W1 ⟨rfl,hb1⟩
  have q0:W1.cell? ⟨G,0,none⟩=some (.slice A0 l0.length c0):=(World.cell?_of_block (a:=⟨G,0,none⟩) (hb1.block G hs1)).trans p0
  have q1:W1.cell? ⟨G,1,none⟩=some (.string a1):=(World.cell?_of_block (a:=⟨G,1,none⟩) (hb1.block G hs1)).trans p1
  have q2:W1.cell? ⟨G,2,none⟩=some (.string a2):=(World.cell?_of_block (a:=⟨G,2,none⟩) (hb1.block G hs1)).trans p2
  have q3:W1.cell? ⟨G,3,none⟩=some (.slice A3 l3.length c3):=(World.cell?_of_block (a:=⟨G,3,none⟩) (hb1.block G hs1)).trans p3
  replace HR0:=ae.mk (Kd.bJ HR0.out hb1)
  replace HR3:=ae.mk (Kd.bJ HR3.out hb1)
  have hs2:G < W1.heap.size:=Nat.lt_of_lt_of_le hs1 hb1.size
  replace HB1:=ae.mk (show Below w.heap.size w W1 from HB1.out.trans (hb1.mono (by omega)))
  clear hb1 yT HCK p0 p1 p2 p3 hwb hs1
  by_cases he2:e2=0
  case neg =>
    have hb2:(e2 == 0)=false:=beq_eq_false_iff_ne.2 he2
    have hb3:(e2 != 0)=true:=by simp [he2]
    have hb4:decide (e2=0)=false:=decide_eq_false he2
    have Fe:ae (some (([]:List Int),(2:Int))=some (r1,r2)):=⟨(if_neg he2).symm.trans HH.out⟩
    obtain ⟨rfl,rfl⟩:=Prod.mk.inj (Option.some.inj Fe.out)
    clear HH Fe
    go_wp2
    go_ret2
    exact ⟨_,rfl,Kd.Nb _ _ _ _ _,HB1.out⟩
  case pos =>
  replace HH:=ae.mk ((if_pos he2).symm.trans HH.out)
  subst he2
  by_cases hf:fuel < 0
  · have Fe:ae (some (([]:List Int),(2:Int))=some (r1,r2)):=⟨(if_pos hf).symm.trans HH.out⟩
    obtain ⟨rfl,rfl⟩:=Prod.mk.inj (Option.some.inj Fe.out)
    clear HH Fe
    go_wp2
    go_ret2
    exact ⟨_,rfl,Kd.Nb _ _ _ _ _,HB1.out⟩
  have hf':decide (fuel < 0)=false:=decide_eq_false hf
  have Fe:ae (rX (ND k l0 a1 a2 l3) l3 k zV fuel=some (r1,r2)):=⟨(if_neg hf).symm.trans HH.out⟩
  clear HH hf
  obtain ⟨b,hb⟩:∃ b,W1.heap.size=b:=⟨_,rfl⟩
  obtain ⟨Wz,YI⟩:∃ Wz,W1.alloc (.cells (cellsS zV (.slice none 0 0) (.slice none 0 0)) 39)=Wz:=⟨_,rfl⟩
  have hM0:wJ W1.heap.size b zV Wz:=by
    refine ⟨Nat.le_of_eq hb,.slice none 0 0,.slice none 0 0,⟨?_⟩,⟨Kd.aeM _ _ _ _ _,Kd.Nb _ _ _ _ _⟩⟩
    rw [← YI,← hb]
    exact heap_alloc_new W1 _
  have hBz:Below W1.heap.size W1 Wz:=by rw [← YI];exact (Below.refl _ W1).alloc (Nat.le_refl _) _
  have HMz:=ae.mk hM0
  have HBz:=ae.mk hBz
  clear hM0 hBz
  unfold cellsS zV at YI
  go_wp2
  have Q0:=Lib.hid q0
  have Q1:=Lib.hid q1
  have Q2:=Lib.hid q2
  have Q3:=Lib.hid q3
  clear q0 q1 q2 q3 hf' YI
  have hG2:=hs2
  go_loopg [1] k (fun kq fv wr=>∃ (s:St) (fu:Int),fv=.int .i64 fu∧ae (rX (ND k l0 a1 a2 l3) l3 kq s fu=some (r1,r2))∧ae (wJ W1.heap.size b s wr)∧ae (Below W1.heap.size W1 wr))
  case atStart=>exact ⟨_,_,rfl,Fe,HMz,HBz⟩
  case round =>
  clear Fe HMz HBz Wz
  obtain ⟨s,fu,rfl,HH,HM,HB⟩:=hrel
  cases gk with
  | zero=>exact absurd HH.out (by simp [rX])
  | succ gk =>
  have p0:wr.cell? ⟨G,0,none⟩=some (.slice A0 l0.length c0):=(HB.out.cell (p:=⟨G,0,none⟩) hG2).trans Q0.out
  have p1:wr.cell? ⟨G,1,none⟩=some (.string a1):=(HB.out.cell (p:=⟨G,1,none⟩) hG2).trans Q1.out
  have p2:wr.cell? ⟨G,2,none⟩=some (.string a2):=(HB.out.cell (p:=⟨G,2,none⟩) hG2).trans Q2.out
  have p3:wr.cell? ⟨G,3,none⟩=some (.slice A3 l3.length c3):=(HB.out.cell (p:=⟨G,3,none⟩) hG2).trans Q3.out
  have hG3:=Lib.hid hG2
  clear hG2 hs2
  obtain ⟨hlow,vO,vU,hst,QM⟩:=HM.out
  obtain ⟨AU,cU,rfl⟩:=Kd.jR QM.out
  have cpc:wr.cell? ⟨b,22,none⟩=some (.int .i64 s.pc):=hst.cell 22
  have c21:wr.cell? ⟨b,21,none⟩=some (.slice AU s.out.length cU):=hst.cell 21
  have HRW:=Lib.hid QM
  have hH:=HH.out
  rw [rX] at hH
  clear hst QM HH
  by_cases hlt:s.pc < l3.length
  case neg =>
    rw [if_neg hlt] at hH
    obtain ⟨rfl,rfl⟩:=Prod.mk.inj (Option.some.inj hH)
    have hlt':decide (s.pc < (l3.length:Int))=false:=decide_eq_false hlt
    clear hH hlt
    go_wp2
    go_ret2
    refine ⟨_,rfl,?_,HB1.out.trans (HB.out.mono (by have:=hG3.out;omega))⟩
    exact Kd.jS (Kd.kS HRW.out.out (fun _ _=>trivial)) (by have:=hG3.out;omega)
  rw [if_pos hlt] at hH
  by_cases hp0:0≤s.pc
  case neg =>
    rw [if_neg hp0] at hH
    cases hH
  rw [if_pos hp0] at hH
  obtain ⟨⟨s5,e5⟩,hD,hH⟩:=Option.bind_eq_some_iff.1 hH
  simp only at hH
  have HD:=ae.mk hD
  clear hD
  split at hH
  case isFalse=>cases hH
  rename_i hlen
  have HH:=ae.mk hH
  have hlen:=Lib.hid hlen
  clear hH
  have hlt':decide (s.pc < (l3.length:Int))=true:=decide_eq_true hlt
  obtain ⟨ad,hA,d0,d1,d2,d3,d4⟩:=Bv (Kd.bJ HR3.out HB.out) s.pc hp0 hlt
  subst hA
  have j0:(0≤s.pc)=True:=eq_true hp0
  have j1:(s.pc < (l3.length:Int))=True:=eq_true hlt
  clear hlt hp0
  go_wp2
  refine wp_region_noPanic ?_
  refine rf (n:=9) (S:=fun w'=>w'.cell? ⟨G,0,none⟩=some (.slice A0 l0.length c0)∧w'.cell? ⟨G,1,none⟩=some (.string a1)∧w'.cell? ⟨G,2,none⟩=some (.string a2)∧w'.cell? ⟨G,3,none⟩=some (.slice (some ad) l3.length c3)∧w'.cell? ⟨b,22,none⟩=some (.int .i64 s.pc)∧w'.cell? (ad.add (s.pc.toNat * 5))=some (.int .u8 (aA l3 s.pc).f0)∧w'.cell? ⟨(ad.add (s.pc.toNat * 5)).block,(ad.add (s.pc.toNat * 5)).off+1,none⟩=some (.int .u8 (aA l3 s.pc).f1)∧w'.cell? ⟨(ad.add (s.pc.toNat * 5)).block,(ad.add (s.pc.toNat * 5)).off+2,none⟩=some (.int .u8 (aA l3 s.pc).f2)∧w'.cell? ⟨(ad.add (s.pc.toNat * 5)).block,(ad.add (s.pc.toNat * 5)).off+3,none⟩=some (.int .u8 (aA l3 s.pc).f3)∧w'.cell? ⟨(ad.add (s.pc.toNat * 5)).block,(ad.add (s.pc.toNat * 5)).off+4,none⟩=some (.int .i64 (aA l3 s.pc).f4)) (ds:=[7,8]) #[false,false,false,false,false,false,false,false,false] (by kernel_rfl) rfl rfl ⟨p0,p1,p2,p3,cpc,d0,d1,d2,d3,d4⟩ (fun hHeld=>?_)
  clear p0 p1 p2 p3 cpc d0 d1 d2 d3 d4 c21
  have BG:=ae.mk (HM.out.drew)
  have HB2:=ae.mk (show Below W1.heap.size W1 wr.drew from HB.out.drew)
  clear HM HB
  generalize wr.drew=wy at BG HB2 hHeld ⊢
  refine kU (i:=0) (N:=some 33) (v:=?_) (a':=?_) #[true,false,false,false,false,false,false,false,false] rfl rfl (by kernel_rfl) (fun _ _ _ h=>h) (Or.inl ⟨by rfl,?_⟩) hHeld ?_ ?_
  rotate_left
  · rintro w' ⟨p0_,p1_,p2_,p3_,aaE,d0_,d1_,d2_,d3_,d4_⟩
    go_simp
    with_reducible rfl
  rotate_left
  · simp only [Act.put,List.setIfInBounds_toArray,List.set_cons_zero,List.set_cons_succ,bW,cu]
    rfl
  refine iy (i:=1) (N:=some 34) (v:=?_) (a':=?_) #[true,true,false,false,false,false,false,false,false] rfl rfl (by kernel_rfl) (fun _ _ _ h=>h) (Or.inl ⟨by rfl,?_⟩) ?_ ?_
  rotate_left
  · intro w'
    go_simp
    with_reducible rfl
  rotate_left
  · simp only [Act.put,List.setIfInBounds_toArray,List.set_cons_zero,List.set_cons_succ,bW,cu]
    rfl
  refine kU (i:=2) (N:=some 35) (v:=?_) (a':=?_) #[true,true,true,false,false,false,false,false,false] rfl rfl (by kernel_rfl) (fun _ _ _ h=>h) (Or.inl ⟨by rfl,?_⟩) hHeld ?_ ?_
  rotate_left
  · rintro w' ⟨p0_,p1_,p2_,p3_,aaE,d0_,d1_,d2_,d3_,d4_⟩
    go_simp
    with_reducible rfl
  rotate_left
  · simp only [Act.put,List.setIfInBounds_toArray,List.set_cons_zero,List.set_cons_succ,bW,cu]
    rfl
  refine iy (i:=3) (N:=some 36) (v:=?_) (a':=?_) #[true,true,true,true,false,false,false,false,false] rfl rfl (by kernel_rfl) (fun _ _ _ h=>h) (Or.inl ⟨by rfl,?_⟩) ?_ ?_
  rotate_left
  · intro w'
    go_simp
    with_reducible rfl
  rotate_left
  · simp only [Act.put,List.setIfInBounds_toArray,List.set_cons_zero,List.set_cons_succ,bW,cu]
    rfl
  refine kU (i:=4) (N:=some 37) (v:=?_) (a':=?_) #[true,true,true,true,true,false,false,false,false] rfl rfl (by kernel_rfl) (fun _ _ _ h=>h) (Or.inl ⟨by rfl,?_⟩) hHeld ?_ ?_
  rotate_left
  · rintro w' ⟨p0_,p1_,p2_,p3_,aaE,d0_,d1_,d2_,d3_,d4_⟩
    go_simp
    with_reducible rfl
  rotate_left
  · simp only [Act.put,List.setIfInBounds_toArray,List.set_cons_zero,List.set_cons_succ,bW,cu]
    rfl
  refine iy (i:=5) (N:=some 38) (v:=?_) (a':=?_) #[true,true,true,true,true,true,false,false,false] rfl rfl (by kernel_rfl) (fun _ _ _ h=>h) (Or.inl ⟨by rfl,?_⟩) ?_ ?_
  rotate_left
  · intro w'
    go_simp
    with_reducible rfl
  rotate_left
  · simp only [Act.put,List.setIfInBounds_toArray,List.set_cons_zero,List.set_cons_succ,bW,cu]
    rfl
  refine kU (i:=6) (N:=some 39) (v:=?_) (a':=?_) #[true,true,true,true,true,true,true,false,false] rfl rfl (by kernel_rfl) (fun _ _ _ h=>h) (Or.inl ⟨by rfl,?_⟩) hHeld ?_ ?_
  rotate_left
  · rintro w' ⟨p0_,p1_,p2_,p3_,aaE,d0_,d1_,d2_,d3_,d4_⟩
    go_simp
    with_reducible rfl
  rotate_left
  · simp only [Act.put,List.setIfInBounds_toArray,List.set_cons_zero,List.set_cons_succ,bW,cu]
    rfl
  refine Dk (i:=7) (N:=some 40) #[true,true,true,true,true,true,true,true,false] rfl rfl (by kernel_rfl) (by decide) (fun K hK=>?_)
  refine qy Tryd.func22 (by kernel_rfl) rfl #[.pointer (some ⟨b,0,none⟩),.agg #[.slice A0 l0.length c0,.string a1,.string a2,.slice (some ad) l3.length c3],.agg #[.int .u8 (aA l3 s.pc).f0,.int .u8 (aA l3 s.pc).f1,.int .u8 (aA l3 s.pc).f2,.int .u8 (aA l3 s.pc).f3,.int .i64 (aA l3 s.pc).f4]] (by rfl) rfl rfl (by (try simp only [List.map_toArray,List.map_cons,List.map_nil]);rfl) ?_
  refine (aav HB2.out HR0.out hc0 HR3.out hc3 BG.out (aA l3 s.pc) HD.out).mono ?_
  rintro e w5 ⟨rfl,hm5,hb5⟩
  have OZ:=ae.mk hm5
  have zZ:=ae.mk (HB2.out.trans hb5)
  clear BG HB2 hm5 hb5 hHeld
  refine ⟨_,rfl,?_⟩
  refine hK.out _ _ ?_
  clear hK K
  refine ji (a':=?_) ?_ ?_
  rotate_left
  · show Act.put _ (some 40) _=_
    simp only [Act.put,List.setIfInBounds_toArray,List.set_cons_zero,List.set_cons_succ,bW,cu]
    rfl
  refine Dk (i:=8) (N:=some 10) #[true,true,true,true,true,true,true,true,true] rfl rfl (by kernel_rfl) (by decide) (fun K hK=>?_)
  refine tZ (w1:=w5) (v:=.int .i64 e5) (by rfl) rfl (by go_simp) ?_
  refine hK.out _ _ ?_
  clear hK K
  refine ji (a':=?_) ?_ ?_
  rotate_left
  · show Act.put _ (some 10) _=_
    simp only [Act.put,List.setIfInBounds_toArray,List.set_cons_zero,List.set_cons_succ,bW,cu]
    rfl
  refine uQ (by kernel_rfl) ?_
  refine NoPanic.normal ?_
  obtain ⟨aoM,vO5,vU5,hst5,EM⟩:=OZ.out
  obtain ⟨AU5,cU5,rfl⟩:=Kd.jR EM.out
  have k21:w5.cell? ⟨b,21,none⟩=some (.slice AU5 s5.out.length cU5):=hst5.cell 21
  have HU5:=Lib.hid EM.out
  have hcap:s5.out.length≤cU5:=(Kd.dW EM.out).2.1
  have hcut:((s.out.length:Int)≤(cU5:Int))=True:=eq_true (by have:=hlen.out;omega)
  have ao2:(0≤(s.out.length:Int))=True:=eq_true (by omega)
  clear hst5 EM hcap
  by_cases OX:e5=0
  case neg =>
    have hb2:(e5 == 0)=false:=beq_eq_false_iff_ne.2 OX
    have hb3:(e5 != 0)=true:=by simp [OX]
    have hb4:decide (e5=0)=false:=decide_eq_false OX
    have Fe:ae (some (s5.out.take s.out.length,e5)=some (r1,r2)):=⟨(if_neg OX).symm.trans HH.out⟩
    obtain ⟨rfl,rfl⟩:=Prod.mk.inj (Option.some.inj Fe.out)
    clear HH Fe
    go_wp2
    go_ret2
    refine ⟨_,rfl,?_,by have q:=HB1.out.trans (zZ.out.mono (show w.heap.size≤W1.heap.size by have:=hG3.out;omega));first|exact q|(rw [hG] at q;exact q)⟩
    exact Kd.jS (Kd.kS (Kd.Ry HU5.out hlen.out) (fun _ _=>trivial)) (by have:=hG3.out;omega)
  case pos =>
  subst OX
  have Fe:ae ((if fu=0 then some (s5.out.take s.out.length,(10:Int)) else rX (ND k l0 a1 a2 l3) l3 gk s5 (wrap64 (fu - 1)))=some (r1,r2)):=⟨(if_pos rfl).symm.trans HH.out⟩
  clear HH
  by_cases hfu:fu=0
  case pos =>
    replace Fe:=ae.mk ((if_pos hfu).symm.trans Fe.out)
    subst hfu
    obtain ⟨rfl,rfl⟩:=Prod.mk.inj (Option.some.inj Fe.out)
    clear Fe
    go_wp2
    go_ret2
    refine ⟨_,rfl,?_,by have q:=HB1.out.trans (zZ.out.mono (show w.heap.size≤W1.heap.size by have:=hG3.out;omega));first|exact q|(rw [hG] at q;exact q)⟩
    exact Kd.jS (Kd.kS (Kd.Ry HU5.out hlen.out) (fun _ _=>trivial)) (by have:=hG3.out;omega)
  case neg =>
    replace Fe:=ae.mk ((if_neg hfu).symm.trans Fe.out)
    have hb2:(fu == 0)=false:=beq_eq_false_iff_ne.2 hfu
    go_wp2
    go_roundg gk
    case measure=>omega
    case rel=>exact ⟨s5,_,rfl,Fe,OZ,zZ⟩
end Go.Proofs.YtlemecdddhdagaaDoor.P
end
