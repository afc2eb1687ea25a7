/- Parts of the proof of ModelRight: what the functions that it reaches compute, and plain facts about that. -/
import Derived.Test.YtlemecdddhdagaaDoorVad
import Derived.Test.YtlemecdddhdagaaDoorVai
import Derived.Deep.LoopGhost
import Derived.Test.YtlemecdddhdagaaDoorVah
set_option linter.unusedVariables false
set_option linter.unusedSimpArgs false
section
namespace Go.Proofs.YtlemecdddhdagaaDoor.P
open Go.RowKit Go.Proofs.ag.bI Go.Proofs.ag.dM Go.Proofs.ag.dZ
attribute [local go_sem ↓] Go.wp_at_zero Go.wp_at_succ
theorem YP:(Tryd.prog.info? 28).map (fun i=>(i.zero,i.size,i.bytes))=some (some (.slice none 0 0),1,24):=by kernel_rfl
theorem Mid.below {b:Nat} {s:St} {vO vU:Value} {P I:Array Value} {w W W':World} (h:Mid b s vO vU P I w W) (hb:Below W.heap.size W W'):Mid b s vO vU P I w W':=by
  have hs:=h.size
  refine ⟨h.st.of_block (hb.block b h.st.lt),h.ow.trans (Ow.of_below hb),Nat.le_trans h.size hb.size,h.lt,fun i u hu=>?_,fun i u hu=>?_⟩
  · exact (World.cell?_of_block (a:=⟨w.heap.size,i,none⟩) (hb.block w.heap.size (by omega))).trans (h.prog i u hu)
  · exact (World.cell?_of_block (a:=⟨w.heap.size+1,i,none⟩) (hb.block (w.heap.size+1) (by omega))).trans (h.ins i u hu)
set_option maxRecDepth 100000 in
set_option maxHeartbeats 3200000 in
theorem alf (k b:Nat) (s:St) (vO vU:Value) (a bb cc:Nat) (n:Int) (A0:Option Addr) (c0:Nat) (l0:List ByteArray) (a1 a2:ByteArray) (A3:Option Addr) (c3:Nat) (l3:List gZ) (t z:Int)
    (ha:a < 8) (hlim:(s.bM.length+1) * 24≤140737488355328) (hl:gu.f k l0 a1 a2 l3 a=some t) (hz:jC.f k l0 t=some z) (hz0:0≤z) (hzl:z.toNat * 8≤281474976710656)
    (W0 w:World) (hb:W0.heap.size≤b) (hB:Below W0.heap.size W0 w) (hr0:Kd.C Kd.string W0 A0 l0.length l0) (hc0:l0.length≤c0) (hr3:Kd.C tZ W0 A3 l3.length l3) (hc3:l3.length≤c3) (h:kF b s vO vU w) (hR:Rows W0.heap.size b s vO vU w) :
    Calls Tryd.prog 22 #[.pointer (some ⟨b,0,none⟩),.agg #[.slice A0 l0.length c0,.string a1,.string a2,.slice A3 l3.length c3],.agg #[.int .u8 5,.int .u8 a,.int .u8 bb,.int .u8 cc,.int .i64 n]] w fun e w'=>e=.returned (.int .i64 0)∧uD W0.heap.size b { bump s with bM:=s.bM++[List.replicate z.toNat 0],p:=upd s.p a ((s.bM.length:Int)+1) } w'∧Below W0.heap.size w w':=by
  have hlt:=h.lt
  have hne:b ≠ w.heap.size:=by omega
  have f22:=h.fr 22
  have f23:=h.fr 23
  have qA:w.cell? ⟨b,22,none⟩=some (.int .i64 s.pc):=h.cell 22
  have c23:w.cell? ⟨b,23,none⟩=some (.int .i64 s.steps):=h.cell 23
  have HP:=ae.mk (mZ (P:=#[.slice A0 l0.length c0,.string a1,.string a2,.slice A3 l3.length c3]) (I:=#[.int .u8 5,.int .u8 a,.int .u8 bb,.int .u8 cc,.int .i64 n]) h)
  have HR:=ae.mk (hR.ow (s':=bump s) HP.out.ow rfl rfl)
  have HB:=ae.mk (hB.trans (HP.out.ow.low hb hlt))
  have XV:=Lib.hid (Kd.adq hR.bM)
  replace hr0:=Lib.hid hr0
  replace hr3:=Lib.hid hr3
  replace hl:=Lib.hid hl
  replace hz:=Lib.hid hz
  clear h hR hB
  go_enter Tryd.func22,Tryd.ntmps22
  go_wp2
  change Code.wp _ _ _ _ (mV b s #[.slice A0 l0.length c0,.string a1,.string a2,.slice A3 l3.length c3] #[.int .u8 5,.int .u8 a,.int .u8 bb,.int .u8 cc,.int .i64 n] w)
  generalize mV b s #[.slice A0 l0.length c0,.string a1,.string a2,.slice A3 l3.length c3] #[.int .u8 5,.int .u8 a,.int .u8 bb,.int .u8 cc,.int .i64 n] w=W at HP HR HB ⊢
  clear f22 f23 qA c23
  have HQ:=ae.mk HP.out.drew
  have HR2:=ae.mk (HR.out.move (w':=W.drew) (s':=bump s) (fun _ _ _=>rfl) rfl rfl)
  have HB2:=ae.mk (show Below W0.heap.size W0 W.drew from HB.out.drew)
  have c20:W.drew.cell? ⟨b,20,none⟩=some vO:=HQ.out.st.cell 20
  have q0:W.drew.cell? ⟨w.heap.size,0,none⟩=some (.slice A0 l0.length c0):=HQ.out.prog 0 _ rfl
  have q1:W.drew.cell? ⟨w.heap.size,1,none⟩=some (.string a1):=HQ.out.prog 1 _ rfl
  have q2:W.drew.cell? ⟨w.heap.size,2,none⟩=some (.string a2):=HQ.out.prog 2 _ rfl
  have q3:W.drew.cell? ⟨w.heap.size,3,none⟩=some (.slice A3 l3.length c3):=HQ.out.prog 3 _ rfl
  have i1:W.drew.cell? ⟨w.heap.size+1,1,none⟩=some (.int .u8 a):=HQ.out.ins 1 _ rfl
  clear HP HR HB
  refine wp_region_noPanic ?_
  refine o5 (n:=18) (S:=fun w'=>w'.cell? ⟨b,20,none⟩=some vO∧w'.cell? ⟨w.heap.size,0,none⟩=some (.slice A0 l0.length c0)∧w'.cell? ⟨w.heap.size,1,none⟩=some (.string a1)∧w'.cell? ⟨w.heap.size,2,none⟩=some (.string a2)∧w'.cell? ⟨w.heap.size,3,none⟩=some (.slice A3 l3.length c3)∧w'.cell? ⟨w.heap.size+1,1,none⟩=some (.int .u8 a)) (ds:=[17]) #[false,false,false,false,false,false,false,false,false,false,false,false,false,false,false,false,false,false] (by kernel_rfl) rfl rfl ⟨c20,q0,q1,q2,q3,i1⟩ (fun hHeld=>?_)
  clear c20 q0 q1 q2 q3 i1
  generalize W.drew=W2 at HQ HR2 HB2 hHeld ⊢
  refine dX (i:=0) (N:=some 83) (v:=?_) (a':=?_) #[true,false,false,false,false,false,false,false,false,false,false,false,false,false,false,false,false,false] rfl rfl (by kernel_rfl) (fun _ _ _ h=>h) (Or.inl ⟨by rfl,?_⟩) ?_ ?_
  rotate_left
  · intro w'
    go_simp
    with_reducible rfl
  rotate_left
  · simp only [Act.put,List.setIfInBounds_toArray,List.set_cons_zero,List.set_cons_succ,bG,bJ]
    rfl
  refine dX (i:=1) (N:=some 84) (v:=?_) (a':=?_) #[true,true,false,false,false,false,false,false,false,false,false,false,false,false,false,false,false,false] rfl rfl (by kernel_rfl) (fun _ _ _ h=>h) (Or.inl ⟨by rfl,?_⟩) ?_ ?_
  rotate_left
  · intro w'
    go_simp
    with_reducible rfl
  rotate_left
  · simp only [Act.put,List.setIfInBounds_toArray,List.set_cons_zero,List.set_cons_succ,bG,bJ]
    rfl
  refine dX (i:=2) (N:=some 85) (v:=?_) (a':=?_) #[true,true,true,false,false,false,false,false,false,false,false,false,false,false,false,false,false,false] rfl rfl (by kernel_rfl) (fun _ _ _ h=>h) (Or.inl ⟨by rfl,?_⟩) ?_ ?_
  rotate_left
  · intro w'
    go_simp
    with_reducible rfl
  rotate_left
  · simp only [Act.put,List.setIfInBounds_toArray,List.set_cons_zero,List.set_cons_succ,bG,bJ]
    rfl
  refine dX (i:=3) (N:=some 86) (v:=?_) (a':=?_) #[true,true,true,true,false,false,false,false,false,false,false,false,false,false,false,false,false,false] rfl rfl (by kernel_rfl) (fun _ _ _ h=>h) (Or.inl ⟨by rfl,?_⟩) ?_ ?_
  rotate_left
  · intro w'
    go_simp
    with_reducible rfl
  rotate_left
  · simp only [Act.put,List.setIfInBounds_toArray,List.set_cons_zero,List.set_cons_succ,bG,bJ]
    rfl
  refine jg (i:=4) (N:=some 87) (v:=?_) (a':=?_) #[true,true,true,true,true,false,false,false,false,false,false,false,false,false,false,false,false,false] rfl rfl (by kernel_rfl) (fun _ _ _ h=>h) (Or.inl ⟨by rfl,?_⟩) hHeld ?_ ?_
  rotate_left
  · rintro w' ⟨Wh,YW,YV,YU,YT,YY⟩
    go_simp
    with_reducible rfl
  rotate_left
  · simp only [Act.put,List.setIfInBounds_toArray,List.set_cons_zero,List.set_cons_succ,bG,bJ]
    rfl
  refine dX (i:=5) (N:=some 88) (v:=?_) (a':=?_) #[true,true,true,true,true,true,false,false,false,false,false,false,false,false,false,false,false,false] rfl rfl (by kernel_rfl) (fun _ _ _ h=>h) (Or.inl ⟨by rfl,?_⟩) ?_ ?_
  rotate_left
  · intro w'
    go_simp
    with_reducible rfl
  rotate_left
  · simp only [Act.put,List.setIfInBounds_toArray,List.set_cons_zero,List.set_cons_succ,bG,bJ]
    rfl
  refine jg (i:=6) (N:=some 89) (v:=?_) (a':=?_) #[true,true,true,true,true,true,true,false,false,false,false,false,false,false,false,false,false,false] rfl rfl (by kernel_rfl) (fun _ _ _ h=>h) (Or.inl ⟨by rfl,?_⟩) hHeld ?_ ?_
  rotate_left
  · rintro w' ⟨Wh,YW,YV,YU,YT,YY⟩
    go_simp
    with_reducible rfl
  rotate_left
  · simp only [Act.put,List.setIfInBounds_toArray,List.set_cons_zero,List.set_cons_succ,bG,bJ]
    rfl
  refine jg (i:=7) (N:=some 90) (v:=?_) (a':=?_) #[true,true,true,true,true,true,true,true,false,false,false,false,false,false,false,false,false,false] rfl rfl (by kernel_rfl) (fun _ _ _ h=>h) (Or.inl ⟨by rfl,?_⟩) hHeld ?_ ?_
  rotate_left
  · rintro w' ⟨Wh,YW,YV,YU,YT,YY⟩
    go_simp
    with_reducible rfl
  rotate_left
  · simp only [Act.put,List.setIfInBounds_toArray,List.set_cons_zero,List.set_cons_succ,bG,bJ]
    rfl
  refine dX (i:=8) (N:=some 91) (v:=?_) (a':=?_) #[true,true,true,true,true,true,true,true,true,false,false,false,false,false,false,false,false,false] rfl rfl (by kernel_rfl) (fun _ _ _ h=>h) (Or.inl ⟨by rfl,?_⟩) ?_ ?_
  rotate_left
  · intro w'
    go_simp
    with_reducible rfl
  rotate_left
  · simp only [Act.put,List.setIfInBounds_toArray,List.set_cons_zero,List.set_cons_succ,bG,bJ]
    rfl
  refine jg (i:=9) (N:=some 92) (v:=?_) (a':=?_) #[true,true,true,true,true,true,true,true,true,true,false,false,false,false,false,false,false,false] rfl rfl (by kernel_rfl) (fun _ _ _ h=>h) (Or.inl ⟨by rfl,?_⟩) hHeld ?_ ?_
  rotate_left
  · rintro w' ⟨Wh,YW,YV,YU,YT,YY⟩
    go_simp
    with_reducible rfl
  rotate_left
  · simp only [Act.put,List.setIfInBounds_toArray,List.set_cons_zero,List.set_cons_succ,bG,bJ]
    rfl
  refine o6 (i:=10) (N:=some 93) #[true,true,true,true,true,true,true,true,true,true,true,false,false,false,false,false,false,false] rfl rfl (by kernel_rfl) (by decide) (fun K hK=>?_)
  refine oI Tryd.func36 (by kernel_rfl) rfl #[.agg #[.slice A0 l0.length c0,.string a1,.string a2,.slice A3 l3.length c3],.int .u8 a] (by rfl) rfl rfl (by (try simp only [List.map_toArray,List.map_cons,List.map_nil]);rfl) ?_
  refine (gu.calls k A0 c0 l0 a1 a2 A3 c3 l3 a t W2 (Kd.bK hr0.out HB2.out) hc0 (Kd.bK hr3.out HB2.out) hc3 hl.out).mono ?_
  rintro e w3 ⟨rfl,hb3⟩
  refine ⟨_,rfl,?_⟩
  have XU:=ae.mk (HQ.out.below hb3)
  have HR3:=ae.mk (HR2.out.ow (s':=bump s) (Ow.of_below hb3) rfl rfl)
  have HB3:=ae.mk (HB2.out.trans (hb3.mono HB2.out.size))
  clear HQ HR2 HB2 hb3 hHeld
  refine hK.out _ _ ⟨XU.out.st.cell 20,XU.out.prog 0 _ rfl,XU.out.prog 1 _ rfl,XU.out.prog 2 _ rfl,XU.out.prog 3 _ rfl,XU.out.ins 1 _ rfl⟩ (fun hHeld=>?_)
  clear hK K
  refine jm (a':=?_) ?_ ?_
  rotate_left
  · show Act.put _ (some 93) _=_
    simp only [Act.put,List.setIfInBounds_toArray,List.set_cons_zero,List.set_cons_succ,bG,bJ]
    rfl
  refine o6 (i:=11) (N:=some 94) #[true,true,true,true,true,true,true,true,true,true,true,true,false,false,false,false,false,false] rfl rfl (by kernel_rfl) (by decide) (fun K hK=>?_)
  refine oI Tryd.func35 (by kernel_rfl) rfl #[.slice A0 l0.length c0,.int .i64 t] (by rfl) rfl rfl (by (try simp only [List.map_toArray,List.map_cons,List.map_nil]);rfl) ?_
  refine (jC.calls k A0 c0 l0 t z w3 (Kd.bK hr0.out HB3.out) hc0 hz.out).mono ?_
  rintro e w4 ⟨rfl,hd4⟩
  have hb4:=hd4.below
  refine ⟨_,rfl,?_⟩
  have QE:=ae.mk (XU.out.below hb4)
  have HR4:=ae.mk (HR3.out.ow (s':=bump s) (Ow.of_below hb4) rfl rfl)
  have HB4:=ae.mk (HB3.out.trans (hb4.mono HB3.out.size))
  clear XU HR3 HB3 hb4 hd4 hHeld
  refine hK.out _ _ ⟨QE.out.st.cell 20,QE.out.prog 0 _ rfl,QE.out.prog 1 _ rfl,QE.out.prog 2 _ rfl,QE.out.prog 3 _ rfl,QE.out.ins 1 _ rfl⟩ (fun hHeld=>?_)
  clear hK K
  refine jm (a':=?_) ?_ ?_
  rotate_left
  · show Act.put _ (some 94) _=_
    simp only [Act.put,List.setIfInBounds_toArray,List.set_cons_zero,List.set_cons_succ,bG,bJ]
    rfl
  refine o6 (i:=12) (N:=some 95) #[true,true,true,true,true,true,true,true,true,true,true,true,true,false,false,false,false,false] rfl rfl (by kernel_rfl) (by decide) (fun K hK=>?_)
  obtain ⟨n4,hn4⟩:∃ n4,n4=w4.heap.size:=⟨_,rfl⟩
  refine Kd.FX (Kd.int .i64) (w0:=w4) w4.heap.size 2 (by rfl) rfl 28 (.tmp 94) (.tmp 94) rfl z rfl rfl (by kernel_rfl) (.int .i64 0) 8 Oy rfl (by decide) (by decide) 0 (ok:=fun k=>w4.heap.size≤k) (pM:=fun _=>False) rfl (fun _ hk=>hk.elim) (Nat.le_refl _) hz0 hzl (Below.refl _ _) (Nat.le_refl _) ?_
  intro v1 w5 hM5 hb5 hg5 akS
  obtain ⟨A5,c5,e5⟩:=Kd.jr hM5
  obtain ⟨m5,YX⟩:∃ m,m=(List.replicate z.toNat (0:Int)).length:=⟨_,rfl⟩
  rw [← YX] at e5
  subst e5
  have FZ:=ae.mk (QE.out.below hb5)
  have HR5:=ae.mk (HR4.out.ow (s':=bump s) (Ow.of_below hb5) rfl rfl)
  have Lh:=ae.mk (HB4.out.trans (hb5.mono HB4.out.size))
  have HT5:=ae.mk (Kd.xQ (ok':=fun k=>(k ≠ b∧some k ≠ vU.ownBlock)∧¬ w4.heap.size≤k) (Kd.AA (Kd.Ed HR4.out.bM) (fun k hk hlt=>hb5.block k hlt)) (fun k hk=>⟨hk.1,by have:=hk.2.2.1;omega⟩))
  have HN5:=Lib.hid (Kd.jh hM5 (show W0.heap.size≤w4.heap.size by have:=QE.out.st.lt;omega))
  have ab2:=Kd.adq HR4.out.bM
  have hUlt:=Kd.Nk HR4.out.out
  have am5:=QE.out.st.lt
  have aoN:=hb5.size
  clear QE HR4 HB4 hM5 hb5 hg5 akS hHeld
  refine hK.out _ _ ⟨FZ.out.st.cell 20,FZ.out.prog 0 _ rfl,FZ.out.prog 1 _ rfl,FZ.out.prog 2 _ rfl,FZ.out.prog 3 _ rfl,FZ.out.ins 1 _ rfl⟩ (fun hHeld=>?_)
  clear hK K
  refine jm (a':=?_) ?_ ?_
  rotate_left
  · show Act.put _ (some 95) _=_
    simp only [Act.put,List.setIfInBounds_toArray,List.set_cons_zero,List.set_cons_succ,bG,bJ]
    rfl
  refine o6 (i:=13) (N:=some 96) #[true,true,true,true,true,true,true,true,true,true,true,true,true,true,false,false,false,false] rfl rfl (by kernel_rfl) (by decide) (fun K hK=>?_)
  refine zF (w1:=w5.alloc (.cells #[.slice A5 m5 c5] 28)) (v:=.slice (some ⟨w5.heap.size,0,none⟩) 1 1) (by rfl) rfl ?_ ?_
  · go_simp
  have ZQ:=FZ.out.below ((Below.refl w5.heap.size w5).alloc (Nat.le_refl _) (.cells #[.slice A5 m5 c5] 28))
  refine hK.out _ _ ⟨ZQ.st.cell 20,ZQ.prog 0 _ rfl,ZQ.prog 1 _ rfl,ZQ.prog 2 _ rfl,ZQ.prog 3 _ rfl,ZQ.ins 1 _ rfl⟩ (fun hHeld=>?_)
  clear ZQ
  clear hK K
  refine jm (a':=?_) ?_ ?_
  rotate_left
  · show Act.put _ (some 96) _=_
    simp only [Act.put,List.setIfInBounds_toArray,List.set_cons_zero,List.set_cons_succ,bG,bJ]
    rfl
  refine o6 (i:=14) (N:=some 97) #[true,true,true,true,true,true,true,true,true,true,true,true,true,true,true,false,false,false] rfl rfl (by kernel_rfl) (by decide) (fun K hK=>?_)
  refine Kd.Bv wG (w0:=w5) W0.heap.size (by rfl) (.tmp 87) (.tmp 96) 37 28 (.slice none 0 0) 24 rfl (by kernel_rfl) YP rfl (by decide) (by decide) vO s.bM (List.replicate z.toNat 0) [.slice A5 m5 c5] (fun k=>k ≠ b∧some k ≠ vU.ownBlock) (fun k=>w4.heap.size≤k) rfl rfl ⟨_,rfl,HN5.out⟩ (fun k hk=>⟨⟨by omega,fun he=>by have:=hUlt k he.symm;omega⟩,fun he=>by have:=ab2 k he.symm;omega⟩) (fun k hk=>⟨by omega,fun he=>by have:=hUlt k he.symm;omega⟩) HT5.out (Below.refl _ _) (by omega) hlim ?_
  intro NG w6 hS6 hb6 Nr VZ
  obtain ⟨A6,c6,e6⟩:=Kd.zu hS6
  rw [List.length_append,List.length_singleton] at e6
  subst e6
  have hUa:=HR5.out.apart
  have Y7:=HR5.out.aaB
  have hOb:=HR5.out.akk
  have abZ:=FZ.out.st.lt
  have hsz5:=FZ.out.size
  have eb:w6.heap[b]? = w5.heap[b]?:=Nr.block b abZ hOb
  have ep:w6.heap[w.heap.size]? = w5.heap[w.heap.size]?:=Nr.block _ (by omega) (fun he=>by have:=XV.out _ he.symm;omega)
  have ei:w6.heap[w.heap.size+1]? = w5.heap[w.heap.size+1]?:=Nr.block _ (by omega) (fun he=>by have:=XV.out _ he.symm;omega)
  have HU6:Kd.R (Kd.int .i64) 2 w6 W0.heap.size (fun k=>k ≠ b) vU s.out:=Kd.jO (Kd.lC (Kd.KY (show (Kd.int .i64).E=[] from rfl) HR5.out.out) (fun k hk hlt=>Nr.block k hlt (hUa k hk.symm))) (fun k hk he=>Y7 (he ▸ hk))
  have WX:=FZ.out.st.of_block eb
  have d20:w6.cell? ⟨b,20,none⟩=some vO:=WX.cell 20
  have f20:w6.frozen? ⟨b,20,none⟩=false:=WX.fr 20
  have dp0:w6.cell? ⟨w.heap.size,0,none⟩=some (.slice A0 l0.length c0):=(World.cell?_of_block ep).trans (FZ.out.prog 0 _ rfl)
  have dp1:w6.cell? ⟨w.heap.size,1,none⟩=some (.string a1):=(World.cell?_of_block ep).trans (FZ.out.prog 1 _ rfl)
  have dp2:w6.cell? ⟨w.heap.size,2,none⟩=some (.string a2):=(World.cell?_of_block ep).trans (FZ.out.prog 2 _ rfl)
  have dp3:w6.cell? ⟨w.heap.size,3,none⟩=some (.slice A3 l3.length c3):=(World.cell?_of_block ep).trans (FZ.out.prog 3 _ rfl)
  have di:w6.cell? ⟨w.heap.size+1,1,none⟩=some (.int .u8 a):=(World.cell?_of_block ei).trans (FZ.out.ins 1 _ rfl)
  have HE:=Lib.hid (show kF b { bump s with bM:=s.bM++[List.replicate z.toNat 0] } (.slice A6 (s.bM.length+1) c6) vU (w6.setCell ⟨b,20,none⟩ (.slice A6 (s.bM.length+1) c6)) from WX.EK _ _)
  have HF:=Lib.hid (show Rows W0.heap.size b { bump s with bM:=s.bM++[List.replicate z.toNat 0] } (.slice A6 (s.bM.length+1) c6) vU w6 from ⟨hS6,HU6⟩)
  have HBb:=Lib.hid (show Below W0.heap.size w w6 from (FZ.out.ow.low hb hlt).grown Nr (by omega) (Kd.ZI HR5.out.bM))
  have aoH:=Nr.size
  have HD:=Lib.hid di
  clear hUa Y7 hOb eb ep ei WX FZ HR5 Lh HT5 HN5 hS6 hb6 Nr VZ HU6 hHeld ab2 hUlt
  refine hK.out _ _ ⟨d20,dp0,dp1,dp2,dp3,di⟩ (fun hHeld=>?_)
  clear hK K
  refine jm (a':=?_) ?_ ?_
  rotate_left
  · show Act.put _ (some 97) _=_
    simp only [Act.put,List.setIfInBounds_toArray,List.set_cons_zero,List.set_cons_succ,bG,bJ]
    rfl
  refine dX (i:=15) (N:=some 98) (v:=?_) (a':=?_) #[true,true,true,true,true,true,true,true,true,true,true,true,true,true,true,true,false,false] rfl rfl (by kernel_rfl) (fun _ _ _ h=>h) (Or.inl ⟨by rfl,?_⟩) ?_ ?_
  rotate_left
  · intro w'
    go_simp
    with_reducible rfl
  rotate_left
  · simp only [Act.put,List.setIfInBounds_toArray,List.set_cons_zero,List.set_cons_succ,bG,bJ]
    rfl
  refine dX (i:=16) (N:=some 99) (v:=?_) (a':=?_) #[true,true,true,true,true,true,true,true,true,true,true,true,true,true,true,true,true,false] rfl rfl (by kernel_rfl) (fun _ _ _ h=>h) (Or.inl ⟨by rfl,?_⟩) ?_ ?_
  rotate_left
  · intro w'
    go_simp
    with_reducible rfl
  rotate_left
  · simp only [Act.put,List.setIfInBounds_toArray,List.set_cons_zero,List.set_cons_succ,bG,bJ]
    rfl
  refine zX (i:=17) (N:=none) #[true,true,true,true,true,true,true,true,true,true,true,true,true,true,true,true,true,true] rfl rfl (by kernel_rfl) (by decide) (fun K hK=>?_)
  refine BJ (w1:=w6.setCell ⟨b,20,none⟩ (.slice A6 (s.bM.length+1) c6)) (by rfl) rfl ?_ ?_
  · go_simp
  refine hK.out _ _ ?_
  clear hK K
  refine rH (by kernel_rfl) ?_
  refine NoPanic.normal ?_
  clear hHeld d20 f20 dp0 dp1 dp2 dp3 di
  have j1:(w6.setCell ⟨b,20,none⟩ (.slice A6 (s.bM.length+1) c6)).cell? ⟨w.heap.size+1,1,none⟩=some (.int .u8 a):=(World.cell?_of_block (Below.heap_setCell _ _ _ _ (by show w.heap.size+1 ≠ b;omega))).trans HD.out
  have HF7:=Lib.hid (HF.out.set (s':={ bump s with bM:=s.bM++[List.replicate z.toNat 0] }) 20 (.slice A6 (s.bM.length+1) c6) rfl rfl)
  have HB7:=Lib.hid (HBb.out.setCell (p:=⟨b,20,none⟩) hb (.slice A6 (s.bM.length+1) c6))
  clear HF HBb HD
  generalize w6.setCell ⟨b,20,none⟩ (.slice A6 (s.bM.length+1) c6)=w7 at HE HF7 HB7 j1 ⊢
  have hai:(a:Int) < 8:=by omega
  have e20:w7.cell? ⟨b,20,none⟩=some (.slice A6 (s.bM.length+1) c6):=HE.out.cell 20
  go_wp2
  go_still_tail 11,(by kernel_rfl)
  change wpList _ _ _ _ _ w7.drew
  have HE8:=Lib.hid (show kF b _ _ _ w7.drew from HE.out.of_block rfl)
  have HF8:=Lib.hid (HF7.out.move (w':=w7.drew) (s':={ bump s with bM:=s.bM++[List.replicate z.toNat 0] }) (fun _ _ _=>rfl) rfl rfl)
  have HB8:=Lib.hid (show Below W0.heap.size w w7.drew from HB7.out.drew)
  clear HE HF7 HB7 e20 j1
  generalize w7.drew=w8 at HE8 HF8 HB8 ⊢
  have fs:=HE8.out.fr (8+a)
  have cs:=HE8.out.rq a ha
  go_wp2
  go_ret
  exact ⟨rfl,⟨hb,_,_,HE8.out.EH a ha _,HF8.out.set _ _ rfl rfl⟩,HB8.out.setCell (p:=⟨b,8+a,none⟩) hb _⟩
end Go.Proofs.YtlemecdddhdagaaDoor.P
end
section
namespace Go.Proofs.YtlemecdddhdagaaDoor.P
open Go.RowKit Go.Proofs.ag.bI Go.Proofs.ag.dM Go.Proofs.ag.dZ
attribute [local go_sem ↓] Go.wp_at_zero Go.wp_at_succ
set_option maxRecDepth 100000 in
set_option maxHeartbeats 3200000 in
theorem aci (b:Nat) (s:St) (vO vU:Value) (a bb cc:Nat) (n r:Int) (w:World) (h:kF b s vO vU w) (p0 p1 p2 p3:Value) (Q:World→Prop)
    (hc:∀ W,Mid b (bump s) vO vU #[p0,p1,p2,p3] #[.int .u8 8,.int .u8 a,.int .u8 bb,.int .u8 cc,.int .i64 n] w W→Calls Tryd.prog 37 #[.pointer (some ⟨b,0,none⟩),.agg #[.int .u8 8,.int .u8 a,.int .u8 bb,.int .u8 cc,.int .i64 n]] W fun e w'=>e=.returned (.int .i64 r)∧Q w') :
    Calls Tryd.prog 22 #[.pointer (some ⟨b,0,none⟩),.agg #[p0,p1,p2,p3],.agg #[.int .u8 8,.int .u8 a,.int .u8 bb,.int .u8 cc,.int .i64 n]] w fun e w'=>e=.returned (.int .i64 r)∧Q w':=by
  have hlt:=h.lt
  have hne:b ≠ w.heap.size:=by omega
  have f22:=h.fr 22
  have f23:=h.fr 23
  have qA:w.cell? ⟨b,22,none⟩=some (.int .i64 s.pc):=h.cell 22
  have c23:w.cell? ⟨b,23,none⟩=some (.int .i64 s.steps):=h.cell 23
  have HP:=ae.mk (mZ (P:=#[p0,p1,p2,p3]) (I:=#[.int .u8 8,.int .u8 a,.int .u8 bb,.int .u8 cc,.int .i64 n]) h)
  replace hc:=Lib.hid hc
  clear h
  go_enter Tryd.func22,Tryd.ntmps22
  go_upto_region 999 with (fail)
  refine (hc.out (mV b s #[p0,p1,p2,p3] #[.int .u8 8,.int .u8 a,.int .u8 bb,.int .u8 cc,.int .i64 n] w) HP.out).mono ?_
  rintro e w' ⟨rfl,hq⟩
  replace hq:=Lib.hid hq
  clear f22 f23 qA c23 hc HP
  go_wp2
  go_ret
  exact ⟨rfl,hq.out⟩
set_option maxRecDepth 100000 in
set_option maxHeartbeats 3200000 in
theorem XG (b:Nat) (s:St) (vO vU:Value) (a bb cc:Nat) (n r:Int) (w:World) (h:kF b s vO vU w) (p0 p1 p2 p3:Value) (Q:World→Prop)
    (hc:∀ W,Mid b (bump s) vO vU #[p0,p1,p2,p3] #[.int .u8 10,.int .u8 a,.int .u8 bb,.int .u8 cc,.int .i64 n] w W→Calls Tryd.prog 37 #[.pointer (some ⟨b,0,none⟩),.agg #[.int .u8 10,.int .u8 a,.int .u8 bb,.int .u8 cc,.int .i64 n]] W fun e w'=>e=.returned (.int .i64 r)∧Q w') :
    Calls Tryd.prog 22 #[.pointer (some ⟨b,0,none⟩),.agg #[p0,p1,p2,p3],.agg #[.int .u8 10,.int .u8 a,.int .u8 bb,.int .u8 cc,.int .i64 n]] w fun e w'=>e=.returned (.int .i64 r)∧Q w':=by
  have hlt:=h.lt
  have hne:b ≠ w.heap.size:=by omega
  have f22:=h.fr 22
  have f23:=h.fr 23
  have qA:w.cell? ⟨b,22,none⟩=some (.int .i64 s.pc):=h.cell 22
  have c23:w.cell? ⟨b,23,none⟩=some (.int .i64 s.steps):=h.cell 23
  have HP:=ae.mk (mZ (P:=#[p0,p1,p2,p3]) (I:=#[.int .u8 10,.int .u8 a,.int .u8 bb,.int .u8 cc,.int .i64 n]) h)
  replace hc:=Lib.hid hc
  clear h
  go_enter Tryd.func22,Tryd.ntmps22
  go_upto_region 999 with (fail)
  refine (hc.out (mV b s #[p0,p1,p2,p3] #[.int .u8 10,.int .u8 a,.int .u8 bb,.int .u8 cc,.int .i64 n] w) HP.out).mono ?_
  rintro e w' ⟨rfl,hq⟩
  replace hq:=Lib.hid hq
  clear f22 f23 qA c23 hc HP
  go_wp2
  go_ret
  exact ⟨rfl,hq.out⟩
set_option maxRecDepth 100000 in
set_option maxHeartbeats 3200000 in
theorem ach (b:Nat) (s:St) (vO vU:Value) (a bb cc:Nat) (n r:Int) (w:World) (h:kF b s vO vU w) (p0 p1 p2 p3:Value) (Q:World→Prop)
    (hc:∀ W,Mid b (bump s) vO vU #[p0,p1,p2,p3] #[.int .u8 9,.int .u8 a,.int .u8 bb,.int .u8 cc,.int .i64 n] w W→Calls Tryd.prog 38 #[.pointer (some ⟨b,0,none⟩),.agg #[.int .u8 9,.int .u8 a,.int .u8 bb,.int .u8 cc,.int .i64 n]] W fun e w'=>e=.returned (.int .i64 r)∧Q w') :
    Calls Tryd.prog 22 #[.pointer (some ⟨b,0,none⟩),.agg #[p0,p1,p2,p3],.agg #[.int .u8 9,.int .u8 a,.int .u8 bb,.int .u8 cc,.int .i64 n]] w fun e w'=>e=.returned (.int .i64 r)∧Q w':=by
  have hlt:=h.lt
  have hne:b ≠ w.heap.size:=by omega
  have f22:=h.fr 22
  have f23:=h.fr 23
  have qA:w.cell? ⟨b,22,none⟩=some (.int .i64 s.pc):=h.cell 22
  have c23:w.cell? ⟨b,23,none⟩=some (.int .i64 s.steps):=h.cell 23
  have HP:=ae.mk (mZ (P:=#[p0,p1,p2,p3]) (I:=#[.int .u8 9,.int .u8 a,.int .u8 bb,.int .u8 cc,.int .i64 n]) h)
  replace hc:=Lib.hid hc
  clear h
  go_enter Tryd.func22,Tryd.ntmps22
  go_upto_region 999 with (fail)
  refine (hc.out (mV b s #[p0,p1,p2,p3] #[.int .u8 9,.int .u8 a,.int .u8 bb,.int .u8 cc,.int .i64 n] w) HP.out).mono ?_
  rintro e w' ⟨rfl,hq⟩
  replace hq:=Lib.hid hq
  clear f22 f23 qA c23 hc HP
  go_wp2
  go_ret
  exact ⟨rfl,hq.out⟩
set_option maxRecDepth 100000 in
set_option maxHeartbeats 3200000 in
theorem XF (b:Nat) (s:St) (vO vU:Value) (a bb cc:Nat) (n r:Int) (w:World) (h:kF b s vO vU w) (p0 p1 p2 p3:Value) (Q:World→Prop)
    (hc:∀ W,Mid b (bump s) vO vU #[p0,p1,p2,p3] #[.int .u8 11,.int .u8 a,.int .u8 bb,.int .u8 cc,.int .i64 n] w W→Calls Tryd.prog 38 #[.pointer (some ⟨b,0,none⟩),.agg #[.int .u8 11,.int .u8 a,.int .u8 bb,.int .u8 cc,.int .i64 n]] W fun e w'=>e=.returned (.int .i64 r)∧Q w') :
    Calls Tryd.prog 22 #[.pointer (some ⟨b,0,none⟩),.agg #[p0,p1,p2,p3],.agg #[.int .u8 11,.int .u8 a,.int .u8 bb,.int .u8 cc,.int .i64 n]] w fun e w'=>e=.returned (.int .i64 r)∧Q w':=by
  have hlt:=h.lt
  have hne:b ≠ w.heap.size:=by omega
  have f22:=h.fr 22
  have f23:=h.fr 23
  have qA:w.cell? ⟨b,22,none⟩=some (.int .i64 s.pc):=h.cell 22
  have c23:w.cell? ⟨b,23,none⟩=some (.int .i64 s.steps):=h.cell 23
  have HP:=ae.mk (mZ (P:=#[p0,p1,p2,p3]) (I:=#[.int .u8 11,.int .u8 a,.int .u8 bb,.int .u8 cc,.int .i64 n]) h)
  replace hc:=Lib.hid hc
  clear h
  go_enter Tryd.func22,Tryd.ntmps22
  go_upto_region 999 with (fail)
  refine (hc.out (mV b s #[p0,p1,p2,p3] #[.int .u8 11,.int .u8 a,.int .u8 bb,.int .u8 cc,.int .i64 n] w) HP.out).mono ?_
  rintro e w' ⟨rfl,hq⟩
  replace hq:=Lib.hid hq
  clear f22 f23 qA c23 hc HP
  go_wp2
  go_ret
  exact ⟨rfl,hq.out⟩
end Go.Proofs.YtlemecdddhdagaaDoor.P
end
section
namespace Go.Proofs.YtlemecdddhdagaaDoor.P
open Go.RowKit Go.Proofs.ag.bI Go.Proofs.ag.dM Go.Proofs.ag.dZ
attribute [local go_sem ↓] Go.wp_at_zero Go.wp_at_succ
set_option maxRecDepth 100000 in
set_option maxHeartbeats 3200000 in
theorem zG (b:Nat) (s:St) (vO vU:Value) (op a bb cc:Nat) (n:Int) (ha:a < 8) (hz:s.p a=0) (w:World) (h:kF b s vO vU w) :
    Calls Tryd.prog 38 #[.pointer (some ⟨b,0,none⟩),.agg #[.int .u8 op,.int .u8 a,.int .u8 bb,.int .u8 cc,.int .i64 n]] w fun e w'=>e=.returned (.int .i64 9)∧kF b s vO vU w'∧Ow b w w':=by
  have hlt:=h.lt
  have hai:(a:Int) < 8:=by omega
  have HP:=ae.mk (uP (I:=#[.int .u8 op,.int .u8 a,.int .u8 bb,.int .u8 cc,.int .i64 n]) h)
  clear h
  go_enter Tryd.func38,Tryd.ntmps38
  go_wp2
  generalize w.alloc (.cells #[.int .u8 op,.int .u8 a,.int .u8 bb,.int .u8 cc,.int .i64 n] 55)=W at HP ⊢
  have i1:W.cell? ⟨w.heap.size,1,none⟩=some (.int .u8 a):=HP.out.ins 1 _ rfl
  have ca:W.cell? ⟨b,8+a,none⟩=some (.int .i64 0):=by rw [HP.out.st.rq a ha,hz]
  clear hz
  go_quiet (fail)
  rename_i nq
  have HQ:=ae.mk (HP.out.drewN nq)
  clear HP ca i1
  generalize W.drewN nq=W2 at HQ ⊢
  go_wp2
  go_ret
  exact ⟨rfl,HQ.out.st,HQ.out.ow⟩
theorem Rows.aaJ {base b:Nat} {s:St} {vO vU:Value} {W:World} (hR:Rows base b s vO vU W) (hlt:b < W.heap.size) (hb:base≤b) (o n:Int) (ho1:1≤o) (ho2:o≤s.bM.length) (row:List Int) (hrow:s.bM.getD (o - 1).toNat []=row) (hn0:0≤n) (hn1:n < row.length) :
    ∃ ad vX cO c1 old,vO=.slice (some ad) s.bM.length cO∧W.cell? (ad.add (o.toNat - 1))=some (.slice (some vX) row.length c1)∧W.cell? (vX.add n.toNat)=some old∧W.frozen? (vX.add n.toNat)=false ∧
      ∀ (o':Obj) (k:Nat) (v:Int) (s':St),s'.bM=s.bM.set (o - 1).toNat (row.set n.toNat v)→s'.out=s.out →
        Rows base b s' vO vU (((W.alloc o').drewN k).setCell (vX.add n.toNat) (.int .i64 v))∧(((W.alloc o').drewN k).setCell (vX.add n.toNat) (.int .i64 v)).heap[b]? = W.heap[b]?∧Below base W (((W.alloc o').drewN k).setCell (vX.add n.toNat) (.int .i64 v)):=by
  obtain ⟨hS,hU⟩:=hR
  obtain ⟨g,cO,rfl,hg1,hg2,_⟩:=Kd.ZH hS (by omega)
  obtain ⟨xC,c,hcl,hM,hcc,RV,hback⟩:=Kd.Qj hS ([]:List Int) (o - 1) (by omega) (by omega)
  rw [hrow] at hM
  obtain ⟨v,rfl,hv⟩:=hM
  obtain ⟨g2,c1,rfl,hg3,hg4,_⟩:=Kd.Eg hv (by omega)
  obtain ⟨e1,e2⟩:=Kd.Eh (h1:=fun _=>rfl) (0:Int) hv n hn0 hn1
  have hki:xC g2:=hv.1 g2 (by simp [Value.ownBlock])
  obtain ⟨⟨hnb,hnU⟩,hnO⟩:=RV g2 hki
  have ea:(⟨g2,0,none⟩:Addr).add n.toNat=⟨g2,n.toNat,none⟩:=by rw [Qg,Nat.zero_add]
  refine ⟨⟨g,0,none⟩,⟨g2,0,none⟩,cO,c1,_,rfl,?_,by rw [ea];exact e1,by rw [ea];exact e2,fun o' k x s' hs1 hs2=>?_⟩
  · have:=hcc 0 _ rfl
    rw [show (o - 1).toNat * wG.sz+0=o.toNat - 1 by show (o - 1).toNat * 1+0=_;omega] at this
    exact this
  · rw [ea]
    have hv1:(Kd.int .i64).R 2 ((W.alloc o').drewN k) base xC (.slice (some ⟨g2,0,none⟩) row.length c1) row:=Kd.lC hv (fun j _ hj=>Below.heap_alloc W o' j hj)
    obtain ⟨hp,hgr⟩:=Kd.ZK (h1:=fun _=>rfl) hv1 n x
    have hG:W.grownBy (((W.alloc o').drewN k).setCell ⟨g2,n.toNat,none⟩ (.int .i64 x)) (some g2):=by
      refine ⟨hgr.os,hgr.tape,hgr.output,Nat.le_trans (show W.heap.size≤(W.heap.push o').size by simp) hgr.size,fun j hj hn=>?_⟩
      rw [hgr.block j (Nat.lt_of_lt_of_le hj (by show W.heap.size≤(W.heap.push o').size;simp)) hn]
      exact Below.heap_alloc W o' j hj
    refine ⟨⟨?_,?_⟩,hG.block b hlt (fun he=>hnb (by injection he with he;exact he.symm)),?_⟩
    · rw [hs1]
      exact hback hG (fun j hj=>by injection hj with hj;exact hj ▸ hki) ⟨_,rfl,hp⟩
    · rw [hs2]
      have Y7:some b ≠ vU.ownBlock:=Kd.Hz hU (fun k hk=>hk)
      exact Kd.jO (Kd.lC (Kd.KY (show (Kd.int .i64).E=[] from rfl) hU) (fun j hj hlt=>hG.block j hlt (fun he=>hnU (by rw [← he,hj])))) (fun j hj he=>Y7 (he ▸ hj))
    · exact (Below.refl base W).grown hG (by omega) (fun j hj=>by injection hj with hj;omega)
def NL (k:Nat) (l0:List ByteArray) (a1 a2:ByteArray) (l3:List gZ) (a:Int):Option Int:=(gu.f k l0 a1 a2 l3 a).bind (jC.f k l0)
def rowOf (s:St) (o:Int):List Int:=s.bM.getD (o - 1).toNat []
def Nl (s:St) (o n:Int):Prop:=1≤o∧o≤s.bM.length∧0≤n∧n < (rowOf s o).length
instance (s:St) (o n:Int):Decidable (Nl s o n):=inferInstanceAs (Decidable (1≤o∧o≤s.bM.length∧0≤n∧n < (rowOf s o).length))
def uu (sz:Int→Option Int) (s:St) (op:Int) (a bb cc:Nat) (n:Int):Option (St × Int) :=
    if op=1 then if a < 8 then some ({ bump s with x:=upd s.x a n },0) else none
    else if op=2 then if a < 8∧bb < 8∧cc < 8 then some ({ bump s with x:=upd s.x a (wrap64 (s.x bb+s.x cc)) },0) else none
    else if op=3 then some ({ bump s with pc:=n },0)
    else if op=4 then if a < 8 then if s.x a=0 then some ({ bump s with pc:=n },0) else some (bump s,0) else none
    else if op=5 then if a < 8 then (sz a).bind fun z=>if 0≤z∧z≤1000000 then some ({ bump s with bM:=s.bM++[List.replicate z.toNat 0],p:=upd s.p a ((s.bM.length:Int)+1) },0) else none else none
    else if op=6 then if a < 8 then some ({ bump s with p:=upd s.p a 0 },0) else none
    else if op=7 then if a < 8∧bb < 8 then some ({ bump s with p:=upd s.p a (s.p bb) },0) else none
    else if op=8 then if a < 8∧bb < 8 then if s.p bb=0 then some (bump s,9) else if Nl s (s.p bb) n then some ({ bump s with x:=upd s.x a (rd (rowOf s (s.p bb)) n) },0) else none else none
    else if op=9 then if a < 8∧bb < 8 then if s.p a=0 then some (bump s,9) else if Nl s (s.p a) n then some ({ bump s with bM:=s.bM.set (s.p a - 1).toNat ((rowOf s (s.p a)).set n.toNat (s.x bb)) },0) else none else none
    else if op=10 then if a < 8∧bb < 8 then if s.p bb=0 then some (bump s,9) else if Nl s (s.p bb) n then some ({ bump s with p:=upd s.p a (rd (rowOf s (s.p bb)) n) },0) else none else none
    else if op=11 then if a < 8∧bb < 8 then if s.p a=0 then some (bump s,9) else if Nl s (s.p a) n then some ({ bump s with bM:=s.bM.set (s.p a - 1).toNat ((rowOf s (s.p a)).set n.toNat (s.p bb)) },0) else none else none
    else if op=12 then if a < 8∧bb < 4 then some ({ bump s with p:=upd s.p a (s.g bb) },0) else none
    else if op=13 then if a < 4∧bb < 8 then some ({ bump s with g:=upd s.g a (s.p bb) },0) else none
    else if op=14 then if a < 8 then some ({ bump s with out:=s.out++[s.x a] },0) else none
    else if op=15 then if a < 8∧bb < 8∧cc < 8 then some ({ bump s with x:=upd s.x a (if s.p bb=s.p cc then 1 else 0) },0) else none
    else none
def Ns (sz:Int→Option Int) (s:St) (i:gZ):Option (St × Int) :=
  if 0≤i.f1∧0≤i.f2∧0≤i.f3∧s.bM.length≤1000000∧s.out.length≤1000000 then uu sz s i.f0 i.f1.toNat i.f2.toNat i.f3.toNat i.f4 else none
theorem Lt (f:Nat→Int) (j:Nat) (u v:Int):upd (upd f j u) j v=upd f j v:=by
  funext i
  unfold upd
  split <;> rfl
theorem mX {base b:Nat} {s s':St} {vO vU:Value} {w w':World} (hb:base≤b) (hlt:b < w.heap.size) (hR:Rows base b s vO vU w) (h1:kF b s' vO vU w') (h2:Ow b w w') (e1:s'.bM=s.bM) (e2:s'.out=s.out):uD base b s' w'∧Below base w w' :=
  ⟨⟨hb,vO,vU,h1,hR.ow h2 e1 e2⟩,h2.low hb hlt⟩
section
variable {k b:Nat} {s s':St} {e:Int} {A0 A3:Option Addr} {c0 c3:Nat} {l0:List ByteArray} {a1 a2:ByteArray} {l3:List gZ} {W0 w:World}
theorem PS {vO vU:Value} {a bb cc:Nat} {n:Int} (ha:a < 8) (hbb:bb < 8) (hl1:s.bM.length≤1000000) (hb:W0.heap.size≤b) (hst:kF b s vO vU w) (hR:Rows W0.heap.size b s vO vU w) (p0 p1 p2 p3:Value) (hF:Nl s (s.p bb) n) :
    Calls Tryd.prog 22 #[.pointer (some ⟨b,0,none⟩),.agg #[p0,p1,p2,p3],.agg #[.int .u8 8,.int .u8 a,.int .u8 bb,.int .u8 cc,.int .i64 n]] w fun e' w'=>e'=.returned (.int .i64 0)∧uD W0.heap.size b { bump s with x:=upd s.x a (rd (rowOf s (s.p bb)) n) } w'∧Below W0.heap.size w w':=by
  have hlt:=hst.lt
  obtain ⟨h1,h2,h3,h4⟩:=hF
  refine aci b s vO vU a bb cc n 0 w hst p0 p1 p2 p3 _ fun W hM=>?_
  have Y8:=hR.ow (s':=bump s) hM.ow rfl rfl
  obtain ⟨A,cO,rfl,_,hC⟩:=Kd.KW Y8.bM
  refine (YI b (bump s) A cO vU a bb cc n (s.p bb) _ (rowOf s (s.p bb)) ha hbb rfl h1 h2 (by show s.bM.length≤_;omega) rfl h3 h4 rfl W hM.st hC).mono ?_
  rintro e' w' ⟨rfl,q1,q2⟩
  have q:=mX (s':={ bump s with x:=upd s.x a (rd (rowOf s (s.p bb)) n) }) hb hlt hR q1 (hM.ow.trans q2) rfl rfl
  exact ⟨rfl,q.1,q.2⟩
theorem MR {vO vU:Value} {a bb cc:Nat} {n:Int} (ha:a < 8) (hbb:bb < 8) (hl1:s.bM.length≤1000000) (hb:W0.heap.size≤b) (hst:kF b s vO vU w) (hR:Rows W0.heap.size b s vO vU w) (p0 p1 p2 p3:Value) (hF:Nl s (s.p bb) n) :
    Calls Tryd.prog 22 #[.pointer (some ⟨b,0,none⟩),.agg #[p0,p1,p2,p3],.agg #[.int .u8 10,.int .u8 a,.int .u8 bb,.int .u8 cc,.int .i64 n]] w fun e' w'=>e'=.returned (.int .i64 0)∧uD W0.heap.size b { bump s with p:=upd s.p a (rd (rowOf s (s.p bb)) n) } w'∧Below W0.heap.size w w':=by
  have hlt:=hst.lt
  obtain ⟨h1,h2,h3,h4⟩:=hF
  refine XG b s vO vU a bb cc n 0 w hst p0 p1 p2 p3 _ fun W hM=>?_
  have Y8:=hR.ow (s':=bump s) hM.ow rfl rfl
  obtain ⟨A,cO,rfl,_,hC⟩:=Kd.KW Y8.bM
  refine (YJ b (bump s) A cO vU a bb cc n (s.p bb) _ (rowOf s (s.p bb)) ha hbb rfl h1 h2 (by show s.bM.length≤_;omega) rfl h3 h4 rfl W hM.st hC).mono ?_
  rintro e' w' ⟨rfl,q1,q2⟩
  have q:=mX (s':={ bump s with p:=upd s.p a (rd (rowOf s (s.p bb)) n) }) hb hlt hR q1 (hM.ow.trans q2) rfl rfl
  exact ⟨rfl,q.1,q.2⟩
theorem MQ {vO vU:Value} {a bb cc:Nat} {n:Int} (ha:a < 8) (hbb:bb < 8) (hl1:s.bM.length≤1000000) (hb:W0.heap.size≤b) (hst:kF b s vO vU w) (hR:Rows W0.heap.size b s vO vU w) (p0 p1 p2 p3:Value) (hF:Nl s (s.p a) n) :
    Calls Tryd.prog 22 #[.pointer (some ⟨b,0,none⟩),.agg #[p0,p1,p2,p3],.agg #[.int .u8 9,.int .u8 a,.int .u8 bb,.int .u8 cc,.int .i64 n]] w fun e' w'=>e'=.returned (.int .i64 0)∧uD W0.heap.size b { bump s with bM:=s.bM.set (s.p a - 1).toNat ((rowOf s (s.p a)).set n.toNat (s.x bb)) } w'∧Below W0.heap.size w w':=by
  have hlt:=hst.lt
  obtain ⟨h1,h2,h3,h4⟩:=hF
  refine ach b s vO vU a bb cc n 0 w hst p0 p1 p2 p3 _ fun W hM=>?_
  have Y8:=hR.ow (s':=bump s) hM.ow rfl rfl
  obtain ⟨ad,vX,cO,c1,old,rfl,x1,x2,x3,x4⟩:=Y8.aaJ hM.st.lt hb (s.p a) n h1 h2 (rowOf s (s.p a)) rfl h3 h4
  refine (QY b (bump s) ad vX cO c1 _ vU old a bb cc n (s.p a) ha hbb rfl h1 h2 (by show s.bM.length≤_;omega) h3 h4 W hM.st x1 x2 x3).mono ?_
  rintro e' w' ⟨rfl,m,rfl⟩
  obtain ⟨y1,y2,y3⟩:=x4 (.cells #[.int .u8 9,.int .u8 a,.int .u8 bb,.int .u8 cc,.int .i64 n] 55) m (s.x bb) { bump s with bM:=s.bM.set (s.p a - 1).toNat ((rowOf s (s.p a)).set n.toNat (s.x bb)) } rfl rfl
  exact ⟨rfl,⟨hb,_,_,⟨(hM.st.of_block y2).blk⟩,y1⟩,(hM.ow.low hb hlt).trans y3⟩
theorem Hf {vO vU:Value} {a bb cc:Nat} {n:Int} (ha:a < 8) (hbb:bb < 8) (hl1:s.bM.length≤1000000) (hb:W0.heap.size≤b) (hst:kF b s vO vU w) (hR:Rows W0.heap.size b s vO vU w) (p0 p1 p2 p3:Value) (hF:Nl s (s.p a) n) :
    Calls Tryd.prog 22 #[.pointer (some ⟨b,0,none⟩),.agg #[p0,p1,p2,p3],.agg #[.int .u8 11,.int .u8 a,.int .u8 bb,.int .u8 cc,.int .i64 n]] w fun e' w'=>e'=.returned (.int .i64 0)∧uD W0.heap.size b { bump s with bM:=s.bM.set (s.p a - 1).toNat ((rowOf s (s.p a)).set n.toNat (s.p bb)) } w'∧Below W0.heap.size w w':=by
  have hlt:=hst.lt
  obtain ⟨h1,h2,h3,h4⟩:=hF
  refine XF b s vO vU a bb cc n 0 w hst p0 p1 p2 p3 _ fun W hM=>?_
  have Y8:=hR.ow (s':=bump s) hM.ow rfl rfl
  obtain ⟨ad,vX,cO,c1,old,rfl,x1,x2,x3,x4⟩:=Y8.aaJ hM.st.lt hb (s.p a) n h1 h2 (rowOf s (s.p a)) rfl h3 h4
  refine (QZ b (bump s) ad vX cO c1 _ vU old a bb cc n (s.p a) ha hbb rfl h1 h2 (by show s.bM.length≤_;omega) h3 h4 W hM.st x1 x2 x3).mono ?_
  rintro e' w' ⟨rfl,m,rfl⟩
  obtain ⟨y1,y2,y3⟩:=x4 (.cells #[.int .u8 11,.int .u8 a,.int .u8 bb,.int .u8 cc,.int .i64 n] 55) m (s.p bb) { bump s with bM:=s.bM.set (s.p a - 1).toNat ((rowOf s (s.p a)).set n.toNat (s.p bb)) } rfl rfl
  exact ⟨rfl,⟨hb,_,_,⟨(hM.st.of_block y2).blk⟩,y1⟩,(hM.ow.low hb hlt).trans y3⟩
theorem alc (hB:Below W0.heap.size W0 w) (hr0:Kd.C Kd.string W0 A0 l0.length l0) (hc0:l0.length≤c0) (hr3:Kd.C tZ W0 A3 l3.length l3) (hc3:l3.length≤c3) (hM:uD W0.heap.size b s w) (op:Int) (a bb cc:Nat) (n:Int) (g4:s.bM.length≤1000000) (g5:s.out.length≤1000000) (h:uu (NL k l0 a1 a2 l3) s op a bb cc n=some (s',e)) :
    Calls Tryd.prog 22 #[.pointer (some ⟨b,0,none⟩),.agg #[.slice A0 l0.length c0,.string a1,.string a2,.slice A3 l3.length c3],.agg #[.int .u8 op,.int .u8 a,.int .u8 bb,.int .u8 cc,.int .i64 n]] w fun e' w'=>e'=.returned (.int .i64 e)∧uD W0.heap.size b s' w'∧Below W0.heap.size w w':=by
  obtain ⟨hb,vO,vU,hst,hR⟩:=hM
  have hlt:=hst.lt
  unfold uu at h
  by_cases he:op=1
  · rw [if_pos he] at h
    subst he
    split at h
    case isFalse=>cases h
    obtain ⟨rfl,rfl⟩:=Prod.mk.inj (Option.some.inj h)
    refine (do_1 b s vO vU a bb cc n (by omega) w hst _ _ _ _).mono ?_
    rintro e' w' ⟨rfl,q1,q2⟩
    exact ⟨rfl,mX hb hlt hR q1 q2 rfl rfl⟩
  rw [if_neg he] at h
  clear he
  by_cases he:op=2
  · rw [if_pos he] at h
    subst he
    split at h
    case isFalse=>cases h
    rename_i hx
    obtain ⟨rfl,rfl⟩:=Prod.mk.inj (Option.some.inj h)
    refine (alh b s vO vU a bb cc n (by omega) (by omega) (by omega) w hst _ _ _ _).mono ?_
    rintro e' w' ⟨rfl,q1,q2⟩
    exact ⟨rfl,mX hb hlt hR q1 q2 rfl rfl⟩
  rw [if_neg he] at h
  clear he
  by_cases he:op=3
  · rw [if_pos he] at h
    subst he
    obtain ⟨rfl,rfl⟩:=Prod.mk.inj (Option.some.inj h)
    refine (alg b s vO vU a bb cc n w hst _ _ _ _).mono ?_
    rintro e' w' ⟨rfl,q1,q2⟩
    exact ⟨rfl,mX hb hlt hR q1 q2 rfl rfl⟩
  rw [if_neg he] at h
  clear he
  by_cases he:op=4
  · rw [if_pos he] at h
    subst he
    split at h
    case isFalse=>cases h
    split at h
    · rename_i hz
      obtain ⟨rfl,rfl⟩:=Prod.mk.inj (Option.some.inj h)
      refine (PU b s vO vU a bb cc n (by omega) hz w hst _ _ _ _).mono ?_
      rintro e' w' ⟨rfl,q1,q2⟩
      exact ⟨rfl,mX hb hlt hR q1 q2 rfl rfl⟩
    · rename_i hz
      obtain ⟨rfl,rfl⟩:=Prod.mk.inj (Option.some.inj h)
      refine (Ws b s vO vU a bb cc n (by omega) hz w hst _ _ _ _).mono ?_
      rintro e' w' ⟨rfl,q1,q2⟩
      exact ⟨rfl,mX hb hlt hR q1 q2 rfl rfl⟩
  rw [if_neg he] at h
  clear he
  by_cases he:op=5
  · rw [if_pos he] at h
    subst he
    split at h
    case isFalse=>cases h
    obtain ⟨z,hz,h⟩:=Option.bind_eq_some_iff.1 h
    obtain ⟨t,ht,hz⟩:=Option.bind_eq_some_iff.1 hz
    split at h
    case isFalse=>cases h
    obtain ⟨rfl,rfl⟩:=Prod.mk.inj (Option.some.inj h)
    exact alf k b s vO vU a bb cc n A0 c0 l0 a1 a2 A3 c3 l3 t z (by omega) (by omega) ht hz (by omega) (by omega) W0 w hb hB hr0 hc0 hr3 hc3 hst hR
  rw [if_neg he] at h
  clear he
  by_cases he:op=6
  · rw [if_pos he] at h
    subst he
    split at h
    case isFalse=>cases h
    obtain ⟨rfl,rfl⟩:=Prod.mk.inj (Option.some.inj h)
    refine (ale b s vO vU a bb cc n (by omega) w hst _ _ _ _).mono ?_
    rintro e' w' ⟨rfl,q1,q2⟩
    exact ⟨rfl,mX hb hlt hR q1 q2 rfl rfl⟩
  rw [if_neg he] at h
  clear he
  by_cases he:op=7
  · rw [if_pos he] at h
    subst he
    split at h
    case isFalse=>cases h
    obtain ⟨rfl,rfl⟩:=Prod.mk.inj (Option.some.inj h)
    refine (ald b s vO vU a bb cc n (by omega) (by omega) w hst _ _ _ _).mono ?_
    rintro e' w' ⟨rfl,q1,q2⟩
    exact ⟨rfl,mX hb hlt hR q1 q2 rfl rfl⟩
  rw [if_neg he] at h
  clear he
  by_cases he:op=8
  · rw [if_pos he] at h
    subst he
    split at h
    case isFalse=>cases h
    split at h
    · rename_i hz
      obtain ⟨rfl,rfl⟩:=Prod.mk.inj (Option.some.inj h)
      refine aci b s vO vU a bb cc n 9 w hst _ _ _ _ _ fun W hM=>?_
      refine (BR b (bump s) vO vU 8 a bb cc n (by omega) hz W hM.st).mono ?_
      rintro e' w' ⟨rfl,q1,q2⟩
      exact ⟨rfl,mX hb hlt hR q1 (hM.ow.trans q2) rfl rfl⟩
    · split at h
      case isFalse=>cases h
      rename_i hF
      obtain ⟨rfl,rfl⟩:=Prod.mk.inj (Option.some.inj h)
      exact PS (by omega) (by omega) g4 hb hst hR _ _ _ _ hF
  rw [if_neg he] at h
  clear he
  by_cases he:op=9
  · rw [if_pos he] at h
    subst he
    split at h
    case isFalse=>cases h
    split at h
    · rename_i hz
      obtain ⟨rfl,rfl⟩:=Prod.mk.inj (Option.some.inj h)
      refine ach b s vO vU a bb cc n 9 w hst _ _ _ _ _ fun W hM=>?_
      refine (zG b (bump s) vO vU 9 a bb cc n (by omega) hz W hM.st).mono ?_
      rintro e' w' ⟨rfl,q1,q2⟩
      exact ⟨rfl,mX hb hlt hR q1 (hM.ow.trans q2) rfl rfl⟩
    · split at h
      case isFalse=>cases h
      rename_i hF
      obtain ⟨rfl,rfl⟩:=Prod.mk.inj (Option.some.inj h)
      exact MQ (by omega) (by omega) g4 hb hst hR _ _ _ _ hF
  rw [if_neg he] at h
  clear he
  by_cases he:op=10
  · rw [if_pos he] at h
    subst he
    split at h
    case isFalse=>cases h
    split at h
    · rename_i hz
      obtain ⟨rfl,rfl⟩:=Prod.mk.inj (Option.some.inj h)
      refine XG b s vO vU a bb cc n 9 w hst _ _ _ _ _ fun W hM=>?_
      refine (BR b (bump s) vO vU 10 a bb cc n (by omega) hz W hM.st).mono ?_
      rintro e' w' ⟨rfl,q1,q2⟩
      exact ⟨rfl,mX hb hlt hR q1 (hM.ow.trans q2) rfl rfl⟩
    · split at h
      case isFalse=>cases h
      rename_i hF
      obtain ⟨rfl,rfl⟩:=Prod.mk.inj (Option.some.inj h)
      exact MR (by omega) (by omega) g4 hb hst hR _ _ _ _ hF
  rw [if_neg he] at h
  clear he
  by_cases he:op=11
  · rw [if_pos he] at h
    subst he
    split at h
    case isFalse=>cases h
    split at h
    · rename_i hz
      obtain ⟨rfl,rfl⟩:=Prod.mk.inj (Option.some.inj h)
      refine XF b s vO vU a bb cc n 9 w hst _ _ _ _ _ fun W hM=>?_
      refine (zG b (bump s) vO vU 11 a bb cc n (by omega) hz W hM.st).mono ?_
      rintro e' w' ⟨rfl,q1,q2⟩
      exact ⟨rfl,mX hb hlt hR q1 (hM.ow.trans q2) rfl rfl⟩
    · split at h
      case isFalse=>cases h
      rename_i hF
      obtain ⟨rfl,rfl⟩:=Prod.mk.inj (Option.some.inj h)
      exact Hf (by omega) (by omega) g4 hb hst hR _ _ _ _ hF
  rw [if_neg he] at h
  clear he
  by_cases he:op=12
  · rw [if_pos he] at h
    subst he
    split at h
    case isFalse=>cases h
    obtain ⟨rfl,rfl⟩:=Prod.mk.inj (Option.some.inj h)
    refine (acm b s vO vU a bb cc n (by omega) (by omega) w hst _ _ _ _).mono ?_
    rintro e' w' ⟨rfl,q1,q2⟩
    exact ⟨rfl,mX hb hlt hR q1 q2 rfl rfl⟩
  rw [if_neg he] at h
  clear he
  by_cases he:op=13
  · rw [if_pos he] at h
    subst he
    split at h
    case isFalse=>cases h
    obtain ⟨rfl,rfl⟩:=Prod.mk.inj (Option.some.inj h)
    refine (ack b s vO vU a bb cc n (by omega) (by omega) w hst _ _ _ _).mono ?_
    rintro e' w' ⟨rfl,q1,q2⟩
    exact ⟨rfl,mX hb hlt hR q1 q2 rfl rfl⟩
  rw [if_neg he] at h
  clear he
  by_cases he:op=14
  · rw [if_pos he] at h
    subst he
    split at h
    case isFalse=>cases h
    obtain ⟨rfl,rfl⟩:=Prod.mk.inj (Option.some.inj h)
    exact acj W0.heap.size b s vO vU a bb cc n (by omega) (by omega) hb w hst hR _ _ _ _
  rw [if_neg he] at h
  clear he
  by_cases he:op=15
  · rw [if_pos he] at h
    subst he
    split at h
    case isFalse=>cases h
    obtain ⟨rfl,rfl⟩:=Prod.mk.inj (Option.some.inj h)
    by_cases hz:s.p bb=s.p cc
    · rw [if_pos hz]
      refine (MS b s vO vU a bb cc n (by omega) (by omega) (by omega) hz w hst _ _ _ _).mono ?_
      rintro e' w' ⟨rfl,q1,q2⟩
      rw [Lt] at q1
      exact ⟨rfl,mX hb hlt hR q1 q2 rfl rfl⟩
    · rw [if_neg hz]
      refine (PV b s vO vU a bb cc n (by omega) (by omega) (by omega) hz w hst _ _ _ _).mono ?_
      rintro e' w' ⟨rfl,q1,q2⟩
      exact ⟨rfl,mX hb hlt hR q1 q2 rfl rfl⟩
  rw [if_neg he] at h
  cases h
theorem PT (hB:Below W0.heap.size W0 w) (hr0:Kd.C Kd.string W0 A0 l0.length l0) (hc0:l0.length≤c0) (hr3:Kd.C tZ W0 A3 l3.length l3) (hc3:l3.length≤c3) (hM:uD W0.heap.size b s w) (i:gZ) (h:Ns (NL k l0 a1 a2 l3) s i=some (s',e)) :
    Calls Tryd.prog 22 #[.pointer (some ⟨b,0,none⟩),.agg #[.slice A0 l0.length c0,.string a1,.string a2,.slice A3 l3.length c3],.agg #[.int .u8 i.f0,.int .u8 i.f1,.int .u8 i.f2,.int .u8 i.f3,.int .i64 i.f4]] w fun e' w'=>e'=.returned (.int .i64 e)∧uD W0.heap.size b s' w'∧Below W0.heap.size w w':=by
  unfold Ns at h
  split at h
  case isFalse=>cases h
  rename_i hg
  obtain ⟨g1,g2,g3,g4,g5⟩:=hg
  have:=alc hB hr0 hc0 hr3 hc3 hM i.f0 i.f1.toNat i.f2.toNat i.f3.toNat i.f4 g4 g5 h
  rwa [Int.toNat_of_nonneg g1,Int.toNat_of_nonneg g2,Int.toNat_of_nonneg g3] at this
end
end Go.Proofs.YtlemecdddhdagaaDoor.P
end
section
namespace Go.Proofs.YtlemecdddhdagaaDoor.P
open Go.RowKit Go.Proofs.ag.bI Go.Proofs.ag.dM Go.Proofs.ag.dZ
attribute [local go_sem ↓] Go.wp_at_zero Go.wp_at_succ
def FV:St:=⟨fun _=>0,fun _=>0,fun _=>0,[],[],0,0⟩
def zJ (sz:Int→Option Int) (code:List gZ):Nat→St→Int→Option (List Int × Int)
  | 0,_,_=>none
  | k+1,s,fuel =>
    if s.pc < code.length then
      if 0≤s.pc then (Ns sz s (aA code s.pc)).bind fun t =>
        if s.out.length≤t.1.out.length then
          if t.2=0 then if fuel=0 then some (t.1.out.take s.out.length,10) else zJ sz code k t.1 (wrap64 (fuel - 1))
          else some (t.1.out.take s.out.length,t.2)
        else none
      else none
    else some (s.out,0)
def gB.f (k:Nat) (l0:List ByteArray) (a1 a2:ByteArray) (l3:List gZ) (fuel:Int):Option (List Int × Int) :=
  (bz.f k l0 a1 a2 l3).bind fun c=>if c.2=0 then if fuel < 0 then some ([],2) else zJ (NL k l0 a1 a2 l3) l3 k FV fuel else some ([],2)
theorem uD.drew {base b:Nat} {s:St} {w:World} (h:uD base b s w):uD base b s w.drew:=by
  obtain ⟨hb,vO,vU,h1,h2⟩:=h
  exact ⟨hb,vO,vU,h1.of_block rfl,h2.move (fun _ _ _=>rfl) rfl rfl⟩
theorem Fp {sz sz':Int→Option Int} (h:∀ a,dN (sz a) (sz' a)) (s:St) (i:gZ):dN (Ns sz s i) (Ns sz' s i):=by
  unfold Ns uu
  repeat' first
      | (with_reducible exact dN.refl _)
      | (with_reducible refine dN.ite ?_ ?_)
      | (with_reducible refine dN.bind (h _) (fun _=>?_))
theorem BM {sz sz':Int→Option Int} (h:∀ a,dN (sz a) (sz' a)) (code:List gZ):∀ (k:Nat) (s:St) (fuel:Int),dN (zJ sz code k s fuel) (zJ sz' code (k+1) s fuel)
  | 0,_,_=>dN.none _
  | k+1,s,fuel=>by
    rw [zJ,zJ]
    repeat' first
      | (with_reducible exact BM h code k _ _)
      | (with_reducible exact dN.refl _)
      | (with_reducible refine dN.ite ?_ ?_)
      | (with_reducible refine dN.bind (Fp h _ _) (fun _=>?_))
theorem gB.mono (l0:List ByteArray) (a1 a2:ByteArray) (l3:List gZ) (fuel:Int) (k:Nat):dN (gB.f k l0 a1 a2 l3 fuel) (gB.f (k+1) l0 a1 a2 l3 fuel):=by
  unfold gB.f
  refine dN.bind (bz.mono _ _ _ _ _) fun c=>dN.ite (dN.ite (dN.refl _) (BM (fun a=>?_) _ _ _ _)) (dN.refl _)
  exact dN.bind (gu.mono _ _ _ _ _ _) fun t=>jC.mono _ _ _
set_option maxRecDepth 100000 in
set_option maxHeartbeats 3200000 in
theorem gB.calls (k:Nat) (A0:Option Addr) (c0:Nat) (l0:List ByteArray) (a1 a2:ByteArray) (A3:Option Addr) (c3:Nat) (l3:List gZ) (fuel:Int) (r1:List Int) (r2:Int) (w:World) (hr0:Kd.C Kd.string w A0 l0.length l0) (hc0:l0.length≤c0) (hr3:Kd.C tZ w A3 l3.length l3) (hc3:l3.length≤c3) (kZ:Kd.C Kd.string w qx ku.length ku) (h:gB.f k l0 a1 a2 l3 fuel=some (r1,r2)) :
    Calls Tryd.prog 12 #[.agg #[.slice A0 l0.length c0,.string a1,.string a2,.slice A3 l3.length c3],.int .i64 fuel] w fun e w'=>∃ v0_,e=.returned (.tuple #[v0_,.int .i64 r2])∧Kd.R (Kd.int .i64) 2 w' w.heap.size (fun _=>True) v0_ r1∧Below w.heap.size w w':=by
  obtain ⟨⟨e1,e2⟩,Pm,h1⟩:=Option.bind_eq_some_iff.1 h
  obtain ⟨wb,hwb⟩:∃ wb,w.alloc (.cells #[.slice A0 l0.length c0,.string a1,.string a2,.slice A3 l3.length c3] 25)=wb:=⟨_,rfl⟩
  have hB1:Below w.heap.size w wb:=by rw [← hwb];exact (Below.refl _ w).alloc (Nat.le_refl _) _
  obtain ⟨G,hG⟩:∃ G,w.heap.size=G:=⟨_,rfl⟩
  have hP1:∀ (j:Nat) (v:Value),(#[.slice A0 l0.length c0,.string a1,.string a2,.slice A3 l3.length c3]:Array Value)[j]? = some v→wb.cell? ⟨G,j,none⟩=some v:=by
    intro j v hv
    have e:wb.heap[G]? = some (.cells #[.slice A0 l0.length c0,.string a1,.string a2,.slice A3 l3.length c3] 25 (0,0)):=by rw [← hwb,← hG];exact heap_alloc_new w _
    simp only [World.cell?,e]
    exact hv
  have hs1:G < wb.heap.size:=by rw [← hwb,← hG];simp
  have HH:=ae.mk h1
  have HR0:=ae.mk (Kd.bK hr0 hB1)
  have HR3:=ae.mk (Kd.bK hr3 hB1)
  have wJ:=ae.mk (Kd.bK kZ hB1)
  have XX:=ae.mk Pm
  have HB1:=ae.mk hB1
  have p0:wb.cell? ⟨G,0,none⟩=some (.slice A0 l0.length c0):=hP1 0 _ rfl
  have p1:wb.cell? ⟨G,1,none⟩=some (.string a1):=hP1 1 _ rfl
  have p2:wb.cell? ⟨G,2,none⟩=some (.string a2):=hP1 2 _ rfl
  have p3:wb.cell? ⟨G,3,none⟩=some (.slice A3 l3.length c3):=hP1 3 _ rfl
  clear h1 h hr0 hr3 kZ Pm hB1 hP1
  go_enter Tryd.func12,Tryd.ntmps12
  go_upto_region 999 with (fail)
  refine (bz.calls k A0 c0 l0 a1 a2 A3 c3 l3 e1 e2 wb HR0.out hc0 HR3.out hc3 wJ.out XX.out).mono ?_
  rintro e W1 ⟨rfl,hb1⟩
  have q0:W1.cell? ⟨G,0,none⟩=some (.slice A0 l0.length c0):=(World.cell?_of_block (a:=⟨G,0,none⟩) (hb1.block G hs1)).trans p0
  have q1:W1.cell? ⟨G,1,none⟩=some (.string a1):=(World.cell?_of_block (a:=⟨G,1,none⟩) (hb1.block G hs1)).trans p1
  have q2:W1.cell? ⟨G,2,none⟩=some (.string a2):=(World.cell?_of_block (a:=⟨G,2,none⟩) (hb1.block G hs1)).trans p2
  have q3:W1.cell? ⟨G,3,none⟩=some (.slice A3 l3.length c3):=(World.cell?_of_block (a:=⟨G,3,none⟩) (hb1.block G hs1)).trans p3
  replace HR0:=ae.mk (Kd.bK HR0.out hb1)
  replace HR3:=ae.mk (Kd.bK HR3.out hb1)
  have hs2:G < W1.heap.size:=Nat.lt_of_lt_of_le hs1 hb1.size
  replace HB1:=ae.mk (show Below w.heap.size w W1 from HB1.out.trans (hb1.mono (by omega)))
  clear hb1 wJ XX p0 p1 p2 p3 hwb hs1
  by_cases he2:e2=0
  case neg =>
    have hb2:(e2 == 0)=false:=beq_eq_false_iff_ne.2 he2
    have hb3:(e2 != 0)=true:=by simp [he2]
    have hb4:decide (e2=0)=false:=decide_eq_false he2
    have qQ:ae (some (([]:List Int),(2:Int))=some (r1,r2)):=⟨(if_neg he2).symm.trans HH.out⟩
    obtain ⟨rfl,rfl⟩:=Prod.mk.inj (Option.some.inj qQ.out)
    clear HH qQ
    go_wp2
    go_ret2
    exact ⟨_,rfl,Kd.yx _ _ _ _ _,HB1.out⟩
  case pos =>
  replace HH:=ae.mk ((if_pos he2).symm.trans HH.out)
  subst he2
  by_cases hf:fuel < 0
  · have qQ:ae (some (([]:List Int),(2:Int))=some (r1,r2)):=⟨(if_pos hf).symm.trans HH.out⟩
    obtain ⟨rfl,rfl⟩:=Prod.mk.inj (Option.some.inj qQ.out)
    clear HH qQ
    go_wp2
    go_ret2
    exact ⟨_,rfl,Kd.yx _ _ _ _ _,HB1.out⟩
  have hf':decide (fuel < 0)=false:=decide_eq_false hf
  have qQ:ae (zJ (NL k l0 a1 a2 l3) l3 k FV fuel=some (r1,r2)):=⟨(if_neg hf).symm.trans HH.out⟩
  clear HH hf
  obtain ⟨b,hb⟩:∃ b,W1.heap.size=b:=⟨_,rfl⟩
  obtain ⟨Wz,Xt⟩:∃ Wz,W1.alloc (.cells (cellsS FV (.slice none 0 0) (.slice none 0 0)) 39)=Wz:=⟨_,rfl⟩
  have hM0:uD W1.heap.size b FV Wz:=by
    refine ⟨Nat.le_of_eq hb,.slice none 0 0,.slice none 0 0,⟨?_⟩,⟨Kd.Qi _ _ _ _ _,Kd.yx _ _ _ _ _⟩⟩
    rw [← Xt,← hb]
    exact heap_alloc_new W1 _
  have hBz:Below W1.heap.size W1 Wz:=by rw [← Xt];exact (Below.refl _ W1).alloc (Nat.le_refl _) _
  have HMz:=ae.mk hM0
  have HBz:=ae.mk hBz
  clear hM0 hBz
  unfold cellsS FV at Xt
  go_wp2
  have Q0:=Lib.hid q0
  have Q1:=Lib.hid q1
  have Q2:=Lib.hid q2
  have Q3:=Lib.hid q3
  clear q0 q1 q2 q3 hf' Xt
  have hG2:=hs2
  go_loopg [1] k (fun kq fv wr=>∃ (s:St) (fu:Int),fv=.int .i64 fu∧ae (zJ (NL k l0 a1 a2 l3) l3 kq s fu=some (r1,r2))∧ae (uD W1.heap.size b s wr)∧ae (Below W1.heap.size W1 wr))
  case atStart=>exact ⟨_,_,rfl,qQ,HMz,HBz⟩
  case round =>
  clear qQ HMz HBz Wz
  obtain ⟨s,fu,rfl,HH,HM,HB⟩:=hrel
  cases gk with
  | zero=>exact absurd HH.out (by simp [zJ])
  | succ gk =>
  have p0:wr.cell? ⟨G,0,none⟩=some (.slice A0 l0.length c0):=(HB.out.cell (p:=⟨G,0,none⟩) hG2).trans Q0.out
  have p1:wr.cell? ⟨G,1,none⟩=some (.string a1):=(HB.out.cell (p:=⟨G,1,none⟩) hG2).trans Q1.out
  have p2:wr.cell? ⟨G,2,none⟩=some (.string a2):=(HB.out.cell (p:=⟨G,2,none⟩) hG2).trans Q2.out
  have p3:wr.cell? ⟨G,3,none⟩=some (.slice A3 l3.length c3):=(HB.out.cell (p:=⟨G,3,none⟩) hG2).trans Q3.out
  have hG3:=Lib.hid hG2
  clear hG2 hs2
  obtain ⟨hlow,vO,vU,hst,PH⟩:=HM.out
  obtain ⟨AU,cU,rfl⟩:=Kd.jr PH.out
  have cpc:wr.cell? ⟨b,22,none⟩=some (.int .i64 s.pc):=hst.cell 22
  have c21:wr.cell? ⟨b,21,none⟩=some (.slice AU s.out.length cU):=hst.cell 21
  have HRW:=Lib.hid PH
  have hH:=HH.out
  rw [zJ] at hH
  clear hst PH HH
  by_cases hlt:s.pc < l3.length
  case neg =>
    rw [if_neg hlt] at hH
    obtain ⟨rfl,rfl⟩:=Prod.mk.inj (Option.some.inj hH)
    have hlt':decide (s.pc < (l3.length:Int))=false:=decide_eq_false hlt
    clear hH hlt
    go_wp2
    go_ret2
    refine ⟨_,rfl,?_,HB1.out.trans (HB.out.mono (by have:=hG3.out;omega))⟩
    exact Kd.jh (Kd.jO HRW.out.out (fun _ _=>trivial)) (by have:=hG3.out;omega)
  rw [if_pos hlt] at hH
  by_cases hp0:0≤s.pc
  case neg =>
    rw [if_neg hp0] at hH
    cases hH
  rw [if_pos hp0] at hH
  obtain ⟨⟨s5,e5⟩,hD,hH⟩:=Option.bind_eq_some_iff.1 hH
  simp only at hH
  have HD:=ae.mk hD
  clear hD
  split at hH
  case isFalse=>cases hH
  rename_i hlen
  have HH:=ae.mk hH
  have hlen:=Lib.hid hlen
  clear hH
  have hlt':decide (s.pc < (l3.length:Int))=true:=decide_eq_true hlt
  obtain ⟨ad,hA,d0,d1,d2,d3,d4⟩:=Az (Kd.bK HR3.out HB.out) s.pc hp0 hlt
  subst hA
  have j0:(0≤s.pc)=True:=eq_true hp0
  have j1:(s.pc < (l3.length:Int))=True:=eq_true hlt
  clear hlt hp0
  go_wp2
  refine wp_region_noPanic ?_
  refine o5 (n:=9) (S:=fun w'=>w'.cell? ⟨G,0,none⟩=some (.slice A0 l0.length c0)∧w'.cell? ⟨G,1,none⟩=some (.string a1)∧w'.cell? ⟨G,2,none⟩=some (.string a2)∧w'.cell? ⟨G,3,none⟩=some (.slice (some ad) l3.length c3)∧w'.cell? ⟨b,22,none⟩=some (.int .i64 s.pc)∧w'.cell? (ad.add (s.pc.toNat * 5))=some (.int .u8 (aA l3 s.pc).f0)∧w'.cell? ⟨(ad.add (s.pc.toNat * 5)).block,(ad.add (s.pc.toNat * 5)).off+1,none⟩=some (.int .u8 (aA l3 s.pc).f1)∧w'.cell? ⟨(ad.add (s.pc.toNat * 5)).block,(ad.add (s.pc.toNat * 5)).off+2,none⟩=some (.int .u8 (aA l3 s.pc).f2)∧w'.cell? ⟨(ad.add (s.pc.toNat * 5)).block,(ad.add (s.pc.toNat * 5)).off+3,none⟩=some (.int .u8 (aA l3 s.pc).f3)∧w'.cell? ⟨(ad.add (s.pc.toNat * 5)).block,(ad.add (s.pc.toNat * 5)).off+4,none⟩=some (.int .i64 (aA l3 s.pc).f4)) (ds:=[7,8]) #[false,false,false,false,false,false,false,false,false] (by kernel_rfl) rfl rfl ⟨p0,p1,p2,p3,cpc,d0,d1,d2,d3,d4⟩ (fun hHeld=>?_)
  clear p0 p1 p2 p3 cpc d0 d1 d2 d3 d4 c21
  have ZU:=ae.mk (HM.out.drew)
  have HB2:=ae.mk (show Below W1.heap.size W1 wr.drew from HB.out.drew)
  clear HM HB
  generalize wr.drew=wy at ZU HB2 hHeld ⊢
  refine jg (i:=0) (N:=some 33) (v:=?_) (a':=?_) #[true,false,false,false,false,false,false,false,false] rfl rfl (by kernel_rfl) (fun _ _ _ h=>h) (Or.inl ⟨by rfl,?_⟩) hHeld ?_ ?_
  rotate_left
  · rintro w' ⟨YF,Yy,Yx,Yw,Hg,Zr,Zq,Zp,Zo,Zn⟩
    go_simp
    with_reducible rfl
  rotate_left
  · simp only [Act.put,List.setIfInBounds_toArray,List.set_cons_zero,List.set_cons_succ,bG,bJ]
    rfl
  refine dX (i:=1) (N:=some 34) (v:=?_) (a':=?_) #[true,true,false,false,false,false,false,false,false] rfl rfl (by kernel_rfl) (fun _ _ _ h=>h) (Or.inl ⟨by rfl,?_⟩) ?_ ?_
  rotate_left
  · intro w'
    go_simp
    with_reducible rfl
  rotate_left
  · simp only [Act.put,List.setIfInBounds_toArray,List.set_cons_zero,List.set_cons_succ,bG,bJ]
    rfl
  refine jg (i:=2) (N:=some 35) (v:=?_) (a':=?_) #[true,true,true,false,false,false,false,false,false] rfl rfl (by kernel_rfl) (fun _ _ _ h=>h) (Or.inl ⟨by rfl,?_⟩) hHeld ?_ ?_
  rotate_left
  · rintro w' ⟨YF,Yy,Yx,Yw,Hg,Zr,Zq,Zp,Zo,Zn⟩
    go_simp
    with_reducible rfl
  rotate_left
  · simp only [Act.put,List.setIfInBounds_toArray,List.set_cons_zero,List.set_cons_succ,bG,bJ]
    rfl
  refine dX (i:=3) (N:=some 36) (v:=?_) (a':=?_) #[true,true,true,true,false,false,false,false,false] rfl rfl (by kernel_rfl) (fun _ _ _ h=>h) (Or.inl ⟨by rfl,?_⟩) ?_ ?_
  rotate_left
  · intro w'
    go_simp
    with_reducible rfl
  rotate_left
  · simp only [Act.put,List.setIfInBounds_toArray,List.set_cons_zero,List.set_cons_succ,bG,bJ]
    rfl
  refine jg (i:=4) (N:=some 37) (v:=?_) (a':=?_) #[true,true,true,true,true,false,false,false,false] rfl rfl (by kernel_rfl) (fun _ _ _ h=>h) (Or.inl ⟨by rfl,?_⟩) hHeld ?_ ?_
  rotate_left
  · rintro w' ⟨YF,Yy,Yx,Yw,Hg,Zr,Zq,Zp,Zo,Zn⟩
    go_simp
    with_reducible rfl
  rotate_left
  · simp only [Act.put,List.setIfInBounds_toArray,List.set_cons_zero,List.set_cons_succ,bG,bJ]
    rfl
  refine dX (i:=5) (N:=some 38) (v:=?_) (a':=?_) #[true,true,true,true,true,true,false,false,false] rfl rfl (by kernel_rfl) (fun _ _ _ h=>h) (Or.inl ⟨by rfl,?_⟩) ?_ ?_
  rotate_left
  · intro w'
    go_simp
    with_reducible rfl
  rotate_left
  · simp only [Act.put,List.setIfInBounds_toArray,List.set_cons_zero,List.set_cons_succ,bG,bJ]
    rfl
  refine jg (i:=6) (N:=some 39) (v:=?_) (a':=?_) #[true,true,true,true,true,true,true,false,false] rfl rfl (by kernel_rfl) (fun _ _ _ h=>h) (Or.inl ⟨by rfl,?_⟩) hHeld ?_ ?_
  rotate_left
  · rintro w' ⟨YF,Yy,Yx,Yw,Hg,Zr,Zq,Zp,Zo,Zn⟩
    go_simp
    with_reducible rfl
  rotate_left
  · simp only [Act.put,List.setIfInBounds_toArray,List.set_cons_zero,List.set_cons_succ,bG,bJ]
    rfl
  refine zX (i:=7) (N:=some 40) #[true,true,true,true,true,true,true,true,false] rfl rfl (by kernel_rfl) (by decide) (fun K hK=>?_)
  refine oI Tryd.func22 (by kernel_rfl) rfl #[.pointer (some ⟨b,0,none⟩),.agg #[.slice A0 l0.length c0,.string a1,.string a2,.slice (some ad) l3.length c3],.agg #[.int .u8 (aA l3 s.pc).f0,.int .u8 (aA l3 s.pc).f1,.int .u8 (aA l3 s.pc).f2,.int .u8 (aA l3 s.pc).f3,.int .i64 (aA l3 s.pc).f4]] (by rfl) rfl rfl (by (try simp only [List.map_toArray,List.map_cons,List.map_nil]);rfl) ?_
  refine (PT HB2.out HR0.out hc0 HR3.out hc3 ZU.out (aA l3 s.pc) HD.out).mono ?_
  rintro e w5 ⟨rfl,YX,hb5⟩
  have HM5:=ae.mk YX
  have Lh:=ae.mk (HB2.out.trans hb5)
  clear ZU HB2 YX hb5 hHeld
  refine ⟨_,rfl,?_⟩
  refine hK.out _ _ ?_
  clear hK K
  refine jm (a':=?_) ?_ ?_
  rotate_left
  · show Act.put _ (some 40) _=_
    simp only [Act.put,List.setIfInBounds_toArray,List.set_cons_zero,List.set_cons_succ,bG,bJ]
    rfl
  refine zX (i:=8) (N:=some 10) #[true,true,true,true,true,true,true,true,true] rfl rfl (by kernel_rfl) (by decide) (fun K hK=>?_)
  refine zF (w1:=w5) (v:=.int .i64 e5) (by rfl) rfl (by go_simp) ?_
  refine hK.out _ _ ?_
  clear hK K
  refine jm (a':=?_) ?_ ?_
  rotate_left
  · show Act.put _ (some 10) _=_
    simp only [Act.put,List.setIfInBounds_toArray,List.set_cons_zero,List.set_cons_succ,bG,bJ]
    rfl
  refine rH (by kernel_rfl) ?_
  refine NoPanic.normal ?_
  obtain ⟨abe,vO5,vU5,hst5,uk⟩:=HM5.out
  obtain ⟨AU5,cU5,rfl⟩:=Kd.jr uk.out
  have k21:w5.cell? ⟨b,21,none⟩=some (.slice AU5 s5.out.length cU5):=hst5.cell 21
  have HU5:=Lib.hid uk.out
  have hcap:s5.out.length≤cU5:=(Kd.eG uk.out).2.1
  have hcut:((s.out.length:Int)≤(cU5:Int))=True:=eq_true (by have:=hlen.out;omega)
  have am4:(0≤(s.out.length:Int))=True:=eq_true (by omega)
  clear hst5 uk hcap
  by_cases OZ:e5=0
  case neg =>
    have hb2:(e5 == 0)=false:=beq_eq_false_iff_ne.2 OZ
    have hb3:(e5 != 0)=true:=by simp [OZ]
    have hb4:decide (e5=0)=false:=decide_eq_false OZ
    have qQ:ae (some (s5.out.take s.out.length,e5)=some (r1,r2)):=⟨(if_neg OZ).symm.trans HH.out⟩
    obtain ⟨rfl,rfl⟩:=Prod.mk.inj (Option.some.inj qQ.out)
    clear HH qQ
    go_wp2
    go_ret2
    refine ⟨_,rfl,?_,by have q:=HB1.out.trans (Lh.out.mono (show w.heap.size≤W1.heap.size by have:=hG3.out;omega));first|exact q|(rw [hG] at q;exact q)⟩
    exact Kd.jh (Kd.jO (Kd.Ql HU5.out hlen.out) (fun _ _=>trivial)) (by have:=hG3.out;omega)
  case pos =>
  subst OZ
  have qQ:ae ((if fu=0 then some (s5.out.take s.out.length,(10:Int)) else zJ (NL k l0 a1 a2 l3) l3 gk s5 (wrap64 (fu - 1)))=some (r1,r2)):=⟨(if_pos rfl).symm.trans HH.out⟩
  clear HH
  by_cases hfu:fu=0
  case pos =>
    replace qQ:=ae.mk ((if_pos hfu).symm.trans qQ.out)
    subst hfu
    obtain ⟨rfl,rfl⟩:=Prod.mk.inj (Option.some.inj qQ.out)
    clear qQ
    go_wp2
    go_ret2
    refine ⟨_,rfl,?_,by have q:=HB1.out.trans (Lh.out.mono (show w.heap.size≤W1.heap.size by have:=hG3.out;omega));first|exact q|(rw [hG] at q;exact q)⟩
    exact Kd.jh (Kd.jO (Kd.Ql HU5.out hlen.out) (fun _ _=>trivial)) (by have:=hG3.out;omega)
  case neg =>
    replace qQ:=ae.mk ((if_neg hfu).symm.trans qQ.out)
    have hb2:(fu == 0)=false:=beq_eq_false_iff_ne.2 hfu
    go_wp2
    go_roundg gk
    case measure=>omega
    case rel=>exact ⟨s5,_,rfl,qQ,HM5,Lh⟩
end Go.Proofs.YtlemecdddhdagaaDoor.P
end
