/- Parts of the proof of ModelRight: what the functions that it reaches compute, and plain facts about that. -/
import Derived.Lib.OthersKept
import Derived.Test.YtlemecdddhdagaaDoorVal
import Derived.Test.YtlemecdddhdagaaDoorVat
import Derived.Test.YtlemecdddhdagaaDoorVau
set_option linter.unusedVariables false
set_option linter.unusedSimpArgs false
section
namespace Go.Proofs.YtlemecdddhdagaaDoor.P
open Go.RowKit Go.Proofs.ag.bI Go.Proofs.ag.dM Go.Proofs.ag.dZ
attribute [local go_sem ↓] Go.wp_at_zero Go.wp_at_succ
def FY (f:Int→Option Int) (l0:List ByteArray) (s:St) (str:ByteArray) (val:Nat→Int) (m:Nat):Prop :=
  str.size≤m∧∀ a:Nat,(h:a < str.size)→(str[a]'h).toNat < 128∧0≤val a∧val a≤s.bM.length∧(0 < val a→∃ v,f a=some v∧0≤v∧v < l0.length∧(qY s.bM (val a - 1)).length=(dW ByteArray.empty l0 v).size)
def wI (step:St→Option (St × Bool × Int)) (Lf Gf:Int→Option Int) (l0:List ByteArray) (lo gl:ByteArray):Nat→St→Prop
  | 0,_=>True
  | n+1,s=>s.bM.length≤1000000∧FY Lf l0 s lo s.p 8∧FY Gf l0 s gl s.g 4∧∃ t d e,step s=some (t,d,e) ∧
      ((d=true∧e=0∧t=s) ∨ (d=false∧e=9∧t=s) ∨ (d=false∧e=0∧t.steps=wrap64 (s.steps+1)∧s.bM.length≤t.bM.length∧s.out.length≤t.out.length∧wI step Lf Gf l0 lo gl n t))
def modelRight.ok (k:Nat) (l0:List ByteArray) (a1 a2:ByteArray) (l3:List gZ) (fuel:Nat):Prop :=
  gX.f k=some true∧∃ fw,dB.f k l0 a1 a2 l3=some fw∧(fw=true→∃ e1 e2,az.f k l0 a1 a2 l3=some (e1,e2) ∧
    (e2 ≠ 0→∃ t d,stepS k l0 a1 a2 l3 FV=some (t,d,2))∧(e2=0→wI (stepS k l0 a1 a2 l3) (dm.f k l0 a1 a2 l3) (dQ.f k l0 a1 a2 l3) l0 a1 a2 (fuel % 200+1) FV))
structure zx (M G b it pos:Nat) (P:Array Value) (s:St) (vO vU:Value) (str:ByteArray) (w0 w:World):Prop where
  bp:Bk w G P 25
  st:kF b s vO vU w
  rv:oh M s vO vU w
  iter:w.heap[it]? = some (.stringIter str pos)
  bel:Below M w0 w
  lo:M≤it
section
variable {M G b it pos:Nat} {P:Array Value} {s:St} {vO vU:Value} {str:ByteArray} {w0 w w1:World}
theorem zx.below (h:zx M G b it pos P s vO vU str w0 w) (hb:Below w.heap.size w w1):zx M G b it pos P s vO vU str w0 w1 :=
  ⟨h.bp.below hb,h.st.of_block (hb.block b h.st.lt),⟨Kd.tC h.rv.bM hb,Kd.ja h.rv.out hb⟩,(hb.block it (Array.getElem?_eq_some_iff.1 h.iter).1).trans h.iter,h.bel.trans (hb.mono (by have:=(Array.getElem?_eq_some_iff.1 h.iter).1;have:=h.lo;omega)),h.lo⟩
theorem zx.drew (h:zx M G b it pos P s vO vU str w0 w):zx M G b it pos P s vO vU str w0 w.drew:=h.below (tq (Below.refl _ _))
theorem zx.drewN (h:zx M G b it pos P s vO vU str w0 w) (n:Nat):zx M G b it pos P s vO vU str w0 (w.drewN n):=h.below (af (Below.refl _ _) n)
theorem zx.next (h:zx M G b it pos P s vO vU str w0 w) (pos':Nat):zx M G b it pos' P s vO vU str w0 (w.iterAt it str pos'):=by
  have hG:G ≠ it:=by
    rintro rfl
    have q:=h.iter
    rw [h.bp] at q
    cases q
  have hb:b ≠ it:=by
    rintro rfl
    have q:=h.iter
    rw [h.st.blk] at q
    cases q
  have far:∀ j,j ≠ it→(w.iterAt it str pos').heap[j]? = w.heap[j]?:=fun j hj=>Lib.iterAt_other w it j str pos' hj
  refine ⟨(far G hG).trans h.bp,h.st.of_block (far b hb),⟨Kd.xQ (Kd.AA (Kd.Ed h.rv.bM) fun k hk _=>far k ?_) fun k hk=>hk.1,Kd.jO (Kd.lC (Kd.mQ h.rv.out) fun k hk _=>far k ?_) fun k hk=>hk.1⟩,Lib.iterAt_heap w it str pos pos' h.iter,Lib.below_iterAt h.bel h.lo str pos',h.lo⟩
  all_goals
    obtain ⟨_,_,_,q,_,cs,hc⟩:=hk
    rintro rfl
    rw [h.iter] at hc
    cases hc
theorem zx.start (hp:Bk w G P 25) (hs:kF b s vO vU w) (hv:oh M s vO vU w) (hb:Below M w0 w) (hlo:M≤w.heap.size) (pos:Nat):zx M G b w.heap.size pos P s vO vU str w0 (w.iter str pos) :=
  have hbl:Below w.heap.size w (w.iter str pos):=(Below.refl _ w).alloc (Nat.le_refl _) _
  ⟨hp.below hbl,hs.of_block (hbl.block b hs.lt),⟨Kd.tC hv.bM hbl,Kd.ja hv.out hbl⟩,World.iter_heap w str pos,hb.trans (hbl.mono hlo),hlo⟩
theorem NM {ad:Addr} {n:Nat} {xs:List ByteArray} (h:Kd.C Kd.string w (some ad) n xs) (i:Int) (h0:0≤i) (h1:i < n):w.cell? (ad.add i.toNat)=some (.string (dW ByteArray.empty xs i)):=by
  obtain ⟨ad',e,h⟩:=Kd.jD h i h0 h1
  cases e
  exact h
theorem cell_lt {p:Addr} {v:Value} (h:w.cell? p=some v):p.block < w.heap.size:=by
  rcases Nat.lt_or_ge p.block w.heap.size with q|q
  · exact q
  · simp [World.cell?,Array.getElem?_eq_none q] at h
end
set_option maxRecDepth 100000 in
set_option maxHeartbeats 6400000 in
theorem modelRight.calls (k:Nat) (A0:Option Addr) (c0:Nat) (l0:List ByteArray) (a1 a2:ByteArray) (A3:Option Addr) (c3:Nat) (l3:List gZ) (fuel:Nat) (w:World) (hr0:Kd.C Kd.string w A0 l0.length l0) (hc0:l0.length≤c0) (hr3:Kd.C tZ w A3 l3.length l3) (hc3:l3.length≤c3) (kZ:Kd.C Kd.string w qx ku.length ku)
    (hf:fuel≤255) (hrF:Kd.C xY w xZ pK.length pK) (h:modelRight.ok k l0 a1 a2 l3 fuel) :
    Calls Tryd.prog 8 #[.agg #[.slice A0 l0.length c0,.string a1,.string a2,.slice A3 l3.length c3],.int .u8 fuel] w fun e w'=>e=.returned (.bool true)∧Below w.heap.size w w':=by
  obtain ⟨hal,fw,hfw,h1⟩:=h
  obtain ⟨G,hG⟩:∃ G,w.heap.size=G:=⟨_,rfl⟩
  obtain ⟨wb,hwb⟩:∃ wb,w.alloc (.cells #[.slice A0 l0.length c0,.string a1,.string a2,.slice A3 l3.length c3] 25)=wb:=⟨_,rfl⟩
  have hB1:Below w.heap.size w wb:=by rw [← hwb];exact (Below.refl _ w).alloc (Nat.le_refl _) _
  have hb0:Bk wb G #[.slice A0 l0.length c0,.string a1,.string a2,.slice A3 l3.length c3] 25:=by rw [← hwb,← hG];exact Bk.new w _ _
  have hs1:G+1≤wb.heap.size:=by rw [← hwb,← hG];simp
  have HH:=ae.mk h1
  have HR0:=ae.mk (Kd.bK hr0 hB1)
  have HR3:=ae.mk (Kd.bK hr3 hB1)
  have wJ:=ae.mk (Kd.bK kZ hB1)
  have XT:=ae.mk (Kd.bK hrF hB1)
  have HAL:=ae.mk hal
  have HFW:=ae.mk hfw
  have HB1:=ae.mk hB1
  have K0:=ae.mk hb0
  have e1:IntKind.i64.wrap (fuel:Int)=fuel:=IntWalk.i64_in _ (by omega)
  clear h1 hr0 hr3 kZ hrF hal hfw hB1 hb0
  obtain ⟨N,hN⟩:∃ N,fuel % 200+1=N:=⟨_,rfl⟩
  have HNN:=Lib.hid hN
  go_enter Tryd.func8,Tryd.ntmps8
  go_upto_region 999 with (fail)
  refine (gX.calls k true wb wJ.out HAL.out).mono ?_
  rintro e w1 ⟨rfl,hbb⟩
  replace HR0:=ae.mk (Kd.bK HR0.out hbb)
  replace HR3:=ae.mk (Kd.bK HR3.out hbb)
  replace wJ:=ae.mk (Kd.bK wJ.out hbb)
  replace XT:=ae.mk (Kd.bK XT.out hbb)
  replace K0:=ae.mk (K0.out.below hbb)
  replace HB1:=ae.mk (show Below w.heap.size w w1 from HB1.out.trans (hbb.mono HB1.out.size))
  replace hs1:G+1≤w1.heap.size:=by have:=hbb.size;omega
  have q0:w1.cell? ⟨G,0,none⟩=some (.slice A0 l0.length c0):=K0.out.cell 0
  have q1:w1.cell? ⟨G,1,none⟩=some (.string a1):=K0.out.cell 1
  have q2:w1.cell? ⟨G,2,none⟩=some (.string a2):=K0.out.cell 2
  have q3:w1.cell? ⟨G,3,none⟩=some (.slice A3 l3.length c3):=K0.out.cell 3
  clear hbb HAL hwb
  go_upto_region 999 with (fail)
  refine (dB.calls k A0 c0 l0 a1 a2 A3 c3 l3 fw w1 HR0.out hc0 HR3.out hc3 HFW.out).mono ?_
  rintro e w2 ⟨rfl,hbb⟩
  replace hbb:Below w1.heap.size w1 w2:=by first|exact hbb|exact hbb.below
  replace HR0:=ae.mk (Kd.bK HR0.out hbb)
  replace HR3:=ae.mk (Kd.bK HR3.out hbb)
  replace wJ:=ae.mk (Kd.bK wJ.out hbb)
  replace XT:=ae.mk (Kd.bK XT.out hbb)
  replace K0:=ae.mk (K0.out.below hbb)
  replace HB1:=ae.mk (show Below w.heap.size w w2 from HB1.out.trans (hbb.mono HB1.out.size))
  replace hs1:G+1≤w2.heap.size:=by have:=hbb.size;omega
  clear hbb HFW q0 q1 q2 q3
  cases fw with
  | false =>
    clear HH
    go_wp2
    go_ret
    exact ⟨rfl,by have q:=HB1.out;first|exact q|(rw [hG] at q;exact q)⟩
  | true =>
  obtain ⟨c1,c2,hck,hbad,hgood⟩:=HH.out rfl
  have XX:=ae.mk hck
  have HBAD:=ae.mk hbad
  have Qr:=ae.mk hgood
  clear hck hbad hgood HH
  have q0:w2.cell? ⟨G,0,none⟩=some (.slice A0 l0.length c0):=K0.out.cell 0
  have q1:w2.cell? ⟨G,1,none⟩=some (.string a1):=K0.out.cell 1
  have q2:w2.cell? ⟨G,2,none⟩=some (.string a2):=K0.out.cell 2
  have q3:w2.cell? ⟨G,3,none⟩=some (.slice A3 l3.length c3):=K0.out.cell 3
  go_upto_region 999 with (fail)
  refine (az.calls k A0 c0 l0 a1 a2 A3 c3 l3 c1 c2 w2 HR0.out hc0 HR3.out hc3 XT.out XX.out).mono ?_
  rintro e W2 ⟨rfl,hbb⟩
  replace HR0:=ae.mk (Kd.bK HR0.out hbb)
  replace HR3:=ae.mk (Kd.bK HR3.out hbb)
  replace wJ:=ae.mk (Kd.bK wJ.out hbb)
  replace XT:=ae.mk (Kd.bK XT.out hbb)
  replace K0:=ae.mk (K0.out.below hbb)
  replace HB1:=ae.mk (show Below w.heap.size w W2 from HB1.out.trans (hbb.mono HB1.out.size))
  replace hs1:G+1≤W2.heap.size:=by have:=hbb.size;omega
  clear hbb XT q0 q1 q2 q3 XX
  by_cases he2:c2=0
  case neg =>
    have nb:(c2 == 0)=false:=beq_eq_false_iff_ne.2 he2
    have nb':(c2 != 0)=true:=by simp [he2]
    obtain ⟨s1,dn,hst⟩:=HBAD.out he2
    have WO:=Lib.hid (Es hst)
    clear he2 Qr HBAD hst
    have q0:W2.cell? ⟨G,0,none⟩=some (.slice A0 l0.length c0):=K0.out.cell 0
    have q1:W2.cell? ⟨G,1,none⟩=some (.string a1):=K0.out.cell 1
    have q2:W2.cell? ⟨G,2,none⟩=some (.string a2):=K0.out.cell 2
    have q3:W2.cell? ⟨G,3,none⟩=some (.slice A3 l3.length c3):=K0.out.cell 3
    go_upto_region 999 with (fail)
    refine (nU.calls k A0 c0 l0 a1 a2 A3 c3 l3 FV s1 dn 2 (.slice none 0 0) (.slice none 0 0) _ _ _ _ W2 HR0.out hc0 HR3.out hc3 wJ.out (Kd.Qi _ _ W2 W2.heap.size (fun k=>some k ≠ (Value.slice none 0 0).ownBlock)) (Kd.yx _ _ W2 W2.heap.size (fun _=>True)) WO.out.1 WO.out.2).mono ?_
    rintro e wq ⟨NG,NF,rfl,hV1,hB1⟩
    obtain ⟨c,hc⟩:∃ c,wq.heap.size=c:=⟨_,rfl⟩
    obtain ⟨wz,hwz⟩:∃ wz,wq.alloc (.cells #[.int .i64 0,.int .i64 0,.int .i64 0,.int .i64 0,.int .i64 0,.int .i64 0,.int .i64 0,.int .i64 0,.int .i64 0,.int .i64 0,.int .i64 0,.int .i64 0,.int .i64 0,.int .i64 0,.int .i64 0,.int .i64 0,.int .i64 0,.int .i64 0,.int .i64 0,.int .i64 0,.slice none 0 0,.slice none 0 0,.int .i64 0,.int .i64 0] 39)=wz:=⟨_,rfl⟩
    have hzb:wz.heap[c]? = some (.cells #[.int .i64 0,.int .i64 0,.int .i64 0,.int .i64 0,.int .i64 0,.int .i64 0,.int .i64 0,.int .i64 0,.int .i64 0,.int .i64 0,.int .i64 0,.int .i64 0,.int .i64 0,.int .i64 0,.int .i64 0,.int .i64 0,.int .i64 0,.int .i64 0,.int .i64 0,.int .i64 0,.slice none 0 0,.slice none 0 0,.int .i64 0,.int .i64 0] 39 (0,0)):=by rw [← hwz,← hc];exact heap_alloc_new wq _
    have hone:=cells_one hV1
    have Xu:Below W2.heap.size W2 (wz.setRow c (cellsS s1 NG NF)):=jq (by rw [← hwz];exact hB1.alloc hB1.size _) (by rw [← hc];exact hB1.size) _
    have HB2:=Lib.hid (HB1.out.trans (Xu.mono HB1.out.size))
    clear hV1 hB1 Xu q0 q1 q2 q3 WO
    go_wp2_with (first|(skip;refine wpList_store_row rfl 39 (.tmp 7) (.tmp 34) rfl c (cellsS s1 NG NF) rfl rfl 39 _ hzb (by kernel_rfl) rfl hone ?_))
    go_ret
    exact ⟨rfl,by have q:=HB2.out;first|exact q|(rw [hG] at q;exact q)⟩
  subst he2
  obtain ⟨M,hM⟩:∃ M,W2.heap.size=M:=⟨_,rfl⟩
  obtain ⟨Wz,Xt⟩:∃ Wz,W2.alloc (.cells #[.int .i64 0,.int .i64 0,.int .i64 0,.int .i64 0,.int .i64 0,.int .i64 0,.int .i64 0,.int .i64 0,.int .i64 0,.int .i64 0,.int .i64 0,.int .i64 0,.int .i64 0,.int .i64 0,.int .i64 0,.int .i64 0,.int .i64 0,.int .i64 0,.int .i64 0,.int .i64 0,.slice none 0 0,.slice none 0 0,.int .i64 0,.int .i64 0] 39)=Wz:=⟨_,rfl⟩
  have hzb:Wz.heap[M]? = some (.cells #[.int .i64 0,.int .i64 0,.int .i64 0,.int .i64 0,.int .i64 0,.int .i64 0,.int .i64 0,.int .i64 0,.int .i64 0,.int .i64 0,.int .i64 0,.int .i64 0,.int .i64 0,.int .i64 0,.int .i64 0,.int .i64 0,.int .i64 0,.int .i64 0,.int .i64 0,.int .i64 0,.slice none 0 0,.slice none 0 0,.int .i64 0,.int .i64 0] 39 (0,0)):=by rw [← Xt,← hM];exact heap_alloc_new W2 _
  have HS0:ae (kF M FV (.slice none 0 0) (.slice none 0 0) Wz):=⟨⟨hzb⟩⟩
  have HV0:ae (oh M FV (.slice none 0 0) (.slice none 0 0) Wz):=⟨⟨Kd.Qi _ _ _ _ _,Kd.yx _ _ _ _ _⟩⟩
  have HBz:ae (Below M W2 Wz):=⟨by rw [← Xt,← hM];exact (Below.refl _ W2).alloc (Nat.le_refl _) _⟩
  have qQ:=ae.mk (show wI (stepS k l0 a1 a2 l3) (dm.f k l0 a1 a2 l3) (dQ.f k l0 a1 a2 l3) l0 a1 a2 N FV from by rw [← HNN.out];exact Qr.out rfl)
  clear hzb Qr HBAD
  go_wp2
  clear Xt
  go_loopg [43] N (fun kq iv wr=>∃ (s:St) (vO vU:Value) (i:Nat),kq+i=N∧iv=.int .i64 i∧ae (wI (stepS k l0 a1 a2 l3) (dm.f k l0 a1 a2 l3) (dQ.f k l0 a1 a2 l3) l0 a1 a2 kq s)∧ae (kF M s vO vU wr)∧ae (oh M s vO vU wr)∧ae (Below M W2 wr))
  case atStart=>exact ⟨_,_,_,0,Nat.add_zero _,rfl,qQ,HS0,HV0,HBz⟩
  case round =>
  clear qQ HS0 HV0 HBz Wz
  obtain ⟨s,vO,vU,i,hki,rfl,HPC,HS,HV,HB⟩:=hrel
  cases gk with
  | zero =>
    have hd0:decide ((i:Int) < (fuel:Int) % 200+1)=false:=decide_eq_false (by have:=HNN.out;omega)
    clear HPC
    go_wp2
    go_ret
    exact ⟨rfl,by have q:=HB1.out.trans (HB.out.mono (show w.heap.size≤M by omega));first|exact q|(rw [hG] at q;exact q)⟩
  | succ ng =>
  have hd0:decide ((i:Int) < (fuel:Int) % 200+1)=true:=decide_eq_true (by have:=HNN.out;omega)
  obtain ⟨hsz,hpl,hpg,s1,dn,e1',hst,hP⟩:=HPC.out
  have HPL:=ae.mk hpl.2
  have HPG:=ae.mk hpg.2
  have hl8:=Lib.hid hpl.1
  have hg4:=Lib.hid hpg.1
  have hsz1:=Lib.hid hsz
  have HP:=ae.mk hP
  have WO:=Lib.hid (Es hst)
  clear hP hst hpl hpg hsz HPC
  replace K0:=ae.mk (show Bk wr G #[.slice A0 l0.length c0,.string a1,.string a2,.slice A3 l3.length c3] 25 from (HB.out.block G (by omega)).trans K0.out)
  obtain ⟨AO,cO,rfl⟩:=Kd.zu HV.out.bM
  obtain ⟨AU,cU,rfl⟩:=Kd.jr HV.out.out
  obtain ⟨RG,hit⟩:∃ it,wr.heap.size=it:=⟨_,rfl⟩
  obtain ⟨Wi,hWi⟩:∃ Wi,wr.iter a1 0=Wi:=⟨_,rfl⟩
  have HI:ae (zx M G M RG 0 #[.slice A0 l0.length c0,.string a1,.string a2,.slice A3 l3.length c3] s (.slice AO s.bM.length cO) (.slice AU s.out.length cU) a1 W2 Wi):=⟨by rw [← hWi,← hit];exact zx.start K0.out HS.out HV.out HB.out (by rw [← hM];exact HB.out.size) 0⟩
  have q1:wr.cell? ⟨G,1,none⟩=some (.string a1):=K0.out.cell 1
  clear HS HV HB K0
  go_wp2
  clear q1 hit hWi
  go_loopg [] a1.size (fun kq wr=>∃ (pos:Nat),kq+pos=a1.size∧ae (zx M G M RG pos #[.slice A0 l0.length c0,.string a1,.string a2,.slice A3 l3.length c3] s (.slice AO s.bM.length cO) (.slice AU s.out.length cU) a1 W2 wr))
  case atStart=>exact ⟨0,Nat.add_zero _,HI⟩
  case round =>
  clear HI
  obtain ⟨pos,hpk,HX⟩:=hrel
  by_cases hp:pos < a1.size
  case pos =>
    obtain ⟨hasc,ho0,ho1,hov⟩:=HPL.out pos hp
    obtain ⟨Wn,Y6⟩:∃ Wn,wr.iterAt RG a1 (pos+1)=Wn:=⟨_,rfl⟩
    have hnx:∀ ty,(Instr.next (.pointer (some ⟨RG,0,none⟩)) true ty).run Tryd.prog wr=.ok (.tuple #[.bool true,.int .i64 pos,.int .i32 (a1[pos]'hp).toNat]) Wn:=fun ty=>by rw [← Y6];exact Lib.run_next_ascii_at wr RG a1 pos ty HX.out.iter hp hasc
    replace HX:=ae.mk (show zx M G M RG (pos+1) #[.slice A0 l0.length c0,.string a1,.string a2,.slice A3 l3.length c3] s (.slice AO s.bM.length cO) (.slice AU s.out.length cU) a1 W2 Wn from by rw [← Y6];exact HX.out.next (pos+1))
    obtain ⟨o,ho⟩:∃ o,s.p pos=o:=⟨_,rfl⟩
    rw [ho] at ho0 ho1 hov
    have hpm:pos < 8:=by have:=hl8.out;omega
    have hpi:(pos:Int) < 8:=by omega
    have hpu:IntKind.u8.wrap (pos:Int)=pos:=IntWalk.u8_in _ (by omega)
    have cp:Wn.cell? ⟨M,8+pos,none⟩=some (.int .i64 o):=by rw [HX.out.st.rq pos hpm,ho]
    have WQ:=Lib.hid hpk
    have hn1:decide (o < 0)=false:=decide_eq_false (by omega)
    have hn2:decide ((s.bM.length:Int) < o)=false:=decide_eq_false (by omega)
    clear Y6 hasc ho hpk
    go_upto_region 16 with (fail)
    clear cp hnx
    by_cases hz:o=0
    case pos =>
      subst hz
      clear ho0 ho1 hov hn1 hn2
      have k20:Wn.cell? ⟨M,20,none⟩=some (.slice AO s.bM.length cO):=HX.out.st.cell 20
      have hn2:decide ((s.bM.length:Int) < 0)=false:=decide_eq_false (by omega)
      go_quiet (fail)
      rename_i nq
      have HX2:=ae.mk (HX.out.drewN nq)
      clear HX k20
      go_wp2
      go_roundg (gk - 1)
      case measure=>have:=WQ.out;omega
      case rel=>exact ⟨pos+1,by have:=WQ.out;omega,HX2⟩
    case neg =>
      obtain ⟨v,hfv,hv0,hv1,hlen⟩:=hov (by omega)
      obtain ⟨z,hzz⟩:∃ z,z=o - 1:=⟨_,rfl⟩
      have hz0:0≤z:=by omega
      have hz1:z < (s.bM.length:Int):=by omega
      have hzw:IntKind.i64.wrap (o - 1)=z:=by rw [hzz];exact IntWalk.i64_in _ (by have:=hsz1.out;omega)
      have hp1:decide (0 < o)=true:=decide_eq_true (by omega)
      rw [← hzz] at hlen
      obtain ⟨ad,A1,c1,e0,hcell,_,_⟩:=CJ (Kd.rQ HX.out.rv.bM).2.2 z hz0 hz1
      obtain ⟨ad0,e00,_⟩:=Kd.jD (Kd.bK HR0.out (by rw [hM];exact HX.out.bel)) v hv0 hv1
      have HFV:=Lib.hid hfv
      have HAO:=Lib.hid e0
      have HA0:=Lib.hid e00
      have hne:(((qY s.bM z).length:Int) != ((dW ByteArray.empty l0 v).size:Int))=false:=by rw [hlen];simp
      clear hfv hlen hov hzz e0 e00 ho0 ho1 hz
      refine wp_region_noPanic ?_
      refine o5 (n:=32) (S:=fun w'=>zx M G M RG (pos+1) #[.slice A0 l0.length c0,.string a1,.string a2,.slice A3 l3.length c3] s (.slice AO s.bM.length cO) (.slice AU s.out.length cU) a1 W2 w'∧w'.cell? (ad.add z.toNat)=some (.slice A1 (qY s.bM z).length c1)) (ds:=[]) #[false,false,false,false,false,false,false,false,false,false,false,false,false,false,false,false,false,false,false,false,false,false,false,false,false,false,false,false,false,false,false,false] (by kernel_rfl) rfl rfl ⟨HX.out.drew,hcell⟩ (fun hHeld=>?_)
      clear HX hcell
      generalize Wn.drew=Wd at hHeld ⊢
      refine dX (i:=0) (N:=some 55) (v:=?_) (a':=?_) #[true,false,false,false,false,false,false,false,false,false,false,false,false,false,false,false,false,false,false,false,false,false,false,false,false,false,false,false,false,false,false,false] rfl rfl (by kernel_rfl) (fun _ _ _ h=>h) (Or.inl ⟨by rfl,?_⟩) ?_ ?_
      rotate_left
      · intro w'
        go_simp
        with_reducible rfl
      rotate_left
      · simp only [Act.put,List.setIfInBounds_toArray,List.set_cons_zero,List.set_cons_succ,bG,bJ]
        rfl
      refine dX (i:=1) (N:=some 56) (v:=?_) (a':=?_) #[true,true,false,false,false,false,false,false,false,false,false,false,false,false,false,false,false,false,false,false,false,false,false,false,false,false,false,false,false,false,false,false] rfl rfl (by kernel_rfl) (fun _ _ _ h=>h) (Or.inl ⟨by rfl,?_⟩) ?_ ?_
      rotate_left
      · intro w'
        go_simp
        with_reducible rfl
      rotate_left
      · simp only [Act.put,List.setIfInBounds_toArray,List.set_cons_zero,List.set_cons_succ,bG,bJ]
        rfl
      refine dX (i:=2) (N:=some 57) (v:=?_) (a':=?_) #[true,true,true,false,false,false,false,false,false,false,false,false,false,false,false,false,false,false,false,false,false,false,false,false,false,false,false,false,false,false,false,false] rfl rfl (by kernel_rfl) (fun _ _ _ h=>h) (Or.inl ⟨by rfl,?_⟩) ?_ ?_
      rotate_left
      · intro w'
        go_simp
        with_reducible rfl
      rotate_left
      · simp only [Act.put,List.setIfInBounds_toArray,List.set_cons_zero,List.set_cons_succ,bG,bJ]
        rfl
      refine dX (i:=3) (N:=some 58) (v:=?_) (a':=?_) #[true,true,true,true,false,false,false,false,false,false,false,false,false,false,false,false,false,false,false,false,false,false,false,false,false,false,false,false,false,false,false,false] rfl rfl (by kernel_rfl) (fun _ _ _ h=>h) (Or.inl ⟨by rfl,?_⟩) ?_ ?_
      rotate_left
      · intro w'
        go_simp
        with_reducible rfl
      rotate_left
      · simp only [Act.put,List.setIfInBounds_toArray,List.set_cons_zero,List.set_cons_succ,bG,bJ]
        rfl
      refine dX (i:=4) (N:=some 59) (v:=?_) (a':=?_) #[true,true,true,true,true,false,false,false,false,false,false,false,false,false,false,false,false,false,false,false,false,false,false,false,false,false,false,false,false,false,false,false] rfl rfl (by kernel_rfl) (fun _ _ _ h=>h) (Or.inl ⟨by rfl,?_⟩) ?_ ?_
      rotate_left
      · intro w'
        go_simp
        with_reducible rfl
      rotate_left
      · simp only [Act.put,List.setIfInBounds_toArray,List.set_cons_zero,List.set_cons_succ,bG,bJ]
        rfl
      refine jg (i:=5) (N:=some 60) (v:=?_) (a':=?_) #[true,true,true,true,true,true,false,false,false,false,false,false,false,false,false,false,false,false,false,false,false,false,false,false,false,false,false,false,false,false,false,false] rfl rfl (by kernel_rfl) (fun _ _ _ h=>h) (Or.inl ⟨by rfl,?_⟩) hHeld ?_ ?_
      rotate_left
      · intro w' yG
        have c_:w'.cell? ⟨M,20,none⟩=some (.slice (some ad) s.bM.length cO):=by rw [← HAO.out];exact yG.1.st.cell 20
        go_simp
        with_reducible rfl
      rotate_left
      · simp only [Act.put,List.setIfInBounds_toArray,List.set_cons_zero,List.set_cons_succ,bG,bJ]
        rfl
      refine dX (i:=6) (N:=some 61) (v:=?_) (a':=?_) #[true,true,true,true,true,true,true,false,false,false,false,false,false,false,false,false,false,false,false,false,false,false,false,false,false,false,false,false,false,false,false,false] rfl rfl (by kernel_rfl) (fun _ _ _ h=>h) (Or.inl ⟨by rfl,?_⟩) ?_ ?_
      rotate_left
      · intro w'
        go_simp
        with_reducible rfl
      rotate_left
      · simp only [Act.put,List.setIfInBounds_toArray,List.set_cons_zero,List.set_cons_succ,bG,bJ]
        rfl
      refine dX (i:=7) (N:=some 62) (v:=?_) (a':=?_) #[true,true,true,true,true,true,true,true,false,false,false,false,false,false,false,false,false,false,false,false,false,false,false,false,false,false,false,false,false,false,false,false] rfl rfl (by kernel_rfl) (fun _ _ _ h=>h) (Or.inl ⟨by rfl,?_⟩) ?_ ?_
      rotate_left
      · intro w'
        go_simp
        with_reducible rfl
      rotate_left
      · simp only [Act.put,List.setIfInBounds_toArray,List.set_cons_zero,List.set_cons_succ,bG,bJ]
        rfl
      refine dX (i:=8) (N:=some 63) (v:=?_) (a':=?_) #[true,true,true,true,true,true,true,true,true,false,false,false,false,false,false,false,false,false,false,false,false,false,false,false,false,false,false,false,false,false,false,false] rfl rfl (by kernel_rfl) (fun _ _ _ h=>h) (Or.inl ⟨by rfl,?_⟩) ?_ ?_
      rotate_left
      · intro w'
        go_simp
        with_reducible rfl
      rotate_left
      · simp only [Act.put,List.setIfInBounds_toArray,List.set_cons_zero,List.set_cons_succ,bG,bJ]
        rfl
      refine dX (i:=9) (N:=some 64) (v:=?_) (a':=?_) #[true,true,true,true,true,true,true,true,true,true,false,false,false,false,false,false,false,false,false,false,false,false,false,false,false,false,false,false,false,false,false,false] rfl rfl (by kernel_rfl) (fun _ _ _ h=>h) (Or.inl ⟨by rfl,?_⟩) ?_ ?_
      rotate_left
      · intro w'
        go_simp
        with_reducible rfl
      rotate_left
      · simp only [Act.put,List.setIfInBounds_toArray,List.set_cons_zero,List.set_cons_succ,bG,bJ]
        rfl
      refine dX (i:=10) (N:=some 65) (v:=?_) (a':=?_) #[true,true,true,true,true,true,true,true,true,true,true,false,false,false,false,false,false,false,false,false,false,false,false,false,false,false,false,false,false,false,false,false] rfl rfl (by kernel_rfl) (fun _ _ _ h=>h) (Or.inl ⟨by rfl,?_⟩) ?_ ?_
      rotate_left
      · intro w'
        go_simp
        with_reducible rfl
      rotate_left
      · simp only [Act.put,List.setIfInBounds_toArray,List.set_cons_zero,List.set_cons_succ,bG,bJ]
        rfl
      refine dX (i:=11) (N:=some 66) (v:=?_) (a':=?_) #[true,true,true,true,true,true,true,true,true,true,true,true,false,false,false,false,false,false,false,false,false,false,false,false,false,false,false,false,false,false,false,false] rfl rfl (by kernel_rfl) (fun _ _ _ h=>h) (Or.inl ⟨by rfl,?_⟩) ?_ ?_
      rotate_left
      · intro w'
        go_simp
        with_reducible rfl
      rotate_left
      · simp only [Act.put,List.setIfInBounds_toArray,List.set_cons_zero,List.set_cons_succ,bG,bJ]
        rfl
      refine dX (i:=12) (N:=some 67) (v:=?_) (a':=?_) #[true,true,true,true,true,true,true,true,true,true,true,true,true,false,false,false,false,false,false,false,false,false,false,false,false,false,false,false,false,false,false,false] rfl rfl (by kernel_rfl) (fun _ _ _ h=>h) (Or.inl ⟨by rfl,?_⟩) ?_ ?_
      rotate_left
      · intro w'
        go_simp
        with_reducible rfl
      rotate_left
      · simp only [Act.put,List.setIfInBounds_toArray,List.set_cons_zero,List.set_cons_succ,bG,bJ]
        rfl
      refine dX (i:=13) (N:=some 68) (v:=?_) (a':=?_) #[true,true,true,true,true,true,true,true,true,true,true,true,true,true,false,false,false,false,false,false,false,false,false,false,false,false,false,false,false,false,false,false] rfl rfl (by kernel_rfl) (fun _ _ _ h=>h) (Or.inl ⟨by rfl,?_⟩) ?_ ?_
      rotate_left
      · intro w'
        go_simp
        with_reducible rfl
      rotate_left
      · simp only [Act.put,List.setIfInBounds_toArray,List.set_cons_zero,List.set_cons_succ,bG,bJ]
        rfl
      refine jg (i:=14) (N:=some 69) (v:=?_) (a':=?_) #[true,true,true,true,true,true,true,true,true,true,true,true,true,true,true,false,false,false,false,false,false,false,false,false,false,false,false,false,false,false,false,false] rfl rfl (by kernel_rfl) (fun _ _ _ h=>h) (Or.inl ⟨by rfl,?_⟩) hHeld ?_ ?_
      rotate_left
      · intro w' yG
        have c_:w'.cell? ⟨M,20,none⟩=some (.slice (some ad) s.bM.length cO):=by rw [← HAO.out];exact yG.1.st.cell 20
        go_simp
        with_reducible rfl
      rotate_left
      · simp only [Act.put,List.setIfInBounds_toArray,List.set_cons_zero,List.set_cons_succ,bG,bJ]
        rfl
      refine dX (i:=15) (N:=some 70) (v:=?_) (a':=?_) #[true,true,true,true,true,true,true,true,true,true,true,true,true,true,true,true,false,false,false,false,false,false,false,false,false,false,false,false,false,false,false,false] rfl rfl (by kernel_rfl) (fun _ _ _ h=>h) (Or.inl ⟨by rfl,?_⟩) ?_ ?_
      rotate_left
      · intro w'
        go_simp
        with_reducible rfl
      rotate_left
      · simp only [Act.put,List.setIfInBounds_toArray,List.set_cons_zero,List.set_cons_succ,bG,bJ]
        rfl
      refine dX (i:=16) (N:=some 71) (v:=?_) (a':=?_) #[true,true,true,true,true,true,true,true,true,true,true,true,true,true,true,true,true,false,false,false,false,false,false,false,false,false,false,false,false,false,false,false] rfl rfl (by kernel_rfl) (fun _ _ _ h=>h) (Or.inl ⟨by rfl,?_⟩) ?_ ?_
      rotate_left
      · intro w'
        go_simp
        with_reducible rfl
      rotate_left
      · simp only [Act.put,List.setIfInBounds_toArray,List.set_cons_zero,List.set_cons_succ,bG,bJ]
        rfl
      refine dX (i:=17) (N:=some 72) (v:=?_) (a':=?_) #[true,true,true,true,true,true,true,true,true,true,true,true,true,true,true,true,true,true,false,false,false,false,false,false,false,false,false,false,false,false,false,false] rfl rfl (by kernel_rfl) (fun _ _ _ h=>h) (Or.inl ⟨by rfl,?_⟩) ?_ ?_
      rotate_left
      · intro w'
        go_simp
        with_reducible rfl
      rotate_left
      · simp only [Act.put,List.setIfInBounds_toArray,List.set_cons_zero,List.set_cons_succ,bG,bJ]
        rfl
      refine jg (i:=18) (N:=some 73) (v:=?_) (a':=?_) #[true,true,true,true,true,true,true,true,true,true,true,true,true,true,true,true,true,true,true,false,false,false,false,false,false,false,false,false,false,false,false,false] rfl rfl (by kernel_rfl) (fun _ _ _ h=>h) (Or.inl ⟨by rfl,?_⟩) hHeld ?_ ?_
      rotate_left
      · intro w' yG
        have c_:w'.cell? (ad.add z.toNat)=some (.slice A1 (qY s.bM z).length c1):=yG.2
        go_simp
        with_reducible rfl
      rotate_left
      · simp only [Act.put,List.setIfInBounds_toArray,List.set_cons_zero,List.set_cons_succ,bG,bJ]
        rfl
      refine dX (i:=19) (N:=some 74) (v:=?_) (a':=?_) #[true,true,true,true,true,true,true,true,true,true,true,true,true,true,true,true,true,true,true,true,false,false,false,false,false,false,false,false,false,false,false,false] rfl rfl (by kernel_rfl) (fun _ _ _ h=>h) (Or.inl ⟨by rfl,?_⟩) ?_ ?_
      rotate_left
      · intro w'
        go_simp
        with_reducible rfl
      rotate_left
      · simp only [Act.put,List.setIfInBounds_toArray,List.set_cons_zero,List.set_cons_succ,bG,bJ]
        rfl
      refine dX (i:=20) (N:=some 75) (v:=?_) (a':=?_) #[true,true,true,true,true,true,true,true,true,true,true,true,true,true,true,true,true,true,true,true,true,false,false,false,false,false,false,false,false,false,false,false] rfl rfl (by kernel_rfl) (fun _ _ _ h=>h) (Or.inl ⟨by rfl,?_⟩) ?_ ?_
      rotate_left
      · intro w'
        go_simp
        with_reducible rfl
      rotate_left
      · simp only [Act.put,List.setIfInBounds_toArray,List.set_cons_zero,List.set_cons_succ,bG,bJ]
        rfl
      refine jg (i:=21) (N:=some 76) (v:=?_) (a':=?_) #[true,true,true,true,true,true,true,true,true,true,true,true,true,true,true,true,true,true,true,true,true,true,false,false,false,false,false,false,false,false,false,false] rfl rfl (by kernel_rfl) (fun _ _ _ h=>h) (Or.inl ⟨by rfl,?_⟩) hHeld ?_ ?_
      rotate_left
      · intro w' yG
        have c_:w'.cell? ⟨G,0,none⟩=some (.slice (some ad0) l0.length c0):=by rw [← HA0.out];exact yG.1.bp.cell 0
        go_simp
        with_reducible rfl
      rotate_left
      · simp only [Act.put,List.setIfInBounds_toArray,List.set_cons_zero,List.set_cons_succ,bG,bJ]
        rfl
      refine jg (i:=22) (N:=some 77) (v:=.agg #[.slice A0 l0.length c0,.string a1,.string a2,.slice A3 l3.length c3]) (a':=?anq) #[true,true,true,true,true,true,true,true,true,true,true,true,true,true,true,true,true,true,true,true,true,true,true,false,false,false,false,false,false,false,false,false] rfl rfl (by kernel_rfl) (fun _ _ _ h=>h) (Or.inl ⟨by rfl,?aan⟩) hHeld ?abY ?_
      case aan=>exact fun w' hw=>IP 25 (.tmp 2) rfl G 0 rfl #[.slice A0 l0.length c0,.string a1,.string a2,.slice A3 l3.length c3] _ (hw.1.bp.range 0 _ (fun j hj=>by match j,hj with | 0,_ | 1,_ | 2,_ | 3,_=>rfl)) Tryd.underlying25 rfl (by kernel_rfl)
      case abY =>
        simp only [Act.put,List.setIfInBounds_toArray,List.set_cons_zero,List.set_cons_succ,bG,bJ]
        rfl
      refine dX (i:=23) (N:=some 78) (v:=?_) (a':=?_) #[true,true,true,true,true,true,true,true,true,true,true,true,true,true,true,true,true,true,true,true,true,true,true,true,false,false,false,false,false,false,false,false] rfl rfl (by kernel_rfl) (fun _ _ _ h=>h) (Or.inl ⟨by rfl,?_⟩) ?_ ?_
      rotate_left
      · intro w'
        go_simp
        with_reducible rfl
      rotate_left
      · simp only [Act.put,List.setIfInBounds_toArray,List.set_cons_zero,List.set_cons_succ,bG,bJ]
        rfl
      refine dX (i:=24) (N:=some 79) (v:=?_) (a':=?_) #[true,true,true,true,true,true,true,true,true,true,true,true,true,true,true,true,true,true,true,true,true,true,true,true,true,false,false,false,false,false,false,false] rfl rfl (by kernel_rfl) (fun _ _ _ h=>h) (Or.inl ⟨by rfl,?_⟩) ?_ ?_
      rotate_left
      · intro w'
        go_simp
        with_reducible rfl
      rotate_left
      · simp only [Act.put,List.setIfInBounds_toArray,List.set_cons_zero,List.set_cons_succ,bG,bJ]
        rfl
      refine o6 (i:=25) (N:=some 80) #[true,true,true,true,true,true,true,true,true,true,true,true,true,true,true,true,true,true,true,true,true,true,true,true,true,true,false,false,false,false,false,false] rfl rfl (by kernel_rfl) (by decide) (fun K hK=>?_)
      refine oI Tryd.func19 (by kernel_rfl) rfl #[.agg #[.slice A0 l0.length c0,.string a1,.string a2,.slice A3 l3.length c3],.int .u8 pos] (by rfl) rfl rfl (by (try simp only [List.map_toArray,List.map_cons,List.map_nil]);rfl) ?_
      refine (dm.calls k A0 c0 l0 a1 a2 A3 c3 l3 (pos:Int) v _ (Kd.bK HR0.out (by rw [hM];exact hHeld.1.bel)) hc0 (Kd.bK HR3.out (by rw [hM];exact hHeld.1.bel)) hc3 HFV.out).mono ?_
      rintro e w4 ⟨rfl,hb4⟩
      refine ⟨_,rfl,?_⟩
      refine hK.out _ _ ⟨hHeld.1.below hb4,(hb4.cell (p:=ad.add z.toNat) (cell_lt hHeld.2)).trans hHeld.2⟩ (fun hHeld=>?_)
      clear hK K hb4
      refine jm (a':=?_) ?_ ?_
      rotate_left
      · simp only [oD,Act.put,List.setIfInBounds_toArray,List.set_cons_zero,List.set_cons_succ,bG,bJ]
        rfl
      refine dX (i:=26) (N:=some 81) (v:=?_) (a':=?_) #[true,true,true,true,true,true,true,true,true,true,true,true,true,true,true,true,true,true,true,true,true,true,true,true,true,true,true,false,false,false,false,false] rfl rfl (by kernel_rfl) (fun _ _ _ h=>h) (Or.inl ⟨by rfl,?_⟩) ?_ ?_
      rotate_left
      · intro w'
        go_simp
        with_reducible rfl
      rotate_left
      · simp only [Act.put,List.setIfInBounds_toArray,List.set_cons_zero,List.set_cons_succ,bG,bJ]
        rfl
      refine jg (i:=27) (N:=some 82) (v:=?_) (a':=?_) #[true,true,true,true,true,true,true,true,true,true,true,true,true,true,true,true,true,true,true,true,true,true,true,true,true,true,true,true,false,false,false,false] rfl rfl (by kernel_rfl) (fun _ _ _ h=>h) (Or.inl ⟨by rfl,?_⟩) hHeld ?_ ?_
      rotate_left
      · intro w' yG
        have c_:w'.cell? (ad0.add v.toNat)=some (.string (dW ByteArray.empty l0 v)):=NM (by rw [← HA0.out];exact Kd.bK HR0.out (by rw [hM];exact yG.1.bel)) v hv0 hv1
        go_simp
        with_reducible rfl
      rotate_left
      · simp only [Act.put,List.setIfInBounds_toArray,List.set_cons_zero,List.set_cons_succ,bG,bJ]
        rfl
      refine dX (i:=28) (N:=some 83) (v:=?_) (a':=?_) #[true,true,true,true,true,true,true,true,true,true,true,true,true,true,true,true,true,true,true,true,true,true,true,true,true,true,true,true,true,false,false,false] rfl rfl (by kernel_rfl) (fun _ _ _ h=>h) (Or.inl ⟨by rfl,?_⟩) ?_ ?_
      rotate_left
      · intro w'
        go_simp
        with_reducible rfl
      rotate_left
      · simp only [Act.put,List.setIfInBounds_toArray,List.set_cons_zero,List.set_cons_succ,bG,bJ]
        rfl
      refine dX (i:=29) (N:=some 84) (v:=?_) (a':=?_) #[true,true,true,true,true,true,true,true,true,true,true,true,true,true,true,true,true,true,true,true,true,true,true,true,true,true,true,true,true,true,false,false] rfl rfl (by kernel_rfl) (fun _ _ _ h=>h) (Or.inl ⟨by rfl,?_⟩) ?_ ?_
      rotate_left
      · intro w'
        go_simp
        with_reducible rfl
      rotate_left
      · simp only [Act.put,List.setIfInBounds_toArray,List.set_cons_zero,List.set_cons_succ,bG,bJ]
        rfl
      refine dX (i:=30) (N:=some 85) (v:=?_) (a':=?_) #[true,true,true,true,true,true,true,true,true,true,true,true,true,true,true,true,true,true,true,true,true,true,true,true,true,true,true,true,true,true,true,false] rfl rfl (by kernel_rfl) (fun _ _ _ h=>h) (Or.inl ⟨by rfl,?_⟩) ?_ ?_
      rotate_left
      · intro w'
        go_simp
        with_reducible rfl
      rotate_left
      · simp only [Act.put,List.setIfInBounds_toArray,List.set_cons_zero,List.set_cons_succ,bG,bJ]
        rfl
      refine dX (i:=31) (N:=some 86) (v:=?_) (a':=?_) #[true,true,true,true,true,true,true,true,true,true,true,true,true,true,true,true,true,true,true,true,true,true,true,true,true,true,true,true,true,true,true,true] rfl rfl (by kernel_rfl) (fun _ _ _ h=>h) (Or.inl ⟨by rfl,?_⟩) ?_ ?_
      rotate_left
      · intro w'
        go_simp
        with_reducible rfl
      rotate_left
      · simp only [Act.put,List.setIfInBounds_toArray,List.set_cons_zero,List.set_cons_succ,bG,bJ]
        rfl
      refine rH (by kernel_rfl) ?_
      refine NoPanic.normal ?_
      show Exit.then _ _ .normal _ _
      simp only [Exit.then]
      have HX:=ae.mk hHeld.1
      clear hHeld
      go_wp2
      go_roundg (gk - 1)
      case measure=>have:=WQ.out;omega
      case rel=>exact ⟨pos+1,by have:=WQ.out;omega,HX⟩
  case neg =>
  have hnx:∀ ty,(Instr.next (.pointer (some ⟨RG,0,none⟩)) true ty).run Tryd.prog wr=.ok (.tuple #[.bool false]) wr:=fun ty=>Lib.run_next_end_at wr RG a1 pos ty HX.out.iter hp
  clear hp hpk
  obtain ⟨RF,hit⟩:∃ it,wr.heap.size=it:=⟨_,rfl⟩
  obtain ⟨Wj,hWj⟩:∃ Wj,wr.iter a2 0=Wj:=⟨_,rfl⟩
  have HI:ae (zx M G M RF 0 #[.slice A0 l0.length c0,.string a1,.string a2,.slice A3 l3.length c3] s (.slice AO s.bM.length cO) (.slice AU s.out.length cU) a2 W2 Wj):=⟨by rw [← hWj,← hit];exact zx.start HX.out.bp HX.out.st HX.out.rv HX.out.bel (by rw [← hM];exact HX.out.bel.size) 0⟩
  have q2:wr.cell? ⟨G,2,none⟩=some (.string a2):=HX.out.bp.cell 2
  clear HX
  go_wp2
  clear q2 hit hWj hnx
  go_loopg [] a2.size (fun kq wr=>∃ (pos:Nat),kq+pos=a2.size∧ae (zx M G M RF pos #[.slice A0 l0.length c0,.string a1,.string a2,.slice A3 l3.length c3] s (.slice AO s.bM.length cO) (.slice AU s.out.length cU) a2 W2 wr))
  case atStart=>exact ⟨0,Nat.add_zero _,HI⟩
  case round =>
  clear HI
  obtain ⟨pos,hpk,HX⟩:=hrel
  by_cases hp:pos < a2.size
  case pos =>
    obtain ⟨hasc,ho0,ho1,hov⟩:=HPG.out pos hp
    obtain ⟨Wn,Y6⟩:∃ Wn,wr.iterAt RF a2 (pos+1)=Wn:=⟨_,rfl⟩
    have hnx:∀ ty,(Instr.next (.pointer (some ⟨RF,0,none⟩)) true ty).run Tryd.prog wr=.ok (.tuple #[.bool true,.int .i64 pos,.int .i32 (a2[pos]'hp).toNat]) Wn:=fun ty=>by rw [← Y6];exact Lib.run_next_ascii_at wr RF a2 pos ty HX.out.iter hp hasc
    replace HX:=ae.mk (show zx M G M RF (pos+1) #[.slice A0 l0.length c0,.string a1,.string a2,.slice A3 l3.length c3] s (.slice AO s.bM.length cO) (.slice AU s.out.length cU) a2 W2 Wn from by rw [← Y6];exact HX.out.next (pos+1))
    obtain ⟨o,ho⟩:∃ o,s.g pos=o:=⟨_,rfl⟩
    rw [ho] at ho0 ho1 hov
    have hpm:pos < 4:=by have:=hg4.out;omega
    have hpi:(pos:Int) < 4:=by omega
    have hpu:IntKind.u8.wrap (pos:Int)=pos:=IntWalk.u8_in _ (by omega)
    have cp:Wn.cell? ⟨M,16+pos,none⟩=some (.int .i64 o):=by rw [HX.out.st.Wl pos hpm,ho]
    have WQ:=Lib.hid hpk
    have hn1:decide (o < 0)=false:=decide_eq_false (by omega)
    have hn2:decide ((s.bM.length:Int) < o)=false:=decide_eq_false (by omega)
    clear Y6 hasc ho hpk
    go_upto_region 22 with (fail)
    clear cp hnx
    by_cases hz:o=0
    case pos =>
      subst hz
      clear ho0 ho1 hov hn1 hn2
      have k20:Wn.cell? ⟨M,20,none⟩=some (.slice AO s.bM.length cO):=HX.out.st.cell 20
      have hn2:decide ((s.bM.length:Int) < 0)=false:=decide_eq_false (by omega)
      go_quiet (fail)
      rename_i nq
      have HX2:=ae.mk (HX.out.drewN nq)
      clear HX k20
      go_wp2
      go_roundg (gk - 1)
      case measure=>have:=WQ.out;omega
      case rel=>exact ⟨pos+1,by have:=WQ.out;omega,HX2⟩
    case neg =>
      obtain ⟨v,hfv,hv0,hv1,hlen⟩:=hov (by omega)
      obtain ⟨z,hzz⟩:∃ z,z=o - 1:=⟨_,rfl⟩
      have hz0:0≤z:=by omega
      have hz1:z < (s.bM.length:Int):=by omega
      have hzw:IntKind.i64.wrap (o - 1)=z:=by rw [hzz];exact IntWalk.i64_in _ (by have:=hsz1.out;omega)
      have hp1:decide (0 < o)=true:=decide_eq_true (by omega)
      rw [← hzz] at hlen
      obtain ⟨ad,A1,c1,e0,hcell,_,_⟩:=CJ (Kd.rQ HX.out.rv.bM).2.2 z hz0 hz1
      obtain ⟨ad0,e00,_⟩:=Kd.jD (Kd.bK HR0.out (by rw [hM];exact HX.out.bel)) v hv0 hv1
      have HFV:=Lib.hid hfv
      have HAO:=Lib.hid e0
      have HA0:=Lib.hid e00
      have hne:(((qY s.bM z).length:Int) != ((dW ByteArray.empty l0 v).size:Int))=false:=by rw [hlen];simp
      clear hfv hlen hov hzz e0 e00 ho0 ho1 hz
      refine wp_region_noPanic ?_
      refine o5 (n:=32) (S:=fun w'=>zx M G M RF (pos+1) #[.slice A0 l0.length c0,.string a1,.string a2,.slice A3 l3.length c3] s (.slice AO s.bM.length cO) (.slice AU s.out.length cU) a2 W2 w'∧w'.cell? (ad.add z.toNat)=some (.slice A1 (qY s.bM z).length c1)) (ds:=[]) #[false,false,false,false,false,false,false,false,false,false,false,false,false,false,false,false,false,false,false,false,false,false,false,false,false,false,false,false,false,false,false,false] (by kernel_rfl) rfl rfl ⟨HX.out.drew,hcell⟩ (fun hHeld=>?_)
      clear HX hcell
      generalize Wn.drew=Wd at hHeld ⊢
      refine dX (i:=0) (N:=some 97) (v:=?_) (a':=?_) #[true,false,false,false,false,false,false,false,false,false,false,false,false,false,false,false,false,false,false,false,false,false,false,false,false,false,false,false,false,false,false,false] rfl rfl (by kernel_rfl) (fun _ _ _ h=>h) (Or.inl ⟨by rfl,?_⟩) ?_ ?_
      rotate_left
      · intro w'
        go_simp
        with_reducible rfl
      rotate_left
      · simp only [Act.put,List.setIfInBounds_toArray,List.set_cons_zero,List.set_cons_succ,bG,bJ]
        rfl
      refine dX (i:=1) (N:=some 98) (v:=?_) (a':=?_) #[true,true,false,false,false,false,false,false,false,false,false,false,false,false,false,false,false,false,false,false,false,false,false,false,false,false,false,false,false,false,false,false] rfl rfl (by kernel_rfl) (fun _ _ _ h=>h) (Or.inl ⟨by rfl,?_⟩) ?_ ?_
      rotate_left
      · intro w'
        go_simp
        with_reducible rfl
      rotate_left
      · simp only [Act.put,List.setIfInBounds_toArray,List.set_cons_zero,List.set_cons_succ,bG,bJ]
        rfl
      refine dX (i:=2) (N:=some 99) (v:=?_) (a':=?_) #[true,true,true,false,false,false,false,false,false,false,false,false,false,false,false,false,false,false,false,false,false,false,false,false,false,false,false,false,false,false,false,false] rfl rfl (by kernel_rfl) (fun _ _ _ h=>h) (Or.inl ⟨by rfl,?_⟩) ?_ ?_
      rotate_left
      · intro w'
        go_simp
        with_reducible rfl
      rotate_left
      · simp only [Act.put,List.setIfInBounds_toArray,List.set_cons_zero,List.set_cons_succ,bG,bJ]
        rfl
      refine dX (i:=3) (N:=some 100) (v:=?_) (a':=?_) #[true,true,true,true,false,false,false,false,false,false,false,false,false,false,false,false,false,false,false,false,false,false,false,false,false,false,false,false,false,false,false,false] rfl rfl (by kernel_rfl) (fun _ _ _ h=>h) (Or.inl ⟨by rfl,?_⟩) ?_ ?_
      rotate_left
      · intro w'
        go_simp
        with_reducible rfl
      rotate_left
      · simp only [Act.put,List.setIfInBounds_toArray,List.set_cons_zero,List.set_cons_succ,bG,bJ]
        rfl
      refine dX (i:=4) (N:=some 101) (v:=?_) (a':=?_) #[true,true,true,true,true,false,false,false,false,false,false,false,false,false,false,false,false,false,false,false,false,false,false,false,false,false,false,false,false,false,false,false] rfl rfl (by kernel_rfl) (fun _ _ _ h=>h) (Or.inl ⟨by rfl,?_⟩) ?_ ?_
      rotate_left
      · intro w'
        go_simp
        with_reducible rfl
      rotate_left
      · simp only [Act.put,List.setIfInBounds_toArray,List.set_cons_zero,List.set_cons_succ,bG,bJ]
        rfl
      refine jg (i:=5) (N:=some 102) (v:=?_) (a':=?_) #[true,true,true,true,true,true,false,false,false,false,false,false,false,false,false,false,false,false,false,false,false,false,false,false,false,false,false,false,false,false,false,false] rfl rfl (by kernel_rfl) (fun _ _ _ h=>h) (Or.inl ⟨by rfl,?_⟩) hHeld ?_ ?_
      rotate_left
      · intro w' yG
        have c_:w'.cell? ⟨M,20,none⟩=some (.slice (some ad) s.bM.length cO):=by rw [← HAO.out];exact yG.1.st.cell 20
        go_simp
        with_reducible rfl
      rotate_left
      · simp only [Act.put,List.setIfInBounds_toArray,List.set_cons_zero,List.set_cons_succ,bG,bJ]
        rfl
      refine dX (i:=6) (N:=some 103) (v:=?_) (a':=?_) #[true,true,true,true,true,true,true,false,false,false,false,false,false,false,false,false,false,false,false,false,false,false,false,false,false,false,false,false,false,false,false,false] rfl rfl (by kernel_rfl) (fun _ _ _ h=>h) (Or.inl ⟨by rfl,?_⟩) ?_ ?_
      rotate_left
      · intro w'
        go_simp
        with_reducible rfl
      rotate_left
      · simp only [Act.put,List.setIfInBounds_toArray,List.set_cons_zero,List.set_cons_succ,bG,bJ]
        rfl
      refine dX (i:=7) (N:=some 104) (v:=?_) (a':=?_) #[true,true,true,true,true,true,true,true,false,false,false,false,false,false,false,false,false,false,false,false,false,false,false,false,false,false,false,false,false,false,false,false] rfl rfl (by kernel_rfl) (fun _ _ _ h=>h) (Or.inl ⟨by rfl,?_⟩) ?_ ?_
      rotate_left
      · intro w'
        go_simp
        with_reducible rfl
      rotate_left
      · simp only [Act.put,List.setIfInBounds_toArray,List.set_cons_zero,List.set_cons_succ,bG,bJ]
        rfl
      refine dX (i:=8) (N:=some 105) (v:=?_) (a':=?_) #[true,true,true,true,true,true,true,true,true,false,false,false,false,false,false,false,false,false,false,false,false,false,false,false,false,false,false,false,false,false,false,false] rfl rfl (by kernel_rfl) (fun _ _ _ h=>h) (Or.inl ⟨by rfl,?_⟩) ?_ ?_
      rotate_left
      · intro w'
        go_simp
        with_reducible rfl
      rotate_left
      · simp only [Act.put,List.setIfInBounds_toArray,List.set_cons_zero,List.set_cons_succ,bG,bJ]
        rfl
      refine dX (i:=9) (N:=some 106) (v:=?_) (a':=?_) #[true,true,true,true,true,true,true,true,true,true,false,false,false,false,false,false,false,false,false,false,false,false,false,false,false,false,false,false,false,false,false,false] rfl rfl (by kernel_rfl) (fun _ _ _ h=>h) (Or.inl ⟨by rfl,?_⟩) ?_ ?_
      rotate_left
      · intro w'
        go_simp
        with_reducible rfl
      rotate_left
      · simp only [Act.put,List.setIfInBounds_toArray,List.set_cons_zero,List.set_cons_succ,bG,bJ]
        rfl
      refine dX (i:=10) (N:=some 107) (v:=?_) (a':=?_) #[true,true,true,true,true,true,true,true,true,true,true,false,false,false,false,false,false,false,false,false,false,false,false,false,false,false,false,false,false,false,false,false] rfl rfl (by kernel_rfl) (fun _ _ _ h=>h) (Or.inl ⟨by rfl,?_⟩) ?_ ?_
      rotate_left
      · intro w'
        go_simp
        with_reducible rfl
      rotate_left
      · simp only [Act.put,List.setIfInBounds_toArray,List.set_cons_zero,List.set_cons_succ,bG,bJ]
        rfl
      refine dX (i:=11) (N:=some 108) (v:=?_) (a':=?_) #[true,true,true,true,true,true,true,true,true,true,true,true,false,false,false,false,false,false,false,false,false,false,false,false,false,false,false,false,false,false,false,false] rfl rfl (by kernel_rfl) (fun _ _ _ h=>h) (Or.inl ⟨by rfl,?_⟩) ?_ ?_
      rotate_left
      · intro w'
        go_simp
        with_reducible rfl
      rotate_left
      · simp only [Act.put,List.setIfInBounds_toArray,List.set_cons_zero,List.set_cons_succ,bG,bJ]
        rfl
      refine dX (i:=12) (N:=some 109) (v:=?_) (a':=?_) #[true,true,true,true,true,true,true,true,true,true,true,true,true,false,false,false,false,false,false,false,false,false,false,false,false,false,false,false,false,false,false,false] rfl rfl (by kernel_rfl) (fun _ _ _ h=>h) (Or.inl ⟨by rfl,?_⟩) ?_ ?_
      rotate_left
      · intro w'
        go_simp
        with_reducible rfl
      rotate_left
      · simp only [Act.put,List.setIfInBounds_toArray,List.set_cons_zero,List.set_cons_succ,bG,bJ]
        rfl
      refine dX (i:=13) (N:=some 110) (v:=?_) (a':=?_) #[true,true,true,true,true,true,true,true,true,true,true,true,true,true,false,false,false,false,false,false,false,false,false,false,false,false,false,false,false,false,false,false] rfl rfl (by kernel_rfl) (fun _ _ _ h=>h) (Or.inl ⟨by rfl,?_⟩) ?_ ?_
      rotate_left
      · intro w'
        go_simp
        with_reducible rfl
      rotate_left
      · simp only [Act.put,List.setIfInBounds_toArray,List.set_cons_zero,List.set_cons_succ,bG,bJ]
        rfl
      refine jg (i:=14) (N:=some 111) (v:=?_) (a':=?_) #[true,true,true,true,true,true,true,true,true,true,true,true,true,true,true,false,false,false,false,false,false,false,false,false,false,false,false,false,false,false,false,false] rfl rfl (by kernel_rfl) (fun _ _ _ h=>h) (Or.inl ⟨by rfl,?_⟩) hHeld ?_ ?_
      rotate_left
      · intro w' yG
        have c_:w'.cell? ⟨M,20,none⟩=some (.slice (some ad) s.bM.length cO):=by rw [← HAO.out];exact yG.1.st.cell 20
        go_simp
        with_reducible rfl
      rotate_left
      · simp only [Act.put,List.setIfInBounds_toArray,List.set_cons_zero,List.set_cons_succ,bG,bJ]
        rfl
      refine dX (i:=15) (N:=some 112) (v:=?_) (a':=?_) #[true,true,true,true,true,true,true,true,true,true,true,true,true,true,true,true,false,false,false,false,false,false,false,false,false,false,false,false,false,false,false,false] rfl rfl (by kernel_rfl) (fun _ _ _ h=>h) (Or.inl ⟨by rfl,?_⟩) ?_ ?_
      rotate_left
      · intro w'
        go_simp
        with_reducible rfl
      rotate_left
      · simp only [Act.put,List.setIfInBounds_toArray,List.set_cons_zero,List.set_cons_succ,bG,bJ]
        rfl
      refine dX (i:=16) (N:=some 113) (v:=?_) (a':=?_) #[true,true,true,true,true,true,true,true,true,true,true,true,true,true,true,true,true,false,false,false,false,false,false,false,false,false,false,false,false,false,false,false] rfl rfl (by kernel_rfl) (fun _ _ _ h=>h) (Or.inl ⟨by rfl,?_⟩) ?_ ?_
      rotate_left
      · intro w'
        go_simp
        with_reducible rfl
      rotate_left
      · simp only [Act.put,List.setIfInBounds_toArray,List.set_cons_zero,List.set_cons_succ,bG,bJ]
        rfl
      refine dX (i:=17) (N:=some 114) (v:=?_) (a':=?_) #[true,true,true,true,true,true,true,true,true,true,true,true,true,true,true,true,true,true,false,false,false,false,false,false,false,false,false,false,false,false,false,false] rfl rfl (by kernel_rfl) (fun _ _ _ h=>h) (Or.inl ⟨by rfl,?_⟩) ?_ ?_
      rotate_left
      · intro w'
        go_simp
        with_reducible rfl
      rotate_left
      · simp only [Act.put,List.setIfInBounds_toArray,List.set_cons_zero,List.set_cons_succ,bG,bJ]
        rfl
      refine jg (i:=18) (N:=some 115) (v:=?_) (a':=?_) #[true,true,true,true,true,true,true,true,true,true,true,true,true,true,true,true,true,true,true,false,false,false,false,false,false,false,false,false,false,false,false,false] rfl rfl (by kernel_rfl) (fun _ _ _ h=>h) (Or.inl ⟨by rfl,?_⟩) hHeld ?_ ?_
      rotate_left
      · intro w' yG
        have c_:w'.cell? (ad.add z.toNat)=some (.slice A1 (qY s.bM z).length c1):=yG.2
        go_simp
        with_reducible rfl
      rotate_left
      · simp only [Act.put,List.setIfInBounds_toArray,List.set_cons_zero,List.set_cons_succ,bG,bJ]
        rfl
      refine dX (i:=19) (N:=some 116) (v:=?_) (a':=?_) #[true,true,true,true,true,true,true,true,true,true,true,true,true,true,true,true,true,true,true,true,false,false,false,false,false,false,false,false,false,false,false,false] rfl rfl (by kernel_rfl) (fun _ _ _ h=>h) (Or.inl ⟨by rfl,?_⟩) ?_ ?_
      rotate_left
      · intro w'
        go_simp
        with_reducible rfl
      rotate_left
      · simp only [Act.put,List.setIfInBounds_toArray,List.set_cons_zero,List.set_cons_succ,bG,bJ]
        rfl
      refine dX (i:=20) (N:=some 117) (v:=?_) (a':=?_) #[true,true,true,true,true,true,true,true,true,true,true,true,true,true,true,true,true,true,true,true,true,false,false,false,false,false,false,false,false,false,false,false] rfl rfl (by kernel_rfl) (fun _ _ _ h=>h) (Or.inl ⟨by rfl,?_⟩) ?_ ?_
      rotate_left
      · intro w'
        go_simp
        with_reducible rfl
      rotate_left
      · simp only [Act.put,List.setIfInBounds_toArray,List.set_cons_zero,List.set_cons_succ,bG,bJ]
        rfl
      refine jg (i:=21) (N:=some 118) (v:=?_) (a':=?_) #[true,true,true,true,true,true,true,true,true,true,true,true,true,true,true,true,true,true,true,true,true,true,false,false,false,false,false,false,false,false,false,false] rfl rfl (by kernel_rfl) (fun _ _ _ h=>h) (Or.inl ⟨by rfl,?_⟩) hHeld ?_ ?_
      rotate_left
      · intro w' yG
        have c_:w'.cell? ⟨G,0,none⟩=some (.slice (some ad0) l0.length c0):=by rw [← HA0.out];exact yG.1.bp.cell 0
        go_simp
        with_reducible rfl
      rotate_left
      · simp only [Act.put,List.setIfInBounds_toArray,List.set_cons_zero,List.set_cons_succ,bG,bJ]
        rfl
      refine jg (i:=22) (N:=some 119) (v:=.agg #[.slice A0 l0.length c0,.string a1,.string a2,.slice A3 l3.length c3]) (a':=?anp) #[true,true,true,true,true,true,true,true,true,true,true,true,true,true,true,true,true,true,true,true,true,true,true,false,false,false,false,false,false,false,false,false] rfl rfl (by kernel_rfl) (fun _ _ _ h=>h) (Or.inl ⟨by rfl,?aam⟩) hHeld ?abX ?_
      case aam=>exact fun w' hw=>IP 25 (.tmp 2) rfl G 0 rfl #[.slice A0 l0.length c0,.string a1,.string a2,.slice A3 l3.length c3] _ (hw.1.bp.range 0 _ (fun j hj=>by match j,hj with | 0,_ | 1,_ | 2,_ | 3,_=>rfl)) Tryd.underlying25 rfl (by kernel_rfl)
      case abX =>
        simp only [Act.put,List.setIfInBounds_toArray,List.set_cons_zero,List.set_cons_succ,bG,bJ]
        rfl
      refine dX (i:=23) (N:=some 120) (v:=?_) (a':=?_) #[true,true,true,true,true,true,true,true,true,true,true,true,true,true,true,true,true,true,true,true,true,true,true,true,false,false,false,false,false,false,false,false] rfl rfl (by kernel_rfl) (fun _ _ _ h=>h) (Or.inl ⟨by rfl,?_⟩) ?_ ?_
      rotate_left
      · intro w'
        go_simp
        with_reducible rfl
      rotate_left
      · simp only [Act.put,List.setIfInBounds_toArray,List.set_cons_zero,List.set_cons_succ,bG,bJ]
        rfl
      refine dX (i:=24) (N:=some 121) (v:=?_) (a':=?_) #[true,true,true,true,true,true,true,true,true,true,true,true,true,true,true,true,true,true,true,true,true,true,true,true,true,false,false,false,false,false,false,false] rfl rfl (by kernel_rfl) (fun _ _ _ h=>h) (Or.inl ⟨by rfl,?_⟩) ?_ ?_
      rotate_left
      · intro w'
        go_simp
        with_reducible rfl
      rotate_left
      · simp only [Act.put,List.setIfInBounds_toArray,List.set_cons_zero,List.set_cons_succ,bG,bJ]
        rfl
      refine o6 (i:=25) (N:=some 122) #[true,true,true,true,true,true,true,true,true,true,true,true,true,true,true,true,true,true,true,true,true,true,true,true,true,true,false,false,false,false,false,false] rfl rfl (by kernel_rfl) (by decide) (fun K hK=>?_)
      refine oI Tryd.func20 (by kernel_rfl) rfl #[.agg #[.slice A0 l0.length c0,.string a1,.string a2,.slice A3 l3.length c3],.int .u8 pos] (by rfl) rfl rfl (by (try simp only [List.map_toArray,List.map_cons,List.map_nil]);rfl) ?_
      refine (dQ.calls k A0 c0 l0 a1 a2 A3 c3 l3 (pos:Int) v _ (Kd.bK HR0.out (by rw [hM];exact hHeld.1.bel)) hc0 (Kd.bK HR3.out (by rw [hM];exact hHeld.1.bel)) hc3 HFV.out).mono ?_
      rintro e w4 ⟨rfl,hb4⟩
      refine ⟨_,rfl,?_⟩
      refine hK.out _ _ ⟨hHeld.1.below hb4,(hb4.cell (p:=ad.add z.toNat) (cell_lt hHeld.2)).trans hHeld.2⟩ (fun hHeld=>?_)
      clear hK K hb4
      refine jm (a':=?_) ?_ ?_
      rotate_left
      · simp only [oD,Act.put,List.setIfInBounds_toArray,List.set_cons_zero,List.set_cons_succ,bG,bJ]
        rfl
      refine dX (i:=26) (N:=some 123) (v:=?_) (a':=?_) #[true,true,true,true,true,true,true,true,true,true,true,true,true,true,true,true,true,true,true,true,true,true,true,true,true,true,true,false,false,false,false,false] rfl rfl (by kernel_rfl) (fun _ _ _ h=>h) (Or.inl ⟨by rfl,?_⟩) ?_ ?_
      rotate_left
      · intro w'
        go_simp
        with_reducible rfl
      rotate_left
      · simp only [Act.put,List.setIfInBounds_toArray,List.set_cons_zero,List.set_cons_succ,bG,bJ]
        rfl
      refine jg (i:=27) (N:=some 124) (v:=?_) (a':=?_) #[true,true,true,true,true,true,true,true,true,true,true,true,true,true,true,true,true,true,true,true,true,true,true,true,true,true,true,true,false,false,false,false] rfl rfl (by kernel_rfl) (fun _ _ _ h=>h) (Or.inl ⟨by rfl,?_⟩) hHeld ?_ ?_
      rotate_left
      · intro w' yG
        have c_:w'.cell? (ad0.add v.toNat)=some (.string (dW ByteArray.empty l0 v)):=NM (by rw [← HA0.out];exact Kd.bK HR0.out (by rw [hM];exact yG.1.bel)) v hv0 hv1
        go_simp
        with_reducible rfl
      rotate_left
      · simp only [Act.put,List.setIfInBounds_toArray,List.set_cons_zero,List.set_cons_succ,bG,bJ]
        rfl
      refine dX (i:=28) (N:=some 125) (v:=?_) (a':=?_) #[true,true,true,true,true,true,true,true,true,true,true,true,true,true,true,true,true,true,true,true,true,true,true,true,true,true,true,true,true,false,false,false] rfl rfl (by kernel_rfl) (fun _ _ _ h=>h) (Or.inl ⟨by rfl,?_⟩) ?_ ?_
      rotate_left
      · intro w'
        go_simp
        with_reducible rfl
      rotate_left
      · simp only [Act.put,List.setIfInBounds_toArray,List.set_cons_zero,List.set_cons_succ,bG,bJ]
        rfl
      refine dX (i:=29) (N:=some 126) (v:=?_) (a':=?_) #[true,true,true,true,true,true,true,true,true,true,true,true,true,true,true,true,true,true,true,true,true,true,true,true,true,true,true,true,true,true,false,false] rfl rfl (by kernel_rfl) (fun _ _ _ h=>h) (Or.inl ⟨by rfl,?_⟩) ?_ ?_
      rotate_left
      · intro w'
        go_simp
        with_reducible rfl
      rotate_left
      · simp only [Act.put,List.setIfInBounds_toArray,List.set_cons_zero,List.set_cons_succ,bG,bJ]
        rfl
      refine dX (i:=30) (N:=some 127) (v:=?_) (a':=?_) #[true,true,true,true,true,true,true,true,true,true,true,true,true,true,true,true,true,true,true,true,true,true,true,true,true,true,true,true,true,true,true,false] rfl rfl (by kernel_rfl) (fun _ _ _ h=>h) (Or.inl ⟨by rfl,?_⟩) ?_ ?_
      rotate_left
      · intro w'
        go_simp
        with_reducible rfl
      rotate_left
      · simp only [Act.put,List.setIfInBounds_toArray,List.set_cons_zero,List.set_cons_succ,bG,bJ]
        rfl
      refine dX (i:=31) (N:=some 128) (v:=?_) (a':=?_) #[true,true,true,true,true,true,true,true,true,true,true,true,true,true,true,true,true,true,true,true,true,true,true,true,true,true,true,true,true,true,true,true] rfl rfl (by kernel_rfl) (fun _ _ _ h=>h) (Or.inl ⟨by rfl,?_⟩) ?_ ?_
      rotate_left
      · intro w'
        go_simp
        with_reducible rfl
      rotate_left
      · simp only [Act.put,List.setIfInBounds_toArray,List.set_cons_zero,List.set_cons_succ,bG,bJ]
        rfl
      refine rH (by kernel_rfl) ?_
      refine NoPanic.normal ?_
      show Exit.then _ _ .normal _ _
      simp only [Exit.then]
      have HX:=ae.mk hHeld.1
      clear hHeld
      go_wp2
      go_roundg (gk - 1)
      case measure=>have:=WQ.out;omega
      case rel=>exact ⟨pos+1,by have:=WQ.out;omega,HX⟩
  case neg =>
  have hnx:∀ ty,(Instr.next (.pointer (some ⟨RF,0,none⟩)) true ty).run Tryd.prog wr=.ok (.tuple #[.bool false]) wr:=fun ty=>Lib.run_next_end_at wr RF a2 pos ty HX.out.iter hp
  clear hp hpk
  have K0:=ae.mk HX.out.bp
  have HS:=ae.mk HX.out.st
  have HV:=ae.mk HX.out.rv
  have HB:=ae.mk HX.out.bel
  clear HX HPL HPG hl8 hg4
  have q0:wr.cell? ⟨G,0,none⟩=some (.slice A0 l0.length c0):=K0.out.cell 0
  have q1:wr.cell? ⟨G,1,none⟩=some (.string a1):=K0.out.cell 1
  have q2:wr.cell? ⟨G,2,none⟩=some (.string a2):=K0.out.cell 2
  have q3:wr.cell? ⟨G,3,none⟩=some (.slice A3 l3.length c3):=K0.out.cell 3
  have kk:=HS.out.blk
  go_upto_region 999 with (((with_reducible refine dL (N:=131) rfl ?_);refine wpList_load_row rfl 39 (.tmp 10) rfl M rfl 39 (cellsS s (.slice AO s.bM.length cO) (.slice AU s.out.length cU)) (0,0) _ kk Tryd.underlying39 rfl (by kernel_rfl) ?_))
  refine (nU.calls k A0 c0 l0 a1 a2 A3 c3 l3 s s1 dn e1' _ _ _ _ _ _ wr (Kd.bK HR0.out (by rw [hM];exact HB.out)) hc0 (Kd.bK HR3.out (by rw [hM];exact HB.out)) hc3 (Kd.bK wJ.out (by rw [hM];exact HB.out)) HV.out.bM HV.out.out WO.out.1 WO.out.2).mono ?_
  rintro e wq ⟨NG,NF,rfl,hV1,hB1⟩
  obtain ⟨c,hc⟩:∃ c,wq.heap.size=c:=⟨_,rfl⟩
  obtain ⟨wz,hwz⟩:∃ wz,wq.alloc (.cells #[.int .i64 0,.int .i64 0,.int .i64 0,.int .i64 0,.int .i64 0,.int .i64 0,.int .i64 0,.int .i64 0,.int .i64 0,.int .i64 0,.int .i64 0,.int .i64 0,.int .i64 0,.int .i64 0,.int .i64 0,.int .i64 0,.int .i64 0,.int .i64 0,.int .i64 0,.int .i64 0,.slice none 0 0,.slice none 0 0,.int .i64 0,.int .i64 0] 39)=wz:=⟨_,rfl⟩
  have hzb:wz.heap[c]? = some (.cells #[.int .i64 0,.int .i64 0,.int .i64 0,.int .i64 0,.int .i64 0,.int .i64 0,.int .i64 0,.int .i64 0,.int .i64 0,.int .i64 0,.int .i64 0,.int .i64 0,.int .i64 0,.int .i64 0,.int .i64 0,.int .i64 0,.int .i64 0,.int .i64 0,.int .i64 0,.int .i64 0,.slice none 0 0,.slice none 0 0,.int .i64 0,.int .i64 0] 39 (0,0)):=by rw [← hwz,← hc];exact heap_alloc_new wq _
  have hMs:M≤wr.heap.size:=by rw [← hM];exact HB.out.size
  have hone:=cells_one hV1
  have Xu:Below wr.heap.size wr (wz.setRow c (cellsS s1 NG NF)):=jq (by rw [← hwz];exact hB1.alloc hB1.size _) (by rw [← hc];exact hB1.size) _
  have Nv:=ae.mk (show kF c s1 NG NF (wz.setRow c (cellsS s1 NG NF)) from ⟨kX hzb _⟩)
  have hVz:oh wr.heap.size s1 NG NF wz:=by rw [← hwz];exact ⟨Kd.KX hV1.bM _,Kd.lC hV1.out (fun k _ hk=>Below.heap_alloc wq _ k hk)⟩
  have Nu:=ae.mk ((hVz.setRow hzb (cellsS s1 NG NF)).lower hMs)
  replace HS:=ae.mk (HS.out.of_block (Xu.block M HS.out.lt))
  replace HV:=ae.mk (show oh M s _ _ (wz.setRow c (cellsS s1 NG NF)) from ⟨Kd.tC HV.out.bM Xu,Kd.ja HV.out.out Xu⟩)
  replace HB:=ae.mk (HB.out.trans (Xu.mono hMs))
  clear hV1 hB1 Xu hVz kk q0 q1 q2 q3 hnx
  obtain ⟨BD,Bq,rfl⟩:=Kd.zu Nu.out.bM
  obtain ⟨BC,Bo,rfl⟩:=Kd.jr Nu.out.out
  have kb:=HS.out.blk
  have kc:=Nv.out.blk
  rcases HP.out with ⟨hdn,he,hts⟩|⟨hdn,he,hts⟩|⟨hdn,he,hst,hlo,hlu,hnx⟩
  · subst hdn he
    clear HP
    subst hts
    go_upto_region 999 with (first|(skip;refine wpList_store_row rfl 39 (.tmp 15) (.tmp 133) rfl c (cellsS s1 (.slice BD s1.bM.length Bq) (.slice BC s1.out.length Bo)) rfl rfl 39 _ hzb (by kernel_rfl) rfl hone ?_)|((with_reducible refine dL (N:=148) rfl ?_);(refine kG (by rfl) ?_;dsimp only);refine wpList_load_row rfl 39 (.tmp 15) rfl c rfl 39 (cellsS s1 (.slice BD s1.bM.length Bq) (.slice BC s1.out.length Bo)) (0,0) _ kc Tryd.underlying39 rfl (by kernel_rfl) ?_)|((with_reducible refine dL (N:=149) rfl ?_);(refine kG (by rfl) ?_;dsimp only);refine wpList_load_row rfl 39 (.tmp 10) rfl M rfl 39 (cellsS s1 (.slice AO s1.bM.length cO) (.slice AU s1.out.length cU)) (0,0) _ kb Tryd.underlying39 rfl (by kernel_rfl) ?_))
    refine (zI s1 BD BC AO AU Bq Bo cO cU _ (Kd.rQ Nu.out.bM).2.2 (Kd.eG Nu.out.out).2.2 (Kd.eG Nu.out.out).2.1 (Kd.rQ HV.out.bM).2.2 (Kd.eG HV.out.out).2.2 (Kd.eG HV.out.out).2.1 WO.out.1).mono ?_
    rintro e wf ⟨rfl,hBf⟩
    replace HB:=ae.mk (HB.out.trans (hBf.mono (show M≤_ by have:=HB.out.size;omega)))
    clear hBf kb kc HS Nv HV Nu hzb hone hwz
    go_wp2
    go_ret
    exact ⟨rfl,by have q:=HB1.out.trans (HB.out.mono (show w.heap.size≤M by have:=HB1.out.size;omega));first|exact q|(rw [hG] at q;exact q)⟩
  · subst hdn he
    clear HP
    subst hts
    go_upto_region 999 with (first|(skip;refine wpList_store_row rfl 39 (.tmp 15) (.tmp 133) rfl c (cellsS s1 (.slice BD s1.bM.length Bq) (.slice BC s1.out.length Bo)) rfl rfl 39 _ hzb (by kernel_rfl) rfl hone ?_)|((with_reducible refine dL (N:=148) rfl ?_);(refine kG (by rfl) ?_;dsimp only);refine wpList_load_row rfl 39 (.tmp 15) rfl c rfl 39 (cellsS s1 (.slice BD s1.bM.length Bq) (.slice BC s1.out.length Bo)) (0,0) _ kc Tryd.underlying39 rfl (by kernel_rfl) ?_)|((with_reducible refine dL (N:=149) rfl ?_);(refine kG (by rfl) ?_;dsimp only);refine wpList_load_row rfl 39 (.tmp 10) rfl M rfl 39 (cellsS s1 (.slice AO s1.bM.length cO) (.slice AU s1.out.length cU)) (0,0) _ kb Tryd.underlying39 rfl (by kernel_rfl) ?_))
    refine (zI s1 BD BC AO AU Bq Bo cO cU _ (Kd.rQ Nu.out.bM).2.2 (Kd.eG Nu.out.out).2.2 (Kd.eG Nu.out.out).2.1 (Kd.rQ HV.out.bM).2.2 (Kd.eG HV.out.out).2.2 (Kd.eG HV.out.out).2.1 WO.out.1).mono ?_
    rintro e wf ⟨rfl,hBf⟩
    replace HB:=ae.mk (HB.out.trans (hBf.mono (show M≤_ by have:=HB.out.size;omega)))
    clear hBf kb kc HS Nv HV Nu hzb hone hwz
    go_wp2
    go_ret
    exact ⟨rfl,by have q:=HB1.out.trans (HB.out.mono (show w.heap.size≤M by have:=HB1.out.size;omega));first|exact q|(rw [hG] at q;exact q)⟩
  · subst hdn he
    have HNX:=ae.mk hnx
    have g1:(s1.steps != wrap64 (s.steps+1))=false:=by rw [hst];simp
    have g4:(s1.bM.length < s.bM.length)=False:=eq_false (by omega)
    have g5:(s1.out.length < s.out.length)=False:=eq_false (by omega)
    have g6:s.bM.length≤s1.bM.length:=hlo
    have g7:s.out.length≤s1.out.length:=hlu
    have g2:decide ((s1.bM.length:Int) < (s.bM.length:Int))=false:=decide_eq_false (by omega)
    have g3:decide ((s1.out.length:Int) < (s.out.length:Int))=false:=decide_eq_false (by omega)
    have e3:=Lib.hid (show wrap64 ((i:Int)+1)=((i+1:Nat):Int) by have:=HNN.out;unfold wrap64;omega)
    have k23:(wz.setRow c (cellsS s1 (.slice BD s1.bM.length Bq) (.slice BC s1.out.length Bo))).cell? ⟨c,23,none⟩=some (.int .i64 s1.steps):=Nv.out.cell 23
    have k20:(wz.setRow c (cellsS s1 (.slice BD s1.bM.length Bq) (.slice BC s1.out.length Bo))).cell? ⟨c,20,none⟩=some (.slice BD s1.bM.length Bq):=Nv.out.cell 20
    have k21:(wz.setRow c (cellsS s1 (.slice BD s1.bM.length Bq) (.slice BC s1.out.length Bo))).cell? ⟨c,21,none⟩=some (.slice BC s1.out.length Bo):=Nv.out.cell 21
    have j23:(wz.setRow c (cellsS s1 (.slice BD s1.bM.length Bq) (.slice BC s1.out.length Bo))).cell? ⟨M,23,none⟩=some (.int .i64 s.steps):=HS.out.cell 23
    have j20:(wz.setRow c (cellsS s1 (.slice BD s1.bM.length Bq) (.slice BC s1.out.length Bo))).cell? ⟨M,20,none⟩=some (.slice AO s.bM.length cO):=HS.out.cell 20
    have j21:(wz.setRow c (cellsS s1 (.slice BD s1.bM.length Bq) (.slice BC s1.out.length Bo))).cell? ⟨M,21,none⟩=some (.slice AU s.out.length cU):=HS.out.cell 21
    have HSn:=ae.mk (show kF M s1 (.slice BD s1.bM.length Bq) (.slice BC s1.out.length Bo) ((wz.setRow c (cellsS s1 (.slice BD s1.bM.length Bq) (.slice BC s1.out.length Bo))).setRow M (cellsS s1 (.slice BD s1.bM.length Bq) (.slice BC s1.out.length Bo))) from ⟨kX kb _⟩)
    have HVn:=ae.mk (Nu.out.setRow kb (cellsS s1 (.slice BD s1.bM.length Bq) (.slice BC s1.out.length Bo)))
    have HBn:=ae.mk (jq HB.out (Nat.le_refl M) (cellsS s1 (.slice BD s1.bM.length Bq) (.slice BC s1.out.length Bo)))
    clear HP hst hlo hlu hnx HS HV HB Nv Nu WO
    go_wp2_with (first|((with_reducible refine dL (N:=176) rfl ?_);refine wpList_load_row rfl 39 (.tmp 15) rfl c rfl 39 (cellsS s1 (.slice BD s1.bM.length Bq) (.slice BC s1.out.length Bo)) (0,0) _ kc Tryd.underlying39 rfl (by kernel_rfl) ?_)|(skip;refine wpList_store_row rfl 39 (.tmp 15) (.tmp 133) rfl c (cellsS s1 (.slice BD s1.bM.length Bq) (.slice BC s1.out.length Bo)) rfl rfl 39 _ hzb (by kernel_rfl) rfl hone ?_)|(skip;refine wpList_store_row rfl 39 (.tmp 10) (.tmp 176) rfl M (cellsS s1 (.slice BD s1.bM.length Bq) (.slice BC s1.out.length Bo)) rfl rfl 39 _ kb (by kernel_rfl) rfl hone ?_))
    go_roundg ng
    case measure=>omega
    case rel=>exact ⟨s1,_,_,i+1,by omega,by first|rfl|rw [e3.out]|(simp;omega),HNX,HSn,HVn,HBn⟩
end Go.Proofs.YtlemecdddhdagaaDoor.P
end
