/- Parts of the proof of ModelRight: what the functions that it reaches compute, and plain facts about that. -/
import Derived.Test.YtlemecdddhdagaaDoorVab
import Derived.Test.YtlemecdddhdagaaDoorVac
import Derived.Test.YtlemecdddhdagaaDoorVam
import Derived.Test.YtlemecdddhdagaaDoorVao
set_option linter.unusedVariables false
set_option linter.unusedSimpArgs false
section
namespace Go.Proofs.YtlemecdddhdagaaDoor.P
open Go.RowKit Go.Proofs.ag.bI Go.Proofs.ag.dM Go.Proofs.ag.dZ
attribute [local go_sem] kU kS lW lV jS jR kT kR
attribute [local go_sem high] acd
def jB.f (dC:Int) (aU:Int) (aV:Int) (fD:Int) (fK:Int) (a1:Int):Option (Int):=if a1=97 then (some (wrap64 (aU))) else (if a1=98 then (some (wrap64 (aV))) else (if a1=99 then (some (wrap64 (fD))) else (some fK)))
set_option maxHeartbeats 8000000 in
set_option maxRecDepth 100000 in
theorem jB.calls (dC:Int) (aU:Int) (aV:Int) (fD:Int) (fK:Int) (a1:Int) (r:Int) (w:World) (h:jB.f dC aU aV fD fK a1=some r) :
  Calls Tryd.prog 67 #[.agg #[.int .u8 dC,.int .u8 aU,.int .u8 aV,.int .u8 fD,.int .i64 fK],.int .u8 a1] w fun e w'=>e=.returned (.int .i64 r)∧Below w.heap.size w w':=by
 have Bi:=Tryd.underlying55
 have HB:=ae.mk (Below.refl w.heap.size w)
 have H:(if a1=97 then (some (wrap64 (aU))) else (if a1=98 then (some (wrap64 (aV))) else (if a1=99 then (some (wrap64 (fD))) else (some fK))))=some r:=h
 clear h
 by_cases c3:a1=97
 ·
  rw [if_pos c3] at H
  have nN:(a1 == 97)=true:=beq_iff_eq.mpr c3
  have yI:(a1 != 97)=false:=bne_eq_false_iff_eq.mpr c3
  clear c3
  obtain rfl:=Option.some.inj H
  go_enter Tryd.func67,Tryd.ntmps67
  go_wp2_with (first|((with_reducible refine dL (N:=2) rfl ?_);refine fF ?hg (N:=2) ?hd (cs:=#[.int .u8 dC,.int .u8 aU,.int .u8 aV,.int .u8 fD,.int .i64 fK]) (t:=55) ?hr ?_;(case hd=>rfl);(case hg=>rfl);(case hr=>first|(go_simp;done)|(go_simp;rfl));intro Am hg w4 hbox hb;have dV:=ae.mk (bg (by repeat (first|(with_reducible first|exact HB.out|apply ah|apply af|apply ai)|exact HB.out)) hb);have dU:=ae.mk (hbox);have dR:=ae.mk ((by rw [hg];exact (bW (by repeat (first|(with_reducible first|exact HB.out|apply ah|apply af|apply ai)|exact HB.out))):w.heap.size≤Am));have gQ:=dR;clear HB;have HB:=dV;have Bc:=dU;have Qs:=dR;have Ba:=gQ;clear dV dU dR gQ;clear hb hbox hg;obtain ⟨Aj,Ai,Ah,Ag,Y4,Af,Ae,Ad,Ac,Y0⟩:=jT Bc.out))
  go_ret
  exact ⟨by first|rfl|(simp [aQ,aN] <;> rfl)|(simp [*,aQ,aN] <;> rfl),by repeat (first|(with_reducible first|exact HB.out|apply ah|apply af|apply ai|refine aj ?_ Ba.out)|exact HB.out)⟩
 ·
  rw [if_neg c3] at H
  have nN:(a1 == 97)=false:=beq_eq_false_iff_ne.mpr c3
  have yI:(a1 != 97)=true:=bne_iff_ne.mpr c3
  by_cases c6:a1=98
  ·
   rw [if_pos c6] at H
   have nR:(a1 == 98)=true:=beq_iff_eq.mpr c6
   have xP:(a1 != 98)=false:=bne_eq_false_iff_eq.mpr c6
   clear c6
   obtain rfl:=Option.some.inj H
   go_enter Tryd.func67,Tryd.ntmps67
   go_wp2_with (first|((with_reducible refine dL (N:=2) rfl ?_);refine fF ?hg (N:=2) ?hd (cs:=#[.int .u8 dC,.int .u8 aU,.int .u8 aV,.int .u8 fD,.int .i64 fK]) (t:=55) ?hr ?_;(case hd=>rfl);(case hg=>rfl);(case hr=>first|(go_simp;done)|(go_simp;rfl));intro Am hg w7 hbox hb;have dV:=ae.mk (bg (by repeat (first|(with_reducible first|exact HB.out|apply ah|apply af|apply ai)|exact HB.out)) hb);have dU:=ae.mk (hbox);have dR:=ae.mk ((by rw [hg];exact (bW (by repeat (first|(with_reducible first|exact HB.out|apply ah|apply af|apply ai)|exact HB.out))):w.heap.size≤Am));have gQ:=dR;clear HB;have HB:=dV;have Bc:=dU;have Qs:=dR;have Ba:=gQ;clear dV dU dR gQ;clear hb hbox hg;obtain ⟨O4,O3,O1,O0,Y3,OT,OQ,OO,OM,YZ⟩:=jT Bc.out))
   go_ret
   exact ⟨by first|rfl|(simp [aQ,aN] <;> rfl)|(simp [*,aQ,aN] <;> rfl),by repeat (first|(with_reducible first|exact HB.out|apply ah|apply af|apply ai|refine aj ?_ Ba.out)|exact HB.out)⟩
  ·
   rw [if_neg c6] at H
   have nR:(a1 == 98)=false:=beq_eq_false_iff_ne.mpr c6
   have xP:(a1 != 98)=true:=bne_iff_ne.mpr c6
   by_cases c9:a1=99
   ·
    rw [if_pos c9] at H
    have Eb:(a1 == 99)=true:=beq_iff_eq.mpr c9
    have WB:(a1 != 99)=false:=bne_eq_false_iff_eq.mpr c9
    clear c9
    obtain rfl:=Option.some.inj H
    go_enter Tryd.func67,Tryd.ntmps67
    go_wp2_with (first|((with_reducible refine dL (N:=2) rfl ?_);refine fF ?hg (N:=2) ?hd (cs:=#[.int .u8 dC,.int .u8 aU,.int .u8 aV,.int .u8 fD,.int .i64 fK]) (t:=55) ?hr ?_;(case hd=>rfl);(case hg=>rfl);(case hr=>first|(go_simp;done)|(go_simp;rfl));intro Am hg w10 hbox hb;have dV:=ae.mk (bg (by repeat (first|(with_reducible first|exact HB.out|apply ah|apply af|apply ai)|exact HB.out)) hb);have dU:=ae.mk (hbox);have dR:=ae.mk ((by rw [hg];exact (bW (by repeat (first|(with_reducible first|exact HB.out|apply ah|apply af|apply ai)|exact HB.out))):w.heap.size≤Am));have gQ:=dR;clear HB;have HB:=dV;have Bc:=dU;have Qs:=dR;have Ba:=gQ;clear dV dU dR gQ;clear hb hbox hg;obtain ⟨zn,zl,zk,zi,VX,yY,yX,yV,yU,Uu⟩:=jT Bc.out))
    go_ret
    exact ⟨by first|rfl|(simp [aQ,aN] <;> rfl)|(simp [*,aQ,aN] <;> rfl),by repeat (first|(with_reducible first|exact HB.out|apply ah|apply af|apply ai|refine aj ?_ Ba.out)|exact HB.out)⟩
   ·
    rw [if_neg c9] at H
    have Eb:(a1 == 99)=false:=beq_eq_false_iff_ne.mpr c9
    have WB:(a1 != 99)=true:=bne_iff_ne.mpr c9
    obtain rfl:=Option.some.inj H
    go_enter Tryd.func67,Tryd.ntmps67
    go_wp2_with (first|((with_reducible refine dL (N:=2) rfl ?_);refine fF ?hg (N:=2) ?hd (cs:=#[.int .u8 dC,.int .u8 aU,.int .u8 aV,.int .u8 fD,.int .i64 fK]) (t:=55) ?hr ?_;(case hd=>rfl);(case hg=>rfl);(case hr=>first|(go_simp;done)|(go_simp;rfl));intro Am hg w12 hbox hb;have dV:=ae.mk (bg (by repeat (first|(with_reducible first|exact HB.out|apply ah|apply af|apply ai)|exact HB.out)) hb);have dU:=ae.mk (hbox);have dR:=ae.mk ((by rw [hg];exact (bW (by repeat (first|(with_reducible first|exact HB.out|apply ah|apply af|apply ai)|exact HB.out))):w.heap.size≤Am));have gQ:=dR;clear HB;have HB:=dV;have Bc:=dU;have Qs:=dR;have Ba:=gQ;clear dV dU dR gQ;clear hb hbox hg;obtain ⟨aj1,aj0,ajZ,ajY,ajX,ahN,ahM,ahL,ahK,ahJ⟩:=jT Bc.out))
    go_ret
    exact ⟨by first|rfl|(simp [aQ,aN] <;> rfl)|(simp [*,aQ,aN] <;> rfl),by repeat (first|(with_reducible first|exact HB.out|apply ah|apply af|apply ai|refine aj ?_ Ba.out)|exact HB.out)⟩
def bn.l0:Nat→ByteArray→List ByteArray→Int→Int→Int→Int→Int→Int→Option (List ByteArray)
 | 0,_,_,_,_,_,_,_,_=>none
 | k+1,x4,x5,x6,Iy,Iw,Iu,Ir,Iq=>if x6 < (x4.size:Int) then (if 0≤x6 then ((jB.f Iy Iw Iu Ir Iq (bt x4 x6)).bind fun t132=>((jb.f t132 10).bind fun t133=>(if x5.length < 8796093022208 then (bn.l0 k x4 (x5++[t133]) (wrap64 (x6+1)) Iy Iw Iu Ir Iq) else (none)))) else (none)) else (some x5)
def bn.f (k:Nat) (dC:Int) (aU:Int) (aV:Int) (fD:Int) (fK:Int):Option (List ByteArray):=(fG.f dC).bind fun FP=>(bn.l0 k FP.2 (([FP.1]:List ByteArray)) 0 dC aU aV fD fK)
theorem bn.gY:∀ k,(∀ y0 y1 y2 y3 y4 y5 y6 y7,dN (bn.l0 k y0 y1 y2 y3 y4 y5 y6 y7) (bn.l0 (k+1) y0 y1 y2 y3 y4 y5 y6 y7))
 | 0=>fun _ _ _ _ _ _ _ _ r h=>by simp [bn.l0] at h
 | k+1=>by
  have lF:=bn.gY k
  ·
   intro y0 y1 y2 y3 y4 y5 y6 y7
   unfold bn.l0
   repeat' with_reducible first|apply lF|exact dN.refl _|exact dN.none _|refine dN.ite ?_ ?_|refine dN.bind ?_ (fun _=>?_)
theorem bn.mono:∀ a0 a1 a2 a3 a4 k,dN (bn.f k a0 a1 a2 a3 a4) (bn.f (k+1) a0 a1 a2 a3 a4):=by
 intro a0 a1 a2 a3 a4 k
 have lF:=bn.gY k
 unfold bn.f
 repeat' with_reducible first|apply lF|exact dN.refl _|exact dN.none _|refine dN.ite ?_ ?_|refine dN.bind ?_ (fun _=>?_)
def bn.T6:Bool × List (List Nat × List Nat):=(true,[([],[]),([],[]),([],[]),([],[]),([2,3],[2,3]),([1,4],[1,4]),([5,5],[5]),([6],[6]),([0,7,6],[0,7]),([8,8,0,1,2,3,4,5,6,7,8],[0,8])])
def bn.B6:List Nat:=[0,0,0,0,12,30,62,126,255,511]
theorem bn.tab6:qg .any (opsOf Tryd.f47 6)=bn.T6:=by kernel_rfl
theorem bn.adg:qV bn.T6.2 bn.B6=true:=by kernel_rfl
set_option maxHeartbeats 8000000 in
set_option maxRecDepth 100000 in
theorem bn.calls (k:Nat) (dC:Int) (aU:Int) (aV:Int) (fD:Int) (fK:Int) (r:List ByteArray) (w:World) (kZ:Kd.C xY w xZ pK.length pK) (h:bn.f k dC aU aV fD fK=some r) :
  Calls Tryd.prog 47 #[.agg #[.int .u8 dC,.int .u8 aU,.int .u8 aV,.int .u8 fD,.int .i64 fK]] w fun e w'=>∃ v0_:Value,e=.returned (v0_)∧Kd.R Kd.string 9 w' w.heap.size (fun _=>True) v0_ r∧Below w.heap.size w w':=by
 have Bi:=Tryd.underlying55
 have wJ:=ae.mk kZ
 clear kZ
 have HB:=ae.mk (Below.refl w.heap.size w)
 have H:((fG.f dC).bind fun FP=>(bn.l0 k FP.2 (([FP.1]:List ByteArray)) 0 dC aU aV fD fK))=some r:=h
 clear h
 replace H:=Option.bind_eq_some_iff.mp H
 obtain ⟨⟨t127,t128⟩,Qy,H⟩:=H
 replace H:(bn.l0 k t128 (([t127]:List ByteArray)) 0 dC aU aV fD fK)=some r:=H
 have A2:=ae.mk Qy
 clear Qy
 obtain ⟨aap,EW⟩:∃ y_:List ByteArray,y_=(([t127]:List ByteArray)):=⟨_,rfl⟩
 replace H:(bn.l0 k t128 aap 0 dC aU aV fD fK)=some r:=by first|(rw [EW];with_reducible exact H)|(have tJ:=(Option.bind_some _ _).symm.trans H;rw [EW];with_reducible exact tJ)|(have tJ:=(Option.bind_some _ _).symm.trans H;with_reducible exact tJ)|with_reducible exact H|(rw [EW];exact H)|exact H
 have XP:=ae.mk EW
 clear EW
 have H':=ae.mk H
 clear H
 go_enter Tryd.func47,Tryd.ntmps47
 go_wp2_with (first|((with_reducible refine dL (N:=1) rfl ?_);refine fF ?hg (N:=1) ?hd (cs:=#[.int .u8 dC,.int .u8 aU,.int .u8 aV,.int .u8 fD,.int .i64 fK]) (t:=55) ?hr ?_;(case hd=>rfl);(case hg=>rfl);(case hr=>first|(go_simp;done)|(go_simp;rfl));intro uo hg w3 hbox hb;have dV:=ae.mk (bg (by repeat (first|(with_reducible first|exact HB.out|apply ah|apply af|apply ai)|exact HB.out)) hb);have dU:=ae.mk (hbox);have dR:=ae.mk ((by rw [hg];exact (bW (by repeat (first|(with_reducible first|exact HB.out|apply ah|apply af|apply ai)|exact HB.out))):w.heap.size≤uo));have gQ:=dR;clear HB;have HB:=dV;have je:=dU;have an2:=dR;have xy:=gQ;clear dV dU dR gQ;clear hb hbox hg;obtain ⟨O8,O7,O6,O5,Y5,OX,OW,OV,OU,Y1⟩:=jT je.out)|((with_reducible refine bu (f:=45) rfl ?_);refine dS (some 10) rfl rfl Tryd.func45 (by kernel_rfl) rfl #[.int .u8 dC] rfl (by (try simp only [List.map_toArray,List.map_cons,List.map_nil]);first|done|rfl|(simp only [List.length_drop,List.length_take];rfl)) ?_;(with_reducible refine (fG.calls dC t127 t128 _ A2.out).mono ?_);rintro e w' ⟨rfl,⟨nd,rfl⟩⟩;refine ⟨_,rfl,?_⟩)|((with_reducible refine dL (N:=14) rfl ?_);refine Kd.uC Kd.string _ 9 ?hg (N:=14) ?hd (xs:=([t127]:List ByteArray)) (inner:=[.string t127]) (ok:=fun _=>True) (pM:=fun _=>True) ?hr ?hp (fun _ hk=>hk) trivial (Below.refl _ _) (Nat.le_refl _) (by simp) ?_;(case hd=>rfl);(case hg=>rfl);(case hr=>first|(go_simp;done)|(go_simp;rfl));(case hp=>exact (jk.one (show Kd.M Kd.string _ _ _ t127 [.string t127] from rfl) (jk.none _ _)));intro v130 w5 ho6 hb Bj nP;clear Bj nP;(first|rw [← XP.out] at ho6|(simp only [Int.reduceToNat] at ho6;rw [← XP.out] at ho6));have dV:=ae.mk (Kd.jh ho6 (bW (by repeat (first|(with_reducible first|exact HB.out|apply ah|apply af|apply ai|refine aj ?_ xy.out)|exact HB.out))));have dU:=ae.mk (bf (g:=uo) (o:=.cells #[.int .u8 dC,.int .u8 aU,.int .u8 aV,.int .u8 fD,.int .i64 fK] 55 (0,0)) (by (with_reducible repeat (first|refine au ?_ _|refine ay ?_|refine ak ?_ _));exact je.out) hb);have dR:=ae.mk (bg (by repeat (first|(with_reducible first|exact HB.out|apply ah|apply af|apply ai|refine aj ?_ xy.out)|exact HB.out)) hb);clear je;clear HB;have adA:=dV;have je:=dU;have HB:=dR;clear dV dU dR;clear hb ho6))
 go_loopg [5,6] k (fun kq v5 v6 w'=>∃ (jd:List ByteArray) (uf:Int),v6=.int .i64 uf∧ae (bn.l0 kq t128 jd uf dC aU aV fD fK=some r)∧ae (kq≤k)∧ae (Kd.R Kd.string 9 w' w.heap.size (fun _=>True) v5 jd)∧ae (w'.heap[uo]? = some (.cells #[.int .u8 dC,.int .u8 aU,.int .u8 aV,.int .u8 fD,.int .i64 fK] 55 (0,0)))∧ae (Below w.heap.size w w'))
 case atStart=>exact ⟨(aap),(0),(by first|rfl|(simp;done)|(simp [*];done)),H',⟨Nat.le_refl _⟩,⟨by (with_reducible repeat (first|apply Kd.iy|apply Kd.iw|apply Kd.jc));exact adA.out⟩,⟨by (with_reducible repeat (first|refine au ?_ _|refine ay ?_|refine ak ?_ _));exact je.out⟩,⟨by repeat (first|(with_reducible first|exact HB.out|apply ah|apply af|apply ai|refine aj ?_ xy.out)|exact HB.out)⟩⟩
 case round =>
  clear H'
  obtain ⟨jd,uf,rfl,HA,rW,xx,je,HB⟩:=hrel
  cases gk with
  | zero=>exact absurd HA.out (by simp [bn.l0])
  | succ k1 =>
   have H:=HA.out
   clear HA
   simp only [bn.l0] at H
   by_cases c7:uf < (t128.size:Int)
   ·
    rw [if_pos c7] at H
    have nV:decide (uf < (t128.size:Int))=true:=decide_eq_true c7
    clear c7
    by_cases c8:0≤uf
    ·
     rw [if_pos c8] at H
     have oU:decide (0≤uf)=true:=decide_eq_true c8
     clear c8
     replace H:=Option.bind_eq_some_iff.mp H
     obtain ⟨t132,BF,H⟩:=H
     replace H:((jb.f t132 10).bind fun t133=>(if jd.length < 8796093022208 then (bn.l0 k1 t128 (jd++[t133]) (wrap64 (uf+1)) dC aU aV fD fK) else (none)))=some r:=H
     have X6:=ae.mk BF
     clear BF
     replace H:=Option.bind_eq_some_iff.mp H
     obtain ⟨t133,aeq,H⟩:=H
     replace H:(if jd.length < 8796093022208 then (bn.l0 k1 t128 (jd++[t133]) (wrap64 (uf+1)) dC aU aV fD fK) else (none))=some r:=H
     have A11:=ae.mk aeq
     clear aeq
     by_cases c12:jd.length < 8796093022208
     ·
      rw [if_pos c12] at H
      have adw:=ae.mk c12
      clear c12
      obtain ⟨aao,ET⟩:∃ y_:List ByteArray,y_=(jd++[t133]):=⟨_,rfl⟩
      replace H:(bn.l0 k1 t128 aao (wrap64 (uf+1)) dC aU aV fD fK)=some r:=by first|(rw [ET];with_reducible exact H)|(have tJ:=(Option.bind_some _ _).symm.trans H;rw [ET];with_reducible exact tJ)|(have tJ:=(Option.bind_some _ _).symm.trans H;with_reducible exact tJ)|with_reducible exact H|(rw [ET];exact H)|exact H
      have adv:=ae.mk ET
      clear ET
      have H':=ae.mk H
      clear H
      try go_wp2
      have dV:=ae.mk (Kd.jc xx.out)
      have dU:=ae.mk (ay je.out)
      have dR:=ae.mk (ai HB.out)
      clear xx
      clear je
      clear HB
      have xx:=dV
      have je:=dU
      have HB:=dR
      clear dV dU dR
      have p9:0≤(uf:Int):=of_decide_eq_true (by first|(with_reducible assumption)|assumption)
      have q9:uf < (t128.size:Int):=of_decide_eq_true (by first|(with_reducible assumption)|assumption)
      have hx9:=kL t128 uf
      replace p9:=eq_true p9
      replace q9:=eq_true q9
      refine o5 (n:=10) (S:=fun w'=>w'.cell? ⟨uo,0,none⟩=some (.int .u8 dC)∧w'.cell? ⟨uo,1,none⟩=some (.int .u8 aU)∧w'.cell? ⟨uo,2,none⟩=some (.int .u8 aV)∧w'.cell? ⟨uo,3,none⟩=some (.int .u8 fD)∧w'.cell? ⟨uo,4,none⟩=some (.int .i64 fK)) (ds:=[]) #[false,false,false,false,false,false,false,false,false,false] (by kernel_rfl) rfl rfl ⟨(ax je.out 0).trans rfl,(ax je.out 1).trans rfl,(ax je.out 2).trans rfl,(ax je.out 3).trans rfl,(ax je.out 4).trans rfl⟩ (fun hHeld=>?_);refine qB bn.tab6 bn.adg (fun lh BA=>?_)
      generalize wr.drew=Yb at xx je HB hHeld ⊢
      refine dX (i:=0) (N:=some 21) (v:=?_) (a':=?_) #[true,false,false,false,false,false,false,false,false,false] rfl rfl (iF lh.out (by kernel_rfl)) (fun _ _ _ h=>h) (Or.inl ⟨by rfl,?_⟩) ?_ ?_
      rotate_left
      ·
       intro w'
       go_simp
       with_reducible rfl
      rotate_left
      ·
       simp only [Act.put,List.setIfInBounds_toArray,List.set_cons_zero,List.set_cons_succ,bG,bJ]
       rfl
      refine dX (i:=2) (N:=some 23) (v:=?_) (a':=?_) #[true,false,true,false,false,false,false,false,false,false] rfl rfl (iF lh.out (by kernel_rfl)) (fun _ _ _ h=>h) (Or.inl ⟨by rfl,?_⟩) ?_ ?_
      rotate_left
      ·
       intro w'
       go_simp
       with_reducible rfl
      rotate_left
      ·
       simp only [Act.put,List.setIfInBounds_toArray,List.set_cons_zero,List.set_cons_succ,bG,bJ]
       rfl
      refine dX (i:=3) (N:=some 24) (v:=?_) (a':=?_) #[true,false,true,true,false,false,false,false,false,false] rfl rfl (iF lh.out (by kernel_rfl)) (fun _ _ _ h=>h) (Or.inl ⟨by rfl,?_⟩) ?_ ?_
      rotate_left
      ·
       intro w'
       go_simp
       with_reducible rfl
      rotate_left
      ·
       simp only [Act.put,List.setIfInBounds_toArray,List.set_cons_zero,List.set_cons_succ,bG,bJ]
       rfl
      refine jg (i:=1) (N:=some 22) (v:=?_) (a':=?_) #[true,true,true,true,false,false,false,false,false,false] rfl rfl (kJ lh.out BA.out (by kernel_rfl)) (fun _ _ _ h=>h) (Or.inl ⟨by rfl,?_⟩) hHeld ?_ ?_
      rotate_left
      ·
       rintro w' ⟨s0,s1,s2,s3,s4⟩
       go_simp
       with_reducible rfl
      rotate_left
      ·
       simp only [Act.put,List.setIfInBounds_toArray,List.set_cons_zero,List.set_cons_succ,bG,bJ]
       rfl
      refine jg (i:=4) (N:=some 25) (v:=?_) (a':=?_) #[true,true,true,true,true,false,false,false,false,false] rfl rfl (kJ lh.out BA.out (by kernel_rfl)) (fun _ _ _ h=>h) (Or.inl ⟨by rfl,?_⟩) hHeld ?_ ?_
      rotate_left
      ·
       rintro w' ⟨s0,s1,s2,s3,s4⟩
       go_simp
       with_reducible rfl
      rotate_left
      ·
       simp only [Act.put,List.setIfInBounds_toArray,List.set_cons_zero,List.set_cons_succ,bG,bJ]
       rfl
      refine o6 (i:=5) (N:=some 26) #[true,true,true,true,true,true,false,false,false,false] rfl rfl (mY lh.out (by kernel_rfl)) (by decide) (fun K hK=>?_)
      refine oI Tryd.func67 (by kernel_rfl) rfl #[.agg #[.int .u8 dC,.int .u8 aU,.int .u8 aV,.int .u8 fD,.int .i64 fK],.int .u8 (bt t128 uf)] (by rfl) rfl rfl (by (try simp only [List.map_toArray,List.map_cons,List.map_nil]);first|done|rfl|(simp only [List.length_drop,List.length_take];rfl)) ?_
      with_reducible refine (jB.calls dC aU aV fD fK (bt t128 uf) t132 _ X6.out).mono ?_
      rintro e w14 ⟨rfl,hb⟩
      refine ⟨_,rfl,?_⟩
      have dV:=ae.mk (Kd.ja (by (with_reducible repeat (first|apply Kd.iy|apply Kd.iw|apply Kd.jc));exact xx.out) hb)
      have dU:=ae.mk (bf (g:=uo) (o:=.cells #[.int .u8 dC,.int .u8 aU,.int .u8 aV,.int .u8 fD,.int .i64 fK] 55 (0,0)) (by (with_reducible repeat (first|refine au ?_ _|refine ay ?_|refine ak ?_ _));exact je.out) hb)
      have dR:=ae.mk (bg (by repeat (first|(with_reducible first|exact HB.out|apply ah|apply af|apply ai|refine aj ?_ xy.out)|exact HB.out)) hb)
      clear xx
      clear je
      clear HB
      have xx:=dV
      have je:=dU
      have HB:=dR
      clear dV dU dR
      (try clear hb)
      (try clear hb2)
      (try clear hk)
      (try clear hi)
      refine hK.out _ _ ⟨(ax je.out 0).trans rfl,(ax je.out 1).trans rfl,(ax je.out 2).trans rfl,(ax je.out 3).trans rfl,(ax je.out 4).trans rfl⟩ (fun hHeld=>?_)
      clear hK K
      refine jm (a':=?_) ?_ ?_
      rotate_left
      ·
       show Act.put _ (some 26) _=_
       simp only [Act.put,List.setIfInBounds_toArray,List.set_cons_zero,List.set_cons_succ,bG,bJ]
       rfl
      refine o6 (i:=6) (N:=some 27) #[true,true,true,true,true,true,true,false,false,false] rfl rfl (mY lh.out (by kernel_rfl)) (by decide) (fun K hK=>?_)
      refine oI Tryd.func66 (by kernel_rfl) rfl #[.int .i64 t132,.int .i64 10] (by rfl) rfl rfl (by (try simp only [List.map_toArray,List.map_cons,List.map_nil]);first|done|rfl|(simp only [List.length_drop,List.length_take];rfl)) ?_
      with_reducible refine (jb.calls t132 10 t133 _ ?cu A11.out).mono ?_
      (case cu=>repeat (first|exact (Kd.bK wJ.out HB.out)|(with_reducible refine Kd.bT ?_ _)|(with_reducible refine Kd.bQ ?_ _)|(with_reducible refine Kd.dD ?_)))
      rintro e w15 ⟨rfl,hb⟩
      refine ⟨_,rfl,?_⟩
      have dV:=ae.mk (Kd.ja (by (with_reducible repeat (first|apply Kd.iy|apply Kd.iw|apply Kd.jc));exact xx.out) hb)
      have dU:=ae.mk (bf (g:=uo) (o:=.cells #[.int .u8 dC,.int .u8 aU,.int .u8 aV,.int .u8 fD,.int .i64 fK] 55 (0,0)) (by (with_reducible repeat (first|refine au ?_ _|refine ay ?_|refine ak ?_ _));exact je.out) hb)
      have dR:=ae.mk (bg (by repeat (first|(with_reducible first|exact HB.out|apply ah|apply af|apply ai|refine aj ?_ xy.out)|exact HB.out)) hb)
      clear xx
      clear je
      clear HB
      have xx:=dV
      have je:=dU
      have HB:=dR
      clear dV dU dR
      (try clear hb)
      (try clear hb2)
      (try clear hk)
      (try clear hi)
      refine hK.out _ _ ⟨(ax je.out 0).trans rfl,(ax je.out 1).trans rfl,(ax je.out 2).trans rfl,(ax je.out 3).trans rfl,(ax je.out 4).trans rfl⟩ (fun hHeld=>?_)
      clear hK K
      refine jm (a':=?_) ?_ ?_
      rotate_left
      ·
       show Act.put _ (some 27) _=_
       simp only [Act.put,List.setIfInBounds_toArray,List.set_cons_zero,List.set_cons_succ,bG,bJ]
       rfl
      refine o6 (i:=7) (N:=some 28) #[true,true,true,true,true,true,true,true,false,false] rfl rfl (mY lh.out (by kernel_rfl)) (by decide) (fun K hK=>?_)
      refine zF (w1:=?_) (v:=?_) (by rfl) rfl ?_ ?_
      rotate_left 2
      ·
       go_simp
       constructor
       ·
        rfl
       ·
        rfl
      refine hK.out _ _ ⟨(ax (ak je.out _) 0).trans rfl,(ax (ak je.out _) 1).trans rfl,(ax (ak je.out _) 2).trans rfl,(ax (ak je.out _) 3).trans rfl,(ax (ak je.out _) 4).trans rfl⟩ (fun hHeld=>?_)
      clear hK K
      refine jm (a':=?_) ?_ ?_
      rotate_left
      ·
       show Act.put _ (some 28) _=_
       simp only [Act.put,List.setIfInBounds_toArray,List.set_cons_zero,List.set_cons_succ,bG,bJ]
       rfl
      refine o6 (i:=8) (N:=some 29) #[true,true,true,true,true,true,true,true,true,false] rfl rfl (mY lh.out (by kernel_rfl)) (by decide) (fun K hK=>?_)
      refine Kd.ru Kd.string (w0:=w) w.heap.size (by rfl) (.tmp 21) (.tmp 28) 22 9 (.string ⟨#[]⟩) 16 rfl Tryd.underlying22 info9 rfl (by decide) (by omega) u5 jd t133 [.string t133] (fun _=>True) (fun _=>False) rfl rfl ?aP (fun _ hk=>hk.elim) ?aF ?aO ?aB ?aS ?aL ?_
      (case aP=>exact rfl)
      (case aB=>exact (by repeat (first|(with_reducible first|exact HB.out|apply ah|apply af|apply ai|refine aj ?_ xy.out)|exact HB.out)))
      (case aF=>exact (fun _ _=>trivial))
      (case aO=>exact (by (with_reducible repeat (first|apply Kd.iy|apply Kd.iw|apply Kd.jc));exact xx.out))
      (case aS=>exact (bW (by repeat (first|(with_reducible first|exact HB.out|apply ah|apply af|apply ai|refine aj ?_ xy.out)|exact HB.out))))
      (case aL=>have:=adw.out;omega)
      intro aow w16 ho hb hg hat
      rw [← adv.out] at ho
      have dV:=ae.mk (CG (g:=uo) (o:=.cells #[.int .u8 dC,.int .u8 aU,.int .u8 aV,.int .u8 fD,.int .i64 fK] 55 (0,0)) (by (with_reducible repeat (first|refine au ?_ _|refine ay ?_|refine ak ?_ _));exact je.out) hg (Kd.adt xx.out je.out (by decide)))
      have dU:=ae.mk (hb)
      have dR:=ae.mk (ho)
      clear je
      clear HB
      clear xx
      have je:=dV
      have HB:=dU
      have adz:=dR
      clear dV dU dR
      clear ho hb hg hat
      refine hK.out _ _ ⟨(ax je.out 0).trans rfl,(ax je.out 1).trans rfl,(ax je.out 2).trans rfl,(ax je.out 3).trans rfl,(ax je.out 4).trans rfl⟩ (fun hHeld=>?_)
      clear hK K
      refine jm (a':=?_) ?_ ?_
      rotate_left
      ·
       show Act.put _ (some 29) _=_
       simp only [Act.put,List.setIfInBounds_toArray,List.set_cons_zero,List.set_cons_succ,bG,bJ]
       rfl
      refine dX (i:=9) (N:=some 5) (v:=?_) (a':=?_) #[true,true,true,true,true,true,true,true,true,true] rfl rfl (iF lh.out (by kernel_rfl)) (fun _ _ _ h=>h) (Or.inl ⟨by rfl,?_⟩) ?_ ?_
      rotate_left
      ·
       intro w'
       go_simp
       with_reducible rfl
      rotate_left
      ·
       simp only [Act.put,List.setIfInBounds_toArray,List.set_cons_zero,List.set_cons_succ,bG,bJ]
       rfl
      refine rH (vz lh.out (by kernel_rfl)) ?_
      try go_wp2
      go_roundg k1
      case measure=>have:=rW.out;omega
      case rel=>exact ⟨(aao),(wrap64 (uf+1)),(by first|rfl|(simp;done)|(simp [*];done)),H',⟨by have:=rW.out;omega⟩,⟨by (with_reducible repeat (first|apply Kd.iy|apply Kd.iw|apply Kd.jc));exact adz.out⟩,⟨by (with_reducible repeat (first|refine au ?_ _|refine ay ?_|refine ak ?_ _));exact je.out⟩,⟨by repeat (first|(with_reducible first|exact HB.out|apply ah|apply af|apply ai|refine aj ?_ xy.out)|exact HB.out)⟩⟩
     ·
      rw [if_neg c12] at H
      exact absurd H (by simp)
    ·
     rw [if_neg c8] at H
     exact absurd H (by simp)
   ·
    rw [if_neg c7] at H
    have nV:decide (uf < (t128.size:Int))=false:=decide_eq_false c7
    clear c7
    obtain rfl:=Option.some.inj H
    go_wp2
    go_ret
    exact ⟨_,by first|rfl|(simp [aQ,aN] <;> rfl)|(simp [*,aQ,aN] <;> rfl),by (with_reducible repeat (first|apply Kd.iy|apply Kd.iw|apply Kd.jc));exact xx.out,by repeat (first|(with_reducible first|exact HB.out|apply ah|apply af|apply ai|refine aj ?_ xy.out)|exact HB.out)⟩
def dY.f (k:Nat) (dC:Int) (aU:Int) (aV:Int) (fD:Int) (fK:Int):Option (Bool):=(fG.f dC).bind fun Qd=>(if Qd.1.toList=([]:List UInt8) then (some false) else ((bn.f k dC aU aV fD fK).bind fun t140=>((aJ.f k t140).bind fun kE=>(if kE.2.2.2.2.2=true then (some (kE.1 == dC && (kE.2.1 == aU && (kE.2.2.1 == aV && (kE.2.2.2.1 == fD && (kE.2.2.2.2.1 == fK)))))) else (some false)))))
theorem dY.mono:∀ a0 a1 a2 a3 a4 k,dN (dY.f k a0 a1 a2 a3 a4) (dY.f (k+1) a0 a1 a2 a3 a4):=by
 intro a0 a1 a2 a3 a4 k
 unfold dY.f
 repeat' with_reducible first|apply bn.mono|apply aJ.mono|exact dN.refl _|exact dN.none _|refine dN.ite ?_ ?_|refine dN.bind ?_ (fun _=>?_)
set_option maxHeartbeats 8000000 in
set_option maxRecDepth 100000 in
theorem dY.calls (k:Nat) (dC:Int) (aU:Int) (aV:Int) (fD:Int) (fK:Int) (r:Bool) (w:World) (kZ:Kd.C xY w xZ pK.length pK) (h:dY.f k dC aU aV fD fK=some r) :
  Calls Tryd.prog 28 #[.agg #[.int .u8 dC,.int .u8 aU,.int .u8 aV,.int .u8 fD,.int .i64 fK]] w fun e w'=>e=.returned (.bool r)∧Below w.heap.size w w':=by
 have Bi:=Tryd.underlying55
 have wJ:=ae.mk kZ
 clear kZ
 have HB:=ae.mk (Below.refl w.heap.size w)
 have H:((fG.f dC).bind fun Qd=>(if Qd.1.toList=([]:List UInt8) then (some false) else ((bn.f k dC aU aV fD fK).bind fun t140=>((aJ.f k t140).bind fun kE=>(if kE.2.2.2.2.2=true then (some (kE.1 == dC && (kE.2.1 == aU && (kE.2.2.1 == aV && (kE.2.2.2.1 == fD && (kE.2.2.2.2.1 == fK)))))) else (some false))))))=some r:=h
 clear h
 replace H:=Option.bind_eq_some_iff.mp H
 obtain ⟨⟨t138,t139⟩,Qy,H⟩:=H
 replace H:(if t138.toList=([]:List UInt8) then (some false) else ((bn.f k dC aU aV fD fK).bind fun t140=>((aJ.f k t140).bind fun kE=>(if kE.2.2.2.2.2=true then (some (kE.1 == dC && (kE.2.1 == aU && (kE.2.2.1 == aV && (kE.2.2.2.1 == fD && (kE.2.2.2.2.1 == fK)))))) else (some false)))))=some r:=H
 have A2:=ae.mk Qy
 clear Qy
 by_cases c3:t138.toList=([]:List UInt8)
 ·
  rw [if_pos c3] at H
  have nN:(t138.toList == ([]:List UInt8))=true:=beq_iff_eq.mpr c3
  have yI:(t138.toList != ([]:List UInt8))=false:=bne_eq_false_iff_eq.mpr c3
  clear c3
  obtain rfl:=Option.some.inj H
  go_enter Tryd.func28,Tryd.ntmps28
  go_wp2_with (first|((with_reducible refine dL (N:=1) rfl ?_);refine fF ?hg (N:=1) ?hd (cs:=#[.int .u8 dC,.int .u8 aU,.int .u8 aV,.int .u8 fD,.int .i64 fK]) (t:=55) ?hr ?_;(case hd=>rfl);(case hg=>rfl);(case hr=>first|(go_simp;done)|(go_simp;rfl));intro lK hg w4 hbox hb;have dV:=ae.mk (bg (by repeat (first|(with_reducible first|exact HB.out|apply ah|apply af|apply ai)|exact HB.out)) hb);have dU:=ae.mk (hbox);have dR:=ae.mk ((by rw [hg];exact (bW (by repeat (first|(with_reducible first|exact HB.out|apply ah|apply af|apply ai)|exact HB.out))):w.heap.size≤lK));have gQ:=dR;clear HB;have HB:=dV;have jv:=dU;have X0:=dR;have pX:=gQ;clear dV dU dR gQ;clear hb hbox hg;obtain ⟨Aj,Ai,Ah,Ag,Y4,Af,Ae,Ad,Ac,Y0⟩:=jT jv.out)|((with_reducible refine bu (f:=45) rfl ?_);refine dS (some 10) rfl rfl Tryd.func45 (by kernel_rfl) rfl #[.int .u8 dC] rfl (by (try simp only [List.map_toArray,List.map_cons,List.map_nil]);first|done|rfl|(simp only [List.length_drop,List.length_take];rfl)) ?_;(with_reducible refine (fG.calls dC t138 t139 _ A2.out).mono ?_);rintro e w' ⟨rfl,⟨nd,rfl⟩⟩;refine ⟨_,rfl,?_⟩))
  go_ret
  exact ⟨by first|rfl|(simp [aQ,aN] <;> rfl)|(simp [*,aQ,aN] <;> rfl),by repeat (first|(with_reducible first|exact HB.out|apply ah|apply af|apply ai|refine aj ?_ pX.out)|exact HB.out)⟩
 ·
  rw [if_neg c3] at H
  have nN:(t138.toList == ([]:List UInt8))=false:=beq_eq_false_iff_ne.mpr c3
  have yI:(t138.toList != ([]:List UInt8))=true:=bne_iff_ne.mpr c3
  replace H:=Option.bind_eq_some_iff.mp H
  obtain ⟨t140,Lp,H⟩:=H
  replace H:((aJ.f k t140).bind fun kE=>(if kE.2.2.2.2.2=true then (some (kE.1 == dC && (kE.2.1 == aU && (kE.2.2.1 == aV && (kE.2.2.2.1 == fD && (kE.2.2.2.2.1 == fK)))))) else (some false)))=some r:=H
  have A6:=ae.mk Lp
  clear Lp
  replace H:=Option.bind_eq_some_iff.mp H
  obtain ⟨⟨t143,t144,t145,t146,t147,t148⟩,Z7,H⟩:=H
  replace H:(if t148=true then (some (t143 == dC && (t144 == aU && (t145 == aV && (t146 == fD && (t147 == fK)))))) else (some false))=some r:=H
  have A7:=ae.mk Z7
  clear Z7
  by_cases c8:t148=true
  ·
   subst c8
   have H1:(some (t143 == dC && (t144 == aU && (t145 == aV && (t146 == fD && (t147 == fK))))))=some r:=by rw [if_pos rfl] at H;exact H
   clear H
   have H:=H1
   clear H1
   obtain rfl:=Option.some.inj H
   go_enter Tryd.func28,Tryd.ntmps28
   go_wp2_with (first|((with_reducible refine dL (N:=1) rfl ?_);refine fF ?hg (N:=1) ?hd (cs:=#[.int .u8 dC,.int .u8 aU,.int .u8 aV,.int .u8 fD,.int .i64 fK]) (t:=55) ?hr ?_;(case hd=>rfl);(case hg=>rfl);(case hr=>first|(go_simp;done)|(go_simp;rfl));intro lK hg w9 hbox hb;have dV:=ae.mk (bg (by repeat (first|(with_reducible first|exact HB.out|apply ah|apply af|apply ai)|exact HB.out)) hb);have dU:=ae.mk (hbox);have dR:=ae.mk ((by rw [hg];exact (bW (by repeat (first|(with_reducible first|exact HB.out|apply ah|apply af|apply ai)|exact HB.out))):w.heap.size≤lK));have gQ:=dR;clear HB;have HB:=dV;have jv:=dU;have X0:=dR;have pX:=gQ;clear dV dU dR gQ;clear hb hbox hg;obtain ⟨xe,wZ,wY,wX,VY,wW,wV,wU,wS,Uw⟩:=jT jv.out)|((with_reducible refine bu (f:=45) rfl ?_);refine dS (some 10) rfl rfl Tryd.func45 (by kernel_rfl) rfl #[.int .u8 dC] rfl (by (try simp only [List.map_toArray,List.map_cons,List.map_nil]);first|done|rfl|(simp only [List.length_drop,List.length_take];rfl)) ?_;(with_reducible refine (fG.calls dC t138 t139 _ A2.out).mono ?_);rintro e w' ⟨rfl,⟨nd,rfl⟩⟩;refine ⟨_,rfl,?_⟩;(try (rw [qN w9];generalize Bd:World.drewN w9 _=w9;have dV:ae (w9.heap[lK]? = some (.cells #[.int .u8 dC,.int .u8 aU,.int .u8 aV,.int .u8 fD,.int .i64 fK] 55 (0,0))):=⟨by rw [← Bd];exact (by (with_reducible repeat (first|refine au ?_ _|refine ay ?_|refine ak ?_ _));exact jv.out)⟩;have dU:ae (Below w.heap.size w w9):=⟨by rw [← Bd];exact (by repeat (first|(with_reducible first|exact HB.out|apply ah|apply af|apply ai|refine aj ?_ pX.out)|exact HB.out))⟩;clear jv HB Bd;have jv:=dV;have HB:=dU;clear dV dU;have Pj:w9.cell? ⟨lK,0,none⟩=some (.int .u8 dC):=(ax jv.out 0).trans rfl;have Ph:w9.cell? ⟨lK,1,none⟩=some (.int .u8 aU):=(ax jv.out 1).trans rfl;have Pg:w9.cell? ⟨lK,2,none⟩=some (.int .u8 aV):=(ax jv.out 2).trans rfl;have Pe:w9.cell? ⟨lK,3,none⟩=some (.int .u8 fD):=(ax jv.out 3).trans rfl;have O9:w9.cell? ⟨lK,4,none⟩=some (.int .i64 fK):=(ax jv.out 4).trans rfl)))|((with_reducible refine bu (f:=47) rfl ?_);refine dS (some 17) rfl rfl Tryd.func47 (by kernel_rfl) rfl #[.agg #[.int .u8 dC,.int .u8 aU,.int .u8 aV,.int .u8 fD,.int .i64 fK]] rfl (by (try simp only [List.map_toArray,List.map_cons,List.map_nil]);first|done|rfl|(simp only [List.length_drop,List.length_take];rfl)) ?_;(with_reducible refine (bn.calls k dC aU aV fD fK t140 _ ?cu A6.out).mono ?_);(case cu=>repeat (first|exact (Kd.bK wJ.out HB.out)|(with_reducible refine Kd.bT ?_ _)|(with_reducible refine Kd.bQ ?_ _)|(with_reducible refine Kd.dD ?_)));rintro e w11 ⟨v141,rfl,ho0,hb⟩;refine ⟨_,rfl,?_⟩;have dV:=ae.mk (Kd.jh ho0 (bW (by repeat (first|(with_reducible first|exact HB.out|apply ah|apply af|apply ai|refine aj ?_ pX.out)|exact HB.out))));have dU:=ae.mk (bf (g:=lK) (o:=.cells #[.int .u8 dC,.int .u8 aU,.int .u8 aV,.int .u8 fD,.int .i64 fK] 55 (0,0)) (by (with_reducible repeat (first|refine au ?_ _|refine ay ?_|refine ak ?_ _));exact jv.out) hb);have dR:=ae.mk (bg (by repeat (first|(with_reducible first|exact HB.out|apply ah|apply af|apply ai|refine aj ?_ pX.out)|exact HB.out)) hb);clear jv;clear HB;have kV:=dV;have jv:=dU;have HB:=dR;clear dV dU dR;(try clear hb);(try clear hb2);(try clear hk);(try clear hi);(try clear ho0);obtain ⟨alI,alo,ak8⟩:=Kd.jr kV.out;subst ak8)|((with_reducible refine bu (f:=46) rfl ?_);refine dS (some 18) rfl rfl Tryd.func46 (by kernel_rfl) rfl #[.slice alI t140.length alo] rfl (by (try simp only [List.map_toArray,List.map_cons,List.map_nil]);first|done|rfl|(simp only [List.length_drop,List.length_take];rfl)) ?_;(with_reducible refine (aJ.calls k _ _ t140 t143 t144 t145 t146 t147 true _ ?cu ?dw A7.out).mono ?_);(case cu=>repeat (first|exact (Kd.eG kV.out).2.2|(with_reducible refine Kd.bT ?_ _)|(with_reducible refine Kd.bQ ?_ _)|(with_reducible refine Kd.dD ?_)));(case dw=>exact (Kd.eG kV.out).2.1);rintro e Yb ⟨rfl,hb⟩;refine ⟨_,rfl,?_⟩;have dV:=ae.mk (Kd.ja (by (with_reducible repeat (first|apply Kd.iy|apply Kd.iw|apply Kd.jc));exact kV.out) hb);have dU:=ae.mk (bf (g:=lK) (o:=.cells #[.int .u8 dC,.int .u8 aU,.int .u8 aV,.int .u8 fD,.int .i64 fK] 55 (0,0)) (by (with_reducible repeat (first|refine au ?_ _|refine ay ?_|refine ak ?_ _));exact jv.out) hb);have dR:=ae.mk (bg (by repeat (first|(with_reducible first|exact HB.out|apply ah|apply af|apply ai|refine aj ?_ pX.out)|exact HB.out)) hb);clear kV;clear jv;clear HB;have kV:=dV;have jv:=dU;have HB:=dR;clear dV dU dR;(try clear hb);(try clear hb2);(try clear hk);(try clear hi))|((with_reducible refine dL (N:=5) rfl ?_);refine fF ?hg (N:=5) ?hd (cs:=#[.int .u8 0,.int .u8 0,.int .u8 0,.int .u8 0,.int .i64 0]) (t:=55) ?hr ?_;(case hd=>rfl);(case hg=>rfl);(case hr=>first|(go_simp;done)|(go_simp;rfl));intro Fb hg w14 hbox hb;have dV:=ae.mk (Kd.ja (by (with_reducible repeat (first|apply Kd.iy|apply Kd.iw|apply Kd.jc));exact kV.out) hb);have dU:=ae.mk (bf (g:=lK) (o:=.cells #[.int .u8 dC,.int .u8 aU,.int .u8 aV,.int .u8 fD,.int .i64 fK] 55 (0,0)) (by (with_reducible repeat (first|refine au ?_ _|refine ay ?_|refine ak ?_ _));exact jv.out) hb);have dR:=ae.mk (bg (by repeat (first|(with_reducible first|exact HB.out|apply ah|apply af|apply ai|refine aj ?_ pX.out)|exact HB.out)) hb);have gQ:=ae.mk (hbox);have lQ:=ae.mk ((by rw [hg];exact (bW (by repeat (first|(with_reducible first|exact HB.out|apply ah|apply af|apply ai|refine aj ?_ pX.out)|exact HB.out))):w.heap.size≤Fb));have mr:=lQ;have nJ:=ae.mk ((by rw [hg];exact Nat.ne_of_lt (kC (g:=lK) (o:=.cells #[.int .u8 dC,.int .u8 aU,.int .u8 aV,.int .u8 fD,.int .i64 fK] 55 (0,0)) (by (with_reducible repeat (first|refine au ?_ _|refine ay ?_|refine ak ?_ _));exact jv.out)):lK ≠ Fb));have vS:=ae.mk nJ.out.symm;clear kV;clear jv;clear HB;have kV:=dV;have jv:=dU;have HB:=dR;have Qw:=gQ;have adH:=lQ;have Qu:=mr;have xW:=nJ;have xU:=vS;clear dV dU dR gQ lQ mr nJ vS;clear hb hbox hg;have abb:=xU.out;have aa1:=xW.out;obtain ⟨DU,DT,DR,DN,KF,DD,DC,Dz,Dy,JJ⟩:=jT Qw.out;obtain ⟨KE,KD,KC,KA,VN,JI,JH,JG,JF,Ui⟩:=jT jv.out))
   go_ret
   exact ⟨by first|rfl|(simp [aQ,aN] <;> rfl)|(simp [*,aQ,aN] <;> rfl),by repeat (first|(with_reducible first|exact HB.out|apply ah|apply af|apply ai|refine aj ?_ pX.out|refine aj ?_ Qu.out)|exact HB.out)⟩
  ·
   replace c8:=Bool.eq_false_iff.mpr c8
   subst c8
   have H1:(some false)=some r:=by rw [if_neg (show ¬ (false=true) by decide)] at H;exact H
   clear H
   have H:=H1
   clear H1
   obtain rfl:=Option.some.inj H
   go_enter Tryd.func28,Tryd.ntmps28
   go_wp2_with (first|((with_reducible refine dL (N:=1) rfl ?_);refine fF ?hg (N:=1) ?hd (cs:=#[.int .u8 dC,.int .u8 aU,.int .u8 aV,.int .u8 fD,.int .i64 fK]) (t:=55) ?hr ?_;(case hd=>rfl);(case hg=>rfl);(case hr=>first|(go_simp;done)|(go_simp;rfl));intro lK hg QD hbox hb;have dV:=ae.mk (bg (by repeat (first|(with_reducible first|exact HB.out|apply ah|apply af|apply ai)|exact HB.out)) hb);have dU:=ae.mk (hbox);have dR:=ae.mk ((by rw [hg];exact (bW (by repeat (first|(with_reducible first|exact HB.out|apply ah|apply af|apply ai)|exact HB.out))):w.heap.size≤lK));have gQ:=dR;clear HB;have HB:=dV;have jv:=dU;have X0:=dR;have pX:=gQ;clear dV dU dR gQ;clear hb hbox hg;obtain ⟨ajU,ajT,ajS,ajR,ajQ,ahG,ahF,ahE,ahD,ahC⟩:=jT jv.out)|((with_reducible refine bu (f:=45) rfl ?_);refine dS (some 10) rfl rfl Tryd.func45 (by kernel_rfl) rfl #[.int .u8 dC] rfl (by (try simp only [List.map_toArray,List.map_cons,List.map_nil]);first|done|rfl|(simp only [List.length_drop,List.length_take];rfl)) ?_;(with_reducible refine (fG.calls dC t138 t139 _ A2.out).mono ?_);rintro e w' ⟨rfl,⟨nd,rfl⟩⟩;refine ⟨_,rfl,?_⟩;(try (rw [qN QD];generalize Bd:World.drewN QD _=QD;have dV:ae (QD.heap[lK]? = some (.cells #[.int .u8 dC,.int .u8 aU,.int .u8 aV,.int .u8 fD,.int .i64 fK] 55 (0,0))):=⟨by rw [← Bd];exact (by (with_reducible repeat (first|refine au ?_ _|refine ay ?_|refine ak ?_ _));exact jv.out)⟩;have dU:ae (Below w.heap.size w QD):=⟨by rw [← Bd];exact (by repeat (first|(with_reducible first|exact HB.out|apply ah|apply af|apply ai|refine aj ?_ pX.out)|exact HB.out))⟩;clear jv HB Bd;have jv:=dV;have HB:=dU;clear dV dU;have Pj:QD.cell? ⟨lK,0,none⟩=some (.int .u8 dC):=(ax jv.out 0).trans rfl;have Ph:QD.cell? ⟨lK,1,none⟩=some (.int .u8 aU):=(ax jv.out 1).trans rfl;have Pg:QD.cell? ⟨lK,2,none⟩=some (.int .u8 aV):=(ax jv.out 2).trans rfl;have Pe:QD.cell? ⟨lK,3,none⟩=some (.int .u8 fD):=(ax jv.out 3).trans rfl;have O9:QD.cell? ⟨lK,4,none⟩=some (.int .i64 fK):=(ax jv.out 4).trans rfl)))|((with_reducible refine bu (f:=47) rfl ?_);refine dS (some 17) rfl rfl Tryd.func47 (by kernel_rfl) rfl #[.agg #[.int .u8 dC,.int .u8 aU,.int .u8 aV,.int .u8 fD,.int .i64 fK]] rfl (by (try simp only [List.map_toArray,List.map_cons,List.map_nil]);first|done|rfl|(simp only [List.length_drop,List.length_take];rfl)) ?_;(with_reducible refine (bn.calls k dC aU aV fD fK t140 _ ?cu A6.out).mono ?_);(case cu=>repeat (first|exact (Kd.bK wJ.out HB.out)|(with_reducible refine Kd.bT ?_ _)|(with_reducible refine Kd.bQ ?_ _)|(with_reducible refine Kd.dD ?_)));rintro e w20 ⟨v141,rfl,ho0,hb⟩;refine ⟨_,rfl,?_⟩;have dV:=ae.mk (Kd.jh ho0 (bW (by repeat (first|(with_reducible first|exact HB.out|apply ah|apply af|apply ai|refine aj ?_ pX.out)|exact HB.out))));have dU:=ae.mk (bf (g:=lK) (o:=.cells #[.int .u8 dC,.int .u8 aU,.int .u8 aV,.int .u8 fD,.int .i64 fK] 55 (0,0)) (by (with_reducible repeat (first|refine au ?_ _|refine ay ?_|refine ak ?_ _));exact jv.out) hb);have dR:=ae.mk (bg (by repeat (first|(with_reducible first|exact HB.out|apply ah|apply af|apply ai|refine aj ?_ pX.out)|exact HB.out)) hb);clear jv;clear HB;have kV:=dV;have jv:=dU;have HB:=dR;clear dV dU dR;(try clear hb);(try clear hb2);(try clear hk);(try clear hi);(try clear ho0);obtain ⟨Z5,Zt,Za⟩:=Kd.jr kV.out;subst Za)|((with_reducible refine bu (f:=46) rfl ?_);refine dS (some 18) rfl rfl Tryd.func46 (by kernel_rfl) rfl #[.slice Z5 t140.length Zt] rfl (by (try simp only [List.map_toArray,List.map_cons,List.map_nil]);first|done|rfl|(simp only [List.length_drop,List.length_take];rfl)) ?_;(with_reducible refine (aJ.calls k _ _ t140 t143 t144 t145 t146 t147 false _ ?cu ?dw A7.out).mono ?_);(case cu=>repeat (first|exact (Kd.eG kV.out).2.2|(with_reducible refine Kd.bT ?_ _)|(with_reducible refine Kd.bQ ?_ _)|(with_reducible refine Kd.dD ?_)));(case dw=>exact (Kd.eG kV.out).2.1);rintro e Ya ⟨rfl,hb⟩;refine ⟨_,rfl,?_⟩;have dV:=ae.mk (Kd.ja (by (with_reducible repeat (first|apply Kd.iy|apply Kd.iw|apply Kd.jc));exact kV.out) hb);have dU:=ae.mk (bf (g:=lK) (o:=.cells #[.int .u8 dC,.int .u8 aU,.int .u8 aV,.int .u8 fD,.int .i64 fK] 55 (0,0)) (by (with_reducible repeat (first|refine au ?_ _|refine ay ?_|refine ak ?_ _));exact jv.out) hb);have dR:=ae.mk (bg (by repeat (first|(with_reducible first|exact HB.out|apply ah|apply af|apply ai|refine aj ?_ pX.out)|exact HB.out)) hb);clear kV;clear jv;clear HB;have kV:=dV;have jv:=dU;have HB:=dR;clear dV dU dR;(try clear hb);(try clear hb2);(try clear hk);(try clear hi))|((with_reducible refine dL (N:=5) rfl ?_);refine fF ?hg (N:=5) ?hd (cs:=#[.int .u8 0,.int .u8 0,.int .u8 0,.int .u8 0,.int .i64 0]) (t:=55) ?hr ?_;(case hd=>rfl);(case hg=>rfl);(case hr=>first|(go_simp;done)|(go_simp;rfl));intro Fb hg w23 hbox hb;have dV:=ae.mk (Kd.ja (by (with_reducible repeat (first|apply Kd.iy|apply Kd.iw|apply Kd.jc));exact kV.out) hb);have dU:=ae.mk (bf (g:=lK) (o:=.cells #[.int .u8 dC,.int .u8 aU,.int .u8 aV,.int .u8 fD,.int .i64 fK] 55 (0,0)) (by (with_reducible repeat (first|refine au ?_ _|refine ay ?_|refine ak ?_ _));exact jv.out) hb);have dR:=ae.mk (bg (by repeat (first|(with_reducible first|exact HB.out|apply ah|apply af|apply ai|refine aj ?_ pX.out)|exact HB.out)) hb);have gQ:=ae.mk (hbox);have lQ:=ae.mk ((by rw [hg];exact (bW (by repeat (first|(with_reducible first|exact HB.out|apply ah|apply af|apply ai|refine aj ?_ pX.out)|exact HB.out))):w.heap.size≤Fb));have mr:=lQ;have nJ:=ae.mk ((by rw [hg];exact Nat.ne_of_lt (kC (g:=lK) (o:=.cells #[.int .u8 dC,.int .u8 aU,.int .u8 aV,.int .u8 fD,.int .i64 fK] 55 (0,0)) (by (with_reducible repeat (first|refine au ?_ _|refine ay ?_|refine ak ?_ _));exact jv.out)):lK ≠ Fb));have vS:=ae.mk nJ.out.symm;clear kV;clear jv;clear HB;have kV:=dV;have jv:=dU;have HB:=dR;have Qw:=gQ;have adH:=lQ;have Qu:=mr;have xW:=nJ;have xU:=vS;clear dV dU dR gQ lQ mr nJ vS;clear hb hbox hg;have Xi:=xU.out;have Xg:=xW.out;obtain ⟨zh,zg,zf,yZ,DL,yT,yS,yR,yQ,Dx⟩:=jT Qw.out))
   go_ret
   exact ⟨by first|rfl|(simp [aQ,aN] <;> rfl)|(simp [*,aQ,aN] <;> rfl),by repeat (first|(with_reducible first|exact HB.out|apply ah|apply af|apply ai|refine aj ?_ pX.out|refine aj ?_ Qu.out)|exact HB.out)⟩
def bF.j0:Nat→Int→Bool→Int→Int→Int→Int→Int→Option (Bool)
 | 0,_,_,_,_,_,_,_=>none
 | k+1,x4,x5,aet,Io,Il,QR,aes=>if x5=true then (some (decide (Io < 8))) else (if x4=2 then (if Io < 8 then (if Il < 8 then (some (decide (QR < 8))) else (some false)) else (some false)) else (if x4=9 then (some (decide (Il < 8))) else (some true)))
def bF.f (k:Nat) (dC:Int) (aU:Int) (aV:Int) (fD:Int) (fK:Int):Option (Bool):=if dC=1 then (bF.j0 k dC (dC == 1) dC aU aV fD fK) else (if dC=4 then (bF.j0 k dC (dC == 4) dC aU aV fD fK) else (if dC=8 then (bF.j0 k dC (dC == 8) dC aU aV fD fK) else (if dC=14 then (bF.j0 k dC (dC == 14) dC aU aV fD fK) else (bF.j0 k dC (dC == 15) dC aU aV fD fK))))
theorem bF.gY:∀ k,(∀ y0 y1 y2 y3 y4 y5 y6,dN (bF.j0 k y0 y1 y2 y3 y4 y5 y6) (bF.j0 (k+1) y0 y1 y2 y3 y4 y5 y6))
 | 0=>fun _ _ _ _ _ _ _ r h=>by simp [bF.j0] at h
 | k+1=>by
  have lF:=bF.gY k
  ·
   intro y0 y1 y2 y3 y4 y5 y6
   unfold bF.j0
   repeat' with_reducible first|apply lF|exact dN.refl _|exact dN.none _|refine dN.ite ?_ ?_|refine dN.bind ?_ (fun _=>?_)
theorem bF.mono:∀ a0 a1 a2 a3 a4 k,dN (bF.f k a0 a1 a2 a3 a4) (bF.f (k+1) a0 a1 a2 a3 a4):=by
 intro a0 a1 a2 a3 a4 k
 have lF:=bF.gY k
 unfold bF.f
 repeat' with_reducible first|apply lF|exact dN.refl _|exact dN.none _|refine dN.ite ?_ ?_|refine dN.bind ?_ (fun _=>?_)
set_option maxHeartbeats 8000000 in
set_option maxRecDepth 100000 in
theorem bF.calls (k:Nat) (dC:Int) (aU:Int) (aV:Int) (fD:Int) (fK:Int) (r:Bool) (w:World) (h:bF.f k dC aU aV fD fK=some r) :
  Calls Tryd.prog 29 #[.agg #[.int .u8 dC,.int .u8 aU,.int .u8 aV,.int .u8 fD,.int .i64 fK]] w fun e w'=>e=.returned (.bool r)∧Below w.heap.size w w':=by
 have Bi:=Tryd.underlying55
 have HB:=ae.mk (Below.refl w.heap.size w)
 have H:(if dC=1 then (bF.j0 k dC (dC == 1) dC aU aV fD fK) else (if dC=4 then (bF.j0 k dC (dC == 4) dC aU aV fD fK) else (if dC=8 then (bF.j0 k dC (dC == 8) dC aU aV fD fK) else (if dC=14 then (bF.j0 k dC (dC == 14) dC aU aV fD fK) else (bF.j0 k dC (dC == 15) dC aU aV fD fK)))))=some r:=h
 clear h
 have HC2:=ae.mk H
 clear H
 go_enter Tryd.func29,Tryd.ntmps29
 go_upto_if 5 with (first|((with_reducible refine dL (N:=1) rfl ?_);refine fF ?hg (N:=1) ?hd (cs:=#[.int .u8 dC,.int .u8 aU,.int .u8 aV,.int .u8 fD,.int .i64 fK]) (t:=55) ?hr ?_;(case hd=>rfl);(case hg=>rfl);(case hr=>first|(go_simp;done)|(go_simp;rfl));intro XE hg w3 hbox hb;have dV:=ae.mk (bg (by repeat (first|(with_reducible first|exact HB.out|apply ah|apply af|apply ai)|exact HB.out)) hb);have dU:=ae.mk (hbox);have dR:=ae.mk ((by rw [hg];exact (bW (by repeat (first|(with_reducible first|exact HB.out|apply ah|apply af|apply ai)|exact HB.out))):w.heap.size≤XE));have gQ:=dR;clear HB;have HB:=dV;have tN:=dU;have an1:=dR;have uF:=gQ;clear dV dU dR gQ;clear hb hbox hg;obtain ⟨O8,O7,O6,O5,Y5,OX,OW,OV,OU,Y1⟩:=jT tN.out))
 (try simp only [Act.put,List.setIfInBounds_toArray,List.set_cons_zero,List.set_cons_succ])
 go_cut [5] (fun v5 wc=>∃ (kq:Nat) (jd:Bool),v5=.bool jd∧ae (bF.j0 kq dC jd dC aU aV fD fK=some r)∧ae (kq≤k)∧ae (wc.heap[XE]? = some (.cells #[.int .u8 dC,.int .u8 aU,.int .u8 aV,.int .u8 fD,.int .i64 fK] 55 (0,0)))∧ae (Below w.heap.size w wc))
 case first =>
  have H:=HC2.out
  clear HC2
  by_cases c5:dC=1
  ·
   rw [if_pos c5] at H
   have qO:(dC == 1)=true:=beq_iff_eq.mpr c5
   have Nb:(dC != 1)=false:=bne_eq_false_iff_eq.mpr c5
   clear c5
   (first|rw [qO]|(simp only [bG,bJ];rw [qO])|skip)
   have H':=ae.mk H
   clear H
   go_wp2
   go_meet
   case rel=>exact ⟨_,((dC == 1)),(by first|rfl|(simp;done)|(simp [*];done)),H',⟨by first|omega|exact Nat.le_refl _⟩,⟨by (with_reducible repeat (first|refine au ?_ _|refine ay ?_|refine ak ?_ _));exact tN.out⟩,⟨by repeat (first|(with_reducible first|exact HB.out|apply ah|apply af|apply ai|refine aj ?_ uF.out)|exact HB.out)⟩⟩
  ·
   rw [if_neg c5] at H
   have qO:(dC == 1)=false:=beq_eq_false_iff_ne.mpr c5
   have Nb:(dC != 1)=true:=bne_iff_ne.mpr c5
   (first|rw [qO]|(simp only [bG,bJ];rw [qO])|skip)
   by_cases c6:dC=4
   ·
    rw [if_pos c6] at H
    have nR:(dC == 4)=true:=beq_iff_eq.mpr c6
    have xP:(dC != 4)=false:=bne_eq_false_iff_eq.mpr c6
    clear c6
    have H':=ae.mk H
    clear H
    go_wp2
    go_meet
    case rel=>exact ⟨_,((dC == 4)),(by first|rfl|(simp;done)|(simp [*];done)),H',⟨by first|omega|exact Nat.le_refl _⟩,⟨by (with_reducible repeat (first|refine au ?_ _|refine ay ?_|refine ak ?_ _));exact tN.out⟩,⟨by repeat (first|(with_reducible first|exact HB.out|apply ah|apply af|apply ai|refine aj ?_ uF.out)|exact HB.out)⟩⟩
   ·
    rw [if_neg c6] at H
    have nR:(dC == 4)=false:=beq_eq_false_iff_ne.mpr c6
    have xP:(dC != 4)=true:=bne_iff_ne.mpr c6
    by_cases c7:dC=8
    ·
     rw [if_pos c7] at H
     have nV:(dC == 8)=true:=beq_iff_eq.mpr c7
     have xn:(dC != 8)=false:=bne_eq_false_iff_eq.mpr c7
     clear c7
     have H':=ae.mk H
     clear H
     go_wp2
     go_meet
     case rel=>exact ⟨_,((dC == 8)),(by first|rfl|(simp;done)|(simp [*];done)),H',⟨by first|omega|exact Nat.le_refl _⟩,⟨by (with_reducible repeat (first|refine au ?_ _|refine ay ?_|refine ak ?_ _));exact tN.out⟩,⟨by repeat (first|(with_reducible first|exact HB.out|apply ah|apply af|apply ai|refine aj ?_ uF.out)|exact HB.out)⟩⟩
    ·
     rw [if_neg c7] at H
     have nV:(dC == 8)=false:=beq_eq_false_iff_ne.mpr c7
     have xn:(dC != 8)=true:=bne_iff_ne.mpr c7
     by_cases c8:dC=14
     ·
      rw [if_pos c8] at H
      have oU:(dC == 14)=true:=beq_iff_eq.mpr c8
      have yH:(dC != 14)=false:=bne_eq_false_iff_eq.mpr c8
      clear c8
      have H':=ae.mk H
      clear H
      go_wp2
      go_meet
      case rel=>exact ⟨_,((dC == 14)),(by first|rfl|(simp;done)|(simp [*];done)),H',⟨by first|omega|exact Nat.le_refl _⟩,⟨by (with_reducible repeat (first|refine au ?_ _|refine ay ?_|refine ak ?_ _));exact tN.out⟩,⟨by repeat (first|(with_reducible first|exact HB.out|apply ah|apply af|apply ai|refine aj ?_ uF.out)|exact HB.out)⟩⟩
     ·
      rw [if_neg c8] at H
      have oU:(dC == 14)=false:=beq_eq_false_iff_ne.mpr c8
      have yH:(dC != 14)=true:=bne_iff_ne.mpr c8
      have H':=ae.mk H
      clear H
      go_wp2
      go_meet
      case rel=>exact ⟨_,((dC == 15)),(by first|rfl|(simp;done)|(simp [*];done)),H',⟨by first|omega|exact Nat.le_refl _⟩,⟨by (with_reducible repeat (first|refine au ?_ _|refine ay ?_|refine ak ?_ _));exact tN.out⟩,⟨by repeat (first|(with_reducible first|exact HB.out|apply ah|apply af|apply ai|refine aj ?_ uF.out)|exact HB.out)⟩⟩
 case rest =>
  clear HC2
  obtain ⟨kq,jd,rfl,HA,xX,tN,HB⟩:=hcut
  cases kq with
  | zero=>exact absurd HA.out (by simp [bF.j0])
  | succ Nq =>
   have H:=HA.out
   clear HA
   simp only [bF.j0] at H
   by_cases c9:jd=true
   ·
    subst c9
    have H1:(some (decide (aU < 8)))=some r:=by rw [if_pos rfl] at H;exact H
    clear H
    have H:=H1
    clear H1
    obtain rfl:=Option.some.inj H
    obtain ⟨xe,wZ,wY,wX,VY,wW,wV,wU,wS,Uw⟩:=jT tN.out
    go_wp2
    go_ret
    exact ⟨by first|rfl|(simp [aQ,aN] <;> rfl)|(simp [*,aQ,aN] <;> rfl),by repeat (first|(with_reducible first|exact HB.out|apply ah|apply af|apply ai|refine aj ?_ uF.out)|exact HB.out)⟩
   ·
    replace c9:=Bool.eq_false_iff.mpr c9
    subst c9
    have H1:(if dC=2 then (if aU < 8 then (if aV < 8 then (some (decide (fD < 8))) else (some false)) else (some false)) else (if dC=9 then (some (decide (aV < 8))) else (some true)))=some r:=by rw [if_neg (show ¬ (false=true) by decide)] at H;exact H
    clear H
    have H:=H1
    clear H1
    by_cases c11:dC=2
    ·
     rw [if_pos c11] at H
     have uz:(dC == 2)=true:=beq_iff_eq.mpr c11
     have CE:(dC != 2)=false:=bne_eq_false_iff_eq.mpr c11
     clear c11
     by_cases c12:aU < 8
     ·
      rw [if_pos c12] at H
      have vW:decide (aU < 8)=true:=decide_eq_true c12
      clear c12
      by_cases c13:aV < 8
      ·
       rw [if_pos c13] at H
       have l9:decide (aV < 8)=true:=decide_eq_true c13
       clear c13
       obtain rfl:=Option.some.inj H
       obtain ⟨VV,VU,VT,VS,ajW,Us,Ur,Uo,Un,ahI⟩:=jT tN.out
       go_wp2
       go_ret
       exact ⟨by first|rfl|(simp [aQ,aN] <;> rfl)|(simp [*,aQ,aN] <;> rfl),by repeat (first|(with_reducible first|exact HB.out|apply ah|apply af|apply ai|refine aj ?_ uF.out)|exact HB.out)⟩
      ·
       rw [if_neg c13] at H
       have l9:decide (aV < 8)=false:=decide_eq_false c13
       clear c13
       obtain rfl:=Option.some.inj H
       obtain ⟨VR,VQ,VP,VO,ajV,Um,Ul,Uk,Uj,ahH⟩:=jT tN.out
       go_wp2
       go_ret
       exact ⟨by first|rfl|(simp [aQ,aN] <;> rfl)|(simp [*,aQ,aN] <;> rfl),by repeat (first|(with_reducible first|exact HB.out|apply ah|apply af|apply ai|refine aj ?_ uF.out)|exact HB.out)⟩
     ·
      rw [if_neg c12] at H
      have vW:decide (aU < 8)=false:=decide_eq_false c12
      clear c12
      obtain rfl:=Option.some.inj H
      obtain ⟨DU,DT,DR,DN,KF,DD,DC,Dz,Dy,JJ⟩:=jT tN.out
      go_wp2
      go_ret
      exact ⟨by first|rfl|(simp [aQ,aN] <;> rfl)|(simp [*,aQ,aN] <;> rfl),by repeat (first|(with_reducible first|exact HB.out|apply ah|apply af|apply ai|refine aj ?_ uF.out)|exact HB.out)⟩
    ·
     rw [if_neg c11] at H
     have uz:(dC == 2)=false:=beq_eq_false_iff_ne.mpr c11
     have CE:(dC != 2)=true:=bne_iff_ne.mpr c11
     by_cases c17:dC=9
     ·
      rw [if_pos c17] at H
      have yt:(dC == 9)=true:=beq_iff_eq.mpr c17
      have FI:(dC != 9)=false:=bne_eq_false_iff_eq.mpr c17
      clear c17
      obtain rfl:=Option.some.inj H
      obtain ⟨Kz,Ky,Kw,Kv,VM,JE,JD,JC,JB,Uh⟩:=jT tN.out
      go_wp2
      go_ret
      exact ⟨by first|rfl|(simp [aQ,aN] <;> rfl)|(simp [*,aQ,aN] <;> rfl),by repeat (first|(with_reducible first|exact HB.out|apply ah|apply af|apply ai|refine aj ?_ uF.out)|exact HB.out)⟩
     ·
      rw [if_neg c17] at H
      have yt:(dC == 9)=false:=beq_eq_false_iff_ne.mpr c17
      have FI:(dC != 9)=true:=bne_iff_ne.mpr c17
      obtain rfl:=Option.some.inj H
      go_wp2
      go_ret
      exact ⟨by first|rfl|(simp [aQ,aN] <;> rfl)|(simp [*,aQ,aN] <;> rfl),by repeat (first|(with_reducible first|exact HB.out|apply ah|apply af|apply ai|refine aj ?_ uF.out)|exact HB.out)⟩
def fO.f (k:Nat) (l0:List ByteArray) (a1:ByteArray) (a2:Int):Option (Int):=if (wrap64 (a2)) ≥ (a1.size:Int) then (some (-1)) else (if 0≤(wrap64 (a2)) then (if (wrap64 (a2))≤(wrap64 ((wrap64 (a2))+1)) then (if (wrap64 ((wrap64 (a2))+1))≤(a1.size:Int) then ((aW.f k l0 (a1.extract ((wrap64 (a2)):Int).toNat ((wrap64 ((wrap64 (a2))+1)):Int).toNat)).bind fun t151=>(if t151=true then (if 0≤a2 then (if a2 < (a1.size:Int) then (some (((bt a1 a2) - 48) % 256)) else (none)) else (none)) else (some (-1)))) else (none)) else (none)) else (none))
theorem fO.mono:∀ a0 a1 a2 k,dN (fO.f k a0 a1 a2) (fO.f (k+1) a0 a1 a2):=by
 intro a0 a1 a2 k
 unfold fO.f
 repeat' with_reducible first|apply aW.mono|exact dN.refl _|exact dN.none _|refine dN.ite ?_ ?_|refine dN.bind ?_ (fun _=>?_)
set_option maxHeartbeats 8000000 in
set_option maxRecDepth 100000 in
theorem fO.calls (k:Nat) (A0:Option Addr) (c0:Nat) (l0:List ByteArray) (a1:ByteArray) (a2:Int) (r:Int) (w:World) (hr0:Kd.C Kd.string w A0 l0.length l0) (hc0:l0.length≤c0) (h:fO.f k l0 a1 a2=some r) :
  Calls Tryd.prog 31 #[.slice A0 l0.length c0,.string a1,.int .u8 a2] w fun e w'=>e=.returned (.int .i64 r)∧aT w w':=by
 have HR0:=ae.mk hr0
 have tY:=ae.mk hc0
 clear hr0 hc0
 have H:(if (wrap64 (a2)) ≥ (a1.size:Int) then (some (-1)) else (if 0≤(wrap64 (a2)) then (if (wrap64 (a2))≤(wrap64 ((wrap64 (a2))+1)) then (if (wrap64 ((wrap64 (a2))+1))≤(a1.size:Int) then ((aW.f k l0 (a1.extract ((wrap64 (a2)):Int).toNat ((wrap64 ((wrap64 (a2))+1)):Int).toNat)).bind fun t151=>(if t151=true then (if 0≤a2 then (if a2 < (a1.size:Int) then (some (((bt a1 a2) - 48) % 256)) else (none)) else (none)) else (some (-1)))) else (none)) else (none)) else (none)))=some r:=h
 clear h
 by_cases c4:(wrap64 (a2)) ≥ (a1.size:Int)
 ·
  rw [if_pos c4] at H
  have nM:decide ((a1.size:Int)≤(wrap64 (a2)))=true:=decide_eq_true c4
  clear c4
  obtain rfl:=Option.some.inj H
  go_enter Tryd.func31,Tryd.ntmps31
  go_wp2
  go_ret
  exact ⟨by first|rfl|(simp;done)|(simp [*];done),by repeat (first|exact aT.refl _|apply aT.step)⟩
 ·
  rw [if_neg c4] at H
  have nM:decide ((a1.size:Int)≤(wrap64 (a2)))=false:=decide_eq_false c4
  clear c4
  obtain ⟨sQ,xN⟩:∃ j_:Int,(wrap64 (a2))=j_:=⟨_,rfl⟩
  replace H:(if 0≤(sQ) then (if (sQ)≤(wrap64 ((sQ)+1)) then (if (wrap64 ((sQ)+1))≤(a1.size:Int) then ((aW.f k l0 (a1.extract ((sQ):Int).toNat ((wrap64 ((sQ)+1)):Int).toNat)).bind fun t151=>(if t151=true then (if 0≤a2 then (if a2 < (a1.size:Int) then (some (((bt a1 a2) - 48) % 256)) else (none)) else (none)) else (some (-1)))) else (none)) else (none)) else (none))=some r:=by first|(rw [xN] at H;exact H)|(simp only [xN] at H ⊢;exact H)
  (try rw [xN] at nM)
  have abg:(IntKind.i64.wrap (a2))=sQ:=(bG _).trans xN
  by_cases c6:0≤(sQ)
  ·
   rw [if_pos c6] at H
   have nR:=eq_true c6
   have xP:decide (0≤(sQ))=true:=decide_eq_true c6
   clear c6
   by_cases c7:(sQ)≤(wrap64 ((sQ)+1))
   ·
    rw [if_pos c7] at H
    have nV:=eq_true c7
    have xn:decide ((sQ)≤(wrap64 ((sQ)+1)))=true:=decide_eq_true c7
    by_cases c8:(wrap64 ((sQ)+1))≤(a1.size:Int)
    ·
     rw [if_pos c8] at H
     have oU:=eq_true c8
     have yH:decide ((wrap64 ((sQ)+1))≤(a1.size:Int))=true:=decide_eq_true c8
     replace H:=Option.bind_eq_some_iff.mp H
     obtain ⟨t151,Np,H⟩:=H
     replace H:(if t151=true then (if 0≤a2 then (if a2 < (a1.size:Int) then (some (((bt a1 a2) - 48) % 256)) else (none)) else (none)) else (some (-1)))=some r:=H
     have A9:=ae.mk Np
     clear Np
     by_cases c10:t151=true
     ·
      subst c10
      have H1:(if 0≤a2 then (if a2 < (a1.size:Int) then (some (((bt a1 a2) - 48) % 256)) else (none)) else (none))=some r:=by rw [if_pos rfl] at H;exact H
      clear H
      have H:=H1
      clear H1
      by_cases c11:0≤a2
      ·
       rw [if_pos c11] at H
       have uz:decide (0≤a2)=true:=decide_eq_true c11
       clear c11
       by_cases c12:a2 < (a1.size:Int)
       ·
        rw [if_pos c12] at H
        have vW:decide (a2 < (a1.size:Int))=true:=decide_eq_true c12
        clear c12
        obtain rfl:=Option.some.inj H
        go_enter Tryd.func31,Tryd.ntmps31
        go_wp2_with (first|(go_at_call 27;(with_reducible refine (aW.calls k _ _ l0 (a1.extract ((sQ):Int).toNat ((wrap64 ((sQ)+1)):Int).toNat) true _ ?cu ?dw A9.out).mono ?_);(case cu=>repeat (first|exact HR0.out|(with_reducible refine Kd.bT ?_ _)|(with_reducible refine Kd.bQ ?_ _)|(with_reducible refine Kd.dD ?_)));(case dw=>exact tY.out);rintro e w' ⟨rfl,⟨nd,rfl⟩⟩;have p13:0≤(a2:Int):=of_decide_eq_true (by first|(with_reducible assumption)|assumption);have q13:a2 < (a1.size:Int):=of_decide_eq_true (by first|(with_reducible assumption)|assumption);have RQ:=kL a1 a2;replace p13:=eq_true p13;replace q13:=eq_true q13))
        go_ret
        exact ⟨by first|rfl|(simp;done)|(simp only [← xN] <;> (first|rfl|simp))|(simp [*];done),by repeat (first|exact aT.refl _|apply aT.step)⟩
       ·
        rw [if_neg c12] at H
        exact absurd H (by simp)
      ·
       rw [if_neg c11] at H
       exact absurd H (by simp)
     ·
      replace c10:=Bool.eq_false_iff.mpr c10
      subst c10
      have H1:(some (-1))=some r:=by rw [if_neg (show ¬ (false=true) by decide)] at H;exact H
      clear H
      have H:=H1
      clear H1
      obtain rfl:=Option.some.inj H
      go_enter Tryd.func31,Tryd.ntmps31
      go_wp2_with (first|(go_at_call 27;(with_reducible refine (aW.calls k _ _ l0 (a1.extract ((sQ):Int).toNat ((wrap64 ((sQ)+1)):Int).toNat) false _ ?cu ?dw A9.out).mono ?_);(case cu=>repeat (first|exact HR0.out|(with_reducible refine Kd.bT ?_ _)|(with_reducible refine Kd.bQ ?_ _)|(with_reducible refine Kd.dD ?_)));(case dw=>exact tY.out);rintro e w' ⟨rfl,⟨nd,rfl⟩⟩))
      go_ret
      exact ⟨by first|rfl|(simp;done)|(simp only [← xN] <;> (first|rfl|simp))|(simp [*];done),by repeat (first|exact aT.refl _|apply aT.step)⟩
    ·
     rw [if_neg c8] at H
     exact absurd H (by simp)
   ·
    rw [if_neg c7] at H
    exact absurd H (by simp)
  ·
   rw [if_neg c6] at H
   exact absurd H (by simp)
def dm.f (k:Nat) (aY:List ByteArray) (aU:ByteArray) (aV:ByteArray) (aI:List (gZ)) (a1:Int):Option (Int):=(fO.f k aY aU a1).bind fun t153=>(some t153)
theorem dm.mono:∀ a0 a1 a2 a3 a4 k,dN (dm.f k a0 a1 a2 a3 a4) (dm.f (k+1) a0 a1 a2 a3 a4):=by
 intro a0 a1 a2 a3 a4 k
 unfold dm.f
 repeat' with_reducible first|apply fO.mono|exact dN.refl _|exact dN.none _|refine dN.ite ?_ ?_|refine dN.bind ?_ (fun _=>?_)
set_option maxHeartbeats 8000000 in
set_option maxRecDepth 100000 in
theorem dm.calls (k:Nat) (eu:Option Addr) (ed:Nat) (aY:List ByteArray) (aU:ByteArray) (aV:ByteArray) (fV:Option Addr) (eX:Nat) (aI:List (gZ)) (a1:Int) (r:Int) (w:World) (jK:Kd.C Kd.string w eu aY.length aY) (jM:aY.length≤ed) (jJ:Kd.C tZ w fV aI.length aI) (jL:aI.length≤eX) (h:dm.f k aY aU aV aI a1=some r) :
  Calls Tryd.prog 19 #[.agg #[.slice eu aY.length ed,.string aU,.string aV,.slice fV aI.length eX],.int .u8 a1] w fun e w'=>e=.returned (.int .i64 r)∧Below w.heap.size w w':=by
 have xM:=Tryd.underlying25
 have iq:=ae.mk jK
 have iC:=ae.mk jM
 clear jK jM
 have jG:=ae.mk jJ
 have jW:=ae.mk jL
 clear jJ jL
 have HB:=ae.mk (Below.refl w.heap.size w)
 have H:((fO.f k aY aU a1).bind fun t153=>(some t153))=some r:=h
 clear h
 replace H:=Option.bind_eq_some_iff.mp H
 obtain ⟨t153,xB,H⟩:=H
 replace H:(some t153)=some r:=H
 have A3:=ae.mk xB
 clear xB
 obtain rfl:=Option.some.inj H
 go_enter Tryd.func19,Tryd.ntmps19
 go_wp2_with (first|((with_reducible refine dL (N:=2) rfl ?_);refine fF ?hg (N:=2) ?hd (cs:=#[.slice eu aY.length ed,.string aU,.string aV,.slice fV aI.length eX]) (t:=25) ?hr ?_;(case hd=>rfl);(case hg=>rfl);(case hr=>first|(go_simp;done)|(go_simp;rfl));intro ab8 hg w4 hbox hb;have dV:=ae.mk (bg (by repeat (first|(with_reducible first|exact HB.out|apply ah|apply af|apply ai)|exact HB.out)) hb);have dU:=ae.mk (hbox);have dR:=ae.mk ((by rw [hg];exact (bW (by repeat (first|(with_reducible first|exact HB.out|apply ah|apply af|apply ai)|exact HB.out))):w.heap.size≤ab8));have gQ:=dR;clear HB;have HB:=dV;have adQ:=dU;have an0:=dR;have adM:=gQ;clear dV dU dR gQ;clear hb hbox hg;obtain ⟨Aj,Ai,Ah,Ag,Af,Ae,Ad,Ac⟩:=qP adQ.out)|((with_reducible refine bu (f:=31) rfl ?_);refine dS (some 10) rfl rfl Tryd.func31 (by kernel_rfl) rfl #[.slice eu aY.length ed,.string aU,.int .u8 a1] rfl (by (try simp only [List.map_toArray,List.map_cons,List.map_nil]);first|done|rfl|(simp only [List.length_drop,List.length_take];rfl)) ?_;(with_reducible refine (fO.calls k _ _ aY aU a1 t153 _ ?cu ?dw A3.out).mono ?_);(case cu=>repeat (first|exact (Kd.bK iq.out HB.out)|(with_reducible refine Kd.bT ?_ _)|(with_reducible refine Kd.bQ ?_ _)|(with_reducible refine Kd.dD ?_)));(case dw=>exact iC.out);rintro e w' ⟨rfl,⟨nd,rfl⟩⟩;refine ⟨_,rfl,?_⟩))
 go_ret
 exact ⟨by first|rfl|(simp [aQ,aN] <;> rfl)|(simp [*,aQ,aN] <;> rfl),by repeat (first|(with_reducible first|exact HB.out|apply ah|apply af|apply ai|refine aj ?_ adM.out)|exact HB.out)⟩
def dQ.f (k:Nat) (aY:List ByteArray) (aU:ByteArray) (aV:ByteArray) (aI:List (gZ)) (a1:Int):Option (Int):=(fO.f k aY aV a1).bind fun t155=>(some t155)
theorem dQ.mono:∀ a0 a1 a2 a3 a4 k,dN (dQ.f k a0 a1 a2 a3 a4) (dQ.f (k+1) a0 a1 a2 a3 a4):=by
 intro a0 a1 a2 a3 a4 k
 unfold dQ.f
 repeat' with_reducible first|apply fO.mono|exact dN.refl _|exact dN.none _|refine dN.ite ?_ ?_|refine dN.bind ?_ (fun _=>?_)
set_option maxHeartbeats 8000000 in
set_option maxRecDepth 100000 in
theorem dQ.calls (k:Nat) (eu:Option Addr) (ed:Nat) (aY:List ByteArray) (aU:ByteArray) (aV:ByteArray) (fV:Option Addr) (eX:Nat) (aI:List (gZ)) (a1:Int) (r:Int) (w:World) (jK:Kd.C Kd.string w eu aY.length aY) (jM:aY.length≤ed) (jJ:Kd.C tZ w fV aI.length aI) (jL:aI.length≤eX) (h:dQ.f k aY aU aV aI a1=some r) :
  Calls Tryd.prog 20 #[.agg #[.slice eu aY.length ed,.string aU,.string aV,.slice fV aI.length eX],.int .u8 a1] w fun e w'=>e=.returned (.int .i64 r)∧Below w.heap.size w w':=by
 have xM:=Tryd.underlying25
 have iq:=ae.mk jK
 have iC:=ae.mk jM
 clear jK jM
 have jG:=ae.mk jJ
 have jW:=ae.mk jL
 clear jJ jL
 have HB:=ae.mk (Below.refl w.heap.size w)
 have H:((fO.f k aY aV a1).bind fun t155=>(some t155))=some r:=h
 clear h
 replace H:=Option.bind_eq_some_iff.mp H
 obtain ⟨t155,xB,H⟩:=H
 replace H:(some t155)=some r:=H
 have A3:=ae.mk xB
 clear xB
 obtain rfl:=Option.some.inj H
 go_enter Tryd.func20,Tryd.ntmps20
 go_wp2_with (first|((with_reducible refine dL (N:=2) rfl ?_);refine fF ?hg (N:=2) ?hd (cs:=#[.slice eu aY.length ed,.string aU,.string aV,.slice fV aI.length eX]) (t:=25) ?hr ?_;(case hd=>rfl);(case hg=>rfl);(case hr=>first|(go_simp;done)|(go_simp;rfl));intro ab7 hg w4 hbox hb;have dV:=ae.mk (bg (by repeat (first|(with_reducible first|exact HB.out|apply ah|apply af|apply ai)|exact HB.out)) hb);have dU:=ae.mk (hbox);have dR:=ae.mk ((by rw [hg];exact (bW (by repeat (first|(with_reducible first|exact HB.out|apply ah|apply af|apply ai)|exact HB.out))):w.heap.size≤ab7));have gQ:=dR;clear HB;have HB:=dV;have adP:=dU;have anZ:=dR;have adL:=gQ;clear dV dU dR gQ;clear hb hbox hg;obtain ⟨Aj,Ai,Ah,Ag,Af,Ae,Ad,Ac⟩:=qP adP.out)|((with_reducible refine bu (f:=31) rfl ?_);refine dS (some 10) rfl rfl Tryd.func31 (by kernel_rfl) rfl #[.slice eu aY.length ed,.string aV,.int .u8 a1] rfl (by (try simp only [List.map_toArray,List.map_cons,List.map_nil]);first|done|rfl|(simp only [List.length_drop,List.length_take];rfl)) ?_;(with_reducible refine (fO.calls k _ _ aY aV a1 t155 _ ?cu ?dw A3.out).mono ?_);(case cu=>repeat (first|exact (Kd.bK iq.out HB.out)|(with_reducible refine Kd.bT ?_ _)|(with_reducible refine Kd.bQ ?_ _)|(with_reducible refine Kd.dD ?_)));(case dw=>exact iC.out);rintro e w' ⟨rfl,⟨nd,rfl⟩⟩;refine ⟨_,rfl,?_⟩))
 go_ret
 exact ⟨by first|rfl|(simp [aQ,aN] <;> rfl)|(simp [*,aQ,aN] <;> rfl),by repeat (first|(with_reducible first|exact HB.out|apply ah|apply af|apply ai|refine aj ?_ adL.out)|exact HB.out)⟩
def dA.f (a0:Int) (a1:Int):Option (Bool):=if a0 ≥ 0 then (some (a0 == a1)) else (some false)
set_option maxHeartbeats 8000000 in
set_option maxRecDepth 100000 in
theorem dA.calls (a0:Int) (a1:Int) (r:Bool) (w:World) (h:dA.f a0 a1=some r) :
  Calls Tryd.prog 48 #[.int .i64 a0,.int .i64 a1] w fun e w'=>e=.returned (.bool r)∧aT w w':=by
 have H:(if a0 ≥ 0 then (some (a0 == a1)) else (some false))=some r:=h
 clear h
 by_cases c3:a0 ≥ 0
 ·
  rw [if_pos c3] at H
  have nN:decide (0≤a0)=true:=decide_eq_true c3
  clear c3
  obtain rfl:=Option.some.inj H
  go_enter Tryd.func48,Tryd.ntmps48
  go_wp2
  go_ret
  exact ⟨by first|rfl|(simp;done)|(simp [*];done),by repeat (first|exact aT.refl _|apply aT.step)⟩
 ·
  rw [if_neg c3] at H
  have nN:decide (0≤a0)=false:=decide_eq_false c3
  clear c3
  obtain rfl:=Option.some.inj H
  go_enter Tryd.func48,Tryd.ntmps48
  go_wp2
  go_ret
  exact ⟨by first|rfl|(simp;done)|(simp [*];done),by repeat (first|exact aT.refl _|apply aT.step)⟩
end Go.Proofs.YtlemecdddhdagaaDoor.P
end
