/- Parts of the proof of ModelRuns: what the functions that it reaches compute, and plain facts about that. -/
import Derived.Test.YtlemecdddhdagaaDoorYab
import Derived.Test.YtlemecdddhdagaaDoorYac
import Derived.Test.YtlemecdddhdagaaDoorYal
import Derived.Test.YtlemecdddhdagaaDoorYan
set_option linter.unusedVariables false
set_option linter.unusedSimpArgs false
section
namespace Go.Proofs.YtlemecdddhdagaaDoor.P
open Go.RowKit Go.Proofs.af.bD Go.Proofs.af.dB Go.Proofs.af.dM
attribute [local go_sem] lq lg mG mF jY jX lh kZ
attribute [local go_sem high] adF
def jF.f (dC:Int) (aU:Int) (aV:Int) (fC:Int) (fK:Int) (a1:Int):Option (Int):=if a1=97 then (some (wrap64 (aU))) else (if a1=98 then (some (wrap64 (aV))) else (if a1=99 then (some (wrap64 (fC))) else (some fK)))
set_option maxHeartbeats 8000000 in
set_option maxRecDepth 100000 in
theorem jF.calls (dC:Int) (aU:Int) (aV:Int) (fC:Int) (fK:Int) (a1:Int) (r:Int) (w:World) (h:jF.f dC aU aV fC fK a1=some r) :
  Calls Tryd.prog 67 #[.agg #[.int .u8 dC,.int .u8 aU,.int .u8 aV,.int .u8 fC,.int .i64 fK],.int .u8 a1] w fun e w'=>e=.returned (.int .i64 r)∧Below w.heap.size w w':=by
 have BV:=Tryd.underlying55
 have HB:=ae.mk (Below.refl w.heap.size w)
 have H:(if a1=97 then (some (wrap64 (aU))) else (if a1=98 then (some (wrap64 (aV))) else (if a1=99 then (some (wrap64 (fC))) else (some fK))))=some r:=h
 clear h
 by_cases c3:a1=97
 ·
  rw [if_pos c3] at H
  have ou:(a1 == 97)=true:=beq_iff_eq.mpr c3
  have zi:(a1 != 97)=false:=bne_eq_false_iff_eq.mpr c3
  clear c3
  obtain rfl:=Option.some.inj H
  go_enter Tryd.func67,Tryd.ntmps67
  go_wp2_with (first|((with_reducible refine bI (N:=2) rfl ?_);refine fF ?hg (N:=2) ?hd (cs:=#[.int .u8 dC,.int .u8 aU,.int .u8 aV,.int .u8 fC,.int .i64 fK]) (t:=55) ?hr ?_;(case hd=>rfl);(case hg=>rfl);(case hr=>first|(go_simp;done)|(go_simp;rfl));intro Bg hg w4 hbox hb;have dV:=ae.mk (bn (by repeat (first|(with_reducible first|exact HB.out|apply ah|apply ag|apply ai)|exact HB.out)) hb);have dU:=ae.mk (hbox);have dR:=ae.mk ((by rw [hg];exact (bU (by repeat (first|(with_reducible first|exact HB.out|apply ah|apply ag|apply ai)|exact HB.out))):w.heap.size≤Bg));have gZ:=dR;clear HB;have HB:=dV;have BJ:=dU;have Si:=dR;have BH:=gZ;clear dV dU dR gZ;clear hb hbox hg;obtain ⟨Be,Bd,Bc,Ba,aaj,AZ,AY,AX,AQ,aaf⟩:=jZ BJ.out))
  go_ret
  exact ⟨by first|rfl|(simp [aQ,aN] <;> rfl)|(simp [*,aQ,aN] <;> rfl),by repeat (first|(with_reducible first|exact HB.out|apply ah|apply ag|apply ai|refine aj ?_ BH.out)|exact HB.out)⟩
 ·
  rw [if_neg c3] at H
  have ou:(a1 == 97)=false:=beq_eq_false_iff_ne.mpr c3
  have zi:(a1 != 97)=true:=bne_iff_ne.mpr c3
  by_cases c6:a1=98
  ·
   rw [if_pos c6] at H
   have oH:(a1 == 98)=true:=beq_iff_eq.mpr c6
   have yC:(a1 != 98)=false:=bne_eq_false_iff_eq.mpr c6
   clear c6
   obtain rfl:=Option.some.inj H
   go_enter Tryd.func67,Tryd.ntmps67
   go_wp2_with (first|((with_reducible refine bI (N:=2) rfl ?_);refine fF ?hg (N:=2) ?hd (cs:=#[.int .u8 dC,.int .u8 aU,.int .u8 aV,.int .u8 fC,.int .i64 fK]) (t:=55) ?hr ?_;(case hd=>rfl);(case hg=>rfl);(case hr=>first|(go_simp;done)|(go_simp;rfl));intro Bg hg w7 hbox hb;have dV:=ae.mk (bn (by repeat (first|(with_reducible first|exact HB.out|apply ah|apply ag|apply ai)|exact HB.out)) hb);have dU:=ae.mk (hbox);have dR:=ae.mk ((by rw [hg];exact (bU (by repeat (first|(with_reducible first|exact HB.out|apply ah|apply ag|apply ai)|exact HB.out))):w.heap.size≤Bg));have gZ:=dR;clear HB;have HB:=dV;have BJ:=dU;have Si:=dR;have BH:=gZ;clear dV dU dR gZ;clear hb hbox hg;obtain ⟨Qq,Qp,Qo,Qn,aai,Qi,Qh,Qg,Qe,aae⟩:=jZ BJ.out))
   go_ret
   exact ⟨by first|rfl|(simp [aQ,aN] <;> rfl)|(simp [*,aQ,aN] <;> rfl),by repeat (first|(with_reducible first|exact HB.out|apply ah|apply ag|apply ai|refine aj ?_ BH.out)|exact HB.out)⟩
  ·
   rw [if_neg c6] at H
   have oH:(a1 == 98)=false:=beq_eq_false_iff_ne.mpr c6
   have yC:(a1 != 98)=true:=bne_iff_ne.mpr c6
   by_cases c9:a1=99
   ·
    rw [if_pos c9] at H
    have EU:(a1 == 99)=true:=beq_iff_eq.mpr c9
    have XW:(a1 != 99)=false:=bne_eq_false_iff_eq.mpr c9
    clear c9
    obtain rfl:=Option.some.inj H
    go_enter Tryd.func67,Tryd.ntmps67
    go_wp2_with (first|((with_reducible refine bI (N:=2) rfl ?_);refine fF ?hg (N:=2) ?hd (cs:=#[.int .u8 dC,.int .u8 aU,.int .u8 aV,.int .u8 fC,.int .i64 fK]) (t:=55) ?hr ?_;(case hd=>rfl);(case hg=>rfl);(case hr=>first|(go_simp;done)|(go_simp;rfl));intro Bg hg w10 hbox hb;have dV:=ae.mk (bn (by repeat (first|(with_reducible first|exact HB.out|apply ah|apply ag|apply ai)|exact HB.out)) hb);have dU:=ae.mk (hbox);have dR:=ae.mk ((by rw [hg];exact (bU (by repeat (first|(with_reducible first|exact HB.out|apply ah|apply ag|apply ai)|exact HB.out))):w.heap.size≤Bg));have gZ:=dR;clear HB;have HB:=dV;have BJ:=dU;have Si:=dR;have BH:=gZ;clear dV dU dR gZ;clear hb hbox hg;obtain ⟨zS,zQ,zO,zN,XB,zI,zH,zG,zF,VL⟩:=jZ BJ.out))
    go_ret
    exact ⟨by first|rfl|(simp [aQ,aN] <;> rfl)|(simp [*,aQ,aN] <;> rfl),by repeat (first|(with_reducible first|exact HB.out|apply ah|apply ag|apply ai|refine aj ?_ BH.out)|exact HB.out)⟩
   ·
    rw [if_neg c9] at H
    have EU:(a1 == 99)=false:=beq_eq_false_iff_ne.mpr c9
    have XW:(a1 != 99)=true:=bne_iff_ne.mpr c9
    obtain rfl:=Option.some.inj H
    go_enter Tryd.func67,Tryd.ntmps67
    go_wp2_with (first|((with_reducible refine bI (N:=2) rfl ?_);refine fF ?hg (N:=2) ?hd (cs:=#[.int .u8 dC,.int .u8 aU,.int .u8 aV,.int .u8 fC,.int .i64 fK]) (t:=55) ?hr ?_;(case hd=>rfl);(case hg=>rfl);(case hr=>first|(go_simp;done)|(go_simp;rfl));intro Bg hg w12 hbox hb;have dV:=ae.mk (bn (by repeat (first|(with_reducible first|exact HB.out|apply ah|apply ag|apply ai)|exact HB.out)) hb);have dU:=ae.mk (hbox);have dR:=ae.mk ((by rw [hg];exact (bU (by repeat (first|(with_reducible first|exact HB.out|apply ah|apply ag|apply ai)|exact HB.out))):w.heap.size≤Bg));have gZ:=dR;clear HB;have HB:=dV;have BJ:=dU;have Si:=dR;have BH:=gZ;clear dV dU dR gZ;clear hb hbox hg;obtain ⟨alE,alD,alC,alB,alA,ajm,ajl,ajk,ajj,aji⟩:=jZ BJ.out))
    go_ret
    exact ⟨by first|rfl|(simp [aQ,aN] <;> rfl)|(simp [*,aQ,aN] <;> rfl),by repeat (first|(with_reducible first|exact HB.out|apply ah|apply ag|apply ai|refine aj ?_ BH.out)|exact HB.out)⟩
def bu.l0:Nat→ByteArray→List ByteArray→Int→Int→Int→Int→Int→Int→Option (List ByteArray)
 | 0,_,_,_,_,_,_,_,_=>none
 | k+1,x4,x5,x6,JD,JC,JB,JA,Jz=>if x6 < (x4.size:Int) then (if 0≤x6 then ((jF.f JD JC JB JA Jz (bt x4 x6)).bind fun t132=>((jh.f t132 10).bind fun t133=>(if x5.length < 8796093022208 then (bu.l0 k x4 (x5++[t133]) (wrap64 (x6+1)) JD JC JB JA Jz) else (none)))) else (none)) else (some x5)
def bu.f (k:Nat) (dC:Int) (aU:Int) (aV:Int) (fC:Int) (fK:Int):Option (List ByteArray):=(fG.f dC).bind fun GZ=>(bu.l0 k GZ.2 (([GZ.1]:List ByteArray)) 0 dC aU aV fC fK)
theorem bu.iD:∀ k,(∀ y0 y1 y2 y3 y4 y5 y6 y7,dO (bu.l0 k y0 y1 y2 y3 y4 y5 y6 y7) (bu.l0 (k+1) y0 y1 y2 y3 y4 y5 y6 y7))
 | 0=>fun _ _ _ _ _ _ _ _ r h=>by simp [bu.l0] at h
 | k+1=>by
  have lS:=bu.iD k
  ·
   intro y0 y1 y2 y3 y4 y5 y6 y7
   unfold bu.l0
   repeat' with_reducible first|apply lS|exact dO.refl _|exact dO.none _|refine dO.ite ?_ ?_|refine dO.bind ?_ (fun _=>?_)
theorem bu.mono:∀ a0 a1 a2 a3 a4 k,dO (bu.f k a0 a1 a2 a3 a4) (bu.f (k+1) a0 a1 a2 a3 a4):=by
 intro a0 a1 a2 a3 a4 k
 have lS:=bu.iD k
 unfold bu.f
 repeat' with_reducible first|apply lS|exact dO.refl _|exact dO.none _|refine dO.ite ?_ ?_|refine dO.bind ?_ (fun _=>?_)
def bu.T6:Bool × List (List Nat × List Nat):=(true,[([],[]),([],[]),([],[]),([],[]),([2,3],[2,3]),([1,4],[1,4]),([5,5],[5]),([6],[6]),([0,7,6],[0,7]),([8,8,0,1,2,3,4,5,6,7,8],[0,8])])
def bu.B6:List Nat:=[0,0,0,0,12,30,62,126,255,511]
theorem bu.tab6:qG .any (opsOf Tryd.f47 6)=bu.T6:=by kernel_rfl
theorem bu.aeD:rO bu.T6.2 bu.B6=true:=by kernel_rfl
set_option maxHeartbeats 8000000 in
set_option maxRecDepth 100000 in
theorem bu.calls (k:Nat) (dC:Int) (aU:Int) (aV:Int) (fC:Int) (fK:Int) (r:List ByteArray) (w:World) (lQ:Kd.C wM w wO oz.length oz) (h:bu.f k dC aU aV fC fK=some r) :
  Calls Tryd.prog 47 #[.agg #[.int .u8 dC,.int .u8 aU,.int .u8 aV,.int .u8 fC,.int .i64 fK]] w fun e w'=>∃ v0_:Value,e=.returned (v0_)∧Kd.R Kd.string 9 w' w.heap.size (fun _=>True) v0_ r∧Below w.heap.size w w':=by
 have BV:=Tryd.underlying55
 have yT:=ae.mk lQ
 clear lQ
 have HB:=ae.mk (Below.refl w.heap.size w)
 have H:((fG.f dC).bind fun GZ=>(bu.l0 k GZ.2 (([GZ.1]:List ByteArray)) 0 dC aU aV fC fK))=some r:=h
 clear h
 replace H:=Option.bind_eq_some_iff.mp H
 obtain ⟨⟨t127,t128⟩,Su,H⟩:=H
 replace H:(bu.l0 k t128 (([t127]:List ByteArray)) 0 dC aU aV fC fK)=some r:=H
 have A2:=ae.mk Su
 clear Su
 obtain ⟨abH,Gj⟩:∃ y_:List ByteArray,y_=(([t127]:List ByteArray)):=⟨_,rfl⟩
 replace H:(bu.l0 k t128 abH 0 dC aU aV fC fK)=some r:=by first|(rw [Gj];with_reducible exact H)|(have uo:=(Option.bind_some _ _).symm.trans H;rw [Gj];with_reducible exact uo)|(have uo:=(Option.bind_some _ _).symm.trans H;with_reducible exact uo)|with_reducible exact H|(rw [Gj];exact H)|exact H
 have Y5:=ae.mk Gj
 clear Gj
 have H':=ae.mk H
 clear H
 go_enter Tryd.func47,Tryd.ntmps47
 go_wp2_with (first|((with_reducible refine bI (N:=1) rfl ?_);refine fF ?hg (N:=1) ?hd (cs:=#[.int .u8 dC,.int .u8 aU,.int .u8 aV,.int .u8 fC,.int .i64 fK]) (t:=55) ?hr ?_;(case hd=>rfl);(case hg=>rfl);(case hr=>first|(go_simp;done)|(go_simp;rfl));intro uO hg w3 hbox hb;have dV:=ae.mk (bn (by repeat (first|(with_reducible first|exact HB.out|apply ah|apply ag|apply ai)|exact HB.out)) hb);have dU:=ae.mk (hbox);have dR:=ae.mk ((by rw [hg];exact (bU (by repeat (first|(with_reducible first|exact HB.out|apply ah|apply ag|apply ai)|exact HB.out))):w.heap.size≤uO));have gZ:=dR;clear HB;have HB:=dV;have jo:=dU;have apU:=dR;have x9:=gZ;clear dV dU dR gZ;clear hb hbox hg;obtain ⟨Qv,Qu,Qs,Qr,aak,Qm,Ql,Qk,Qj,aag⟩:=jZ jo.out)|((with_reducible refine bz (f:=45) rfl ?_);refine dS (some 10) rfl rfl Tryd.func45 (by kernel_rfl) rfl #[.int .u8 dC] rfl (by (try simp only [List.map_toArray,List.map_cons,List.map_nil]);first|done|rfl|(simp only [List.length_drop,List.length_take];rfl)) ?_;(with_reducible refine (fG.calls dC t127 t128 _ A2.out).mono ?_);rintro e w' ⟨rfl,⟨nd,rfl⟩⟩;refine ⟨_,rfl,?_⟩)|((with_reducible refine bI (N:=14) rfl ?_);refine Kd.uu Kd.string _ 9 ?hg (N:=14) ?hd (xs:=([t127]:List ByteArray)) (inner:=[.string t127]) (ok:=fun _=>True) (oQ:=fun _=>True) ?hr ?hp (fun _ hk=>hk) trivial (Below.refl _ _) (Nat.le_refl _) (by simp) ?_;(case hd=>rfl);(case hg=>rfl);(case hr=>first|(go_simp;done)|(go_simp;rfl));(case hp=>exact (jA.one (show Kd.M Kd.string _ _ _ t127 [.string t127] from rfl) (jA.none _ _)));intro v130 w5 ho6 hb BX oG;clear BX oG;(first|rw [← Y5.out] at ho6|(simp only [Int.reduceToNat] at ho6;rw [← Y5.out] at ho6));have dV:=ae.mk (Kd.jS ho6 (bU (by repeat (first|(with_reducible first|exact HB.out|apply ah|apply ag|apply ai|refine aj ?_ x9.out)|exact HB.out))));have dU:=ae.mk (bg (g:=uO) (o:=.cells #[.int .u8 dC,.int .u8 aU,.int .u8 aV,.int .u8 fC,.int .i64 fK] 55 (0,0)) (by (with_reducible repeat (first|refine au ?_ _|refine ay ?_|refine ak ?_ _));exact jo.out) hb);have dR:=ae.mk (bn (by repeat (first|(with_reducible first|exact HB.out|apply ah|apply ag|apply ai|refine aj ?_ x9.out)|exact HB.out)) hb);clear jo;clear HB;have ae4:=dV;have jo:=dU;have HB:=dR;clear dV dU dR;clear hb ho6))
 go_loopg [5,6] k (fun kq v5 v6 w'=>∃ (jm:List ByteArray) (uB:Int),v6=.int .i64 uB∧ae (bu.l0 kq t128 jm uB dC aU aV fC fK=some r)∧ae (kq≤k)∧ae (Kd.R Kd.string 9 w' w.heap.size (fun _=>True) v5 jm)∧ae (w'.heap[uO]? = some (.cells #[.int .u8 dC,.int .u8 aU,.int .u8 aV,.int .u8 fC,.int .i64 fK] 55 (0,0)))∧ae (Below w.heap.size w w'))
 case atStart=>exact ⟨(abH),(0),(by first|rfl|(simp;done)|(simp [*];done)),H',⟨Nat.le_refl _⟩,⟨by (with_reducible repeat (first|apply Kd.iJ|apply Kd.iI|apply Kd.jk));exact ae4.out⟩,⟨by (with_reducible repeat (first|refine au ?_ _|refine ay ?_|refine ak ?_ _));exact jo.out⟩,⟨by repeat (first|(with_reducible first|exact HB.out|apply ah|apply ag|apply ai|refine aj ?_ x9.out)|exact HB.out)⟩⟩
 case round =>
  clear H'
  obtain ⟨jm,uB,rfl,HA,qO,xY,jo,HB⟩:=hrel
  cases gk with
  | zero=>exact absurd HA.out (by simp [bu.l0])
  | succ k1 =>
   have H:=HA.out
   clear HA
   simp only [bu.l0] at H
   by_cases c7:uB < (t128.size:Int)
   ·
    rw [if_pos c7] at H
    have oM:decide (uB < (t128.size:Int))=true:=decide_eq_true c7
    clear c7
    by_cases c8:0≤uB
    ·
     rw [if_pos c8] at H
     have pM:decide (0≤uB)=true:=decide_eq_true c8
     clear c8
     replace H:=Option.bind_eq_some_iff.mp H
     obtain ⟨t132,Cm,H⟩:=H
     replace H:((jh.f t132 10).bind fun t133=>(if jm.length < 8796093022208 then (bu.l0 k1 t128 (jm++[t133]) (wrap64 (uB+1)) dC aU aV fC fK) else (none)))=some r:=H
     have Zh:=ae.mk Cm
     clear Cm
     replace H:=Option.bind_eq_some_iff.mp H
     obtain ⟨t133,afW,H⟩:=H
     replace H:(if jm.length < 8796093022208 then (bu.l0 k1 t128 (jm++[t133]) (wrap64 (uB+1)) dC aU aV fC fK) else (none))=some r:=H
     have A11:=ae.mk afW
     clear afW
     by_cases c12:jm.length < 8796093022208
     ·
      rw [if_pos c12] at H
      have aeT:=ae.mk c12
      clear c12
      obtain ⟨abG,Gh⟩:∃ y_:List ByteArray,y_=(jm++[t133]):=⟨_,rfl⟩
      replace H:(bu.l0 k1 t128 abG (wrap64 (uB+1)) dC aU aV fC fK)=some r:=by first|(rw [Gh];with_reducible exact H)|(have uo:=(Option.bind_some _ _).symm.trans H;rw [Gh];with_reducible exact uo)|(have uo:=(Option.bind_some _ _).symm.trans H;with_reducible exact uo)|with_reducible exact H|(rw [Gh];exact H)|exact H
      have aeS:=ae.mk Gh
      clear Gh
      have H':=ae.mk H
      clear H
      try go_wp2
      have dV:=ae.mk (Kd.jk xY.out)
      have dU:=ae.mk (ay jo.out)
      have dR:=ae.mk (ai HB.out)
      clear xY
      clear jo
      clear HB
      have xY:=dV
      have jo:=dU
      have HB:=dR
      clear dV dU dR
      have p9:0≤(uB:Int):=of_decide_eq_true (by first|(with_reducible assumption)|assumption)
      have q9:uB < (t128.size:Int):=of_decide_eq_true (by first|(with_reducible assumption)|assumption)
      have hx9:=kR t128 uB
      replace p9:=eq_true p9
      replace q9:=eq_true q9
      refine rf (n:=10) (S:=fun w'=>w'.cell? ⟨uO,0,none⟩=some (.int .u8 dC)∧w'.cell? ⟨uO,1,none⟩=some (.int .u8 aU)∧w'.cell? ⟨uO,2,none⟩=some (.int .u8 aV)∧w'.cell? ⟨uO,3,none⟩=some (.int .u8 fC)∧w'.cell? ⟨uO,4,none⟩=some (.int .i64 fK)) (ds:=[]) #[false,false,false,false,false,false,false,false,false,false] (by kernel_rfl) rfl rfl ⟨(ax jo.out 0).trans rfl,(ax jo.out 1).trans rfl,(ax jo.out 2).trans rfl,(ax jo.out 3).trans rfl,(ax jo.out 4).trans rfl⟩ (fun hHeld=>?_);refine qV bu.tab6 bu.aeD (fun lL Cf=>?_)
      generalize wr.drew=Zm at xY jo HB hHeld ⊢
      refine iy (i:=0) (N:=some 21) (v:=?_) (a':=?_) #[true,false,false,false,false,false,false,false,false,false] rfl rfl (iO lL.out (by kernel_rfl)) (fun _ _ _ h=>h) (Or.inl ⟨by rfl,?_⟩) ?_ ?_
      rotate_left
      ·
       intro w'
       go_simp
       with_reducible rfl
      rotate_left
      ·
       simp only [Act.put,List.setIfInBounds_toArray,List.set_cons_zero,List.set_cons_succ,bW,cu]
       rfl
      refine iy (i:=2) (N:=some 23) (v:=?_) (a':=?_) #[true,false,true,false,false,false,false,false,false,false] rfl rfl (iO lL.out (by kernel_rfl)) (fun _ _ _ h=>h) (Or.inl ⟨by rfl,?_⟩) ?_ ?_
      rotate_left
      ·
       intro w'
       go_simp
       with_reducible rfl
      rotate_left
      ·
       simp only [Act.put,List.setIfInBounds_toArray,List.set_cons_zero,List.set_cons_succ,bW,cu]
       rfl
      refine iy (i:=3) (N:=some 24) (v:=?_) (a':=?_) #[true,false,true,true,false,false,false,false,false,false] rfl rfl (iO lL.out (by kernel_rfl)) (fun _ _ _ h=>h) (Or.inl ⟨by rfl,?_⟩) ?_ ?_
      rotate_left
      ·
       intro w'
       go_simp
       with_reducible rfl
      rotate_left
      ·
       simp only [Act.put,List.setIfInBounds_toArray,List.set_cons_zero,List.set_cons_succ,bW,cu]
       rfl
      refine kU (i:=1) (N:=some 22) (v:=?_) (a':=?_) #[true,true,true,true,false,false,false,false,false,false] rfl rfl (kQ lL.out Cf.out (by kernel_rfl)) (fun _ _ _ h=>h) (Or.inl ⟨by rfl,?_⟩) hHeld ?_ ?_
      rotate_left
      ·
       rintro w' ⟨s0,s1,s2,s3,s4⟩
       go_simp
       with_reducible rfl
      rotate_left
      ·
       simp only [Act.put,List.setIfInBounds_toArray,List.set_cons_zero,List.set_cons_succ,bW,cu]
       rfl
      refine kU (i:=4) (N:=some 25) (v:=?_) (a':=?_) #[true,true,true,true,true,false,false,false,false,false] rfl rfl (kQ lL.out Cf.out (by kernel_rfl)) (fun _ _ _ h=>h) (Or.inl ⟨by rfl,?_⟩) hHeld ?_ ?_
      rotate_left
      ·
       rintro w' ⟨s0,s1,s2,s3,s4⟩
       go_simp
       with_reducible rfl
      rotate_left
      ·
       simp only [Act.put,List.setIfInBounds_toArray,List.set_cons_zero,List.set_cons_succ,bW,cu]
       rfl
      refine o6 (i:=5) (N:=some 26) #[true,true,true,true,true,true,false,false,false,false] rfl rfl (nJ lL.out (by kernel_rfl)) (by decide) (fun K hK=>?_)
      refine qy Tryd.func67 (by kernel_rfl) rfl #[.agg #[.int .u8 dC,.int .u8 aU,.int .u8 aV,.int .u8 fC,.int .i64 fK],.int .u8 (bt t128 uB)] (by rfl) rfl rfl (by (try simp only [List.map_toArray,List.map_cons,List.map_nil]);first|done|rfl|(simp only [List.length_drop,List.length_take];rfl)) ?_
      with_reducible refine (jF.calls dC aU aV fC fK (bt t128 uB) t132 _ Zh.out).mono ?_
      rintro e w14 ⟨rfl,hb⟩
      refine ⟨_,rfl,?_⟩
      have dV:=ae.mk (Kd.kF (by (with_reducible repeat (first|apply Kd.iJ|apply Kd.iI|apply Kd.jk));exact xY.out) hb)
      have dU:=ae.mk (bg (g:=uO) (o:=.cells #[.int .u8 dC,.int .u8 aU,.int .u8 aV,.int .u8 fC,.int .i64 fK] 55 (0,0)) (by (with_reducible repeat (first|refine au ?_ _|refine ay ?_|refine ak ?_ _));exact jo.out) hb)
      have dR:=ae.mk (bn (by repeat (first|(with_reducible first|exact HB.out|apply ah|apply ag|apply ai|refine aj ?_ x9.out)|exact HB.out)) hb)
      clear xY
      clear jo
      clear HB
      have xY:=dV
      have jo:=dU
      have HB:=dR
      clear dV dU dR
      (try clear hb)
      (try clear hb2)
      (try clear hk)
      (try clear hi)
      refine hK.out _ _ ⟨(ax jo.out 0).trans rfl,(ax jo.out 1).trans rfl,(ax jo.out 2).trans rfl,(ax jo.out 3).trans rfl,(ax jo.out 4).trans rfl⟩ (fun hHeld=>?_)
      clear hK K
      refine ji (a':=?_) ?_ ?_
      rotate_left
      ·
       show Act.put _ (some 26) _=_
       simp only [Act.put,List.setIfInBounds_toArray,List.set_cons_zero,List.set_cons_succ,bW,cu]
       rfl
      refine o6 (i:=6) (N:=some 27) #[true,true,true,true,true,true,true,false,false,false] rfl rfl (nJ lL.out (by kernel_rfl)) (by decide) (fun K hK=>?_)
      refine qy Tryd.func66 (by kernel_rfl) rfl #[.int .i64 t132,.int .i64 10] (by rfl) rfl rfl (by (try simp only [List.map_toArray,List.map_cons,List.map_nil]);first|done|rfl|(simp only [List.length_drop,List.length_take];rfl)) ?_
      with_reducible refine (jh.calls t132 10 t133 _ ?bZ A11.out).mono ?_
      (case bZ=>repeat (first|exact (Kd.bJ yT.out HB.out)|(with_reducible refine Kd.bP ?_ _)|(with_reducible refine Kd.bQ ?_ _)|(with_reducible refine Kd.dD ?_)))
      rintro e w15 ⟨rfl,hb⟩
      refine ⟨_,rfl,?_⟩
      have dV:=ae.mk (Kd.kF (by (with_reducible repeat (first|apply Kd.iJ|apply Kd.iI|apply Kd.jk));exact xY.out) hb)
      have dU:=ae.mk (bg (g:=uO) (o:=.cells #[.int .u8 dC,.int .u8 aU,.int .u8 aV,.int .u8 fC,.int .i64 fK] 55 (0,0)) (by (with_reducible repeat (first|refine au ?_ _|refine ay ?_|refine ak ?_ _));exact jo.out) hb)
      have dR:=ae.mk (bn (by repeat (first|(with_reducible first|exact HB.out|apply ah|apply ag|apply ai|refine aj ?_ x9.out)|exact HB.out)) hb)
      clear xY
      clear jo
      clear HB
      have xY:=dV
      have jo:=dU
      have HB:=dR
      clear dV dU dR
      (try clear hb)
      (try clear hb2)
      (try clear hk)
      (try clear hi)
      refine hK.out _ _ ⟨(ax jo.out 0).trans rfl,(ax jo.out 1).trans rfl,(ax jo.out 2).trans rfl,(ax jo.out 3).trans rfl,(ax jo.out 4).trans rfl⟩ (fun hHeld=>?_)
      clear hK K
      refine ji (a':=?_) ?_ ?_
      rotate_left
      ·
       show Act.put _ (some 27) _=_
       simp only [Act.put,List.setIfInBounds_toArray,List.set_cons_zero,List.set_cons_succ,bW,cu]
       rfl
      refine o6 (i:=7) (N:=some 28) #[true,true,true,true,true,true,true,true,false,false] rfl rfl (nJ lL.out (by kernel_rfl)) (by decide) (fun K hK=>?_)
      refine tZ (w1:=?_) (v:=?_) (by rfl) rfl ?_ ?_
      rotate_left 2
      ·
       go_simp
       constructor
       ·
        rfl
       ·
        rfl
      refine hK.out _ _ ⟨(ax (ak jo.out _) 0).trans rfl,(ax (ak jo.out _) 1).trans rfl,(ax (ak jo.out _) 2).trans rfl,(ax (ak jo.out _) 3).trans rfl,(ax (ak jo.out _) 4).trans rfl⟩ (fun hHeld=>?_)
      clear hK K
      refine ji (a':=?_) ?_ ?_
      rotate_left
      ·
       show Act.put _ (some 28) _=_
       simp only [Act.put,List.setIfInBounds_toArray,List.set_cons_zero,List.set_cons_succ,bW,cu]
       rfl
      refine o6 (i:=8) (N:=some 29) #[true,true,true,true,true,true,true,true,true,false] rfl rfl (nJ lL.out (by kernel_rfl)) (by decide) (fun K hK=>?_)
      refine Kd.rY Kd.string (w0:=w) w.heap.size (by rfl) (.tmp 21) (.tmp 28) 22 9 (.string ⟨#[]⟩) 16 rfl Tryd.underlying22 info9 rfl (by decide) (by omega) u5 jm t133 [.string t133] (fun _=>True) (fun _=>False) rfl rfl ?aP (fun _ hk=>hk.elim) ?aF ?aO ?aB ?aS ?aL ?_
      (case aP=>exact rfl)
      (case aB=>exact (by repeat (first|(with_reducible first|exact HB.out|apply ah|apply ag|apply ai|refine aj ?_ x9.out)|exact HB.out)))
      (case aF=>exact (fun _ _=>trivial))
      (case aO=>exact (by (with_reducible repeat (first|apply Kd.iJ|apply Kd.iI|apply Kd.jk));exact xY.out))
      (case aS=>exact (bU (by repeat (first|(with_reducible first|exact HB.out|apply ah|apply ag|apply ai|refine aj ?_ x9.out)|exact HB.out))))
      (case aL=>have:=aeT.out;omega)
      intro aqs w16 ho hb hg hat
      rw [← aeS.out] at ho
      have dV:=ae.mk (DF (g:=uO) (o:=.cells #[.int .u8 dC,.int .u8 aU,.int .u8 aV,.int .u8 fC,.int .i64 fK] 55 (0,0)) (by (with_reducible repeat (first|refine au ?_ _|refine ay ?_|refine ak ?_ _));exact jo.out) hg (Kd.aeQ xY.out jo.out (by decide)))
      have dU:=ae.mk (hb)
      have dR:=ae.mk (ho)
      clear jo
      clear HB
      clear xY
      have jo:=dV
      have HB:=dU
      have ae3:=dR
      clear dV dU dR
      clear ho hb hg hat
      refine hK.out _ _ ⟨(ax jo.out 0).trans rfl,(ax jo.out 1).trans rfl,(ax jo.out 2).trans rfl,(ax jo.out 3).trans rfl,(ax jo.out 4).trans rfl⟩ (fun hHeld=>?_)
      clear hK K
      refine ji (a':=?_) ?_ ?_
      rotate_left
      ·
       show Act.put _ (some 29) _=_
       simp only [Act.put,List.setIfInBounds_toArray,List.set_cons_zero,List.set_cons_succ,bW,cu]
       rfl
      refine iy (i:=9) (N:=some 5) (v:=?_) (a':=?_) #[true,true,true,true,true,true,true,true,true,true] rfl rfl (iO lL.out (by kernel_rfl)) (fun _ _ _ h=>h) (Or.inl ⟨by rfl,?_⟩) ?_ ?_
      rotate_left
      ·
       intro w'
       go_simp
       with_reducible rfl
      rotate_left
      ·
       simp only [Act.put,List.setIfInBounds_toArray,List.set_cons_zero,List.set_cons_succ,bW,cu]
       rfl
      refine uQ (wB lL.out (by kernel_rfl)) ?_
      try go_wp2
      go_roundg k1
      case measure=>have:=qO.out;omega
      case rel=>exact ⟨(abG),(wrap64 (uB+1)),(by first|rfl|(simp;done)|(simp [*];done)),H',⟨by have:=qO.out;omega⟩,⟨by (with_reducible repeat (first|apply Kd.iJ|apply Kd.iI|apply Kd.jk));exact ae3.out⟩,⟨by (with_reducible repeat (first|refine au ?_ _|refine ay ?_|refine ak ?_ _));exact jo.out⟩,⟨by repeat (first|(with_reducible first|exact HB.out|apply ah|apply ag|apply ai|refine aj ?_ x9.out)|exact HB.out)⟩⟩
     ·
      rw [if_neg c12] at H
      exact absurd H (by simp)
    ·
     rw [if_neg c8] at H
     exact absurd H (by simp)
   ·
    rw [if_neg c7] at H
    have oM:decide (uB < (t128.size:Int))=false:=decide_eq_false c7
    clear c7
    obtain rfl:=Option.some.inj H
    go_wp2
    go_ret
    exact ⟨_,by first|rfl|(simp [aQ,aN] <;> rfl)|(simp [*,aQ,aN] <;> rfl),by (with_reducible repeat (first|apply Kd.iJ|apply Kd.iI|apply Kd.jk));exact xY.out,by repeat (first|(with_reducible first|exact HB.out|apply ah|apply ag|apply ai|refine aj ?_ x9.out)|exact HB.out)⟩
def dX.f (k:Nat) (dC:Int) (aU:Int) (aV:Int) (fC:Int) (fK:Int):Option (Bool):=(fG.f dC).bind fun Rl=>(if Rl.1.toList=([]:List UInt8) then (some false) else ((bu.f k dC aU aV fC fK).bind fun t140=>((aJ.f k t140).bind fun kM=>(if kM.2.2.2.2.2=true then (some (kM.1 == dC && (kM.2.1 == aU && (kM.2.2.1 == aV && (kM.2.2.2.1 == fC && (kM.2.2.2.2.1 == fK)))))) else (some false)))))
theorem dX.mono:∀ a0 a1 a2 a3 a4 k,dO (dX.f k a0 a1 a2 a3 a4) (dX.f (k+1) a0 a1 a2 a3 a4):=by
 intro a0 a1 a2 a3 a4 k
 unfold dX.f
 repeat' with_reducible first|apply bu.mono|apply aJ.mono|exact dO.refl _|exact dO.none _|refine dO.ite ?_ ?_|refine dO.bind ?_ (fun _=>?_)
set_option maxHeartbeats 8000000 in
set_option maxRecDepth 100000 in
theorem dX.calls (k:Nat) (dC:Int) (aU:Int) (aV:Int) (fC:Int) (fK:Int) (r:Bool) (w:World) (lQ:Kd.C wM w wO oz.length oz) (h:dX.f k dC aU aV fC fK=some r) :
  Calls Tryd.prog 28 #[.agg #[.int .u8 dC,.int .u8 aU,.int .u8 aV,.int .u8 fC,.int .i64 fK]] w fun e w'=>e=.returned (.bool r)∧Below w.heap.size w w':=by
 have BV:=Tryd.underlying55
 have yT:=ae.mk lQ
 clear lQ
 have HB:=ae.mk (Below.refl w.heap.size w)
 have H:((fG.f dC).bind fun Rl=>(if Rl.1.toList=([]:List UInt8) then (some false) else ((bu.f k dC aU aV fC fK).bind fun t140=>((aJ.f k t140).bind fun kM=>(if kM.2.2.2.2.2=true then (some (kM.1 == dC && (kM.2.1 == aU && (kM.2.2.1 == aV && (kM.2.2.2.1 == fC && (kM.2.2.2.2.1 == fK)))))) else (some false))))))=some r:=h
 clear h
 replace H:=Option.bind_eq_some_iff.mp H
 obtain ⟨⟨t138,t139⟩,Su,H⟩:=H
 replace H:(if t138.toList=([]:List UInt8) then (some false) else ((bu.f k dC aU aV fC fK).bind fun t140=>((aJ.f k t140).bind fun kM=>(if kM.2.2.2.2.2=true then (some (kM.1 == dC && (kM.2.1 == aU && (kM.2.2.1 == aV && (kM.2.2.2.1 == fC && (kM.2.2.2.2.1 == fK)))))) else (some false)))))=some r:=H
 have A2:=ae.mk Su
 clear Su
 by_cases c3:t138.toList=([]:List UInt8)
 ·
  rw [if_pos c3] at H
  have ou:(t138.toList == ([]:List UInt8))=true:=beq_iff_eq.mpr c3
  have zi:(t138.toList != ([]:List UInt8))=false:=bne_eq_false_iff_eq.mpr c3
  clear c3
  obtain rfl:=Option.some.inj H
  go_enter Tryd.func28,Tryd.ntmps28
  go_wp2_with (first|((with_reducible refine bI (N:=1) rfl ?_);refine fF ?hg (N:=1) ?hd (cs:=#[.int .u8 dC,.int .u8 aU,.int .u8 aV,.int .u8 fC,.int .i64 fK]) (t:=55) ?hr ?_;(case hd=>rfl);(case hg=>rfl);(case hr=>first|(go_simp;done)|(go_simp;rfl));intro lX hg w4 hbox hb;have dV:=ae.mk (bn (by repeat (first|(with_reducible first|exact HB.out|apply ah|apply ag|apply ai)|exact HB.out)) hb);have dU:=ae.mk (hbox);have dR:=ae.mk ((by rw [hg];exact (bU (by repeat (first|(with_reducible first|exact HB.out|apply ah|apply ag|apply ai)|exact HB.out))):w.heap.size≤lX));have gZ:=dR;clear HB;have HB:=dV;have jC:=dU;have Zd:=dR;have qC:=gZ;clear dV dU dR gZ;clear hb hbox hg;obtain ⟨Be,Bd,Bc,Ba,aaj,AZ,AY,AX,AQ,aaf⟩:=jZ jC.out)|((with_reducible refine bz (f:=45) rfl ?_);refine dS (some 10) rfl rfl Tryd.func45 (by kernel_rfl) rfl #[.int .u8 dC] rfl (by (try simp only [List.map_toArray,List.map_cons,List.map_nil]);first|done|rfl|(simp only [List.length_drop,List.length_take];rfl)) ?_;(with_reducible refine (fG.calls dC t138 t139 _ A2.out).mono ?_);rintro e w' ⟨rfl,⟨nd,rfl⟩⟩;refine ⟨_,rfl,?_⟩))
  go_ret
  exact ⟨by first|rfl|(simp [aQ,aN] <;> rfl)|(simp [*,aQ,aN] <;> rfl),by repeat (first|(with_reducible first|exact HB.out|apply ah|apply ag|apply ai|refine aj ?_ qC.out)|exact HB.out)⟩
 ·
  rw [if_neg c3] at H
  have ou:(t138.toList == ([]:List UInt8))=false:=beq_eq_false_iff_ne.mpr c3
  have zi:(t138.toList != ([]:List UInt8))=true:=bne_iff_ne.mpr c3
  replace H:=Option.bind_eq_some_iff.mp H
  obtain ⟨t140,Nw,H⟩:=H
  replace H:((aJ.f k t140).bind fun kM=>(if kM.2.2.2.2.2=true then (some (kM.1 == dC && (kM.2.1 == aU && (kM.2.2.1 == aV && (kM.2.2.2.1 == fC && (kM.2.2.2.2.1 == fK)))))) else (some false)))=some r:=H
  have A6:=ae.mk Nw
  clear Nw
  replace H:=Option.bind_eq_some_iff.mp H
  obtain ⟨⟨t143,t144,t145,t146,t147,t148⟩,A70,H⟩:=H
  replace H:(if t148=true then (some (t143 == dC && (t144 == aU && (t145 == aV && (t146 == fC && (t147 == fK)))))) else (some false))=some r:=H
  have A7:=ae.mk A70
  clear A70
  by_cases c8:t148=true
  ·
   subst c8
   have H1:(some (t143 == dC && (t144 == aU && (t145 == aV && (t146 == fC && (t147 == fK))))))=some r:=by rw [if_pos rfl] at H;exact H
   clear H
   have H:=H1
   clear H1
   obtain rfl:=Option.some.inj H
   go_enter Tryd.func28,Tryd.ntmps28
   go_wp2_with (first|((with_reducible refine bI (N:=1) rfl ?_);refine fF ?hg (N:=1) ?hd (cs:=#[.int .u8 dC,.int .u8 aU,.int .u8 aV,.int .u8 fC,.int .i64 fK]) (t:=55) ?hr ?_;(case hd=>rfl);(case hg=>rfl);(case hr=>first|(go_simp;done)|(go_simp;rfl));intro lX hg w9 hbox hb;have dV:=ae.mk (bn (by repeat (first|(with_reducible first|exact HB.out|apply ah|apply ag|apply ai)|exact HB.out)) hb);have dU:=ae.mk (hbox);have dR:=ae.mk ((by rw [hg];exact (bU (by repeat (first|(with_reducible first|exact HB.out|apply ah|apply ag|apply ai)|exact HB.out))):w.heap.size≤lX));have gZ:=dR;clear HB;have HB:=dV;have jC:=dU;have Zd:=dR;have qC:=gZ;clear dV dU dR gZ;clear hb hbox hg;obtain ⟨xM,xK,xJ,xI,XC,xH,xG,xE,xC,VM⟩:=jZ jC.out)|((with_reducible refine bz (f:=45) rfl ?_);refine dS (some 10) rfl rfl Tryd.func45 (by kernel_rfl) rfl #[.int .u8 dC] rfl (by (try simp only [List.map_toArray,List.map_cons,List.map_nil]);first|done|rfl|(simp only [List.length_drop,List.length_take];rfl)) ?_;(with_reducible refine (fG.calls dC t138 t139 _ A2.out).mono ?_);rintro e w' ⟨rfl,⟨nd,rfl⟩⟩;refine ⟨_,rfl,?_⟩;(try (rw [rE w9];generalize BK:World.drewN w9 _=w9;have dV:ae (w9.heap[lX]? = some (.cells #[.int .u8 dC,.int .u8 aU,.int .u8 aV,.int .u8 fC,.int .i64 fK] 55 (0,0))):=⟨by rw [← BK];exact (by (with_reducible repeat (first|refine au ?_ _|refine ay ?_|refine ak ?_ _));exact jC.out)⟩;have dU:ae (Below w.heap.size w w9):=⟨by rw [← BK];exact (by repeat (first|(with_reducible first|exact HB.out|apply ah|apply ag|apply ai|refine aj ?_ qC.out)|exact HB.out))⟩;clear jC HB BK;have jC:=dV;have HB:=dU;clear dV dU;have QA:w9.cell? ⟨lX,0,none⟩=some (.int .u8 dC):=(ax jC.out 0).trans rfl;have Qz:w9.cell? ⟨lX,1,none⟩=some (.int .u8 aU):=(ax jC.out 1).trans rfl;have Qy:w9.cell? ⟨lX,2,none⟩=some (.int .u8 aV):=(ax jC.out 2).trans rfl;have Qx:w9.cell? ⟨lX,3,none⟩=some (.int .u8 fC):=(ax jC.out 3).trans rfl;have Qw:w9.cell? ⟨lX,4,none⟩=some (.int .i64 fK):=(ax jC.out 4).trans rfl)))|((with_reducible refine bz (f:=47) rfl ?_);refine dS (some 17) rfl rfl Tryd.func47 (by kernel_rfl) rfl #[.agg #[.int .u8 dC,.int .u8 aU,.int .u8 aV,.int .u8 fC,.int .i64 fK]] rfl (by (try simp only [List.map_toArray,List.map_cons,List.map_nil]);first|done|rfl|(simp only [List.length_drop,List.length_take];rfl)) ?_;(with_reducible refine (bu.calls k dC aU aV fC fK t140 _ ?bZ A6.out).mono ?_);(case bZ=>repeat (first|exact (Kd.bJ yT.out HB.out)|(with_reducible refine Kd.bP ?_ _)|(with_reducible refine Kd.bQ ?_ _)|(with_reducible refine Kd.dD ?_)));rintro e w11 ⟨v141,rfl,ho0,hb⟩;refine ⟨_,rfl,?_⟩;have dV:=ae.mk (Kd.jS ho0 (bU (by repeat (first|(with_reducible first|exact HB.out|apply ah|apply ag|apply ai|refine aj ?_ qC.out)|exact HB.out))));have dU:=ae.mk (bg (g:=lX) (o:=.cells #[.int .u8 dC,.int .u8 aU,.int .u8 aV,.int .u8 fC,.int .i64 fK] 55 (0,0)) (by (with_reducible repeat (first|refine au ?_ _|refine ay ?_|refine ak ?_ _));exact jC.out) hb);have dR:=ae.mk (bn (by repeat (first|(with_reducible first|exact HB.out|apply ah|apply ag|apply ai|refine aj ?_ qC.out)|exact HB.out)) hb);clear jC;clear HB;have lF:=dV;have jC:=dU;have HB:=dR;clear dV dU dR;(try clear hb);(try clear hb2);(try clear hk);(try clear hi);(try clear ho0);obtain ⟨anG,ani,amX⟩:=Kd.jR lF.out;subst amX)|((with_reducible refine bz (f:=46) rfl ?_);refine dS (some 18) rfl rfl Tryd.func46 (by kernel_rfl) rfl #[.slice anG t140.length ani] rfl (by (try simp only [List.map_toArray,List.map_cons,List.map_nil]);first|done|rfl|(simp only [List.length_drop,List.length_take];rfl)) ?_;(with_reducible refine (aJ.calls k _ _ t140 t143 t144 t145 t146 t147 true _ ?bZ ?dh A7.out).mono ?_);(case bZ=>repeat (first|exact (Kd.dW lF.out).2.2|(with_reducible refine Kd.bP ?_ _)|(with_reducible refine Kd.bQ ?_ _)|(with_reducible refine Kd.dD ?_)));(case dh=>exact (Kd.dW lF.out).2.1);rintro e Zm ⟨rfl,hb⟩;refine ⟨_,rfl,?_⟩;have dV:=ae.mk (Kd.kF (by (with_reducible repeat (first|apply Kd.iJ|apply Kd.iI|apply Kd.jk));exact lF.out) hb);have dU:=ae.mk (bg (g:=lX) (o:=.cells #[.int .u8 dC,.int .u8 aU,.int .u8 aV,.int .u8 fC,.int .i64 fK] 55 (0,0)) (by (with_reducible repeat (first|refine au ?_ _|refine ay ?_|refine ak ?_ _));exact jC.out) hb);have dR:=ae.mk (bn (by repeat (first|(with_reducible first|exact HB.out|apply ah|apply ag|apply ai|refine aj ?_ qC.out)|exact HB.out)) hb);clear lF;clear jC;clear HB;have lF:=dV;have jC:=dU;have HB:=dR;clear dV dU dR;(try clear hb);(try clear hb2);(try clear hk);(try clear hi))|((with_reducible refine bI (N:=5) rfl ?_);refine fF ?hg (N:=5) ?hd (cs:=#[.int .u8 0,.int .u8 0,.int .u8 0,.int .u8 0,.int .i64 0]) (t:=55) ?hr ?_;(case hd=>rfl);(case hg=>rfl);(case hr=>first|(go_simp;done)|(go_simp;rfl));intro Gu hg w14 hbox hb;have dV:=ae.mk (Kd.kF (by (with_reducible repeat (first|apply Kd.iJ|apply Kd.iI|apply Kd.jk));exact lF.out) hb);have dU:=ae.mk (bg (g:=lX) (o:=.cells #[.int .u8 dC,.int .u8 aU,.int .u8 aV,.int .u8 fC,.int .i64 fK] 55 (0,0)) (by (with_reducible repeat (first|refine au ?_ _|refine ay ?_|refine ak ?_ _));exact jC.out) hb);have dR:=ae.mk (bn (by repeat (first|(with_reducible first|exact HB.out|apply ah|apply ag|apply ai|refine aj ?_ qC.out)|exact HB.out)) hb);have gZ:=ae.mk (hbox);have l9:=ae.mk ((by rw [hg];exact (bU (by repeat (first|(with_reducible first|exact HB.out|apply ah|apply ag|apply ai|refine aj ?_ qC.out)|exact HB.out))):w.heap.size≤Gu));have mY:=l9;have nY:=ae.mk ((by rw [hg];exact Nat.ne_of_lt (kK (g:=lX) (o:=.cells #[.int .u8 dC,.int .u8 aU,.int .u8 aV,.int .u8 fC,.int .i64 fK] 55 (0,0)) (by (with_reducible repeat (first|refine au ?_ _|refine ay ?_|refine ak ?_ _));exact jC.out)):lX ≠ Gu));have wV:=ae.mk nY.out.symm;clear lF;clear jC;clear HB;have lF:=dV;have jC:=dU;have HB:=dR;have Sm:=gZ;have aff:=l9;have Sj:=mY;have yG:=nY;have yF:=wV;clear dV dU dR gZ l9 mY nY wV;clear hb hbox hg;have acD:=yF.out;have acs:=yG.out;obtain ⟨EH,EG,EF,EE,MF,Eu,Et,Es,Ep,La⟩:=jZ Sm.out;obtain ⟨MC,Me,Md,Mc,Xq,KZ,KY,KX,KW,VB⟩:=jZ jC.out))
   go_ret
   exact ⟨by first|rfl|(simp [aQ,aN] <;> rfl)|(simp [*,aQ,aN] <;> rfl),by repeat (first|(with_reducible first|exact HB.out|apply ah|apply ag|apply ai|refine aj ?_ qC.out|refine aj ?_ Sj.out)|exact HB.out)⟩
  ·
   replace c8:=Bool.eq_false_iff.mpr c8
   subst c8
   have H1:(some false)=some r:=by rw [if_neg (show ¬ (false=true) by decide)] at H;exact H
   clear H
   have H:=H1
   clear H1
   obtain rfl:=Option.some.inj H
   go_enter Tryd.func28,Tryd.ntmps28
   go_wp2_with (first|((with_reducible refine bI (N:=1) rfl ?_);refine fF ?hg (N:=1) ?hd (cs:=#[.int .u8 dC,.int .u8 aU,.int .u8 aV,.int .u8 fC,.int .i64 fK]) (t:=55) ?hr ?_;(case hd=>rfl);(case hg=>rfl);(case hr=>first|(go_simp;done)|(go_simp;rfl));intro lX hg SB hbox hb;have dV:=ae.mk (bn (by repeat (first|(with_reducible first|exact HB.out|apply ah|apply ag|apply ai)|exact HB.out)) hb);have dU:=ae.mk (hbox);have dR:=ae.mk ((by rw [hg];exact (bU (by repeat (first|(with_reducible first|exact HB.out|apply ah|apply ag|apply ai)|exact HB.out))):w.heap.size≤lX));have gZ:=dR;clear HB;have HB:=dV;have jC:=dU;have Zd:=dR;have qC:=gZ;clear dV dU dR gZ;clear hb hbox hg;obtain ⟨alx,alv,alu,als,alr,ajf,aje,ajd,ajc,ajb⟩:=jZ jC.out)|((with_reducible refine bz (f:=45) rfl ?_);refine dS (some 10) rfl rfl Tryd.func45 (by kernel_rfl) rfl #[.int .u8 dC] rfl (by (try simp only [List.map_toArray,List.map_cons,List.map_nil]);first|done|rfl|(simp only [List.length_drop,List.length_take];rfl)) ?_;(with_reducible refine (fG.calls dC t138 t139 _ A2.out).mono ?_);rintro e w' ⟨rfl,⟨nd,rfl⟩⟩;refine ⟨_,rfl,?_⟩;(try (rw [rE SB];generalize BK:World.drewN SB _=SB;have dV:ae (SB.heap[lX]? = some (.cells #[.int .u8 dC,.int .u8 aU,.int .u8 aV,.int .u8 fC,.int .i64 fK] 55 (0,0))):=⟨by rw [← BK];exact (by (with_reducible repeat (first|refine au ?_ _|refine ay ?_|refine ak ?_ _));exact jC.out)⟩;have dU:ae (Below w.heap.size w SB):=⟨by rw [← BK];exact (by repeat (first|(with_reducible first|exact HB.out|apply ah|apply ag|apply ai|refine aj ?_ qC.out)|exact HB.out))⟩;clear jC HB BK;have jC:=dV;have HB:=dU;clear dV dU;have QA:SB.cell? ⟨lX,0,none⟩=some (.int .u8 dC):=(ax jC.out 0).trans rfl;have Qz:SB.cell? ⟨lX,1,none⟩=some (.int .u8 aU):=(ax jC.out 1).trans rfl;have Qy:SB.cell? ⟨lX,2,none⟩=some (.int .u8 aV):=(ax jC.out 2).trans rfl;have Qx:SB.cell? ⟨lX,3,none⟩=some (.int .u8 fC):=(ax jC.out 3).trans rfl;have Qw:SB.cell? ⟨lX,4,none⟩=some (.int .i64 fK):=(ax jC.out 4).trans rfl)))|((with_reducible refine bz (f:=47) rfl ?_);refine dS (some 17) rfl rfl Tryd.func47 (by kernel_rfl) rfl #[.agg #[.int .u8 dC,.int .u8 aU,.int .u8 aV,.int .u8 fC,.int .i64 fK]] rfl (by (try simp only [List.map_toArray,List.map_cons,List.map_nil]);first|done|rfl|(simp only [List.length_drop,List.length_take];rfl)) ?_;(with_reducible refine (bu.calls k dC aU aV fC fK t140 _ ?bZ A6.out).mono ?_);(case bZ=>repeat (first|exact (Kd.bJ yT.out HB.out)|(with_reducible refine Kd.bP ?_ _)|(with_reducible refine Kd.bQ ?_ _)|(with_reducible refine Kd.dD ?_)));rintro e w20 ⟨v141,rfl,ho0,hb⟩;refine ⟨_,rfl,?_⟩;have dV:=ae.mk (Kd.jS ho0 (bU (by repeat (first|(with_reducible first|exact HB.out|apply ah|apply ag|apply ai|refine aj ?_ qC.out)|exact HB.out))));have dU:=ae.mk (bg (g:=lX) (o:=.cells #[.int .u8 dC,.int .u8 aU,.int .u8 aV,.int .u8 fC,.int .i64 fK] 55 (0,0)) (by (with_reducible repeat (first|refine au ?_ _|refine ay ?_|refine ak ?_ _));exact jC.out) hb);have dR:=ae.mk (bn (by repeat (first|(with_reducible first|exact HB.out|apply ah|apply ag|apply ai|refine aj ?_ qC.out)|exact HB.out)) hb);clear jC;clear HB;have lF:=dV;have jC:=dU;have HB:=dR;clear dV dU dR;(try clear hb);(try clear hb2);(try clear hk);(try clear hi);(try clear ho0);obtain ⟨abj,aaF,aaq⟩:=Kd.jR lF.out;subst aaq)|((with_reducible refine bz (f:=46) rfl ?_);refine dS (some 18) rfl rfl Tryd.func46 (by kernel_rfl) rfl #[.slice abj t140.length aaF] rfl (by (try simp only [List.map_toArray,List.map_cons,List.map_nil]);first|done|rfl|(simp only [List.length_drop,List.length_take];rfl)) ?_;(with_reducible refine (aJ.calls k _ _ t140 t143 t144 t145 t146 t147 false _ ?bZ ?dh A7.out).mono ?_);(case bZ=>repeat (first|exact (Kd.dW lF.out).2.2|(with_reducible refine Kd.bP ?_ _)|(with_reducible refine Kd.bQ ?_ _)|(with_reducible refine Kd.dD ?_)));(case dh=>exact (Kd.dW lF.out).2.1);rintro e Zl ⟨rfl,hb⟩;refine ⟨_,rfl,?_⟩;have dV:=ae.mk (Kd.kF (by (with_reducible repeat (first|apply Kd.iJ|apply Kd.iI|apply Kd.jk));exact lF.out) hb);have dU:=ae.mk (bg (g:=lX) (o:=.cells #[.int .u8 dC,.int .u8 aU,.int .u8 aV,.int .u8 fC,.int .i64 fK] 55 (0,0)) (by (with_reducible repeat (first|refine au ?_ _|refine ay ?_|refine ak ?_ _));exact jC.out) hb);have dR:=ae.mk (bn (by repeat (first|(with_reducible first|exact HB.out|apply ah|apply ag|apply ai|refine aj ?_ qC.out)|exact HB.out)) hb);clear lF;clear jC;clear HB;have lF:=dV;have jC:=dU;have HB:=dR;clear dV dU dR;(try clear hb);(try clear hb2);(try clear hk);(try clear hi))|((with_reducible refine bI (N:=5) rfl ?_);refine fF ?hg (N:=5) ?hd (cs:=#[.int .u8 0,.int .u8 0,.int .u8 0,.int .u8 0,.int .i64 0]) (t:=55) ?hr ?_;(case hd=>rfl);(case hg=>rfl);(case hr=>first|(go_simp;done)|(go_simp;rfl));intro Gu hg w23 hbox hb;have dV:=ae.mk (Kd.kF (by (with_reducible repeat (first|apply Kd.iJ|apply Kd.iI|apply Kd.jk));exact lF.out) hb);have dU:=ae.mk (bg (g:=lX) (o:=.cells #[.int .u8 dC,.int .u8 aU,.int .u8 aV,.int .u8 fC,.int .i64 fK] 55 (0,0)) (by (with_reducible repeat (first|refine au ?_ _|refine ay ?_|refine ak ?_ _));exact jC.out) hb);have dR:=ae.mk (bn (by repeat (first|(with_reducible first|exact HB.out|apply ah|apply ag|apply ai|refine aj ?_ qC.out)|exact HB.out)) hb);have gZ:=ae.mk (hbox);have l9:=ae.mk ((by rw [hg];exact (bU (by repeat (first|(with_reducible first|exact HB.out|apply ah|apply ag|apply ai|refine aj ?_ qC.out)|exact HB.out))):w.heap.size≤Gu));have mY:=l9;have nY:=ae.mk ((by rw [hg];exact Nat.ne_of_lt (kK (g:=lX) (o:=.cells #[.int .u8 dC,.int .u8 aU,.int .u8 aV,.int .u8 fC,.int .i64 fK] 55 (0,0)) (by (with_reducible repeat (first|refine au ?_ _|refine ay ?_|refine ak ?_ _));exact jC.out)):lX ≠ Gu));have wV:=ae.mk nY.out.symm;clear lF;clear jC;clear HB;have lF:=dV;have jC:=dU;have HB:=dR;have Sm:=gZ;have aff:=l9;have Sj:=mY;have yG:=nY;have yF:=wV;clear dV dU dR gZ l9 mY nY wV;clear hb hbox hg;have Yw:=yF.out;have Yu:=yG.out;obtain ⟨zM,zL,zK,zJ,ED,zD,zC,zB,zA,Eo⟩:=jZ Sm.out))
   go_ret
   exact ⟨by first|rfl|(simp [aQ,aN] <;> rfl)|(simp [*,aQ,aN] <;> rfl),by repeat (first|(with_reducible first|exact HB.out|apply ah|apply ag|apply ai|refine aj ?_ qC.out|refine aj ?_ Sj.out)|exact HB.out)⟩
def bH.j0:Nat→Int→Bool→Int→Int→Int→Int→Int→Option (Bool)
 | 0,_,_,_,_,_,_,_=>none
 | k+1,x4,x5,afZ,Jw,Jv,Td,afY=>if x5=true then (some (decide (Jw < 8))) else (if x4=2 then (if Jw < 8 then (if Jv < 8 then (some (decide (Td < 8))) else (some false)) else (some false)) else (if x4=9 then (some (decide (Jv < 8))) else (some true)))
def bH.f (k:Nat) (dC:Int) (aU:Int) (aV:Int) (fC:Int) (fK:Int):Option (Bool):=if dC=1 then (bH.j0 k dC (dC == 1) dC aU aV fC fK) else (if dC=4 then (bH.j0 k dC (dC == 4) dC aU aV fC fK) else (if dC=8 then (bH.j0 k dC (dC == 8) dC aU aV fC fK) else (if dC=14 then (bH.j0 k dC (dC == 14) dC aU aV fC fK) else (bH.j0 k dC (dC == 15) dC aU aV fC fK))))
theorem bH.iD:∀ k,(∀ y0 y1 y2 y3 y4 y5 y6,dO (bH.j0 k y0 y1 y2 y3 y4 y5 y6) (bH.j0 (k+1) y0 y1 y2 y3 y4 y5 y6))
 | 0=>fun _ _ _ _ _ _ _ r h=>by simp [bH.j0] at h
 | k+1=>by
  have lS:=bH.iD k
  ·
   intro y0 y1 y2 y3 y4 y5 y6
   unfold bH.j0
   repeat' with_reducible first|apply lS|exact dO.refl _|exact dO.none _|refine dO.ite ?_ ?_|refine dO.bind ?_ (fun _=>?_)
theorem bH.mono:∀ a0 a1 a2 a3 a4 k,dO (bH.f k a0 a1 a2 a3 a4) (bH.f (k+1) a0 a1 a2 a3 a4):=by
 intro a0 a1 a2 a3 a4 k
 have lS:=bH.iD k
 unfold bH.f
 repeat' with_reducible first|apply lS|exact dO.refl _|exact dO.none _|refine dO.ite ?_ ?_|refine dO.bind ?_ (fun _=>?_)
set_option maxHeartbeats 8000000 in
set_option maxRecDepth 100000 in
theorem bH.calls (k:Nat) (dC:Int) (aU:Int) (aV:Int) (fC:Int) (fK:Int) (r:Bool) (w:World) (h:bH.f k dC aU aV fC fK=some r) :
  Calls Tryd.prog 29 #[.agg #[.int .u8 dC,.int .u8 aU,.int .u8 aV,.int .u8 fC,.int .i64 fK]] w fun e w'=>e=.returned (.bool r)∧Below w.heap.size w w':=by
 have BV:=Tryd.underlying55
 have HB:=ae.mk (Below.refl w.heap.size w)
 have H:(if dC=1 then (bH.j0 k dC (dC == 1) dC aU aV fC fK) else (if dC=4 then (bH.j0 k dC (dC == 4) dC aU aV fC fK) else (if dC=8 then (bH.j0 k dC (dC == 8) dC aU aV fC fK) else (if dC=14 then (bH.j0 k dC (dC == 14) dC aU aV fC fK) else (bH.j0 k dC (dC == 15) dC aU aV fC fK)))))=some r:=h
 clear h
 have HC2:=ae.mk H
 clear H
 go_enter Tryd.func29,Tryd.ntmps29
 go_upto_if 5 with (first|((with_reducible refine bI (N:=1) rfl ?_);refine fF ?hg (N:=1) ?hd (cs:=#[.int .u8 dC,.int .u8 aU,.int .u8 aV,.int .u8 fC,.int .i64 fK]) (t:=55) ?hr ?_;(case hd=>rfl);(case hg=>rfl);(case hr=>first|(go_simp;done)|(go_simp;rfl));intro YV hg w3 hbox hb;have dV:=ae.mk (bn (by repeat (first|(with_reducible first|exact HB.out|apply ah|apply ag|apply ai)|exact HB.out)) hb);have dU:=ae.mk (hbox);have dR:=ae.mk ((by rw [hg];exact (bU (by repeat (first|(with_reducible first|exact HB.out|apply ah|apply ag|apply ai)|exact HB.out))):w.heap.size≤YV));have gZ:=dR;clear HB;have HB:=dV;have uy:=dU;have apT:=dR;have uZ:=gZ;clear dV dU dR gZ;clear hb hbox hg;obtain ⟨Qv,Qu,Qs,Qr,aak,Qm,Ql,Qk,Qj,aag⟩:=jZ uy.out))
 (try simp only [Act.put,List.setIfInBounds_toArray,List.set_cons_zero,List.set_cons_succ])
 go_cut [5] (fun v5 wc=>∃ (kq:Nat) (jm:Bool),v5=.bool jm∧ae (bH.j0 kq dC jm dC aU aV fC fK=some r)∧ae (kq≤k)∧ae (wc.heap[YV]? = some (.cells #[.int .u8 dC,.int .u8 aU,.int .u8 aV,.int .u8 fC,.int .i64 fK] 55 (0,0)))∧ae (Below w.heap.size w wc))
 case first =>
  have H:=HC2.out
  clear HC2
  by_cases c5:dC=1
  ·
   rw [if_pos c5] at H
   have rG:(dC == 1)=true:=beq_iff_eq.mpr c5
   have OM:(dC != 1)=false:=bne_eq_false_iff_eq.mpr c5
   clear c5
   (first|rw [rG]|(simp only [bW,cu];rw [rG])|skip)
   have H':=ae.mk H
   clear H
   go_wp2
   go_meet
   case rel=>exact ⟨_,((dC == 1)),(by first|rfl|(simp;done)|(simp [*];done)),H',⟨by first|omega|exact Nat.le_refl _⟩,⟨by (with_reducible repeat (first|refine au ?_ _|refine ay ?_|refine ak ?_ _));exact uy.out⟩,⟨by repeat (first|(with_reducible first|exact HB.out|apply ah|apply ag|apply ai|refine aj ?_ uZ.out)|exact HB.out)⟩⟩
  ·
   rw [if_neg c5] at H
   have rG:(dC == 1)=false:=beq_eq_false_iff_ne.mpr c5
   have OM:(dC != 1)=true:=bne_iff_ne.mpr c5
   (first|rw [rG]|(simp only [bW,cu];rw [rG])|skip)
   by_cases c6:dC=4
   ·
    rw [if_pos c6] at H
    have oH:(dC == 4)=true:=beq_iff_eq.mpr c6
    have yC:(dC != 4)=false:=bne_eq_false_iff_eq.mpr c6
    clear c6
    have H':=ae.mk H
    clear H
    go_wp2
    go_meet
    case rel=>exact ⟨_,((dC == 4)),(by first|rfl|(simp;done)|(simp [*];done)),H',⟨by first|omega|exact Nat.le_refl _⟩,⟨by (with_reducible repeat (first|refine au ?_ _|refine ay ?_|refine ak ?_ _));exact uy.out⟩,⟨by repeat (first|(with_reducible first|exact HB.out|apply ah|apply ag|apply ai|refine aj ?_ uZ.out)|exact HB.out)⟩⟩
   ·
    rw [if_neg c6] at H
    have oH:(dC == 4)=false:=beq_eq_false_iff_ne.mpr c6
    have yC:(dC != 4)=true:=bne_iff_ne.mpr c6
    by_cases c7:dC=8
    ·
     rw [if_pos c7] at H
     have oM:(dC == 8)=true:=beq_iff_eq.mpr c7
     have xR:(dC != 8)=false:=bne_eq_false_iff_eq.mpr c7
     clear c7
     have H':=ae.mk H
     clear H
     go_wp2
     go_meet
     case rel=>exact ⟨_,((dC == 8)),(by first|rfl|(simp;done)|(simp [*];done)),H',⟨by first|omega|exact Nat.le_refl _⟩,⟨by (with_reducible repeat (first|refine au ?_ _|refine ay ?_|refine ak ?_ _));exact uy.out⟩,⟨by repeat (first|(with_reducible first|exact HB.out|apply ah|apply ag|apply ai|refine aj ?_ uZ.out)|exact HB.out)⟩⟩
    ·
     rw [if_neg c7] at H
     have oM:(dC == 8)=false:=beq_eq_false_iff_ne.mpr c7
     have xR:(dC != 8)=true:=bne_iff_ne.mpr c7
     by_cases c8:dC=14
     ·
      rw [if_pos c8] at H
      have pM:(dC == 14)=true:=beq_iff_eq.mpr c8
      have zh:(dC != 14)=false:=bne_eq_false_iff_eq.mpr c8
      clear c8
      have H':=ae.mk H
      clear H
      go_wp2
      go_meet
      case rel=>exact ⟨_,((dC == 14)),(by first|rfl|(simp;done)|(simp [*];done)),H',⟨by first|omega|exact Nat.le_refl _⟩,⟨by (with_reducible repeat (first|refine au ?_ _|refine ay ?_|refine ak ?_ _));exact uy.out⟩,⟨by repeat (first|(with_reducible first|exact HB.out|apply ah|apply ag|apply ai|refine aj ?_ uZ.out)|exact HB.out)⟩⟩
     ·
      rw [if_neg c8] at H
      have pM:(dC == 14)=false:=beq_eq_false_iff_ne.mpr c8
      have zh:(dC != 14)=true:=bne_iff_ne.mpr c8
      have H':=ae.mk H
      clear H
      go_wp2
      go_meet
      case rel=>exact ⟨_,((dC == 15)),(by first|rfl|(simp;done)|(simp [*];done)),H',⟨by first|omega|exact Nat.le_refl _⟩,⟨by (with_reducible repeat (first|refine au ?_ _|refine ay ?_|refine ak ?_ _));exact uy.out⟩,⟨by repeat (first|(with_reducible first|exact HB.out|apply ah|apply ag|apply ai|refine aj ?_ uZ.out)|exact HB.out)⟩⟩
 case rest =>
  clear HC2
  obtain ⟨kq,jm,rfl,HA,yH,uy,HB⟩:=hcut
  cases kq with
  | zero=>exact absurd HA.out (by simp [bH.j0])
  | succ OV =>
   have H:=HA.out
   clear HA
   simp only [bH.j0] at H
   by_cases c9:jm=true
   ·
    subst c9
    have H1:(some (decide (aU < 8)))=some r:=by rw [if_pos rfl] at H;exact H
    clear H
    have H:=H1
    clear H1
    obtain rfl:=Option.some.inj H
    obtain ⟨xM,xK,xJ,xI,XC,xH,xG,xE,xC,VM⟩:=jZ uy.out
    go_wp2
    go_ret
    exact ⟨by first|rfl|(simp [aQ,aN] <;> rfl)|(simp [*,aQ,aN] <;> rfl),by repeat (first|(with_reducible first|exact HB.out|apply ah|apply ag|apply ai|refine aj ?_ uZ.out)|exact HB.out)⟩
   ·
    replace c9:=Bool.eq_false_iff.mpr c9
    subst c9
    have H1:(if dC=2 then (if aU < 8 then (if aV < 8 then (some (decide (fC < 8))) else (some false)) else (some false)) else (if dC=9 then (some (decide (aV < 8))) else (some true)))=some r:=by rw [if_neg (show ¬ (false=true) by decide)] at H;exact H
    clear H
    have H:=H1
    clear H1
    by_cases c11:dC=2
    ·
     rw [if_pos c11] at H
     have uU:(dC == 2)=true:=beq_iff_eq.mpr c11
     have DD:(dC != 2)=false:=bne_eq_false_iff_eq.mpr c11
     clear c11
     by_cases c12:aU < 8
     ·
      rw [if_pos c12] at H
      have wY:decide (aU < 8)=true:=decide_eq_true c12
      clear c12
      by_cases c13:aV < 8
      ·
       rw [if_pos c13] at H
       have mQ:decide (aV < 8)=true:=decide_eq_true c13
       clear c13
       obtain rfl:=Option.some.inj H
       obtain ⟨Xz,Xy,Xx,Xw,alz,VJ,VI,VH,VG,ajh⟩:=jZ uy.out
       go_wp2
       go_ret
       exact ⟨by first|rfl|(simp [aQ,aN] <;> rfl)|(simp [*,aQ,aN] <;> rfl),by repeat (first|(with_reducible first|exact HB.out|apply ah|apply ag|apply ai|refine aj ?_ uZ.out)|exact HB.out)⟩
      ·
       rw [if_neg c13] at H
       have mQ:decide (aV < 8)=false:=decide_eq_false c13
       clear c13
       obtain rfl:=Option.some.inj H
       obtain ⟨Xv,Xu,Xt,Xr,aly,VF,VE,VD,VC,ajg⟩:=jZ uy.out
       go_wp2
       go_ret
       exact ⟨by first|rfl|(simp [aQ,aN] <;> rfl)|(simp [*,aQ,aN] <;> rfl),by repeat (first|(with_reducible first|exact HB.out|apply ah|apply ag|apply ai|refine aj ?_ uZ.out)|exact HB.out)⟩
     ·
      rw [if_neg c12] at H
      have wY:decide (aU < 8)=false:=decide_eq_false c12
      clear c12
      obtain rfl:=Option.some.inj H
      obtain ⟨EH,EG,EF,EE,MF,Eu,Et,Es,Ep,La⟩:=jZ uy.out
      go_wp2
      go_ret
      exact ⟨by first|rfl|(simp [aQ,aN] <;> rfl)|(simp [*,aQ,aN] <;> rfl),by repeat (first|(with_reducible first|exact HB.out|apply ah|apply ag|apply ai|refine aj ?_ uZ.out)|exact HB.out)⟩
    ·
     rw [if_neg c11] at H
     have uU:(dC == 2)=false:=beq_eq_false_iff_ne.mpr c11
     have DD:(dC != 2)=true:=bne_iff_ne.mpr c11
     by_cases c17:dC=9
     ·
      rw [if_pos c17] at H
      have yQ:(dC == 9)=true:=beq_iff_eq.mpr c17
      have GU:(dC != 9)=false:=bne_eq_false_iff_eq.mpr c17
      clear c17
      obtain rfl:=Option.some.inj H
      obtain ⟨L9,L8,L6,LZ,Xp,KU,KT,KR,KQ,VA⟩:=jZ uy.out
      go_wp2
      go_ret
      exact ⟨by first|rfl|(simp [aQ,aN] <;> rfl)|(simp [*,aQ,aN] <;> rfl),by repeat (first|(with_reducible first|exact HB.out|apply ah|apply ag|apply ai|refine aj ?_ uZ.out)|exact HB.out)⟩
     ·
      rw [if_neg c17] at H
      have yQ:(dC == 9)=false:=beq_eq_false_iff_ne.mpr c17
      have GU:(dC != 9)=true:=bne_iff_ne.mpr c17
      obtain rfl:=Option.some.inj H
      go_wp2
      go_ret
      exact ⟨by first|rfl|(simp [aQ,aN] <;> rfl)|(simp [*,aQ,aN] <;> rfl),by repeat (first|(with_reducible first|exact HB.out|apply ah|apply ag|apply ai|refine aj ?_ uZ.out)|exact HB.out)⟩
def fO.f (k:Nat) (l0:List ByteArray) (a1:ByteArray) (a2:Int):Option (Int):=if (wrap64 (a2)) ≥ (a1.size:Int) then (some (-1)) else (if 0≤(wrap64 (a2)) then (if (wrap64 (a2))≤(wrap64 ((wrap64 (a2))+1)) then (if (wrap64 ((wrap64 (a2))+1))≤(a1.size:Int) then ((aX.f k l0 (a1.extract ((wrap64 (a2)):Int).toNat ((wrap64 ((wrap64 (a2))+1)):Int).toNat)).bind fun t151=>(if t151=true then (if 0≤a2 then (if a2 < (a1.size:Int) then (some (((bt a1 a2) - 48) % 256)) else (none)) else (none)) else (some (-1)))) else (none)) else (none)) else (none))
theorem fO.mono:∀ a0 a1 a2 k,dO (fO.f k a0 a1 a2) (fO.f (k+1) a0 a1 a2):=by
 intro a0 a1 a2 k
 unfold fO.f
 repeat' with_reducible first|apply aX.mono|exact dO.refl _|exact dO.none _|refine dO.ite ?_ ?_|refine dO.bind ?_ (fun _=>?_)
set_option maxHeartbeats 8000000 in
set_option maxRecDepth 100000 in
theorem fO.calls (k:Nat) (A0:Option Addr) (c0:Nat) (l0:List ByteArray) (a1:ByteArray) (a2:Int) (r:Int) (w:World) (hr0:Kd.C Kd.string w A0 l0.length l0) (hc0:l0.length≤c0) (h:fO.f k l0 a1 a2=some r) :
  Calls Tryd.prog 31 #[.slice A0 l0.length c0,.string a1,.int .u8 a2] w fun e w'=>e=.returned (.int .i64 r)∧aT w w':=by
 have HR0:=ae.mk hr0
 have sZ:=ae.mk hc0
 clear hr0 hc0
 have H:(if (wrap64 (a2)) ≥ (a1.size:Int) then (some (-1)) else (if 0≤(wrap64 (a2)) then (if (wrap64 (a2))≤(wrap64 ((wrap64 (a2))+1)) then (if (wrap64 ((wrap64 (a2))+1))≤(a1.size:Int) then ((aX.f k l0 (a1.extract ((wrap64 (a2)):Int).toNat ((wrap64 ((wrap64 (a2))+1)):Int).toNat)).bind fun t151=>(if t151=true then (if 0≤a2 then (if a2 < (a1.size:Int) then (some (((bt a1 a2) - 48) % 256)) else (none)) else (none)) else (some (-1)))) else (none)) else (none)) else (none)))=some r:=h
 clear h
 by_cases c4:(wrap64 (a2)) ≥ (a1.size:Int)
 ·
  rw [if_pos c4] at H
  have oq:decide ((a1.size:Int)≤(wrap64 (a2)))=true:=decide_eq_true c4
  clear c4
  obtain rfl:=Option.some.inj H
  go_enter Tryd.func31,Tryd.ntmps31
  go_wp2
  go_ret
  exact ⟨by first|rfl|(simp;done)|(simp [*];done),by repeat (first|exact aT.refl _|apply aT.step)⟩
 ·
  rw [if_neg c4] at H
  have oq:decide ((a1.size:Int)≤(wrap64 (a2)))=false:=decide_eq_false c4
  clear c4
  obtain ⟨ug,yA⟩:∃ j_:Int,(wrap64 (a2))=j_:=⟨_,rfl⟩
  replace H:(if 0≤(ug) then (if (ug)≤(wrap64 ((ug)+1)) then (if (wrap64 ((ug)+1))≤(a1.size:Int) then ((aX.f k l0 (a1.extract ((ug):Int).toNat ((wrap64 ((ug)+1)):Int).toNat)).bind fun t151=>(if t151=true then (if 0≤a2 then (if a2 < (a1.size:Int) then (some (((bt a1 a2) - 48) % 256)) else (none)) else (none)) else (some (-1)))) else (none)) else (none)) else (none))=some r:=by first|(rw [yA] at H;exact H)|(simp only [yA] at H ⊢;exact H)
  (try rw [yA] at oq)
  have acI:(IntKind.i64.wrap (a2))=ug:=(bW _).trans yA
  by_cases c6:0≤(ug)
  ·
   rw [if_pos c6] at H
   have oH:=eq_true c6
   have yC:decide (0≤(ug))=true:=decide_eq_true c6
   clear c6
   by_cases c7:(ug)≤(wrap64 ((ug)+1))
   ·
    rw [if_pos c7] at H
    have oM:=eq_true c7
    have xR:decide ((ug)≤(wrap64 ((ug)+1)))=true:=decide_eq_true c7
    by_cases c8:(wrap64 ((ug)+1))≤(a1.size:Int)
    ·
     rw [if_pos c8] at H
     have pM:=eq_true c8
     have zh:decide ((wrap64 ((ug)+1))≤(a1.size:Int))=true:=decide_eq_true c8
     replace H:=Option.bind_eq_some_iff.mp H
     obtain ⟨t151,OT,H⟩:=H
     replace H:(if t151=true then (if 0≤a2 then (if a2 < (a1.size:Int) then (some (((bt a1 a2) - 48) % 256)) else (none)) else (none)) else (some (-1)))=some r:=H
     have A9:=ae.mk OT
     clear OT
     by_cases c10:t151=true
     ·
      subst c10
      have H1:(if 0≤a2 then (if a2 < (a1.size:Int) then (some (((bt a1 a2) - 48) % 256)) else (none)) else (none))=some r:=by rw [if_pos rfl] at H;exact H
      clear H
      have H:=H1
      clear H1
      by_cases c11:0≤a2
      ·
       rw [if_pos c11] at H
       have uU:decide (0≤a2)=true:=decide_eq_true c11
       clear c11
       by_cases c12:a2 < (a1.size:Int)
       ·
        rw [if_pos c12] at H
        have wY:decide (a2 < (a1.size:Int))=true:=decide_eq_true c12
        clear c12
        obtain rfl:=Option.some.inj H
        go_enter Tryd.func31,Tryd.ntmps31
        go_wp2_with (first|(go_at_call 27;(with_reducible refine (aX.calls k _ _ l0 (a1.extract ((ug):Int).toNat ((wrap64 ((ug)+1)):Int).toNat) true _ ?bZ ?dh A9.out).mono ?_);(case bZ=>repeat (first|exact HR0.out|(with_reducible refine Kd.bP ?_ _)|(with_reducible refine Kd.bQ ?_ _)|(with_reducible refine Kd.dD ?_)));(case dh=>exact sZ.out);rintro e w' ⟨rfl,⟨nd,rfl⟩⟩;have p13:0≤(a2:Int):=of_decide_eq_true (by first|(with_reducible assumption)|assumption);have q13:a2 < (a1.size:Int):=of_decide_eq_true (by first|(with_reducible assumption)|assumption);have Uf:=kR a1 a2;replace p13:=eq_true p13;replace q13:=eq_true q13))
        go_ret
        exact ⟨by first|rfl|(simp;done)|(simp only [← yA] <;> (first|rfl|simp))|(simp [*];done),by repeat (first|exact aT.refl _|apply aT.step)⟩
       ·
        rw [if_neg c12] at H
        exact absurd H (by simp)
      ·
       rw [if_neg c11] at H
       exact absurd H (by simp)
     ·
      replace c10:=Bool.eq_false_iff.mpr c10
      subst c10
      have H1:(some (-1))=some r:=by rw [if_neg (show ¬ (false=true) by decide)] at H;exact H
      clear H
      have H:=H1
      clear H1
      obtain rfl:=Option.some.inj H
      go_enter Tryd.func31,Tryd.ntmps31
      go_wp2_with (first|(go_at_call 27;(with_reducible refine (aX.calls k _ _ l0 (a1.extract ((ug):Int).toNat ((wrap64 ((ug)+1)):Int).toNat) false _ ?bZ ?dh A9.out).mono ?_);(case bZ=>repeat (first|exact HR0.out|(with_reducible refine Kd.bP ?_ _)|(with_reducible refine Kd.bQ ?_ _)|(with_reducible refine Kd.dD ?_)));(case dh=>exact sZ.out);rintro e w' ⟨rfl,⟨nd,rfl⟩⟩))
      go_ret
      exact ⟨by first|rfl|(simp;done)|(simp only [← yA] <;> (first|rfl|simp))|(simp [*];done),by repeat (first|exact aT.refl _|apply aT.step)⟩
    ·
     rw [if_neg c8] at H
     exact absurd H (by simp)
   ·
    rw [if_neg c7] at H
    exact absurd H (by simp)
  ·
   rw [if_neg c6] at H
   exact absurd H (by simp)
def dN.f (k:Nat) (aZ:List ByteArray) (aU:ByteArray) (aV:ByteArray) (aI:List (iw)) (a1:Int):Option (Int):=(fO.f k aZ aU a1).bind fun t153=>(some t153)
theorem dN.mono:∀ a0 a1 a2 a3 a4 k,dO (dN.f k a0 a1 a2 a3 a4) (dN.f (k+1) a0 a1 a2 a3 a4):=by
 intro a0 a1 a2 a3 a4 k
 unfold dN.f
 repeat' with_reducible first|apply fO.mono|exact dO.refl _|exact dO.none _|refine dO.ite ?_ ?_|refine dO.bind ?_ (fun _=>?_)
set_option maxHeartbeats 8000000 in
set_option maxRecDepth 100000 in
theorem dN.calls (k:Nat) (ed:Option Addr) (dZ:Nat) (aZ:List ByteArray) (aU:ByteArray) (aV:ByteArray) (gm:Option Addr) (eU:Nat) (aI:List (iw)) (a1:Int) (r:Int) (w:World) (jO:Kd.C Kd.string w ed aZ.length aZ) (jQ:aZ.length≤dZ) (jM:Kd.C uq w gm aI.length aI) (jP:aI.length≤eU) (h:dN.f k aZ aU aV aI a1=some r) :
  Calls Tryd.prog 19 #[.agg #[.slice ed aZ.length dZ,.string aU,.string aV,.slice gm aI.length eU],.int .u8 a1] w fun e w'=>e=.returned (.int .i64 r)∧Below w.heap.size w w':=by
 have yx:=Tryd.underlying25
 have iH:=ae.mk jO
 have iK:=ae.mk jQ
 clear jO jQ
 have jJ:=ae.mk jM
 have kC:=ae.mk jP
 clear jM jP
 have HB:=ae.mk (Below.refl w.heap.size w)
 have H:((fO.f k aZ aU a1).bind fun t153=>(some t153))=some r:=h
 clear h
 replace H:=Option.bind_eq_some_iff.mp H
 obtain ⟨t153,yc,H⟩:=H
 replace H:(some t153)=some r:=H
 have A3:=ae.mk yc
 clear yc
 obtain rfl:=Option.some.inj H
 go_enter Tryd.func19,Tryd.ntmps19
 go_wp2_with (first|((with_reducible refine bI (N:=2) rfl ?_);refine fF ?hg (N:=2) ?hd (cs:=#[.slice ed aZ.length dZ,.string aU,.string aV,.slice gm aI.length eU]) (t:=25) ?hr ?_;(case hd=>rfl);(case hg=>rfl);(case hr=>first|(go_simp;done)|(go_simp;rfl));intro adA hg w4 hbox hb;have dV:=ae.mk (bn (by repeat (first|(with_reducible first|exact HB.out|apply ah|apply ag|apply ai)|exact HB.out)) hb);have dU:=ae.mk (hbox);have dR:=ae.mk ((by rw [hg];exact (bU (by repeat (first|(with_reducible first|exact HB.out|apply ah|apply ag|apply ai)|exact HB.out))):w.heap.size≤adA));have gZ:=dR;clear HB;have HB:=dV;have afo:=dU;have apS:=dR;have afk:=gZ;clear dV dU dR gZ;clear hb hbox hg;obtain ⟨Be,Bd,Bc,Ba,AZ,AY,AX,AQ⟩:=rJ afo.out)|((with_reducible refine bz (f:=31) rfl ?_);refine dS (some 10) rfl rfl Tryd.func31 (by kernel_rfl) rfl #[.slice ed aZ.length dZ,.string aU,.int .u8 a1] rfl (by (try simp only [List.map_toArray,List.map_cons,List.map_nil]);first|done|rfl|(simp only [List.length_drop,List.length_take];rfl)) ?_;(with_reducible refine (fO.calls k _ _ aZ aU a1 t153 _ ?bZ ?dh A3.out).mono ?_);(case bZ=>repeat (first|exact (Kd.bJ iH.out HB.out)|(with_reducible refine Kd.bP ?_ _)|(with_reducible refine Kd.bQ ?_ _)|(with_reducible refine Kd.dD ?_)));(case dh=>exact iK.out);rintro e w' ⟨rfl,⟨nd,rfl⟩⟩;refine ⟨_,rfl,?_⟩))
 go_ret
 exact ⟨by first|rfl|(simp [aQ,aN] <;> rfl)|(simp [*,aQ,aN] <;> rfl),by repeat (first|(with_reducible first|exact HB.out|apply ah|apply ag|apply ai|refine aj ?_ afk.out)|exact HB.out)⟩
def fP.f (k:Nat) (aZ:List ByteArray) (aU:ByteArray) (aV:ByteArray) (aI:List (iw)) (a1:Int):Option (Int):=(fO.f k aZ aV a1).bind fun t155=>(some t155)
theorem fP.mono:∀ a0 a1 a2 a3 a4 k,dO (fP.f k a0 a1 a2 a3 a4) (fP.f (k+1) a0 a1 a2 a3 a4):=by
 intro a0 a1 a2 a3 a4 k
 unfold fP.f
 repeat' with_reducible first|apply fO.mono|exact dO.refl _|exact dO.none _|refine dO.ite ?_ ?_|refine dO.bind ?_ (fun _=>?_)
set_option maxHeartbeats 8000000 in
set_option maxRecDepth 100000 in
theorem fP.calls (k:Nat) (ed:Option Addr) (dZ:Nat) (aZ:List ByteArray) (aU:ByteArray) (aV:ByteArray) (gm:Option Addr) (eU:Nat) (aI:List (iw)) (a1:Int) (r:Int) (w:World) (jO:Kd.C Kd.string w ed aZ.length aZ) (jQ:aZ.length≤dZ) (jM:Kd.C uq w gm aI.length aI) (jP:aI.length≤eU) (h:fP.f k aZ aU aV aI a1=some r) :
  Calls Tryd.prog 20 #[.agg #[.slice ed aZ.length dZ,.string aU,.string aV,.slice gm aI.length eU],.int .u8 a1] w fun e w'=>e=.returned (.int .i64 r)∧Below w.heap.size w w':=by
 have yx:=Tryd.underlying25
 have iH:=ae.mk jO
 have iK:=ae.mk jQ
 clear jO jQ
 have jJ:=ae.mk jM
 have kC:=ae.mk jP
 clear jM jP
 have HB:=ae.mk (Below.refl w.heap.size w)
 have H:((fO.f k aZ aV a1).bind fun t155=>(some t155))=some r:=h
 clear h
 replace H:=Option.bind_eq_some_iff.mp H
 obtain ⟨t155,yc,H⟩:=H
 replace H:(some t155)=some r:=H
 have A3:=ae.mk yc
 clear yc
 obtain rfl:=Option.some.inj H
 go_enter Tryd.func20,Tryd.ntmps20
 go_wp2_with (first|((with_reducible refine bI (N:=2) rfl ?_);refine fF ?hg (N:=2) ?hd (cs:=#[.slice ed aZ.length dZ,.string aU,.string aV,.slice gm aI.length eU]) (t:=25) ?hr ?_;(case hd=>rfl);(case hg=>rfl);(case hr=>first|(go_simp;done)|(go_simp;rfl));intro adz hg w4 hbox hb;have dV:=ae.mk (bn (by repeat (first|(with_reducible first|exact HB.out|apply ah|apply ag|apply ai)|exact HB.out)) hb);have dU:=ae.mk (hbox);have dR:=ae.mk ((by rw [hg];exact (bU (by repeat (first|(with_reducible first|exact HB.out|apply ah|apply ag|apply ai)|exact HB.out))):w.heap.size≤adz));have gZ:=dR;clear HB;have HB:=dV;have afn:=dU;have apR:=dR;have afj:=gZ;clear dV dU dR gZ;clear hb hbox hg;obtain ⟨Be,Bd,Bc,Ba,AZ,AY,AX,AQ⟩:=rJ afn.out)|((with_reducible refine bz (f:=31) rfl ?_);refine dS (some 10) rfl rfl Tryd.func31 (by kernel_rfl) rfl #[.slice ed aZ.length dZ,.string aV,.int .u8 a1] rfl (by (try simp only [List.map_toArray,List.map_cons,List.map_nil]);first|done|rfl|(simp only [List.length_drop,List.length_take];rfl)) ?_;(with_reducible refine (fO.calls k _ _ aZ aV a1 t155 _ ?bZ ?dh A3.out).mono ?_);(case bZ=>repeat (first|exact (Kd.bJ iH.out HB.out)|(with_reducible refine Kd.bP ?_ _)|(with_reducible refine Kd.bQ ?_ _)|(with_reducible refine Kd.dD ?_)));(case dh=>exact iK.out);rintro e w' ⟨rfl,⟨nd,rfl⟩⟩;refine ⟨_,rfl,?_⟩))
 go_ret
 exact ⟨by first|rfl|(simp [aQ,aN] <;> rfl)|(simp [*,aQ,aN] <;> rfl),by repeat (first|(with_reducible first|exact HB.out|apply ah|apply ag|apply ai|refine aj ?_ afj.out)|exact HB.out)⟩
def dA.f (a0:Int) (a1:Int):Option (Bool):=if a0 ≥ 0 then (some (a0 == a1)) else (some false)
set_option maxHeartbeats 8000000 in
set_option maxRecDepth 100000 in
theorem dA.calls (a0:Int) (a1:Int) (r:Bool) (w:World) (h:dA.f a0 a1=some r) :
  Calls Tryd.prog 48 #[.int .i64 a0,.int .i64 a1] w fun e w'=>e=.returned (.bool r)∧aT w w':=by
 have H:(if a0 ≥ 0 then (some (a0 == a1)) else (some false))=some r:=h
 clear h
 by_cases c3:a0 ≥ 0
 ·
  rw [if_pos c3] at H
  have ou:decide (0≤a0)=true:=decide_eq_true c3
  clear c3
  obtain rfl:=Option.some.inj H
  go_enter Tryd.func48,Tryd.ntmps48
  go_wp2
  go_ret
  exact ⟨by first|rfl|(simp;done)|(simp [*];done),by repeat (first|exact aT.refl _|apply aT.step)⟩
 ·
  rw [if_neg c3] at H
  have ou:decide (0≤a0)=false:=decide_eq_false c3
  clear c3
  obtain rfl:=Option.some.inj H
  go_enter Tryd.func48,Tryd.ntmps48
  go_wp2
  go_ret
  exact ⟨by first|rfl|(simp;done)|(simp [*];done),by repeat (first|exact aT.refl _|apply aT.step)⟩
end Go.Proofs.YtlemecdddhdagaaDoor.P
end
