/- Parts of the proof of ModelSteps: what the functions that it reaches compute, and plain facts about that. -/
import Derived.Test.YtlemecdddhdagaaDoorZab
import Derived.Test.YtlemecdddhdagaaDoorZac
import Derived.Test.YtlemecdddhdagaaDoorZam
import Derived.Test.YtlemecdddhdagaaDoorZao
set_option linter.unusedVariables false
set_option linter.unusedSimpArgs false
section
namespace Go.Proofs.YtlemecdddhdagaaDoor.P
open Go.RowKit Go.Proofs.af.bF Go.Proofs.af.dD Go.Proofs.af.dN
attribute [local go_sem] lF lC mP mO kE kD lD lu
attribute [local go_sem high] aeD
def jM.f (dE:Int) (aV:Int) (aW:Int) (fD:Int) (fM:Int) (a1:Int):Option (Int):=if a1=97 then (some (wrap64 (aV))) else (if a1=98 then (some (wrap64 (aW))) else (if a1=99 then (some (wrap64 (fD))) else (some fM)))
set_option maxHeartbeats 8000000 in
set_option maxRecDepth 100000 in
theorem jM.calls (dE:Int) (aV:Int) (aW:Int) (fD:Int) (fM:Int) (a1:Int) (r:Int) (w:World) (h:jM.f dE aV aW fD fM a1=some r) :
  Calls Tryd.prog 67 #[.agg #[.int .u8 dE,.int .u8 aV,.int .u8 aW,.int .u8 fD,.int .i64 fM],.int .u8 a1] w fun e w'=>e=.returned (.int .i64 r)∧Below w.heap.size w w':=by
 have CW:=Tryd.underlying55
 have HB:=ae.mk (Below.refl w.heap.size w)
 have H:(if a1=97 then (some (wrap64 (aV))) else (if a1=98 then (some (wrap64 (aW))) else (if a1=99 then (some (wrap64 (fD))) else (some fM))))=some r:=h
 clear h
 by_cases c3:a1=97
 ·
  rw [if_pos c3] at H
  have oG:(a1 == 97)=true:=beq_iff_eq.mpr c3
  have zO:(a1 != 97)=false:=bne_eq_false_iff_eq.mpr c3
  clear c3
  obtain rfl:=Option.some.inj H
  go_enter Tryd.func67,Tryd.ntmps67
  go_wp2_with (first|((with_reducible refine bD (N:=2) rfl ?_);refine fG ?hg (N:=2) ?hd (cs:=#[.int .u8 dE,.int .u8 aV,.int .u8 aW,.int .u8 fD,.int .i64 fM]) (t:=55) ?hr ?_;(case hd=>rfl);(case hg=>rfl);(case hr=>first|(go_simp;done)|(go_simp;rfl));intro BQ hg w4 hbox hb;have dX:=ae.mk (bn (by repeat (first|(with_reducible first|exact HB.out|apply ah|apply ag|apply ai)|exact HB.out)) hb);have dW:=ae.mk (hbox);have dU:=ae.mk ((by rw [hg];exact (bY (by repeat (first|(with_reducible first|exact HB.out|apply ah|apply ag|apply ai)|exact HB.out))):w.heap.size≤BQ));have iq:=dU;clear HB;have HB:=dX;have CG:=dW;have SS:=dU;have CB:=iq;clear dX dW dU iq;clear hb hbox hg;obtain ⟨BO,BN,BM,BL,aa7,BK,BJ,BI,BH,aa0⟩:=kF CG.out))
  go_ret
  exact ⟨by first|rfl|(simp [aQ,aN] <;> rfl)|(simp [*,aQ,aN] <;> rfl),by repeat (first|(with_reducible first|exact HB.out|apply ah|apply ag|apply ai|refine aj ?_ CB.out)|exact HB.out)⟩
 ·
  rw [if_neg c3] at H
  have oG:(a1 == 97)=false:=beq_eq_false_iff_ne.mpr c3
  have zO:(a1 != 97)=true:=bne_iff_ne.mpr c3
  by_cases c6:a1=98
  ·
   rw [if_pos c6] at H
   have oK:(a1 == 98)=true:=beq_iff_eq.mpr c6
   have yT:(a1 != 98)=false:=bne_eq_false_iff_eq.mpr c6
   clear c6
   obtain rfl:=Option.some.inj H
   go_enter Tryd.func67,Tryd.ntmps67
   go_wp2_with (first|((with_reducible refine bD (N:=2) rfl ?_);refine fG ?hg (N:=2) ?hd (cs:=#[.int .u8 dE,.int .u8 aV,.int .u8 aW,.int .u8 fD,.int .i64 fM]) (t:=55) ?hr ?_;(case hd=>rfl);(case hg=>rfl);(case hr=>first|(go_simp;done)|(go_simp;rfl));intro BQ hg w7 hbox hb;have dX:=ae.mk (bn (by repeat (first|(with_reducible first|exact HB.out|apply ah|apply ag|apply ai)|exact HB.out)) hb);have dW:=ae.mk (hbox);have dU:=ae.mk ((by rw [hg];exact (bY (by repeat (first|(with_reducible first|exact HB.out|apply ah|apply ag|apply ai)|exact HB.out))):w.heap.size≤BQ));have iq:=dU;clear HB;have HB:=dX;have CG:=dW;have SS:=dU;have CB:=iq;clear dX dW dU iq;clear hb hbox hg;obtain ⟨QI,QH,QG,QF,aa6,Qy,Qx,Qw,Qv,aaZ⟩:=kF CG.out))
   go_ret
   exact ⟨by first|rfl|(simp [aQ,aN] <;> rfl)|(simp [*,aQ,aN] <;> rfl),by repeat (first|(with_reducible first|exact HB.out|apply ah|apply ag|apply ai|refine aj ?_ CB.out)|exact HB.out)⟩
  ·
   rw [if_neg c6] at H
   have oK:(a1 == 98)=false:=beq_eq_false_iff_ne.mpr c6
   have yT:(a1 != 98)=true:=bne_iff_ne.mpr c6
   by_cases c9:a1=99
   ·
    rw [if_pos c9] at H
    have Fz:(a1 == 99)=true:=beq_iff_eq.mpr c9
    have Yx:(a1 != 99)=false:=bne_eq_false_iff_eq.mpr c9
    clear c9
    obtain rfl:=Option.some.inj H
    go_enter Tryd.func67,Tryd.ntmps67
    go_wp2_with (first|((with_reducible refine bD (N:=2) rfl ?_);refine fG ?hg (N:=2) ?hd (cs:=#[.int .u8 dE,.int .u8 aV,.int .u8 aW,.int .u8 fD,.int .i64 fM]) (t:=55) ?hr ?_;(case hd=>rfl);(case hg=>rfl);(case hr=>first|(go_simp;done)|(go_simp;rfl));intro BQ hg w10 hbox hb;have dX:=ae.mk (bn (by repeat (first|(with_reducible first|exact HB.out|apply ah|apply ag|apply ai)|exact HB.out)) hb);have dW:=ae.mk (hbox);have dU:=ae.mk ((by rw [hg];exact (bY (by repeat (first|(with_reducible first|exact HB.out|apply ah|apply ag|apply ai)|exact HB.out))):w.heap.size≤BQ));have iq:=dU;clear HB;have HB:=dX;have CG:=dW;have SS:=dU;have CB:=iq;clear dX dW dU iq;clear hb hbox hg;obtain ⟨Aw,Au,Ar,Aq,X5,Ai,Ah,Ag,Af,Wl⟩:=kF CG.out))
    go_ret
    exact ⟨by first|rfl|(simp [aQ,aN] <;> rfl)|(simp [*,aQ,aN] <;> rfl),by repeat (first|(with_reducible first|exact HB.out|apply ah|apply ag|apply ai|refine aj ?_ CB.out)|exact HB.out)⟩
   ·
    rw [if_neg c9] at H
    have Fz:(a1 == 99)=false:=beq_eq_false_iff_ne.mpr c9
    have Yx:(a1 != 99)=true:=bne_iff_ne.mpr c9
    obtain rfl:=Option.some.inj H
    go_enter Tryd.func67,Tryd.ntmps67
    go_wp2_with (first|((with_reducible refine bD (N:=2) rfl ?_);refine fG ?hg (N:=2) ?hd (cs:=#[.int .u8 dE,.int .u8 aV,.int .u8 aW,.int .u8 fD,.int .i64 fM]) (t:=55) ?hr ?_;(case hd=>rfl);(case hg=>rfl);(case hr=>first|(go_simp;done)|(go_simp;rfl));intro BQ hg w12 hbox hb;have dX:=ae.mk (bn (by repeat (first|(with_reducible first|exact HB.out|apply ah|apply ag|apply ai)|exact HB.out)) hb);have dW:=ae.mk (hbox);have dU:=ae.mk ((by rw [hg];exact (bY (by repeat (first|(with_reducible first|exact HB.out|apply ah|apply ag|apply ai)|exact HB.out))):w.heap.size≤BQ));have iq:=dU;clear HB;have HB:=dX;have CG:=dW;have SS:=dU;have CB:=iq;clear dX dW dU iq;clear hb hbox hg;obtain ⟨amx,amw,amv,amu,ams,akf,ake,akd,akc,akb⟩:=kF CG.out))
    go_ret
    exact ⟨by first|rfl|(simp [aQ,aN] <;> rfl)|(simp [*,aQ,aN] <;> rfl),by repeat (first|(with_reducible first|exact HB.out|apply ah|apply ag|apply ai|refine aj ?_ CB.out)|exact HB.out)⟩
def bu.l0:Nat→ByteArray→List ByteArray→Int→Int→Int→Int→Int→Int→Option (List ByteArray)
 | 0,_,_,_,_,_,_,_,_=>none
 | k+1,x4,x5,x6,JV,JU,JS,JR,JQ=>if x6 < (x4.size:Int) then (if 0≤x6 then ((jM.f JV JU JS JR JQ (bt x4 x6)).bind fun t132=>((jm.f t132 10).bind fun t133=>(if x5.length < 8796093022208 then (bu.l0 k x4 (x5++[t133]) (wrap64 (x6+1)) JV JU JS JR JQ) else (none)))) else (none)) else (some x5)
def bu.f (k:Nat) (dE:Int) (aV:Int) (aW:Int) (fD:Int) (fM:Int):Option (List ByteArray):=(fH.f dE).bind fun Hw=>(bu.l0 k Hw.2 (([Hw.1]:List ByteArray)) 0 dE aV aW fD fM)
theorem bu.iF:∀ k,(∀ y0 y1 y2 y3 y4 y5 y6 y7,dP (bu.l0 k y0 y1 y2 y3 y4 y5 y6 y7) (bu.l0 (k+1) y0 y1 y2 y3 y4 y5 y6 y7))
 | 0=>fun _ _ _ _ _ _ _ _ r h=>by simp [bu.l0] at h
 | k+1=>by
  have lW:=bu.iF k
  ·
   intro y0 y1 y2 y3 y4 y5 y6 y7
   unfold bu.l0
   repeat' with_reducible first|apply lW|exact dP.refl _|exact dP.none _|refine dP.ite ?_ ?_|refine dP.bind ?_ (fun _=>?_)
theorem bu.mono:∀ a0 a1 a2 a3 a4 k,dP (bu.f k a0 a1 a2 a3 a4) (bu.f (k+1) a0 a1 a2 a3 a4):=by
 intro a0 a1 a2 a3 a4 k
 have lW:=bu.iF k
 unfold bu.f
 repeat' with_reducible first|apply lW|exact dP.refl _|exact dP.none _|refine dP.ite ?_ ?_|refine dP.bind ?_ (fun _=>?_)
def bu.T6:Bool × List (List Nat × List Nat):=(true,[([],[]),([],[]),([],[]),([],[]),([2,3],[2,3]),([1,4],[1,4]),([5,5],[5]),([6],[6]),([0,7,6],[0,7]),([8,8,0,1,2,3,4,5,6,7,8],[0,8])])
def bu.B6:List Nat:=[0,0,0,0,12,30,62,126,255,511]
theorem bu.tab6:qM .any (opsOf Tryd.f47 6)=bu.T6:=by kernel_rfl
theorem bu.afz:rZ bu.T6.2 bu.B6=true:=by kernel_rfl
set_option maxHeartbeats 8000000 in
set_option maxRecDepth 100000 in
theorem bu.calls (k:Nat) (dE:Int) (aV:Int) (aW:Int) (fD:Int) (fM:Int) (r:List ByteArray) (w:World) (lM:Kd.C xM w xN o9.length o9) (h:bu.f k dE aV aW fD fM=some r) :
  Calls Tryd.prog 47 #[.agg #[.int .u8 dE,.int .u8 aV,.int .u8 aW,.int .u8 fD,.int .i64 fM]] w fun e w'=>∃ v0_:Value,e=.returned (v0_)∧Kd.R Kd.string 9 w' w.heap.size (fun _=>True) v0_ r∧Below w.heap.size w w':=by
 have CW:=Tryd.underlying55
 have yH:=ae.mk lM
 clear lM
 have HB:=ae.mk (Below.refl w.heap.size w)
 have H:((fH.f dE).bind fun Hw=>(bu.l0 k Hw.2 (([Hw.1]:List ByteArray)) 0 dE aV aW fD fM))=some r:=h
 clear h
 replace H:=Option.bind_eq_some_iff.mp H
 obtain ⟨⟨t127,t128⟩,Tc,H⟩:=H
 replace H:(bu.l0 k t128 (([t127]:List ByteArray)) 0 dE aV aW fD fM)=some r:=H
 have A2:=ae.mk Tc
 clear Tc
 obtain ⟨acB,GI⟩:∃ y_:List ByteArray,y_=(([t127]:List ByteArray)):=⟨_,rfl⟩
 replace H:(bu.l0 k t128 acB 0 dE aV aW fD fM)=some r:=by first|(rw [GI];with_reducible exact H)|(have uB:=(Option.bind_some _ _).symm.trans H;rw [GI];with_reducible exact uB)|(have uB:=(Option.bind_some _ _).symm.trans H;with_reducible exact uB)|with_reducible exact H|(rw [GI];exact H)|exact H
 have ZG:=ae.mk GI
 clear GI
 have H':=ae.mk H
 clear H
 go_enter Tryd.func47,Tryd.ntmps47
 go_wp2_with (first|((with_reducible refine bD (N:=1) rfl ?_);refine fG ?hg (N:=1) ?hd (cs:=#[.int .u8 dE,.int .u8 aV,.int .u8 aW,.int .u8 fD,.int .i64 fM]) (t:=55) ?hr ?_;(case hd=>rfl);(case hg=>rfl);(case hr=>first|(go_simp;done)|(go_simp;rfl));intro uZ hg w3 hbox hb;have dX:=ae.mk (bn (by repeat (first|(with_reducible first|exact HB.out|apply ah|apply ag|apply ai)|exact HB.out)) hb);have dW:=ae.mk (hbox);have dU:=ae.mk ((by rw [hg];exact (bY (by repeat (first|(with_reducible first|exact HB.out|apply ah|apply ag|apply ai)|exact HB.out))):w.heap.size≤uZ));have iq:=dU;clear HB;have HB:=dX;have jv:=dW;have aqM:=dU;have yE:=iq;clear dX dW dU iq;clear hb hbox hg;obtain ⟨QM,QL,QK,QJ,aa8,QD,QB,QA,Qz,aa2⟩:=kF jv.out)|((with_reducible refine bz (f:=45) rfl ?_);refine dV (some 10) rfl rfl Tryd.func45 (by kernel_rfl) rfl #[.int .u8 dE] rfl (by (try simp only [List.map_toArray,List.map_cons,List.map_nil]);first|done|rfl|(simp only [List.length_drop,List.length_take];rfl)) ?_;(with_reducible refine (fH.calls dE t127 t128 _ A2.out).mono ?_);rintro e w' ⟨rfl,⟨nd,rfl⟩⟩;refine ⟨_,rfl,?_⟩)|((with_reducible refine bD (N:=14) rfl ?_);refine Kd.uF Kd.string _ 9 ?hg (N:=14) ?hd (xs:=([t127]:List ByteArray)) (inner:=[.string t127]) (ok:=fun _=>True) (oW:=fun _=>True) ?hr ?hp (fun _ hk=>hk) trivial (Below.refl _ _) (Nat.le_refl _) (by simp) ?_;(case hd=>rfl);(case hg=>rfl);(case hr=>first|(go_simp;done)|(go_simp;rfl));(case hp=>exact (jF.one (show Kd.M Kd.string _ _ _ t127 [.string t127] from rfl) (jF.none _ _)));intro v130 w5 ho6 hb CX oJ;clear CX oJ;(first|rw [← ZG.out] at ho6|(simp only [Int.reduceToNat] at ho6;rw [← ZG.out] at ho6));have dX:=ae.mk (Kd.jy ho6 (bY (by repeat (first|(with_reducible first|exact HB.out|apply ah|apply ag|apply ai|refine aj ?_ yE.out)|exact HB.out))));have dW:=ae.mk (bg (g:=uZ) (o:=.cells #[.int .u8 dE,.int .u8 aV,.int .u8 aW,.int .u8 fD,.int .i64 fM] 55 (0,0)) (by (with_reducible repeat (first|refine au ?_ _|refine ay ?_|refine ak ?_ _));exact jv.out) hb);have dU:=ae.mk (bn (by repeat (first|(with_reducible first|exact HB.out|apply ah|apply ag|apply ai|refine aj ?_ yE.out)|exact HB.out)) hb);clear jv;clear HB;have afY:=dX;have jv:=dW;have HB:=dU;clear dX dW dU;clear hb ho6))
 go_loopg [5,6] k (fun kq v5 v6 w'=>∃ (jr:List ByteArray) (uO:Int),v6=.int .i64 uO∧ae (bu.l0 kq t128 jr uO dE aV aW fD fM=some r)∧ae (kq≤k)∧ae (Kd.R Kd.string 9 w' w.heap.size (fun _=>True) v5 jr)∧ae (w'.heap[uZ]? = some (.cells #[.int .u8 dE,.int .u8 aV,.int .u8 aW,.int .u8 fD,.int .i64 fM] 55 (0,0)))∧ae (Below w.heap.size w w'))
 case atStart=>exact ⟨(acB),(0),(by first|rfl|(simp;done)|(simp [*];done)),H',⟨Nat.le_refl _⟩,⟨by (with_reducible repeat (first|apply Kd.iK|apply Kd.iJ|apply Kd.jq));exact afY.out⟩,⟨by (with_reducible repeat (first|refine au ?_ _|refine ay ?_|refine ak ?_ _));exact jv.out⟩,⟨by repeat (first|(with_reducible first|exact HB.out|apply ah|apply ag|apply ai|refine aj ?_ yE.out)|exact HB.out)⟩⟩
 case round =>
  clear H'
  obtain ⟨jr,uO,rfl,HA,qX,yD,jv,HB⟩:=hrel
  cases gk with
  | zero=>exact absurd HA.out (by simp [bu.l0])
  | succ k1 =>
   have H:=HA.out
   clear HA
   simp only [bu.l0] at H
   by_cases c7:uO < (t128.size:Int)
   ·
    rw [if_pos c7] at H
    have oQ:decide (uO < (t128.size:Int))=true:=decide_eq_true c7
    clear c7
    by_cases c8:0≤uO
    ·
     rw [if_pos c8] at H
     have pU:decide (0≤uO)=true:=decide_eq_true c8
     clear c8
     replace H:=Option.bind_eq_some_iff.mp H
     obtain ⟨t132,Dj,H⟩:=H
     replace H:((jm.f t132 10).bind fun t133=>(if jr.length < 8796093022208 then (bu.l0 k1 t128 (jr++[t133]) (wrap64 (uO+1)) dE aV aW fD fM) else (none)))=some r:=H
     have ZW:=ae.mk Dj
     clear Dj
     replace H:=Option.bind_eq_some_iff.mp H
     obtain ⟨t133,agQ,H⟩:=H
     replace H:(if jr.length < 8796093022208 then (bu.l0 k1 t128 (jr++[t133]) (wrap64 (uO+1)) dE aV aW fD fM) else (none))=some r:=H
     have A11:=ae.mk agQ
     clear agQ
     by_cases c12:jr.length < 8796093022208
     ·
      rw [if_pos c12] at H
      have afO:=ae.mk c12
      clear c12
      obtain ⟨acA,GG⟩:∃ y_:List ByteArray,y_=(jr++[t133]):=⟨_,rfl⟩
      replace H:(bu.l0 k1 t128 acA (wrap64 (uO+1)) dE aV aW fD fM)=some r:=by first|(rw [GG];with_reducible exact H)|(have uB:=(Option.bind_some _ _).symm.trans H;rw [GG];with_reducible exact uB)|(have uB:=(Option.bind_some _ _).symm.trans H;with_reducible exact uB)|with_reducible exact H|(rw [GG];exact H)|exact H
      have afN:=ae.mk GG
      clear GG
      have H':=ae.mk H
      clear H
      try go_wp2
      have dX:=ae.mk (Kd.jq yD.out)
      have dW:=ae.mk (ay jv.out)
      have dU:=ae.mk (ai HB.out)
      clear yD
      clear jv
      clear HB
      have yD:=dX
      have jv:=dW
      have HB:=dU
      clear dX dW dU
      have p9:0≤(uO:Int):=of_decide_eq_true (by first|(with_reducible assumption)|assumption)
      have q9:uO < (t128.size:Int):=of_decide_eq_true (by first|(with_reducible assumption)|assumption)
      have hx9:=kY t128 uO
      replace p9:=eq_true p9
      replace q9:=eq_true q9
      refine qg (n:=10) (S:=fun w'=>w'.cell? ⟨uZ,0,none⟩=some (.int .u8 dE)∧w'.cell? ⟨uZ,1,none⟩=some (.int .u8 aV)∧w'.cell? ⟨uZ,2,none⟩=some (.int .u8 aW)∧w'.cell? ⟨uZ,3,none⟩=some (.int .u8 fD)∧w'.cell? ⟨uZ,4,none⟩=some (.int .i64 fM)) (ds:=[]) #[false,false,false,false,false,false,false,false,false,false] (by kernel_rfl) rfl rfl ⟨(ax jv.out 0).trans rfl,(ax jv.out 1).trans rfl,(ax jv.out 2).trans rfl,(ax jv.out 3).trans rfl,(ax jv.out 4).trans rfl⟩ (fun hHeld=>?_);refine ry bu.tab6 bu.afz (fun lT Df=>?_)
      generalize wr.drew=Z5 at yD jv HB hHeld ⊢
      refine gZ (i:=0) (N:=some 21) (v:=?_) (a':=?_) #[true,false,false,false,false,false,false,false,false,false] rfl rfl (iP lT.out (by kernel_rfl)) (fun _ _ _ h=>h) (Or.inl ⟨by rfl,?_⟩) ?_ ?_
      rotate_left
      ·
       intro w'
       go_simp
       with_reducible rfl
      rotate_left
      ·
       simp only [Act.put,List.setIfInBounds_toArray,List.set_cons_zero,List.set_cons_succ,bT,bW]
       rfl
      refine gZ (i:=2) (N:=some 23) (v:=?_) (a':=?_) #[true,false,true,false,false,false,false,false,false,false] rfl rfl (iP lT.out (by kernel_rfl)) (fun _ _ _ h=>h) (Or.inl ⟨by rfl,?_⟩) ?_ ?_
      rotate_left
      ·
       intro w'
       go_simp
       with_reducible rfl
      rotate_left
      ·
       simp only [Act.put,List.setIfInBounds_toArray,List.set_cons_zero,List.set_cons_succ,bT,bW]
       rfl
      refine gZ (i:=3) (N:=some 24) (v:=?_) (a':=?_) #[true,false,true,true,false,false,false,false,false,false] rfl rfl (iP lT.out (by kernel_rfl)) (fun _ _ _ h=>h) (Or.inl ⟨by rfl,?_⟩) ?_ ?_
      rotate_left
      ·
       intro w'
       go_simp
       with_reducible rfl
      rotate_left
      ·
       simp only [Act.put,List.setIfInBounds_toArray,List.set_cons_zero,List.set_cons_succ,bT,bW]
       rfl
      refine jY (i:=1) (N:=some 22) (v:=?_) (a':=?_) #[true,true,true,true,false,false,false,false,false,false] rfl rfl (kX lT.out Df.out (by kernel_rfl)) (fun _ _ _ h=>h) (Or.inl ⟨by rfl,?_⟩) hHeld ?_ ?_
      rotate_left
      ·
       rintro w' ⟨s0,s1,s2,s3,s4⟩
       go_simp
       with_reducible rfl
      rotate_left
      ·
       simp only [Act.put,List.setIfInBounds_toArray,List.set_cons_zero,List.set_cons_succ,bT,bW]
       rfl
      refine jY (i:=4) (N:=some 25) (v:=?_) (a':=?_) #[true,true,true,true,true,false,false,false,false,false] rfl rfl (kX lT.out Df.out (by kernel_rfl)) (fun _ _ _ h=>h) (Or.inl ⟨by rfl,?_⟩) hHeld ?_ ?_
      rotate_left
      ·
       rintro w' ⟨s0,s1,s2,s3,s4⟩
       go_simp
       with_reducible rfl
      rotate_left
      ·
       simp only [Act.put,List.setIfInBounds_toArray,List.set_cons_zero,List.set_cons_succ,bT,bW]
       rfl
      refine oP (i:=5) (N:=some 26) #[true,true,true,true,true,true,false,false,false,false] rfl rfl (nP lT.out (by kernel_rfl)) (by decide) (fun K hK=>?_)
      refine pz Tryd.func67 (by kernel_rfl) rfl #[.agg #[.int .u8 dE,.int .u8 aV,.int .u8 aW,.int .u8 fD,.int .i64 fM],.int .u8 (bt t128 uO)] (by rfl) rfl rfl (by (try simp only [List.map_toArray,List.map_cons,List.map_nil]);first|done|rfl|(simp only [List.length_drop,List.length_take];rfl)) ?_
      with_reducible refine (jM.calls dE aV aW fD fM (bt t128 uO) t132 _ ZW.out).mono ?_
      rintro e w14 ⟨rfl,hb⟩
      refine ⟨_,rfl,?_⟩
      have dX:=ae.mk (Kd.jA (by (with_reducible repeat (first|apply Kd.iK|apply Kd.iJ|apply Kd.jq));exact yD.out) hb)
      have dW:=ae.mk (bg (g:=uZ) (o:=.cells #[.int .u8 dE,.int .u8 aV,.int .u8 aW,.int .u8 fD,.int .i64 fM] 55 (0,0)) (by (with_reducible repeat (first|refine au ?_ _|refine ay ?_|refine ak ?_ _));exact jv.out) hb)
      have dU:=ae.mk (bn (by repeat (first|(with_reducible first|exact HB.out|apply ah|apply ag|apply ai|refine aj ?_ yE.out)|exact HB.out)) hb)
      clear yD
      clear jv
      clear HB
      have yD:=dX
      have jv:=dW
      have HB:=dU
      clear dX dW dU
      (try clear hb)
      (try clear hb2)
      (try clear hk)
      (try clear hi)
      refine hK.out _ _ ⟨(ax jv.out 0).trans rfl,(ax jv.out 1).trans rfl,(ax jv.out 2).trans rfl,(ax jv.out 3).trans rfl,(ax jv.out 4).trans rfl⟩ (fun hHeld=>?_)
      clear hK K
      refine je (a':=?_) ?_ ?_
      rotate_left
      ·
       show Act.put _ (some 26) _=_
       simp only [Act.put,List.setIfInBounds_toArray,List.set_cons_zero,List.set_cons_succ,bT,bW]
       rfl
      refine oP (i:=6) (N:=some 27) #[true,true,true,true,true,true,true,false,false,false] rfl rfl (nP lT.out (by kernel_rfl)) (by decide) (fun K hK=>?_)
      refine pz Tryd.func66 (by kernel_rfl) rfl #[.int .i64 t132,.int .i64 10] (by rfl) rfl rfl (by (try simp only [List.map_toArray,List.map_cons,List.map_nil]);first|done|rfl|(simp only [List.length_drop,List.length_take];rfl)) ?_
      with_reducible refine (jm.calls t132 10 t133 _ ?df A11.out).mono ?_
      (case df=>repeat (first|exact (Kd.bJ yH.out HB.out)|(with_reducible refine Kd.bQ ?_ _)|(with_reducible refine Kd.bP ?_ _)|(with_reducible refine Kd.dF ?_)))
      rintro e w15 ⟨rfl,hb⟩
      refine ⟨_,rfl,?_⟩
      have dX:=ae.mk (Kd.jA (by (with_reducible repeat (first|apply Kd.iK|apply Kd.iJ|apply Kd.jq));exact yD.out) hb)
      have dW:=ae.mk (bg (g:=uZ) (o:=.cells #[.int .u8 dE,.int .u8 aV,.int .u8 aW,.int .u8 fD,.int .i64 fM] 55 (0,0)) (by (with_reducible repeat (first|refine au ?_ _|refine ay ?_|refine ak ?_ _));exact jv.out) hb)
      have dU:=ae.mk (bn (by repeat (first|(with_reducible first|exact HB.out|apply ah|apply ag|apply ai|refine aj ?_ yE.out)|exact HB.out)) hb)
      clear yD
      clear jv
      clear HB
      have yD:=dX
      have jv:=dW
      have HB:=dU
      clear dX dW dU
      (try clear hb)
      (try clear hb2)
      (try clear hk)
      (try clear hi)
      refine hK.out _ _ ⟨(ax jv.out 0).trans rfl,(ax jv.out 1).trans rfl,(ax jv.out 2).trans rfl,(ax jv.out 3).trans rfl,(ax jv.out 4).trans rfl⟩ (fun hHeld=>?_)
      clear hK K
      refine je (a':=?_) ?_ ?_
      rotate_left
      ·
       show Act.put _ (some 27) _=_
       simp only [Act.put,List.setIfInBounds_toArray,List.set_cons_zero,List.set_cons_succ,bT,bW]
       rfl
      refine oP (i:=7) (N:=some 28) #[true,true,true,true,true,true,true,true,false,false] rfl rfl (nP lT.out (by kernel_rfl)) (by decide) (fun K hK=>?_)
      refine sJ (w1:=?_) (v:=?_) (by rfl) rfl ?_ ?_
      rotate_left 2
      ·
       go_simp
       constructor
       ·
        rfl
       ·
        rfl
      refine hK.out _ _ ⟨(ax (ak jv.out _) 0).trans rfl,(ax (ak jv.out _) 1).trans rfl,(ax (ak jv.out _) 2).trans rfl,(ax (ak jv.out _) 3).trans rfl,(ax (ak jv.out _) 4).trans rfl⟩ (fun hHeld=>?_)
      clear hK K
      refine je (a':=?_) ?_ ?_
      rotate_left
      ·
       show Act.put _ (some 28) _=_
       simp only [Act.put,List.setIfInBounds_toArray,List.set_cons_zero,List.set_cons_succ,bT,bW]
       rfl
      refine oP (i:=8) (N:=some 29) #[true,true,true,true,true,true,true,true,true,false] rfl rfl (nP lT.out (by kernel_rfl)) (by decide) (fun K hK=>?_)
      refine Kd.sK Kd.string (w0:=w) w.heap.size (by rfl) (.tmp 21) (.tmp 28) 22 9 (.string ⟨#[]⟩) 16 rfl Tryd.underlying22 info9 rfl (by decide) (by omega) u5 jr t133 [.string t133] (fun _=>True) (fun _=>False) rfl rfl ?aP (fun _ hk=>hk.elim) ?aF ?aO ?aB ?aS ?aL ?_
      (case aP=>exact rfl)
      (case aB=>exact (by repeat (first|(with_reducible first|exact HB.out|apply ah|apply ag|apply ai|refine aj ?_ yE.out)|exact HB.out)))
      (case aF=>exact (fun _ _=>trivial))
      (case aO=>exact (by (with_reducible repeat (first|apply Kd.iK|apply Kd.iJ|apply Kd.jq));exact yD.out))
      (case aS=>exact (bY (by repeat (first|(with_reducible first|exact HB.out|apply ah|apply ag|apply ai|refine aj ?_ yE.out)|exact HB.out))))
      (case aL=>have:=afO.out;omega)
      intro arl w16 ho hb hg hat
      rw [← afN.out] at ho
      have dX:=ae.mk (D9 (g:=uZ) (o:=.cells #[.int .u8 dE,.int .u8 aV,.int .u8 aW,.int .u8 fD,.int .i64 fM] 55 (0,0)) (by (with_reducible repeat (first|refine au ?_ _|refine ay ?_|refine ak ?_ _));exact jv.out) hg (Kd.afL yD.out jv.out (by decide)))
      have dW:=ae.mk (hb)
      have dU:=ae.mk (ho)
      clear jv
      clear HB
      clear yD
      have jv:=dX
      have HB:=dW
      have afX:=dU
      clear dX dW dU
      clear ho hb hg hat
      refine hK.out _ _ ⟨(ax jv.out 0).trans rfl,(ax jv.out 1).trans rfl,(ax jv.out 2).trans rfl,(ax jv.out 3).trans rfl,(ax jv.out 4).trans rfl⟩ (fun hHeld=>?_)
      clear hK K
      refine je (a':=?_) ?_ ?_
      rotate_left
      ·
       show Act.put _ (some 29) _=_
       simp only [Act.put,List.setIfInBounds_toArray,List.set_cons_zero,List.set_cons_succ,bT,bW]
       rfl
      refine gZ (i:=9) (N:=some 5) (v:=?_) (a':=?_) #[true,true,true,true,true,true,true,true,true,true] rfl rfl (iP lT.out (by kernel_rfl)) (fun _ _ _ h=>h) (Or.inl ⟨by rfl,?_⟩) ?_ ?_
      rotate_left
      ·
       intro w'
       go_simp
       with_reducible rfl
      rotate_left
      ·
       simp only [Act.put,List.setIfInBounds_toArray,List.set_cons_zero,List.set_cons_succ,bT,bW]
       rfl
      refine tq (wL lT.out (by kernel_rfl)) ?_
      try go_wp2
      go_roundg k1
      case measure=>have:=qX.out;omega
      case rel=>exact ⟨(acA),(wrap64 (uO+1)),(by first|rfl|(simp;done)|(simp [*];done)),H',⟨by have:=qX.out;omega⟩,⟨by (with_reducible repeat (first|apply Kd.iK|apply Kd.iJ|apply Kd.jq));exact afX.out⟩,⟨by (with_reducible repeat (first|refine au ?_ _|refine ay ?_|refine ak ?_ _));exact jv.out⟩,⟨by repeat (first|(with_reducible first|exact HB.out|apply ah|apply ag|apply ai|refine aj ?_ yE.out)|exact HB.out)⟩⟩
     ·
      rw [if_neg c12] at H
      exact absurd H (by simp)
    ·
     rw [if_neg c8] at H
     exact absurd H (by simp)
   ·
    rw [if_neg c7] at H
    have oQ:decide (uO < (t128.size:Int))=false:=decide_eq_false c7
    clear c7
    obtain rfl:=Option.some.inj H
    go_wp2
    go_ret
    exact ⟨_,by first|rfl|(simp [aQ,aN] <;> rfl)|(simp [*,aQ,aN] <;> rfl),by (with_reducible repeat (first|apply Kd.iK|apply Kd.iJ|apply Kd.jq));exact yD.out,by repeat (first|(with_reducible first|exact HB.out|apply ah|apply ag|apply ai|refine aj ?_ yE.out)|exact HB.out)⟩
def dY.f (k:Nat) (dE:Int) (aV:Int) (aW:Int) (fD:Int) (fM:Int):Option (Bool):=(fH.f dE).bind fun RU=>(if RU.1.toList=([]:List UInt8) then (some false) else ((bu.f k dE aV aW fD fM).bind fun t140=>((aJ.f k t140).bind fun kS=>(if kS.2.2.2.2.2=true then (some (kS.1 == dE && (kS.2.1 == aV && (kS.2.2.1 == aW && (kS.2.2.2.1 == fD && (kS.2.2.2.2.1 == fM)))))) else (some false)))))
theorem dY.mono:∀ a0 a1 a2 a3 a4 k,dP (dY.f k a0 a1 a2 a3 a4) (dY.f (k+1) a0 a1 a2 a3 a4):=by
 intro a0 a1 a2 a3 a4 k
 unfold dY.f
 repeat' with_reducible first|apply bu.mono|apply aJ.mono|exact dP.refl _|exact dP.none _|refine dP.ite ?_ ?_|refine dP.bind ?_ (fun _=>?_)
set_option maxHeartbeats 8000000 in
set_option maxRecDepth 100000 in
theorem dY.calls (k:Nat) (dE:Int) (aV:Int) (aW:Int) (fD:Int) (fM:Int) (r:Bool) (w:World) (lM:Kd.C xM w xN o9.length o9) (h:dY.f k dE aV aW fD fM=some r) :
  Calls Tryd.prog 28 #[.agg #[.int .u8 dE,.int .u8 aV,.int .u8 aW,.int .u8 fD,.int .i64 fM]] w fun e w'=>e=.returned (.bool r)∧Below w.heap.size w w':=by
 have CW:=Tryd.underlying55
 have yH:=ae.mk lM
 clear lM
 have HB:=ae.mk (Below.refl w.heap.size w)
 have H:((fH.f dE).bind fun RU=>(if RU.1.toList=([]:List UInt8) then (some false) else ((bu.f k dE aV aW fD fM).bind fun t140=>((aJ.f k t140).bind fun kS=>(if kS.2.2.2.2.2=true then (some (kS.1 == dE && (kS.2.1 == aV && (kS.2.2.1 == aW && (kS.2.2.2.1 == fD && (kS.2.2.2.2.1 == fM)))))) else (some false))))))=some r:=h
 clear h
 replace H:=Option.bind_eq_some_iff.mp H
 obtain ⟨⟨t138,t139⟩,Tc,H⟩:=H
 replace H:(if t138.toList=([]:List UInt8) then (some false) else ((bu.f k dE aV aW fD fM).bind fun t140=>((aJ.f k t140).bind fun kS=>(if kS.2.2.2.2.2=true then (some (kS.1 == dE && (kS.2.1 == aV && (kS.2.2.1 == aW && (kS.2.2.2.1 == fD && (kS.2.2.2.2.1 == fM)))))) else (some false)))))=some r:=H
 have A2:=ae.mk Tc
 clear Tc
 by_cases c3:t138.toList=([]:List UInt8)
 ·
  rw [if_pos c3] at H
  have oG:(t138.toList == ([]:List UInt8))=true:=beq_iff_eq.mpr c3
  have zO:(t138.toList != ([]:List UInt8))=false:=bne_eq_false_iff_eq.mpr c3
  clear c3
  obtain rfl:=Option.some.inj H
  go_enter Tryd.func28,Tryd.ntmps28
  go_wp2_with (first|((with_reducible refine bD (N:=1) rfl ?_);refine fG ?hg (N:=1) ?hd (cs:=#[.int .u8 dE,.int .u8 aV,.int .u8 aW,.int .u8 fD,.int .i64 fM]) (t:=55) ?hr ?_;(case hd=>rfl);(case hg=>rfl);(case hr=>first|(go_simp;done)|(go_simp;rfl));intro l9 hg w4 hbox hb;have dX:=ae.mk (bn (by repeat (first|(with_reducible first|exact HB.out|apply ah|apply ag|apply ai)|exact HB.out)) hb);have dW:=ae.mk (hbox);have dU:=ae.mk ((by rw [hg];exact (bY (by repeat (first|(with_reducible first|exact HB.out|apply ah|apply ag|apply ai)|exact HB.out))):w.heap.size≤l9));have iq:=dU;clear HB;have HB:=dX;have jJ:=dW;have ZQ:=dU;have qJ:=iq;clear dX dW dU iq;clear hb hbox hg;obtain ⟨BO,BN,BM,BL,aa7,BK,BJ,BI,BH,aa0⟩:=kF jJ.out)|((with_reducible refine bz (f:=45) rfl ?_);refine dV (some 10) rfl rfl Tryd.func45 (by kernel_rfl) rfl #[.int .u8 dE] rfl (by (try simp only [List.map_toArray,List.map_cons,List.map_nil]);first|done|rfl|(simp only [List.length_drop,List.length_take];rfl)) ?_;(with_reducible refine (fH.calls dE t138 t139 _ A2.out).mono ?_);rintro e w' ⟨rfl,⟨nd,rfl⟩⟩;refine ⟨_,rfl,?_⟩))
  go_ret
  exact ⟨by first|rfl|(simp [aQ,aN] <;> rfl)|(simp [*,aQ,aN] <;> rfl),by repeat (first|(with_reducible first|exact HB.out|apply ah|apply ag|apply ai|refine aj ?_ qJ.out)|exact HB.out)⟩
 ·
  rw [if_neg c3] at H
  have oG:(t138.toList == ([]:List UInt8))=false:=beq_eq_false_iff_ne.mpr c3
  have zO:(t138.toList != ([]:List UInt8))=true:=bne_iff_ne.mpr c3
  replace H:=Option.bind_eq_some_iff.mp H
  obtain ⟨t140,NS,H⟩:=H
  replace H:((aJ.f k t140).bind fun kS=>(if kS.2.2.2.2.2=true then (some (kS.1 == dE && (kS.2.1 == aV && (kS.2.2.1 == aW && (kS.2.2.2.1 == fD && (kS.2.2.2.2.1 == fM)))))) else (some false)))=some r:=H
  have A6:=ae.mk NS
  clear NS
  replace H:=Option.bind_eq_some_iff.mp H
  obtain ⟨⟨t143,t144,t145,t146,t147,t148⟩,A70,H⟩:=H
  replace H:(if t148=true then (some (t143 == dE && (t144 == aV && (t145 == aW && (t146 == fD && (t147 == fM)))))) else (some false))=some r:=H
  have A7:=ae.mk A70
  clear A70
  by_cases c8:t148=true
  ·
   subst c8
   have H1:(some (t143 == dE && (t144 == aV && (t145 == aW && (t146 == fD && (t147 == fM))))))=some r:=by rw [if_pos rfl] at H;exact H
   clear H
   have H:=H1
   clear H1
   obtain rfl:=Option.some.inj H
   go_enter Tryd.func28,Tryd.ntmps28
   go_wp2_with (first|((with_reducible refine bD (N:=1) rfl ?_);refine fG ?hg (N:=1) ?hd (cs:=#[.int .u8 dE,.int .u8 aV,.int .u8 aW,.int .u8 fD,.int .i64 fM]) (t:=55) ?hr ?_;(case hd=>rfl);(case hg=>rfl);(case hr=>first|(go_simp;done)|(go_simp;rfl));intro l9 hg w9 hbox hb;have dX:=ae.mk (bn (by repeat (first|(with_reducible first|exact HB.out|apply ah|apply ag|apply ai)|exact HB.out)) hb);have dW:=ae.mk (hbox);have dU:=ae.mk ((by rw [hg];exact (bY (by repeat (first|(with_reducible first|exact HB.out|apply ah|apply ag|apply ai)|exact HB.out))):w.heap.size≤l9));have iq:=dU;clear HB;have HB:=dX;have jJ:=dW;have ZQ:=dU;have qJ:=iq;clear dX dW dU iq;clear hb hbox hg;obtain ⟨yj,yh,yg,yf,X6,yc,x9,xZ,xY,Wn⟩:=kF jJ.out)|((with_reducible refine bz (f:=45) rfl ?_);refine dV (some 10) rfl rfl Tryd.func45 (by kernel_rfl) rfl #[.int .u8 dE] rfl (by (try simp only [List.map_toArray,List.map_cons,List.map_nil]);first|done|rfl|(simp only [List.length_drop,List.length_take];rfl)) ?_;(with_reducible refine (fH.calls dE t138 t139 _ A2.out).mono ?_);rintro e w' ⟨rfl,⟨nd,rfl⟩⟩;refine ⟨_,rfl,?_⟩;(try (rw [rP w9];generalize CJ:World.drewN w9 _=w9;have dX:ae (w9.heap[l9]? = some (.cells #[.int .u8 dE,.int .u8 aV,.int .u8 aW,.int .u8 fD,.int .i64 fM] 55 (0,0))):=⟨by rw [← CJ];exact (by (with_reducible repeat (first|refine au ?_ _|refine ay ?_|refine ak ?_ _));exact jJ.out)⟩;have dW:ae (Below w.heap.size w w9):=⟨by rw [← CJ];exact (by repeat (first|(with_reducible first|exact HB.out|apply ah|apply ag|apply ai|refine aj ?_ qJ.out)|exact HB.out))⟩;clear jJ HB CJ;have jJ:=dX;have HB:=dW;clear dX dW;have QR:w9.cell? ⟨l9,0,none⟩=some (.int .u8 dE):=(ax jJ.out 0).trans rfl;have QQ:w9.cell? ⟨l9,1,none⟩=some (.int .u8 aV):=(ax jJ.out 1).trans rfl;have QP:w9.cell? ⟨l9,2,none⟩=some (.int .u8 aW):=(ax jJ.out 2).trans rfl;have QO:w9.cell? ⟨l9,3,none⟩=some (.int .u8 fD):=(ax jJ.out 3).trans rfl;have QN:w9.cell? ⟨l9,4,none⟩=some (.int .i64 fM):=(ax jJ.out 4).trans rfl)))|((with_reducible refine bz (f:=47) rfl ?_);refine dV (some 17) rfl rfl Tryd.func47 (by kernel_rfl) rfl #[.agg #[.int .u8 dE,.int .u8 aV,.int .u8 aW,.int .u8 fD,.int .i64 fM]] rfl (by (try simp only [List.map_toArray,List.map_cons,List.map_nil]);first|done|rfl|(simp only [List.length_drop,List.length_take];rfl)) ?_;(with_reducible refine (bu.calls k dE aV aW fD fM t140 _ ?df A6.out).mono ?_);(case df=>repeat (first|exact (Kd.bJ yH.out HB.out)|(with_reducible refine Kd.bQ ?_ _)|(with_reducible refine Kd.bP ?_ _)|(with_reducible refine Kd.dF ?_)));rintro e w11 ⟨v141,rfl,ho0,hb⟩;refine ⟨_,rfl,?_⟩;have dX:=ae.mk (Kd.jy ho0 (bY (by repeat (first|(with_reducible first|exact HB.out|apply ah|apply ag|apply ai|refine aj ?_ qJ.out)|exact HB.out))));have dW:=ae.mk (bg (g:=l9) (o:=.cells #[.int .u8 dE,.int .u8 aV,.int .u8 aW,.int .u8 fD,.int .i64 fM] 55 (0,0)) (by (with_reducible repeat (first|refine au ?_ _|refine ay ?_|refine ak ?_ _));exact jJ.out) hb);have dU:=ae.mk (bn (by repeat (first|(with_reducible first|exact HB.out|apply ah|apply ag|apply ai|refine aj ?_ qJ.out)|exact HB.out)) hb);clear jJ;clear HB;have lI:=dX;have jJ:=dW;have HB:=dU;clear dX dW dU;(try clear hb);(try clear hb2);(try clear hk);(try clear hi);(try clear ho0);obtain ⟨aow,an7,anS⟩:=Kd.jw lI.out;subst anS)|((with_reducible refine bz (f:=46) rfl ?_);refine dV (some 18) rfl rfl Tryd.func46 (by kernel_rfl) rfl #[.slice aow t140.length an7] rfl (by (try simp only [List.map_toArray,List.map_cons,List.map_nil]);first|done|rfl|(simp only [List.length_drop,List.length_take];rfl)) ?_;(with_reducible refine (aJ.calls k _ _ t140 t143 t144 t145 t146 t147 true _ ?df ?dA A7.out).mono ?_);(case df=>repeat (first|exact (Kd.dS lI.out).2.2|(with_reducible refine Kd.bQ ?_ _)|(with_reducible refine Kd.bP ?_ _)|(with_reducible refine Kd.dF ?_)));(case dA=>exact (Kd.dS lI.out).2.1);rintro e Z5 ⟨rfl,hb⟩;refine ⟨_,rfl,?_⟩;have dX:=ae.mk (Kd.jA (by (with_reducible repeat (first|apply Kd.iK|apply Kd.iJ|apply Kd.jq));exact lI.out) hb);have dW:=ae.mk (bg (g:=l9) (o:=.cells #[.int .u8 dE,.int .u8 aV,.int .u8 aW,.int .u8 fD,.int .i64 fM] 55 (0,0)) (by (with_reducible repeat (first|refine au ?_ _|refine ay ?_|refine ak ?_ _));exact jJ.out) hb);have dU:=ae.mk (bn (by repeat (first|(with_reducible first|exact HB.out|apply ah|apply ag|apply ai|refine aj ?_ qJ.out)|exact HB.out)) hb);clear lI;clear jJ;clear HB;have lI:=dX;have jJ:=dW;have HB:=dU;clear dX dW dU;(try clear hb);(try clear hb2);(try clear hk);(try clear hi))|((with_reducible refine bD (N:=5) rfl ?_);refine fG ?hg (N:=5) ?hd (cs:=#[.int .u8 0,.int .u8 0,.int .u8 0,.int .u8 0,.int .i64 0]) (t:=55) ?hr ?_;(case hd=>rfl);(case hg=>rfl);(case hr=>first|(go_simp;done)|(go_simp;rfl));intro GY hg w14 hbox hb;have dX:=ae.mk (Kd.jA (by (with_reducible repeat (first|apply Kd.iK|apply Kd.iJ|apply Kd.jq));exact lI.out) hb);have dW:=ae.mk (bg (g:=l9) (o:=.cells #[.int .u8 dE,.int .u8 aV,.int .u8 aW,.int .u8 fD,.int .i64 fM] 55 (0,0)) (by (with_reducible repeat (first|refine au ?_ _|refine ay ?_|refine ak ?_ _));exact jJ.out) hb);have dU:=ae.mk (bn (by repeat (first|(with_reducible first|exact HB.out|apply ah|apply ag|apply ai|refine aj ?_ qJ.out)|exact HB.out)) hb);have iq:=ae.mk (hbox);have mr:=ae.mk ((by rw [hg];exact (bY (by repeat (first|(with_reducible first|exact HB.out|apply ah|apply ag|apply ai|refine aj ?_ qJ.out)|exact HB.out))):w.heap.size≤GY));have ny:=mr;have oz:=ae.mk ((by rw [hg];exact Nat.ne_of_lt (kR (g:=l9) (o:=.cells #[.int .u8 dE,.int .u8 aV,.int .u8 aW,.int .u8 fD,.int .i64 fM] 55 (0,0)) (by (with_reducible repeat (first|refine au ?_ _|refine ay ?_|refine ak ?_ _));exact jJ.out)):l9 ≠ GY));have xk:=ae.mk oz.out.symm;clear lI;clear jJ;clear HB;have lI:=dX;have jJ:=dW;have HB:=dU;have SY:=iq;have af7:=mr;have SV:=ny;have zf:=oz;have yZ:=xk;clear dX dW dU iq mr ny oz xk;clear hb hbox hg;have adA:=yZ.out;have adq:=zf.out;obtain ⟨Fa,E8,E5,EZ,Nb,ES,ER,EP,EO,LM⟩:=kF SY.out;obtain ⟨Na,MZ,MX,MW,XT,LK,LJ,LH,LG,V4⟩:=kF jJ.out))
   go_ret
   exact ⟨by first|rfl|(simp [aQ,aN] <;> rfl)|(simp [*,aQ,aN] <;> rfl),by repeat (first|(with_reducible first|exact HB.out|apply ah|apply ag|apply ai|refine aj ?_ qJ.out|refine aj ?_ SV.out)|exact HB.out)⟩
  ·
   replace c8:=Bool.eq_false_iff.mpr c8
   subst c8
   have H1:(some false)=some r:=by rw [if_neg (show ¬ (false=true) by decide)] at H;exact H
   clear H
   have H:=H1
   clear H1
   obtain rfl:=Option.some.inj H
   go_enter Tryd.func28,Tryd.ntmps28
   go_wp2_with (first|((with_reducible refine bD (N:=1) rfl ?_);refine fG ?hg (N:=1) ?hd (cs:=#[.int .u8 dE,.int .u8 aV,.int .u8 aW,.int .u8 fD,.int .i64 fM]) (t:=55) ?hr ?_;(case hd=>rfl);(case hg=>rfl);(case hr=>first|(go_simp;done)|(go_simp;rfl));intro l9 hg Tj hbox hb;have dX:=ae.mk (bn (by repeat (first|(with_reducible first|exact HB.out|apply ah|apply ag|apply ai)|exact HB.out)) hb);have dW:=ae.mk (hbox);have dU:=ae.mk ((by rw [hg];exact (bY (by repeat (first|(with_reducible first|exact HB.out|apply ah|apply ag|apply ai)|exact HB.out))):w.heap.size≤l9));have iq:=dU;clear HB;have HB:=dX;have jJ:=dW;have ZQ:=dU;have qJ:=iq;clear dX dW dU iq;clear hb hbox hg;obtain ⟨amo,amn,amm,aml,amk,aj8,aj7,aj6,aj3,aj2⟩:=kF jJ.out)|((with_reducible refine bz (f:=45) rfl ?_);refine dV (some 10) rfl rfl Tryd.func45 (by kernel_rfl) rfl #[.int .u8 dE] rfl (by (try simp only [List.map_toArray,List.map_cons,List.map_nil]);first|done|rfl|(simp only [List.length_drop,List.length_take];rfl)) ?_;(with_reducible refine (fH.calls dE t138 t139 _ A2.out).mono ?_);rintro e w' ⟨rfl,⟨nd,rfl⟩⟩;refine ⟨_,rfl,?_⟩;(try (rw [rP Tj];generalize CJ:World.drewN Tj _=Tj;have dX:ae (Tj.heap[l9]? = some (.cells #[.int .u8 dE,.int .u8 aV,.int .u8 aW,.int .u8 fD,.int .i64 fM] 55 (0,0))):=⟨by rw [← CJ];exact (by (with_reducible repeat (first|refine au ?_ _|refine ay ?_|refine ak ?_ _));exact jJ.out)⟩;have dW:ae (Below w.heap.size w Tj):=⟨by rw [← CJ];exact (by repeat (first|(with_reducible first|exact HB.out|apply ah|apply ag|apply ai|refine aj ?_ qJ.out)|exact HB.out))⟩;clear jJ HB CJ;have jJ:=dX;have HB:=dW;clear dX dW;have QR:Tj.cell? ⟨l9,0,none⟩=some (.int .u8 dE):=(ax jJ.out 0).trans rfl;have QQ:Tj.cell? ⟨l9,1,none⟩=some (.int .u8 aV):=(ax jJ.out 1).trans rfl;have QP:Tj.cell? ⟨l9,2,none⟩=some (.int .u8 aW):=(ax jJ.out 2).trans rfl;have QO:Tj.cell? ⟨l9,3,none⟩=some (.int .u8 fD):=(ax jJ.out 3).trans rfl;have QN:Tj.cell? ⟨l9,4,none⟩=some (.int .i64 fM):=(ax jJ.out 4).trans rfl)))|((with_reducible refine bz (f:=47) rfl ?_);refine dV (some 17) rfl rfl Tryd.func47 (by kernel_rfl) rfl #[.agg #[.int .u8 dE,.int .u8 aV,.int .u8 aW,.int .u8 fD,.int .i64 fM]] rfl (by (try simp only [List.map_toArray,List.map_cons,List.map_nil]);first|done|rfl|(simp only [List.length_drop,List.length_take];rfl)) ?_;(with_reducible refine (bu.calls k dE aV aW fD fM t140 _ ?df A6.out).mono ?_);(case df=>repeat (first|exact (Kd.bJ yH.out HB.out)|(with_reducible refine Kd.bQ ?_ _)|(with_reducible refine Kd.bP ?_ _)|(with_reducible refine Kd.dF ?_)));rintro e w20 ⟨v141,rfl,ho0,hb⟩;refine ⟨_,rfl,?_⟩;have dX:=ae.mk (Kd.jy ho0 (bY (by repeat (first|(with_reducible first|exact HB.out|apply ah|apply ag|apply ai|refine aj ?_ qJ.out)|exact HB.out))));have dW:=ae.mk (bg (g:=l9) (o:=.cells #[.int .u8 dE,.int .u8 aV,.int .u8 aW,.int .u8 fD,.int .i64 fM] 55 (0,0)) (by (with_reducible repeat (first|refine au ?_ _|refine ay ?_|refine ak ?_ _));exact jJ.out) hb);have dU:=ae.mk (bn (by repeat (first|(with_reducible first|exact HB.out|apply ah|apply ag|apply ai|refine aj ?_ qJ.out)|exact HB.out)) hb);clear jJ;clear HB;have lI:=dX;have jJ:=dW;have HB:=dU;clear dX dW dU;(try clear hb);(try clear hb2);(try clear hk);(try clear hi);(try clear ho0);obtain ⟨aca,abz,abf⟩:=Kd.jw lI.out;subst abf)|((with_reducible refine bz (f:=46) rfl ?_);refine dV (some 18) rfl rfl Tryd.func46 (by kernel_rfl) rfl #[.slice aca t140.length abz] rfl (by (try simp only [List.map_toArray,List.map_cons,List.map_nil]);first|done|rfl|(simp only [List.length_drop,List.length_take];rfl)) ?_;(with_reducible refine (aJ.calls k _ _ t140 t143 t144 t145 t146 t147 false _ ?df ?dA A7.out).mono ?_);(case df=>repeat (first|exact (Kd.dS lI.out).2.2|(with_reducible refine Kd.bQ ?_ _)|(with_reducible refine Kd.bP ?_ _)|(with_reducible refine Kd.dF ?_)));(case dA=>exact (Kd.dS lI.out).2.1);rintro e Z4 ⟨rfl,hb⟩;refine ⟨_,rfl,?_⟩;have dX:=ae.mk (Kd.jA (by (with_reducible repeat (first|apply Kd.iK|apply Kd.iJ|apply Kd.jq));exact lI.out) hb);have dW:=ae.mk (bg (g:=l9) (o:=.cells #[.int .u8 dE,.int .u8 aV,.int .u8 aW,.int .u8 fD,.int .i64 fM] 55 (0,0)) (by (with_reducible repeat (first|refine au ?_ _|refine ay ?_|refine ak ?_ _));exact jJ.out) hb);have dU:=ae.mk (bn (by repeat (first|(with_reducible first|exact HB.out|apply ah|apply ag|apply ai|refine aj ?_ qJ.out)|exact HB.out)) hb);clear lI;clear jJ;clear HB;have lI:=dX;have jJ:=dW;have HB:=dU;clear dX dW dU;(try clear hb);(try clear hb2);(try clear hk);(try clear hi))|((with_reducible refine bD (N:=5) rfl ?_);refine fG ?hg (N:=5) ?hd (cs:=#[.int .u8 0,.int .u8 0,.int .u8 0,.int .u8 0,.int .i64 0]) (t:=55) ?hr ?_;(case hd=>rfl);(case hg=>rfl);(case hr=>first|(go_simp;done)|(go_simp;rfl));intro GY hg w23 hbox hb;have dX:=ae.mk (Kd.jA (by (with_reducible repeat (first|apply Kd.iK|apply Kd.iJ|apply Kd.jq));exact lI.out) hb);have dW:=ae.mk (bg (g:=l9) (o:=.cells #[.int .u8 dE,.int .u8 aV,.int .u8 aW,.int .u8 fD,.int .i64 fM] 55 (0,0)) (by (with_reducible repeat (first|refine au ?_ _|refine ay ?_|refine ak ?_ _));exact jJ.out) hb);have dU:=ae.mk (bn (by repeat (first|(with_reducible first|exact HB.out|apply ah|apply ag|apply ai|refine aj ?_ qJ.out)|exact HB.out)) hb);have iq:=ae.mk (hbox);have mr:=ae.mk ((by rw [hg];exact (bY (by repeat (first|(with_reducible first|exact HB.out|apply ah|apply ag|apply ai|refine aj ?_ qJ.out)|exact HB.out))):w.heap.size≤GY));have ny:=mr;have oz:=ae.mk ((by rw [hg];exact Nat.ne_of_lt (kR (g:=l9) (o:=.cells #[.int .u8 dE,.int .u8 aV,.int .u8 aW,.int .u8 fD,.int .i64 fM] 55 (0,0)) (by (with_reducible repeat (first|refine au ?_ _|refine ay ?_|refine ak ?_ _));exact jJ.out)):l9 ≠ GY));have xk:=ae.mk oz.out.symm;clear lI;clear jJ;clear HB;have lI:=dX;have jJ:=dW;have HB:=dU;have SY:=iq;have af7:=mr;have SV:=ny;have zf:=oz;have yZ:=xk;clear dX dW dU iq mr ny oz xk;clear hb hbox hg;have Y5:=yZ.out;have Y3:=zf.out;obtain ⟨Ap,Am,Ak,Aj,EY,Ae,Ad,Ac,Aa,EN⟩:=kF SY.out))
   go_ret
   exact ⟨by first|rfl|(simp [aQ,aN] <;> rfl)|(simp [*,aQ,aN] <;> rfl),by repeat (first|(with_reducible first|exact HB.out|apply ah|apply ag|apply ai|refine aj ?_ qJ.out|refine aj ?_ SV.out)|exact HB.out)⟩
def bI.j0:Nat→Int→Bool→Int→Int→Int→Int→Int→Option (Bool)
 | 0,_,_,_,_,_,_,_=>none
 | k+1,x4,x5,agT,JO,JM,TT,agS=>if x5=true then (some (decide (JO < 8))) else (if x4=2 then (if JO < 8 then (if JM < 8 then (some (decide (TT < 8))) else (some false)) else (some false)) else (if x4=9 then (some (decide (JM < 8))) else (some true)))
def bI.f (k:Nat) (dE:Int) (aV:Int) (aW:Int) (fD:Int) (fM:Int):Option (Bool):=if dE=1 then (bI.j0 k dE (dE == 1) dE aV aW fD fM) else (if dE=4 then (bI.j0 k dE (dE == 4) dE aV aW fD fM) else (if dE=8 then (bI.j0 k dE (dE == 8) dE aV aW fD fM) else (if dE=14 then (bI.j0 k dE (dE == 14) dE aV aW fD fM) else (bI.j0 k dE (dE == 15) dE aV aW fD fM))))
theorem bI.iF:∀ k,(∀ y0 y1 y2 y3 y4 y5 y6,dP (bI.j0 k y0 y1 y2 y3 y4 y5 y6) (bI.j0 (k+1) y0 y1 y2 y3 y4 y5 y6))
 | 0=>fun _ _ _ _ _ _ _ r h=>by simp [bI.j0] at h
 | k+1=>by
  have lW:=bI.iF k
  ·
   intro y0 y1 y2 y3 y4 y5 y6
   unfold bI.j0
   repeat' with_reducible first|apply lW|exact dP.refl _|exact dP.none _|refine dP.ite ?_ ?_|refine dP.bind ?_ (fun _=>?_)
theorem bI.mono:∀ a0 a1 a2 a3 a4 k,dP (bI.f k a0 a1 a2 a3 a4) (bI.f (k+1) a0 a1 a2 a3 a4):=by
 intro a0 a1 a2 a3 a4 k
 have lW:=bI.iF k
 unfold bI.f
 repeat' with_reducible first|apply lW|exact dP.refl _|exact dP.none _|refine dP.ite ?_ ?_|refine dP.bind ?_ (fun _=>?_)
set_option maxHeartbeats 8000000 in
set_option maxRecDepth 100000 in
theorem bI.calls (k:Nat) (dE:Int) (aV:Int) (aW:Int) (fD:Int) (fM:Int) (r:Bool) (w:World) (h:bI.f k dE aV aW fD fM=some r) :
  Calls Tryd.prog 29 #[.agg #[.int .u8 dE,.int .u8 aV,.int .u8 aW,.int .u8 fD,.int .i64 fM]] w fun e w'=>e=.returned (.bool r)∧Below w.heap.size w w':=by
 have CW:=Tryd.underlying55
 have HB:=ae.mk (Below.refl w.heap.size w)
 have H:(if dE=1 then (bI.j0 k dE (dE == 1) dE aV aW fD fM) else (if dE=4 then (bI.j0 k dE (dE == 4) dE aV aW fD fM) else (if dE=8 then (bI.j0 k dE (dE == 8) dE aV aW fD fM) else (if dE=14 then (bI.j0 k dE (dE == 14) dE aV aW fD fM) else (bI.j0 k dE (dE == 15) dE aV aW fD fM)))))=some r:=h
 clear h
 have HC2:=ae.mk H
 clear H
 go_enter Tryd.func29,Tryd.ntmps29
 go_upto_if 5 with (first|((with_reducible refine bD (N:=1) rfl ?_);refine fG ?hg (N:=1) ?hd (cs:=#[.int .u8 dE,.int .u8 aV,.int .u8 aW,.int .u8 fD,.int .i64 fM]) (t:=55) ?hr ?_;(case hd=>rfl);(case hg=>rfl);(case hr=>first|(go_simp;done)|(go_simp;rfl));intro Zu hg w3 hbox hb;have dX:=ae.mk (bn (by repeat (first|(with_reducible first|exact HB.out|apply ah|apply ag|apply ai)|exact HB.out)) hb);have dW:=ae.mk (hbox);have dU:=ae.mk ((by rw [hg];exact (bY (by repeat (first|(with_reducible first|exact HB.out|apply ah|apply ag|apply ai)|exact HB.out))):w.heap.size≤Zu));have iq:=dU;clear HB;have HB:=dX;have uH:=dW;have aqL:=dU;have vI:=iq;clear dX dW dU iq;clear hb hbox hg;obtain ⟨QM,QL,QK,QJ,aa8,QD,QB,QA,Qz,aa2⟩:=kF uH.out))
 (try simp only [Act.put,List.setIfInBounds_toArray,List.set_cons_zero,List.set_cons_succ])
 go_cut [5] (fun v5 wc=>∃ (kq:Nat) (jr:Bool),v5=.bool jr∧ae (bI.j0 kq dE jr dE aV aW fD fM=some r)∧ae (kq≤k)∧ae (wc.heap[Zu]? = some (.cells #[.int .u8 dE,.int .u8 aV,.int .u8 aW,.int .u8 fD,.int .i64 fM] 55 (0,0)))∧ae (Below w.heap.size w wc))
 case first =>
  have H:=HC2.out
  clear HC2
  by_cases c5:dE=1
  ·
   rw [if_pos c5] at H
   have rU:(dE == 1)=true:=beq_iff_eq.mpr c5
   have O6:(dE != 1)=false:=bne_eq_false_iff_eq.mpr c5
   clear c5
   (first|rw [rU]|(simp only [bT,bW];rw [rU])|skip)
   have H':=ae.mk H
   clear H
   go_wp2
   go_meet
   case rel=>exact ⟨_,((dE == 1)),(by first|rfl|(simp;done)|(simp [*];done)),H',⟨by first|omega|exact Nat.le_refl _⟩,⟨by (with_reducible repeat (first|refine au ?_ _|refine ay ?_|refine ak ?_ _));exact uH.out⟩,⟨by repeat (first|(with_reducible first|exact HB.out|apply ah|apply ag|apply ai|refine aj ?_ vI.out)|exact HB.out)⟩⟩
  ·
   rw [if_neg c5] at H
   have rU:(dE == 1)=false:=beq_eq_false_iff_ne.mpr c5
   have O6:(dE != 1)=true:=bne_iff_ne.mpr c5
   (first|rw [rU]|(simp only [bT,bW];rw [rU])|skip)
   by_cases c6:dE=4
   ·
    rw [if_pos c6] at H
    have oK:(dE == 4)=true:=beq_iff_eq.mpr c6
    have yT:(dE != 4)=false:=bne_eq_false_iff_eq.mpr c6
    clear c6
    have H':=ae.mk H
    clear H
    go_wp2
    go_meet
    case rel=>exact ⟨_,((dE == 4)),(by first|rfl|(simp;done)|(simp [*];done)),H',⟨by first|omega|exact Nat.le_refl _⟩,⟨by (with_reducible repeat (first|refine au ?_ _|refine ay ?_|refine ak ?_ _));exact uH.out⟩,⟨by repeat (first|(with_reducible first|exact HB.out|apply ah|apply ag|apply ai|refine aj ?_ vI.out)|exact HB.out)⟩⟩
   ·
    rw [if_neg c6] at H
    have oK:(dE == 4)=false:=beq_eq_false_iff_ne.mpr c6
    have yT:(dE != 4)=true:=bne_iff_ne.mpr c6
    by_cases c7:dE=8
    ·
     rw [if_pos c7] at H
     have oQ:(dE == 8)=true:=beq_iff_eq.mpr c7
     have yw:(dE != 8)=false:=bne_eq_false_iff_eq.mpr c7
     clear c7
     have H':=ae.mk H
     clear H
     go_wp2
     go_meet
     case rel=>exact ⟨_,((dE == 8)),(by first|rfl|(simp;done)|(simp [*];done)),H',⟨by first|omega|exact Nat.le_refl _⟩,⟨by (with_reducible repeat (first|refine au ?_ _|refine ay ?_|refine ak ?_ _));exact uH.out⟩,⟨by repeat (first|(with_reducible first|exact HB.out|apply ah|apply ag|apply ai|refine aj ?_ vI.out)|exact HB.out)⟩⟩
    ·
     rw [if_neg c7] at H
     have oQ:(dE == 8)=false:=beq_eq_false_iff_ne.mpr c7
     have yw:(dE != 8)=true:=bne_iff_ne.mpr c7
     by_cases c8:dE=14
     ·
      rw [if_pos c8] at H
      have pU:(dE == 14)=true:=beq_iff_eq.mpr c8
      have zN:(dE != 14)=false:=bne_eq_false_iff_eq.mpr c8
      clear c8
      have H':=ae.mk H
      clear H
      go_wp2
      go_meet
      case rel=>exact ⟨_,((dE == 14)),(by first|rfl|(simp;done)|(simp [*];done)),H',⟨by first|omega|exact Nat.le_refl _⟩,⟨by (with_reducible repeat (first|refine au ?_ _|refine ay ?_|refine ak ?_ _));exact uH.out⟩,⟨by repeat (first|(with_reducible first|exact HB.out|apply ah|apply ag|apply ai|refine aj ?_ vI.out)|exact HB.out)⟩⟩
     ·
      rw [if_neg c8] at H
      have pU:(dE == 14)=false:=beq_eq_false_iff_ne.mpr c8
      have zN:(dE != 14)=true:=bne_iff_ne.mpr c8
      have H':=ae.mk H
      clear H
      go_wp2
      go_meet
      case rel=>exact ⟨_,((dE == 15)),(by first|rfl|(simp;done)|(simp [*];done)),H',⟨by first|omega|exact Nat.le_refl _⟩,⟨by (with_reducible repeat (first|refine au ?_ _|refine ay ?_|refine ak ?_ _));exact uH.out⟩,⟨by repeat (first|(with_reducible first|exact HB.out|apply ah|apply ag|apply ai|refine aj ?_ vI.out)|exact HB.out)⟩⟩
 case rest =>
  clear HC2
  obtain ⟨kq,jr,rfl,HA,zh,uH,HB⟩:=hcut
  cases kq with
  | zero=>exact absurd HA.out (by simp [bI.j0])
  | succ Ph =>
   have H:=HA.out
   clear HA
   simp only [bI.j0] at H
   by_cases c9:jr=true
   ·
    subst c9
    have H1:(some (decide (aV < 8)))=some r:=by rw [if_pos rfl] at H;exact H
    clear H
    have H:=H1
    clear H1
    obtain rfl:=Option.some.inj H
    obtain ⟨yj,yh,yg,yf,X6,yc,x9,xZ,xY,Wn⟩:=kF uH.out
    go_wp2
    go_ret
    exact ⟨by first|rfl|(simp [aQ,aN] <;> rfl)|(simp [*,aQ,aN] <;> rfl),by repeat (first|(with_reducible first|exact HB.out|apply ah|apply ag|apply ai|refine aj ?_ vI.out)|exact HB.out)⟩
   ·
    replace c9:=Bool.eq_false_iff.mpr c9
    subst c9
    have H1:(if dE=2 then (if aV < 8 then (if aW < 8 then (some (decide (fD < 8))) else (some false)) else (some false)) else (if dE=9 then (some (decide (aW < 8))) else (some true)))=some r:=by rw [if_neg (show ¬ (false=true) by decide)] at H;exact H
    clear H
    have H:=H1
    clear H1
    by_cases c11:dE=2
    ·
     rw [if_pos c11] at H
     have vz:(dE == 2)=true:=beq_iff_eq.mpr c11
     have D8:(dE != 2)=false:=bne_eq_false_iff_eq.mpr c11
     clear c11
     by_cases c12:aV < 8
     ·
      rw [if_pos c12] at H
      have xq:decide (aV < 8)=true:=decide_eq_true c12
      clear c12
      by_cases c13:aW < 8
      ·
       rw [if_pos c13] at H
       have mY:decide (aW < 8)=true:=decide_eq_true c13
       clear c13
       obtain rfl:=Option.some.inj H
       obtain ⟨X3,X0,XZ,XY,amr,Wi,Wh,We,V9,aka⟩:=kF uH.out
       go_wp2
       go_ret
       exact ⟨by first|rfl|(simp [aQ,aN] <;> rfl)|(simp [*,aQ,aN] <;> rfl),by repeat (first|(with_reducible first|exact HB.out|apply ah|apply ag|apply ai|refine aj ?_ vI.out)|exact HB.out)⟩
      ·
       rw [if_neg c13] at H
       have mY:decide (aW < 8)=false:=decide_eq_false c13
       clear c13
       obtain rfl:=Option.some.inj H
       obtain ⟨XX,XW,XV,XU,amq,V8,V7,V6,V5,aj9⟩:=kF uH.out
       go_wp2
       go_ret
       exact ⟨by first|rfl|(simp [aQ,aN] <;> rfl)|(simp [*,aQ,aN] <;> rfl),by repeat (first|(with_reducible first|exact HB.out|apply ah|apply ag|apply ai|refine aj ?_ vI.out)|exact HB.out)⟩
     ·
      rw [if_neg c12] at H
      have xq:decide (aV < 8)=false:=decide_eq_false c12
      clear c12
      obtain rfl:=Option.some.inj H
      obtain ⟨Fa,E8,E5,EZ,Nb,ES,ER,EP,EO,LM⟩:=kF uH.out
      go_wp2
      go_ret
      exact ⟨by first|rfl|(simp [aQ,aN] <;> rfl)|(simp [*,aQ,aN] <;> rfl),by repeat (first|(with_reducible first|exact HB.out|apply ah|apply ag|apply ai|refine aj ?_ vI.out)|exact HB.out)⟩
    ·
     rw [if_neg c11] at H
     have vz:(dE == 2)=false:=beq_eq_false_iff_ne.mpr c11
     have D8:(dE != 2)=true:=bne_iff_ne.mpr c11
     by_cases c17:dE=9
     ·
      rw [if_pos c17] at H
      have zC:(dE == 9)=true:=beq_iff_eq.mpr c17
      have Hq:(dE != 9)=false:=bne_eq_false_iff_eq.mpr c17
      clear c17
      obtain rfl:=Option.some.inj H
      obtain ⟨MV,MS,MR,MQ,XR,LD,LC,Lu,Lt,V3⟩:=kF uH.out
      go_wp2
      go_ret
      exact ⟨by first|rfl|(simp [aQ,aN] <;> rfl)|(simp [*,aQ,aN] <;> rfl),by repeat (first|(with_reducible first|exact HB.out|apply ah|apply ag|apply ai|refine aj ?_ vI.out)|exact HB.out)⟩
     ·
      rw [if_neg c17] at H
      have zC:(dE == 9)=false:=beq_eq_false_iff_ne.mpr c17
      have Hq:(dE != 9)=true:=bne_iff_ne.mpr c17
      obtain rfl:=Option.some.inj H
      go_wp2
      go_ret
      exact ⟨by first|rfl|(simp [aQ,aN] <;> rfl)|(simp [*,aQ,aN] <;> rfl),by repeat (first|(with_reducible first|exact HB.out|apply ah|apply ag|apply ai|refine aj ?_ vI.out)|exact HB.out)⟩
def fP.f (k:Nat) (l0:List ByteArray) (a1:ByteArray) (a2:Int):Option (Int):=if (wrap64 (a2)) ≥ (a1.size:Int) then (some (-1)) else (if 0≤(wrap64 (a2)) then (if (wrap64 (a2))≤(wrap64 ((wrap64 (a2))+1)) then (if (wrap64 ((wrap64 (a2))+1))≤(a1.size:Int) then ((aX.f k l0 (a1.extract ((wrap64 (a2)):Int).toNat ((wrap64 ((wrap64 (a2))+1)):Int).toNat)).bind fun t151=>(if t151=true then (if 0≤a2 then (if a2 < (a1.size:Int) then (some (((bt a1 a2) - 48) % 256)) else (none)) else (none)) else (some (-1)))) else (none)) else (none)) else (none))
theorem fP.mono:∀ a0 a1 a2 k,dP (fP.f k a0 a1 a2) (fP.f (k+1) a0 a1 a2):=by
 intro a0 a1 a2 k
 unfold fP.f
 repeat' with_reducible first|apply aX.mono|exact dP.refl _|exact dP.none _|refine dP.ite ?_ ?_|refine dP.bind ?_ (fun _=>?_)
set_option maxHeartbeats 8000000 in
set_option maxRecDepth 100000 in
theorem fP.calls (k:Nat) (A0:Option Addr) (c0:Nat) (l0:List ByteArray) (a1:ByteArray) (a2:Int) (r:Int) (w:World) (hr0:Kd.C Kd.string w A0 l0.length l0) (hc0:l0.length≤c0) (h:fP.f k l0 a1 a2=some r) :
  Calls Tryd.prog 31 #[.slice A0 l0.length c0,.string a1,.int .u8 a2] w fun e w'=>e=.returned (.int .i64 r)∧aU w w':=by
 have HR0:=ae.mk hr0
 have tX:=ae.mk hc0
 clear hr0 hc0
 have H:(if (wrap64 (a2)) ≥ (a1.size:Int) then (some (-1)) else (if 0≤(wrap64 (a2)) then (if (wrap64 (a2))≤(wrap64 ((wrap64 (a2))+1)) then (if (wrap64 ((wrap64 (a2))+1))≤(a1.size:Int) then ((aX.f k l0 (a1.extract ((wrap64 (a2)):Int).toNat ((wrap64 ((wrap64 (a2))+1)):Int).toNat)).bind fun t151=>(if t151=true then (if 0≤a2 then (if a2 < (a1.size:Int) then (some (((bt a1 a2) - 48) % 256)) else (none)) else (none)) else (some (-1)))) else (none)) else (none)) else (none)))=some r:=h
 clear h
 by_cases c4:(wrap64 (a2)) ≥ (a1.size:Int)
 ·
  rw [if_pos c4] at H
  have oD:decide ((a1.size:Int)≤(wrap64 (a2)))=true:=decide_eq_true c4
  clear c4
  obtain rfl:=Option.some.inj H
  go_enter Tryd.func31,Tryd.ntmps31
  go_wp2
  go_ret
  exact ⟨by first|rfl|(simp;done)|(simp [*];done),by repeat (first|exact aU.refl _|apply aU.step)⟩
 ·
  rw [if_neg c4] at H
  have oD:decide ((a1.size:Int)≤(wrap64 (a2)))=false:=decide_eq_false c4
  clear c4
  obtain ⟨uq,yR⟩:∃ j_:Int,(wrap64 (a2))=j_:=⟨_,rfl⟩
  replace H:(if 0≤(uq) then (if (uq)≤(wrap64 ((uq)+1)) then (if (wrap64 ((uq)+1))≤(a1.size:Int) then ((aX.f k l0 (a1.extract ((uq):Int).toNat ((wrap64 ((uq)+1)):Int).toNat)).bind fun t151=>(if t151=true then (if 0≤a2 then (if a2 < (a1.size:Int) then (some (((bt a1 a2) - 48) % 256)) else (none)) else (none)) else (some (-1)))) else (none)) else (none)) else (none))=some r:=by first|(rw [yR] at H;exact H)|(simp only [yR] at H ⊢;exact H)
  (try rw [yR] at oD)
  have adG:(IntKind.i64.wrap (a2))=uq:=(bT _).trans yR
  by_cases c6:0≤(uq)
  ·
   rw [if_pos c6] at H
   have oK:=eq_true c6
   have yT:decide (0≤(uq))=true:=decide_eq_true c6
   clear c6
   by_cases c7:(uq)≤(wrap64 ((uq)+1))
   ·
    rw [if_pos c7] at H
    have oQ:=eq_true c7
    have yw:decide ((uq)≤(wrap64 ((uq)+1)))=true:=decide_eq_true c7
    by_cases c8:(wrap64 ((uq)+1))≤(a1.size:Int)
    ·
     rw [if_pos c8] at H
     have pU:=eq_true c8
     have zN:decide ((wrap64 ((uq)+1))≤(a1.size:Int))=true:=decide_eq_true c8
     replace H:=Option.bind_eq_some_iff.mp H
     obtain ⟨t151,Pe,H⟩:=H
     replace H:(if t151=true then (if 0≤a2 then (if a2 < (a1.size:Int) then (some (((bt a1 a2) - 48) % 256)) else (none)) else (none)) else (some (-1)))=some r:=H
     have A9:=ae.mk Pe
     clear Pe
     by_cases c10:t151=true
     ·
      subst c10
      have H1:(if 0≤a2 then (if a2 < (a1.size:Int) then (some (((bt a1 a2) - 48) % 256)) else (none)) else (none))=some r:=by rw [if_pos rfl] at H;exact H
      clear H
      have H:=H1
      clear H1
      by_cases c11:0≤a2
      ·
       rw [if_pos c11] at H
       have vz:decide (0≤a2)=true:=decide_eq_true c11
       clear c11
       by_cases c12:a2 < (a1.size:Int)
       ·
        rw [if_pos c12] at H
        have xq:decide (a2 < (a1.size:Int))=true:=decide_eq_true c12
        clear c12
        obtain rfl:=Option.some.inj H
        go_enter Tryd.func31,Tryd.ntmps31
        go_wp2_with (first|(go_at_call 27;(with_reducible refine (aX.calls k _ _ l0 (a1.extract ((uq):Int).toNat ((wrap64 ((uq)+1)):Int).toNat) true _ ?df ?dA A9.out).mono ?_);(case df=>repeat (first|exact HR0.out|(with_reducible refine Kd.bQ ?_ _)|(with_reducible refine Kd.bP ?_ _)|(with_reducible refine Kd.dF ?_)));(case dA=>exact tX.out);rintro e w' ⟨rfl,⟨nd,rfl⟩⟩;have p13:0≤(a2:Int):=of_decide_eq_true (by first|(with_reducible assumption)|assumption);have q13:a2 < (a1.size:Int):=of_decide_eq_true (by first|(with_reducible assumption)|assumption);have UI:=kY a1 a2;replace p13:=eq_true p13;replace q13:=eq_true q13))
        go_ret
        exact ⟨by first|rfl|(simp;done)|(simp only [← yR] <;> (first|rfl|simp))|(simp [*];done),by repeat (first|exact aU.refl _|apply aU.step)⟩
       ·
        rw [if_neg c12] at H
        exact absurd H (by simp)
      ·
       rw [if_neg c11] at H
       exact absurd H (by simp)
     ·
      replace c10:=Bool.eq_false_iff.mpr c10
      subst c10
      have H1:(some (-1))=some r:=by rw [if_neg (show ¬ (false=true) by decide)] at H;exact H
      clear H
      have H:=H1
      clear H1
      obtain rfl:=Option.some.inj H
      go_enter Tryd.func31,Tryd.ntmps31
      go_wp2_with (first|(go_at_call 27;(with_reducible refine (aX.calls k _ _ l0 (a1.extract ((uq):Int).toNat ((wrap64 ((uq)+1)):Int).toNat) false _ ?df ?dA A9.out).mono ?_);(case df=>repeat (first|exact HR0.out|(with_reducible refine Kd.bQ ?_ _)|(with_reducible refine Kd.bP ?_ _)|(with_reducible refine Kd.dF ?_)));(case dA=>exact tX.out);rintro e w' ⟨rfl,⟨nd,rfl⟩⟩))
      go_ret
      exact ⟨by first|rfl|(simp;done)|(simp only [← yR] <;> (first|rfl|simp))|(simp [*];done),by repeat (first|exact aU.refl _|apply aU.step)⟩
    ·
     rw [if_neg c8] at H
     exact absurd H (by simp)
   ·
    rw [if_neg c7] at H
    exact absurd H (by simp)
  ·
   rw [if_neg c6] at H
   exact absurd H (by simp)
def dO.f (k:Nat) (aZ:List ByteArray) (aV:ByteArray) (aW:ByteArray) (aI:List (iD)) (a1:Int):Option (Int):=(fP.f k aZ aV a1).bind fun t153=>(some t153)
theorem dO.mono:∀ a0 a1 a2 a3 a4 k,dP (dO.f k a0 a1 a2 a3 a4) (dO.f (k+1) a0 a1 a2 a3 a4):=by
 intro a0 a1 a2 a3 a4 k
 unfold dO.f
 repeat' with_reducible first|apply fP.mono|exact dP.refl _|exact dP.none _|refine dP.ite ?_ ?_|refine dP.bind ?_ (fun _=>?_)
set_option maxHeartbeats 8000000 in
set_option maxRecDepth 100000 in
theorem dO.calls (k:Nat) (eu:Option Addr) (ed:Nat) (aZ:List ByteArray) (aV:ByteArray) (aW:ByteArray) (gm:Option Addr) (eX:Nat) (aI:List (iD)) (a1:Int) (r:Int) (w:World) (jV:Kd.C Kd.string w eu aZ.length aZ) (jX:aZ.length≤ed) (jU:Kd.C uD w gm aI.length aI) (jW:aI.length≤eX) (h:dO.f k aZ aV aW aI a1=some r) :
  Calls Tryd.prog 19 #[.agg #[.slice eu aZ.length ed,.string aV,.string aW,.slice gm aI.length eX],.int .u8 a1] w fun e w'=>e=.returned (.int .i64 r)∧Below w.heap.size w w':=by
 have yP:=Tryd.underlying25
 have iI:=ae.mk jV
 have iL:=ae.mk jX
 clear jV jX
 have jR:=ae.mk jU
 have kK:=ae.mk jW
 clear jU jW
 have HB:=ae.mk (Below.refl w.heap.size w)
 have H:((fP.f k aZ aV a1).bind fun t153=>(some t153))=some r:=h
 clear h
 replace H:=Option.bind_eq_some_iff.mp H
 obtain ⟨t153,yF,H⟩:=H
 replace H:(some t153)=some r:=H
 have A3:=ae.mk yF
 clear yF
 obtain rfl:=Option.some.inj H
 go_enter Tryd.func19,Tryd.ntmps19
 go_wp2_with (first|((with_reducible refine bD (N:=2) rfl ?_);refine fG ?hg (N:=2) ?hd (cs:=#[.slice eu aZ.length ed,.string aV,.string aW,.slice gm aI.length eX]) (t:=25) ?hr ?_;(case hd=>rfl);(case hg=>rfl);(case hr=>first|(go_simp;done)|(go_simp;rfl));intro aey hg w4 hbox hb;have dX:=ae.mk (bn (by repeat (first|(with_reducible first|exact HB.out|apply ah|apply ag|apply ai)|exact HB.out)) hb);have dW:=ae.mk (hbox);have dU:=ae.mk ((by rw [hg];exact (bY (by repeat (first|(with_reducible first|exact HB.out|apply ah|apply ag|apply ai)|exact HB.out))):w.heap.size≤aey));have iq:=dU;clear HB;have HB:=dX;have agh:=dW;have aqK:=dU;have agc:=iq;clear dX dW dU iq;clear hb hbox hg;obtain ⟨BO,BN,BM,BL,BK,BJ,BI,BH⟩:=rW agh.out)|((with_reducible refine bz (f:=31) rfl ?_);refine dV (some 10) rfl rfl Tryd.func31 (by kernel_rfl) rfl #[.slice eu aZ.length ed,.string aV,.int .u8 a1] rfl (by (try simp only [List.map_toArray,List.map_cons,List.map_nil]);first|done|rfl|(simp only [List.length_drop,List.length_take];rfl)) ?_;(with_reducible refine (fP.calls k _ _ aZ aV a1 t153 _ ?df ?dA A3.out).mono ?_);(case df=>repeat (first|exact (Kd.bJ iI.out HB.out)|(with_reducible refine Kd.bQ ?_ _)|(with_reducible refine Kd.bP ?_ _)|(with_reducible refine Kd.dF ?_)));(case dA=>exact iL.out);rintro e w' ⟨rfl,⟨nd,rfl⟩⟩;refine ⟨_,rfl,?_⟩))
 go_ret
 exact ⟨by first|rfl|(simp [aQ,aN] <;> rfl)|(simp [*,aQ,aN] <;> rfl),by repeat (first|(with_reducible first|exact HB.out|apply ah|apply ag|apply ai|refine aj ?_ agc.out)|exact HB.out)⟩
def fQ.f (k:Nat) (aZ:List ByteArray) (aV:ByteArray) (aW:ByteArray) (aI:List (iD)) (a1:Int):Option (Int):=(fP.f k aZ aW a1).bind fun t155=>(some t155)
theorem fQ.mono:∀ a0 a1 a2 a3 a4 k,dP (fQ.f k a0 a1 a2 a3 a4) (fQ.f (k+1) a0 a1 a2 a3 a4):=by
 intro a0 a1 a2 a3 a4 k
 unfold fQ.f
 repeat' with_reducible first|apply fP.mono|exact dP.refl _|exact dP.none _|refine dP.ite ?_ ?_|refine dP.bind ?_ (fun _=>?_)
set_option maxHeartbeats 8000000 in
set_option maxRecDepth 100000 in
theorem fQ.calls (k:Nat) (eu:Option Addr) (ed:Nat) (aZ:List ByteArray) (aV:ByteArray) (aW:ByteArray) (gm:Option Addr) (eX:Nat) (aI:List (iD)) (a1:Int) (r:Int) (w:World) (jV:Kd.C Kd.string w eu aZ.length aZ) (jX:aZ.length≤ed) (jU:Kd.C uD w gm aI.length aI) (jW:aI.length≤eX) (h:fQ.f k aZ aV aW aI a1=some r) :
  Calls Tryd.prog 20 #[.agg #[.slice eu aZ.length ed,.string aV,.string aW,.slice gm aI.length eX],.int .u8 a1] w fun e w'=>e=.returned (.int .i64 r)∧Below w.heap.size w w':=by
 have yP:=Tryd.underlying25
 have iI:=ae.mk jV
 have iL:=ae.mk jX
 clear jV jX
 have jR:=ae.mk jU
 have kK:=ae.mk jW
 clear jU jW
 have HB:=ae.mk (Below.refl w.heap.size w)
 have H:((fP.f k aZ aW a1).bind fun t155=>(some t155))=some r:=h
 clear h
 replace H:=Option.bind_eq_some_iff.mp H
 obtain ⟨t155,yF,H⟩:=H
 replace H:(some t155)=some r:=H
 have A3:=ae.mk yF
 clear yF
 obtain rfl:=Option.some.inj H
 go_enter Tryd.func20,Tryd.ntmps20
 go_wp2_with (first|((with_reducible refine bD (N:=2) rfl ?_);refine fG ?hg (N:=2) ?hd (cs:=#[.slice eu aZ.length ed,.string aV,.string aW,.slice gm aI.length eX]) (t:=25) ?hr ?_;(case hd=>rfl);(case hg=>rfl);(case hr=>first|(go_simp;done)|(go_simp;rfl));intro aex hg w4 hbox hb;have dX:=ae.mk (bn (by repeat (first|(with_reducible first|exact HB.out|apply ah|apply ag|apply ai)|exact HB.out)) hb);have dW:=ae.mk (hbox);have dU:=ae.mk ((by rw [hg];exact (bY (by repeat (first|(with_reducible first|exact HB.out|apply ah|apply ag|apply ai)|exact HB.out))):w.heap.size≤aex));have iq:=dU;clear HB;have HB:=dX;have agf:=dW;have aqJ:=dU;have agb:=iq;clear dX dW dU iq;clear hb hbox hg;obtain ⟨BO,BN,BM,BL,BK,BJ,BI,BH⟩:=rW agf.out)|((with_reducible refine bz (f:=31) rfl ?_);refine dV (some 10) rfl rfl Tryd.func31 (by kernel_rfl) rfl #[.slice eu aZ.length ed,.string aW,.int .u8 a1] rfl (by (try simp only [List.map_toArray,List.map_cons,List.map_nil]);first|done|rfl|(simp only [List.length_drop,List.length_take];rfl)) ?_;(with_reducible refine (fP.calls k _ _ aZ aW a1 t155 _ ?df ?dA A3.out).mono ?_);(case df=>repeat (first|exact (Kd.bJ iI.out HB.out)|(with_reducible refine Kd.bQ ?_ _)|(with_reducible refine Kd.bP ?_ _)|(with_reducible refine Kd.dF ?_)));(case dA=>exact iL.out);rintro e w' ⟨rfl,⟨nd,rfl⟩⟩;refine ⟨_,rfl,?_⟩))
 go_ret
 exact ⟨by first|rfl|(simp [aQ,aN] <;> rfl)|(simp [*,aQ,aN] <;> rfl),by repeat (first|(with_reducible first|exact HB.out|apply ah|apply ag|apply ai|refine aj ?_ agb.out)|exact HB.out)⟩
def dC.f (a0:Int) (a1:Int):Option (Bool):=if a0 ≥ 0 then (some (a0 == a1)) else (some false)
set_option maxHeartbeats 8000000 in
set_option maxRecDepth 100000 in
theorem dC.calls (a0:Int) (a1:Int) (r:Bool) (w:World) (h:dC.f a0 a1=some r) :
  Calls Tryd.prog 48 #[.int .i64 a0,.int .i64 a1] w fun e w'=>e=.returned (.bool r)∧aU w w':=by
 have H:(if a0 ≥ 0 then (some (a0 == a1)) else (some false))=some r:=h
 clear h
 by_cases c3:a0 ≥ 0
 ·
  rw [if_pos c3] at H
  have oG:decide (0≤a0)=true:=decide_eq_true c3
  clear c3
  obtain rfl:=Option.some.inj H
  go_enter Tryd.func48,Tryd.ntmps48
  go_wp2
  go_ret
  exact ⟨by first|rfl|(simp;done)|(simp [*];done),by repeat (first|exact aU.refl _|apply aU.step)⟩
 ·
  rw [if_neg c3] at H
  have oG:decide (0≤a0)=false:=decide_eq_false c3
  clear c3
  obtain rfl:=Option.some.inj H
  go_enter Tryd.func48,Tryd.ntmps48
  go_wp2
  go_ret
  exact ⟨by first|rfl|(simp;done)|(simp [*];done),by repeat (first|exact aU.refl _|apply aU.step)⟩
end Go.Proofs.YtlemecdddhdagaaDoor.P
end
