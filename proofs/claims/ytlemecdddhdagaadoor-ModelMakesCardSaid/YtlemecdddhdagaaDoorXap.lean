/- Parts of the proof of ModelMakes: what the functions that it reaches compute, and plain facts about that. -/
import Derived.Test.YtlemecdddhdagaaDoorXab
import Derived.Test.YtlemecdddhdagaaDoorXac
import Derived.Test.YtlemecdddhdagaaDoorXal
import Derived.Test.YtlemecdddhdagaaDoorXam
import Derived.Test.YtlemecdddhdagaaDoorXao
set_option linter.unusedVariables false
set_option linter.unusedSimpArgs false
section
namespace Go.Proofs.YtlemecdddhdagaaDoor.P
open Go.RowKit Go.Proofs.ag.bH Go.Proofs.ag.dM Go.Proofs.ag.dY
attribute [local go_sem] kR kP lU lT jM jL kQ kN
attribute [local go_sem high] abq
def jr.f (dA:Int) (aT:Int) (aU:Int) (eY:Int) (fF:Int) (a1:Int):Option (Int):=if a1=97 then (some (wrap64 (aT))) else (if a1=98 then (some (wrap64 (aU))) else (if a1=99 then (some (wrap64 (eY))) else (some fF)))
set_option maxHeartbeats 8000000 in
set_option maxRecDepth 100000 in
theorem jr.calls (dA:Int) (aT:Int) (aU:Int) (eY:Int) (fF:Int) (a1:Int) (r:Int) (w:World) (h:jr.f dA aT aU eY fF a1=some r) :
  Calls Tryd.prog 67 #[.agg #[.int .u8 dA,.int .u8 aT,.int .u8 aU,.int .u8 eY,.int .i64 fF],.int .u8 a1] w fun e w'=>e=.returned (.int .i64 r)∧Below w.heap.size w w':=by
 have AL:=Tryd.underlying55
 have HB:=ae.mk (Below.refl w.heap.size w)
 have H:(if a1=97 then (some (wrap64 (aT))) else (if a1=98 then (some (wrap64 (aU))) else (if a1=99 then (some (wrap64 (eY))) else (some fF))))=some r:=h
 clear h
 by_cases c3:a1=97
 ·
  rw [if_pos c3] at H
  have nS:(a1 == 97)=true:=beq_iff_eq.mpr c3
  have AV:(a1 != 97)=false:=bne_eq_false_iff_eq.mpr c3
  clear c3
  obtain rfl:=Option.some.inj H
  go_enter Tryd.func67,Tryd.ntmps67
  go_wp2_with (first|((with_reducible refine dN (N:=2) rfl ?_);refine fB ?hg (N:=2) ?hd (cs:=#[.int .u8 dA,.int .u8 aT,.int .u8 aU,.int .u8 eY,.int .i64 fF]) (t:=55) ?hr ?_;(case hd=>rfl);(case hg=>rfl);(case hr=>first|(go_simp;done)|(go_simp;rfl));intro zX hg w4 hbox hb;have dS:=ae.mk (bg (by repeat (first|(with_reducible first|exact HB.out|apply ah|apply af|apply ai)|exact HB.out)) hb);have dR:=ae.mk (hbox);have dO:=ae.mk ((by rw [hg];exact (bQ (by repeat (first|(with_reducible first|exact HB.out|apply ah|apply af|apply ai)|exact HB.out))):w.heap.size≤zX));have gQ:=dO;clear HB;have HB:=dS;have Ar:=dR;have PQ:=dO;have Aq:=gQ;clear dS dR dO gQ;clear hb hbox hg;obtain ⟨zV,zU,zT,zS,Ym,zQ,zO,zN,zM,Yi⟩:=jO Ar.out))
  go_ret
  exact ⟨by first|rfl|(simp [aQ,aN] <;> rfl)|(simp [*,aQ,aN] <;> rfl),by repeat (first|(with_reducible first|exact HB.out|apply ah|apply af|apply ai|refine aj ?_ Aq.out)|exact HB.out)⟩
 ·
  rw [if_neg c3] at H
  have nS:(a1 == 97)=false:=beq_eq_false_iff_ne.mpr c3
  have AV:(a1 != 97)=true:=bne_iff_ne.mpr c3
  by_cases c6:a1=98
  ·
   rw [if_pos c6] at H
   have nP:(a1 == 98)=true:=beq_iff_eq.mpr c6
   have xE:(a1 != 98)=false:=bne_eq_false_iff_eq.mpr c6
   clear c6
   obtain rfl:=Option.some.inj H
   go_enter Tryd.func67,Tryd.ntmps67
   go_wp2_with (first|((with_reducible refine dN (N:=2) rfl ?_);refine fB ?hg (N:=2) ?hd (cs:=#[.int .u8 dA,.int .u8 aT,.int .u8 aU,.int .u8 eY,.int .i64 fF]) (t:=55) ?hr ?_;(case hd=>rfl);(case hg=>rfl);(case hr=>first|(go_simp;done)|(go_simp;rfl));intro zX hg w7 hbox hb;have dS:=ae.mk (bg (by repeat (first|(with_reducible first|exact HB.out|apply ah|apply af|apply ai)|exact HB.out)) hb);have dR:=ae.mk (hbox);have dO:=ae.mk ((by rw [hg];exact (bQ (by repeat (first|(with_reducible first|exact HB.out|apply ah|apply af|apply ai)|exact HB.out))):w.heap.size≤zX));have gQ:=dO;clear HB;have HB:=dS;have Ar:=dR;have PQ:=dO;have Aq:=gQ;clear dS dR dO gQ;clear hb hbox hg;obtain ⟨Oo,Om,Ol,Oj,Yl,Oa,N9,N8,N7,Yh⟩:=jO Ar.out))
   go_ret
   exact ⟨by first|rfl|(simp [aQ,aN] <;> rfl)|(simp [*,aQ,aN] <;> rfl),by repeat (first|(with_reducible first|exact HB.out|apply ah|apply af|apply ai|refine aj ?_ Aq.out)|exact HB.out)⟩
  ·
   rw [if_neg c6] at H
   have nP:(a1 == 98)=false:=beq_eq_false_iff_ne.mpr c6
   have xE:(a1 != 98)=true:=bne_iff_ne.mpr c6
   by_cases c9:a1=99
   ·
    rw [if_pos c9] at H
    have DD:(a1 == 99)=true:=beq_iff_eq.mpr c9
    have VI:(a1 != 99)=false:=bne_eq_false_iff_eq.mpr c9
    clear c9
    obtain rfl:=Option.some.inj H
    go_enter Tryd.func67,Tryd.ntmps67
    go_wp2_with (first|((with_reducible refine dN (N:=2) rfl ?_);refine fB ?hg (N:=2) ?hd (cs:=#[.int .u8 dA,.int .u8 aT,.int .u8 aU,.int .u8 eY,.int .i64 fF]) (t:=55) ?hr ?_;(case hd=>rfl);(case hg=>rfl);(case hr=>first|(go_simp;done)|(go_simp;rfl));intro zX hg w10 hbox hb;have dS:=ae.mk (bg (by repeat (first|(with_reducible first|exact HB.out|apply ah|apply af|apply ai)|exact HB.out)) hb);have dR:=ae.mk (hbox);have dO:=ae.mk ((by rw [hg];exact (bQ (by repeat (first|(with_reducible first|exact HB.out|apply ah|apply af|apply ai)|exact HB.out))):w.heap.size≤zX));have gQ:=dO;clear HB;have HB:=dS;have Ar:=dR;have PQ:=dO;have Aq:=gQ;clear dS dR dO gQ;clear hb hbox hg;obtain ⟨yU,yT,yS,yR,Vm,yM,yL,yK,yJ,TG⟩:=jO Ar.out))
    go_ret
    exact ⟨by first|rfl|(simp [aQ,aN] <;> rfl)|(simp [*,aQ,aN] <;> rfl),by repeat (first|(with_reducible first|exact HB.out|apply ah|apply af|apply ai|refine aj ?_ Aq.out)|exact HB.out)⟩
   ·
    rw [if_neg c9] at H
    have DD:(a1 == 99)=false:=beq_eq_false_iff_ne.mpr c9
    have VI:(a1 != 99)=true:=bne_iff_ne.mpr c9
    obtain rfl:=Option.some.inj H
    go_enter Tryd.func67,Tryd.ntmps67
    go_wp2_with (first|((with_reducible refine dN (N:=2) rfl ?_);refine fB ?hg (N:=2) ?hd (cs:=#[.int .u8 dA,.int .u8 aT,.int .u8 aU,.int .u8 eY,.int .i64 fF]) (t:=55) ?hr ?_;(case hd=>rfl);(case hg=>rfl);(case hr=>first|(go_simp;done)|(go_simp;rfl));intro zX hg w12 hbox hb;have dS:=ae.mk (bg (by repeat (first|(with_reducible first|exact HB.out|apply ah|apply af|apply ai)|exact HB.out)) hb);have dR:=ae.mk (hbox);have dO:=ae.mk ((by rw [hg];exact (bQ (by repeat (first|(with_reducible first|exact HB.out|apply ah|apply af|apply ai)|exact HB.out))):w.heap.size≤zX));have gQ:=dO;clear HB;have HB:=dS;have Ar:=dR;have PQ:=dO;have Aq:=gQ;clear dS dR dO gQ;clear hb hbox hg;obtain ⟨ajd,ajc,ajb,aja,ai9,agZ,agY,agX,agW,agV⟩:=jO Ar.out))
    go_ret
    exact ⟨by first|rfl|(simp [aQ,aN] <;> rfl)|(simp [*,aQ,aN] <;> rfl),by repeat (first|(with_reducible first|exact HB.out|apply ah|apply af|apply ai|refine aj ?_ Aq.out)|exact HB.out)⟩
def bn.l0:Nat→ByteArray→List ByteArray→Int→Int→Int→Int→Int→Int→Option (List ByteArray)
 | 0,_,_,_,_,_,_,_,_=>none
 | k+1,x4,x5,x6,Hy,Hw,Hu,Ht,Hr=>if x6 < (x4.size:Int) then (if 0≤x6 then ((jr.f Hy Hw Hu Ht Hr (bt x4 x6)).bind fun t132=>((ja.f t132 10).bind fun t133=>(if x5.length < 8796093022208 then (bn.l0 k x4 (x5++[t133]) (wrap64 (x6+1)) Hy Hw Hu Ht Hr) else (none)))) else (none)) else (some x5)
def bn.f (k:Nat) (dA:Int) (aT:Int) (aU:Int) (eY:Int) (fF:Int):Option (List ByteArray):=(fC.f dA).bind fun E8=>(bn.l0 k E8.2 (([E8.1]:List ByteArray)) 0 dA aT aU eY fF)
theorem bn.gZ:∀ k,(∀ y0 y1 y2 y3 y4 y5 y6 y7,dK (bn.l0 k y0 y1 y2 y3 y4 y5 y6 y7) (bn.l0 (k+1) y0 y1 y2 y3 y4 y5 y6 y7))
 | 0=>fun _ _ _ _ _ _ _ _ r h=>by simp [bn.l0] at h
 | k+1=>by
  have lu:=bn.gZ k
  ·
   intro y0 y1 y2 y3 y4 y5 y6 y7
   unfold bn.l0
   repeat' with_reducible first|apply lu|exact dK.refl _|exact dK.none _|refine dK.ite ?_ ?_|refine dK.bind ?_ (fun _=>?_)
theorem bn.mono:∀ a0 a1 a2 a3 a4 k,dK (bn.f k a0 a1 a2 a3 a4) (bn.f (k+1) a0 a1 a2 a3 a4):=by
 intro a0 a1 a2 a3 a4 k
 have lu:=bn.gZ k
 unfold bn.f
 repeat' with_reducible first|apply lu|exact dK.refl _|exact dK.none _|refine dK.ite ?_ ?_|refine dK.bind ?_ (fun _=>?_)
def bn.T6:Bool × List (List Nat × List Nat):=(true,[([],[]),([],[]),([],[]),([],[]),([2,3],[2,3]),([1,4],[1,4]),([5,5],[5]),([6],[6]),([0,7,6],[0,7]),([8,8,0,1,2,3,4,5,6,7,8],[0,8])])
def bn.B6:List Nat:=[0,0,0,0,12,30,62,126,255,511]
theorem bn.tab6:pV .any (opsOf Tryd.f47 6)=bn.T6:=by kernel_rfl
theorem bn.acu:qQ bn.T6.2 bn.B6=true:=by kernel_rfl
set_option maxHeartbeats 8000000 in
set_option maxRecDepth 100000 in
theorem bn.calls (k:Nat) (dA:Int) (aT:Int) (aU:Int) (eY:Int) (fF:Int) (r:List ByteArray) (w:World) (kX:Kd.C xM w xN pg.length pg) (h:bn.f k dA aT aU eY fF=some r) :
  Calls Tryd.prog 47 #[.agg #[.int .u8 dA,.int .u8 aT,.int .u8 aU,.int .u8 eY,.int .i64 fF]] w fun e w'=>∃ ZB:Value,e=.returned (ZB)∧Kd.R Kd.string 9 w' w.heap.size (fun _=>True) ZB r∧Below w.heap.size w w':=by
 have AL:=Tryd.underlying55
 have wo:=ae.mk kX
 clear kX
 have HB:=ae.mk (Below.refl w.heap.size w)
 have H:((fC.f dA).bind fun E8=>(bn.l0 k E8.2 (([E8.1]:List ByteArray)) 0 dA aT aU eY fF))=some r:=h
 clear h
 replace H:=Option.bind_eq_some_iff.mp H
 obtain ⟨⟨t127,t128⟩,PV,H⟩:=H
 replace H:(bn.l0 k t128 (([t127]:List ByteArray)) 0 dA aT aU eY fF)=some r:=H
 have A2:=ae.mk PV
 clear PV
 obtain ⟨Zz,Ew⟩:∃ y_:List ByteArray,y_=(([t127]:List ByteArray)):=⟨_,rfl⟩
 replace H:(bn.l0 k t128 Zz 0 dA aT aU eY fF)=some r:=by first|(rw [Ew];with_reducible exact H)|(have sS:=(Option.bind_some _ _).symm.trans H;rw [Ew];with_reducible exact sS)|(have sS:=(Option.bind_some _ _).symm.trans H;with_reducible exact sS)|with_reducible exact H|(rw [Ew];exact H)|exact H
 have W9:=ae.mk Ew
 clear Ew
 have H':=ae.mk H
 clear H
 go_enter Tryd.func47,Tryd.ntmps47
 go_wp2_with (first|((with_reducible refine dN (N:=1) rfl ?_);refine fB ?hg (N:=1) ?hd (cs:=#[.int .u8 dA,.int .u8 aT,.int .u8 aU,.int .u8 eY,.int .i64 fF]) (t:=55) ?hr ?_;(case hd=>rfl);(case hg=>rfl);(case hr=>first|(go_simp;done)|(go_simp;rfl));intro tZ hg w3 hbox hb;have dS:=ae.mk (bg (by repeat (first|(with_reducible first|exact HB.out|apply ah|apply af|apply ai)|exact HB.out)) hb);have dR:=ae.mk (hbox);have dO:=ae.mk ((by rw [hg];exact (bQ (by repeat (first|(with_reducible first|exact HB.out|apply ah|apply af|apply ai)|exact HB.out))):w.heap.size≤tZ));have gQ:=dO;clear HB;have HB:=dS;have jc:=dR;have am2:=dO;have xg:=gQ;clear dS dR dO gQ;clear hb hbox hg;obtain ⟨Ov,Ou,Ot,Oq,Yn,Og,Oe,Oc,Ob,Yj⟩:=jO jc.out)|((with_reducible refine bu (f:=45) rfl ?_);refine dQ (some 10) rfl rfl Tryd.func45 (by kernel_rfl) rfl #[.int .u8 dA] rfl (by (try simp only [List.map_toArray,List.map_cons,List.map_nil]);first|done|rfl|(simp only [List.length_drop,List.length_take];rfl)) ?_;(with_reducible refine (fC.calls dA t127 t128 _ A2.out).mono ?_);rintro e w' ⟨rfl,⟨nd,rfl⟩⟩;refine ⟨_,rfl,?_⟩)|((with_reducible refine dN (N:=14) rfl ?_);refine Kd.uq Kd.string _ 9 ?hg (N:=14) ?hd (xs:=([t127]:List ByteArray)) (inner:=[.string t127]) (ok:=fun _=>True) (pq:=fun _=>True) ?hr ?hp (fun _ hk=>hk) trivial (Below.refl _ _) (Nat.le_refl _) (by simp) ?_;(case hd=>rfl);(case hg=>rfl);(case hr=>first|(go_simp;done)|(go_simp;rfl));(case hp=>exact (jg.one (show Kd.M Kd.string _ _ _ t127 [.string t127] from rfl) (jg.none _ _)));intro v130 w5 Z9 hb AP nM;clear AP nM;(first|rw [← W9.out] at Z9|(simp only [Int.reduceToNat] at Z9;rw [← W9.out] at Z9));have dS:=ae.mk (Kd.je Z9 (bQ (by repeat (first|(with_reducible first|exact HB.out|apply ah|apply af|apply ai|refine aj ?_ xg.out)|exact HB.out))));have dR:=ae.mk (bf (g:=tZ) (o:=.cells #[.int .u8 dA,.int .u8 aT,.int .u8 aU,.int .u8 eY,.int .i64 fF] 55 (0,0)) (by (with_reducible repeat (first|refine au ?_ _|refine ay ?_|refine ak ?_ _));exact jc.out) hb);have dO:=ae.mk (bg (by repeat (first|(with_reducible first|exact HB.out|apply ah|apply af|apply ai|refine aj ?_ xg.out)|exact HB.out)) hb);clear jc;clear HB;have acL:=dS;have jc:=dR;have HB:=dO;clear dS dR dO;clear hb Z9))
 go_loopg [5,6] k (fun kq v5 v6 w'=>∃ (mO:List ByteArray) (tH:Int),v6=.int .i64 tH∧ae (bn.l0 kq t128 mO tH dA aT aU eY fF=some r)∧ae (kq≤k)∧ae (Kd.R Kd.string 9 w' w.heap.size (fun _=>True) v5 mO)∧ae (w'.heap[tZ]? = some (.cells #[.int .u8 dA,.int .u8 aT,.int .u8 aU,.int .u8 eY,.int .i64 fF] 55 (0,0)))∧ae (Below w.heap.size w w'))
 case atStart=>exact ⟨(Zz),(0),(by first|rfl|(simp;done)|(simp [*];done)),H',⟨Nat.le_refl _⟩,⟨by (with_reducible repeat (first|apply Kd.iy|apply Kd.iw|apply Kd.jb));exact acL.out⟩,⟨by (with_reducible repeat (first|refine au ?_ _|refine ay ?_|refine ak ?_ _));exact jc.out⟩,⟨by repeat (first|(with_reducible first|exact HB.out|apply ah|apply af|apply ai|refine aj ?_ xg.out)|exact HB.out)⟩⟩
 case round =>
  clear H'
  obtain ⟨mO,tH,rfl,HA,tq,xe,jc,HB⟩:=hrel
  cases gk with
  | zero=>exact absurd HA.out (by simp [bn.l0])
  | succ k1 =>
   have H:=HA.out
   clear HA
   simp only [bn.l0] at H
   by_cases c7:tH < (t128.size:Int)
   ·
    rw [if_pos c7] at H
    have oG:decide (tH < (t128.size:Int))=true:=decide_eq_true c7
    clear c7
    by_cases c8:0≤tH
    ·
     rw [if_pos c8] at H
     have oL:decide (0≤tH)=true:=decide_eq_true c8
     clear c8
     replace H:=Option.bind_eq_some_iff.mp H
     obtain ⟨t132,Ba,H⟩:=H
     replace H:((ja.f t132 10).bind fun t133=>(if mO.length < 8796093022208 then (bn.l0 k1 t128 (mO++[t133]) (wrap64 (tH+1)) dA aT aU eY fF) else (none)))=some r:=H
     have Xl:=ae.mk Ba
     clear Ba
     replace H:=Option.bind_eq_some_iff.mp H
     obtain ⟨t133,adA,H⟩:=H
     replace H:(if mO.length < 8796093022208 then (bn.l0 k1 t128 (mO++[t133]) (wrap64 (tH+1)) dA aT aU eY fF) else (none))=some r:=H
     have A11:=ae.mk adA
     clear adA
     by_cases c12:mO.length < 8796093022208
     ·
      rw [if_pos c12] at H
      have acH:=ae.mk c12
      clear c12
      obtain ⟨Zy,Et⟩:∃ y_:List ByteArray,y_=(mO++[t133]):=⟨_,rfl⟩
      replace H:(bn.l0 k1 t128 Zy (wrap64 (tH+1)) dA aT aU eY fF)=some r:=by first|(rw [Et];with_reducible exact H)|(have sS:=(Option.bind_some _ _).symm.trans H;rw [Et];with_reducible exact sS)|(have sS:=(Option.bind_some _ _).symm.trans H;with_reducible exact sS)|with_reducible exact H|(rw [Et];exact H)|exact H
      have acG:=ae.mk Et
      clear Et
      have H':=ae.mk H
      clear H
      try go_wp2
      have dS:=ae.mk (Kd.jb xe.out)
      have dR:=ae.mk (ay jc.out)
      have dO:=ae.mk (ai HB.out)
      clear xe
      clear jc
      clear HB
      have xe:=dS
      have jc:=dR
      have HB:=dO
      clear dS dR dO
      have p9:0≤(tH:Int):=of_decide_eq_true (by first|(with_reducible assumption)|assumption)
      have q9:tH < (t128.size:Int):=of_decide_eq_true (by first|(with_reducible assumption)|assumption)
      have hx9:=kF t128 tH
      replace p9:=eq_true p9
      replace q9:=eq_true q9
      refine qG (n:=10) (S:=fun w'=>w'.cell? ⟨tZ,0,none⟩=some (.int .u8 dA)∧w'.cell? ⟨tZ,1,none⟩=some (.int .u8 aT)∧w'.cell? ⟨tZ,2,none⟩=some (.int .u8 aU)∧w'.cell? ⟨tZ,3,none⟩=some (.int .u8 eY)∧w'.cell? ⟨tZ,4,none⟩=some (.int .i64 fF)) (ds:=[]) #[false,false,false,false,false,false,false,false,false,false] (by kernel_rfl) rfl rfl ⟨(ax jc.out 0).trans rfl,(ax jc.out 1).trans rfl,(ax jc.out 2).trans rfl,(ax jc.out 3).trans rfl,(ax jc.out 4).trans rfl⟩ (fun hHeld=>?_);refine qx bn.tab6 bn.acu (fun kZ AY=>?_)
      generalize wr.drew=Xq at xe jc HB hHeld ⊢
      refine gW (i:=0) (N:=some 21) (v:=?_) (a':=?_) #[true,false,false,false,false,false,false,false,false,false] rfl rfl (iF kZ.out (by kernel_rfl)) (fun _ _ _ h=>h) (Or.inl ⟨by rfl,?_⟩) ?_ ?_
      rotate_left
      ·
       intro w'
       go_simp
       with_reducible rfl
      rotate_left
      ·
       simp only [Act.put,List.setIfInBounds_toArray,List.set_cons_zero,List.set_cons_succ,bY,bZ]
       rfl
      refine gW (i:=2) (N:=some 23) (v:=?_) (a':=?_) #[true,false,true,false,false,false,false,false,false,false] rfl rfl (iF kZ.out (by kernel_rfl)) (fun _ _ _ h=>h) (Or.inl ⟨by rfl,?_⟩) ?_ ?_
      rotate_left
      ·
       intro w'
       go_simp
       with_reducible rfl
      rotate_left
      ·
       simp only [Act.put,List.setIfInBounds_toArray,List.set_cons_zero,List.set_cons_succ,bY,bZ]
       rfl
      refine gW (i:=3) (N:=some 24) (v:=?_) (a':=?_) #[true,false,true,true,false,false,false,false,false,false] rfl rfl (iF kZ.out (by kernel_rfl)) (fun _ _ _ h=>h) (Or.inl ⟨by rfl,?_⟩) ?_ ?_
      rotate_left
      ·
       intro w'
       go_simp
       with_reducible rfl
      rotate_left
      ·
       simp only [Act.put,List.setIfInBounds_toArray,List.set_cons_zero,List.set_cons_succ,bY,bZ]
       rfl
      refine kG (i:=1) (N:=some 22) (v:=?_) (a':=?_) #[true,true,true,true,false,false,false,false,false,false] rfl rfl (kE kZ.out AY.out (by kernel_rfl)) (fun _ _ _ h=>h) (Or.inl ⟨by rfl,?_⟩) hHeld ?_ ?_
      rotate_left
      ·
       rintro w' ⟨s0,s1,s2,s3,s4⟩
       go_simp
       with_reducible rfl
      rotate_left
      ·
       simp only [Act.put,List.setIfInBounds_toArray,List.set_cons_zero,List.set_cons_succ,bY,bZ]
       rfl
      refine kG (i:=4) (N:=some 25) (v:=?_) (a':=?_) #[true,true,true,true,true,false,false,false,false,false] rfl rfl (kE kZ.out AY.out (by kernel_rfl)) (fun _ _ _ h=>h) (Or.inl ⟨by rfl,?_⟩) hHeld ?_ ?_
      rotate_left
      ·
       rintro w' ⟨s0,s1,s2,s3,s4⟩
       go_simp
       with_reducible rfl
      rotate_left
      ·
       simp only [Act.put,List.setIfInBounds_toArray,List.set_cons_zero,List.set_cons_succ,bY,bZ]
       rfl
      refine pY (i:=5) (N:=some 26) #[true,true,true,true,true,true,false,false,false,false] rfl rfl (mW kZ.out (by kernel_rfl)) (by decide) (fun K hK=>?_)
      refine pF Tryd.func67 (by kernel_rfl) rfl #[.agg #[.int .u8 dA,.int .u8 aT,.int .u8 aU,.int .u8 eY,.int .i64 fF],.int .u8 (bt t128 tH)] (by rfl) rfl rfl (by (try simp only [List.map_toArray,List.map_cons,List.map_nil]);first|done|rfl|(simp only [List.length_drop,List.length_take];rfl)) ?_
      with_reducible refine (jr.calls dA aT aU eY fF (bt t128 tH) t132 _ Xl.out).mono ?_
      rintro e w14 ⟨rfl,hb⟩
      refine ⟨_,rfl,?_⟩
      have dS:=ae.mk (Kd.ji (by (with_reducible repeat (first|apply Kd.iy|apply Kd.iw|apply Kd.jb));exact xe.out) hb)
      have dR:=ae.mk (bf (g:=tZ) (o:=.cells #[.int .u8 dA,.int .u8 aT,.int .u8 aU,.int .u8 eY,.int .i64 fF] 55 (0,0)) (by (with_reducible repeat (first|refine au ?_ _|refine ay ?_|refine ak ?_ _));exact jc.out) hb)
      have dO:=ae.mk (bg (by repeat (first|(with_reducible first|exact HB.out|apply ah|apply af|apply ai|refine aj ?_ xg.out)|exact HB.out)) hb)
      clear xe
      clear jc
      clear HB
      have xe:=dS
      have jc:=dR
      have HB:=dO
      clear dS dR dO
      (try clear hb)
      (try clear hb2)
      (try clear hk)
      (try clear hi)
      refine hK.out _ _ ⟨(ax jc.out 0).trans rfl,(ax jc.out 1).trans rfl,(ax jc.out 2).trans rfl,(ax jc.out 3).trans rfl,(ax jc.out 4).trans rfl⟩ (fun hHeld=>?_)
      clear hK K
      refine jo (a':=?_) ?_ ?_
      rotate_left
      ·
       show Act.put _ (some 26) _=_
       simp only [Act.put,List.setIfInBounds_toArray,List.set_cons_zero,List.set_cons_succ,bY,bZ]
       rfl
      refine pY (i:=6) (N:=some 27) #[true,true,true,true,true,true,true,false,false,false] rfl rfl (mW kZ.out (by kernel_rfl)) (by decide) (fun K hK=>?_)
      refine pF Tryd.func66 (by kernel_rfl) rfl #[.int .i64 t132,.int .i64 10] (by rfl) rfl rfl (by (try simp only [List.map_toArray,List.map_cons,List.map_nil]);first|done|rfl|(simp only [List.length_drop,List.length_take];rfl)) ?_
      with_reducible refine (ja.calls t132 10 t133 _ ?bW A11.out).mono ?_
      (case bW=>repeat (first|exact (Kd.bJ wo.out HB.out)|(with_reducible refine Kd.bM ?_ _)|(with_reducible refine Kd.bK ?_ _)|(with_reducible refine Kd.dB ?_)))
      rintro e w15 ⟨rfl,hb⟩
      refine ⟨_,rfl,?_⟩
      have dS:=ae.mk (Kd.ji (by (with_reducible repeat (first|apply Kd.iy|apply Kd.iw|apply Kd.jb));exact xe.out) hb)
      have dR:=ae.mk (bf (g:=tZ) (o:=.cells #[.int .u8 dA,.int .u8 aT,.int .u8 aU,.int .u8 eY,.int .i64 fF] 55 (0,0)) (by (with_reducible repeat (first|refine au ?_ _|refine ay ?_|refine ak ?_ _));exact jc.out) hb)
      have dO:=ae.mk (bg (by repeat (first|(with_reducible first|exact HB.out|apply ah|apply af|apply ai|refine aj ?_ xg.out)|exact HB.out)) hb)
      clear xe
      clear jc
      clear HB
      have xe:=dS
      have jc:=dR
      have HB:=dO
      clear dS dR dO
      (try clear hb)
      (try clear hb2)
      (try clear hk)
      (try clear hi)
      refine hK.out _ _ ⟨(ax jc.out 0).trans rfl,(ax jc.out 1).trans rfl,(ax jc.out 2).trans rfl,(ax jc.out 3).trans rfl,(ax jc.out 4).trans rfl⟩ (fun hHeld=>?_)
      clear hK K
      refine jo (a':=?_) ?_ ?_
      rotate_left
      ·
       show Act.put _ (some 27) _=_
       simp only [Act.put,List.setIfInBounds_toArray,List.set_cons_zero,List.set_cons_succ,bY,bZ]
       rfl
      refine pY (i:=7) (N:=some 28) #[true,true,true,true,true,true,true,true,false,false] rfl rfl (mW kZ.out (by kernel_rfl)) (by decide) (fun K hK=>?_)
      refine zl (w1:=?_) (v:=?_) (by rfl) rfl ?_ ?_
      rotate_left 2
      ·
       go_simp
       constructor
       ·
        rfl
       ·
        rfl
      refine hK.out _ _ ⟨(ax (ak jc.out _) 0).trans rfl,(ax (ak jc.out _) 1).trans rfl,(ax (ak jc.out _) 2).trans rfl,(ax (ak jc.out _) 3).trans rfl,(ax (ak jc.out _) 4).trans rfl⟩ (fun hHeld=>?_)
      clear hK K
      refine jo (a':=?_) ?_ ?_
      rotate_left
      ·
       show Act.put _ (some 28) _=_
       simp only [Act.put,List.setIfInBounds_toArray,List.set_cons_zero,List.set_cons_succ,bY,bZ]
       rfl
      refine pY (i:=8) (N:=some 29) #[true,true,true,true,true,true,true,true,true,false] rfl rfl (mW kZ.out (by kernel_rfl)) (by decide) (fun K hK=>?_)
      refine Kd.qX Kd.string (w0:=w) w.heap.size (by rfl) (.tmp 21) (.tmp 28) 22 9 (.string ⟨#[]⟩) 16 rfl Tryd.underlying22 info9 rfl (by decide) (by omega) u5 mO t133 [.string t133] (fun _=>True) (fun _=>False) rfl rfl ?aP (fun _ hk=>hk.elim) ?aF ?aO ?aB ?aS ?aL ?_
      (case aP=>exact rfl)
      (case aB=>exact (by repeat (first|(with_reducible first|exact HB.out|apply ah|apply af|apply ai|refine aj ?_ xg.out)|exact HB.out)))
      (case aF=>exact (fun _ _=>trivial))
      (case aO=>exact (by (with_reducible repeat (first|apply Kd.iy|apply Kd.iw|apply Kd.jb));exact xe.out))
      (case aS=>exact (bQ (by repeat (first|(with_reducible first|exact HB.out|apply ah|apply af|apply ai|refine aj ?_ xg.out)|exact HB.out))))
      (case aL=>have:=acH.out;omega)
      intro anz w16 ho hb hg hat
      rw [← acG.out] at ho
      have dS:=ae.mk (BN (g:=tZ) (o:=.cells #[.int .u8 dA,.int .u8 aT,.int .u8 aU,.int .u8 eY,.int .i64 fF] 55 (0,0)) (by (with_reducible repeat (first|refine au ?_ _|refine ay ?_|refine ak ?_ _));exact jc.out) hg (Kd.acE xe.out jc.out (by decide)))
      have dR:=ae.mk (hb)
      have dO:=ae.mk (ho)
      clear jc
      clear HB
      clear xe
      have jc:=dS
      have HB:=dR
      have acK:=dO
      clear dS dR dO
      clear ho hb hg hat
      refine hK.out _ _ ⟨(ax jc.out 0).trans rfl,(ax jc.out 1).trans rfl,(ax jc.out 2).trans rfl,(ax jc.out 3).trans rfl,(ax jc.out 4).trans rfl⟩ (fun hHeld=>?_)
      clear hK K
      refine jo (a':=?_) ?_ ?_
      rotate_left
      ·
       show Act.put _ (some 29) _=_
       simp only [Act.put,List.setIfInBounds_toArray,List.set_cons_zero,List.set_cons_succ,bY,bZ]
       rfl
      refine gW (i:=9) (N:=some 5) (v:=?_) (a':=?_) #[true,true,true,true,true,true,true,true,true,true] rfl rfl (iF kZ.out (by kernel_rfl)) (fun _ _ _ h=>h) (Or.inl ⟨by rfl,?_⟩) ?_ ?_
      rotate_left
      ·
       intro w'
       go_simp
       with_reducible rfl
      rotate_left
      ·
       simp only [Act.put,List.setIfInBounds_toArray,List.set_cons_zero,List.set_cons_succ,bY,bZ]
       rfl
      refine ug (uV kZ.out (by kernel_rfl)) ?_
      try go_wp2
      go_roundg k1
      case measure=>have:=tq.out;omega
      case rel=>exact ⟨(Zy),(wrap64 (tH+1)),(by first|rfl|(simp;done)|(simp [*];done)),H',⟨by have:=tq.out;omega⟩,⟨by (with_reducible repeat (first|apply Kd.iy|apply Kd.iw|apply Kd.jb));exact acK.out⟩,⟨by (with_reducible repeat (first|refine au ?_ _|refine ay ?_|refine ak ?_ _));exact jc.out⟩,⟨by repeat (first|(with_reducible first|exact HB.out|apply ah|apply af|apply ai|refine aj ?_ xg.out)|exact HB.out)⟩⟩
     ·
      rw [if_neg c12] at H
      exact absurd H (by simp)
    ·
     rw [if_neg c8] at H
     exact absurd H (by simp)
   ·
    rw [if_neg c7] at H
    have oG:decide (tH < (t128.size:Int))=false:=decide_eq_false c7
    clear c7
    obtain rfl:=Option.some.inj H
    go_wp2
    go_ret
    exact ⟨_,by first|rfl|(simp [aQ,aN] <;> rfl)|(simp [*,aQ,aN] <;> rfl),by (with_reducible repeat (first|apply Kd.iy|apply Kd.iw|apply Kd.jb));exact xe.out,by repeat (first|(with_reducible first|exact HB.out|apply ah|apply af|apply ai|refine aj ?_ xg.out)|exact HB.out)⟩
def dU.f (k:Nat) (dA:Int) (aT:Int) (aU:Int) (eY:Int) (fF:Int):Option (Bool):=(fC.f dA).bind fun Py=>(if Py.1.toList=([]:List UInt8) then (some false) else ((bn.f k dA aT aU eY fF).bind fun t140=>((aJ.f k t140).bind fun ku=>(if ku.2.2.2.2.2=true then (some (ku.1 == dA && (ku.2.1 == aT && (ku.2.2.1 == aU && (ku.2.2.2.1 == eY && (ku.2.2.2.2.1 == fF)))))) else (some false)))))
theorem dU.mono:∀ a0 a1 a2 a3 a4 k,dK (dU.f k a0 a1 a2 a3 a4) (dU.f (k+1) a0 a1 a2 a3 a4):=by
 intro a0 a1 a2 a3 a4 k
 unfold dU.f
 repeat' with_reducible first|apply bn.mono|apply aJ.mono|exact dK.refl _|exact dK.none _|refine dK.ite ?_ ?_|refine dK.bind ?_ (fun _=>?_)
set_option maxHeartbeats 8000000 in
set_option maxRecDepth 100000 in
theorem dU.calls (k:Nat) (dA:Int) (aT:Int) (aU:Int) (eY:Int) (fF:Int) (r:Bool) (w:World) (kX:Kd.C xM w xN pg.length pg) (h:dU.f k dA aT aU eY fF=some r) :
  Calls Tryd.prog 28 #[.agg #[.int .u8 dA,.int .u8 aT,.int .u8 aU,.int .u8 eY,.int .i64 fF]] w fun e w'=>e=.returned (.bool r)∧Below w.heap.size w w':=by
 have AL:=Tryd.underlying55
 have wo:=ae.mk kX
 clear kX
 have HB:=ae.mk (Below.refl w.heap.size w)
 have H:((fC.f dA).bind fun Py=>(if Py.1.toList=([]:List UInt8) then (some false) else ((bn.f k dA aT aU eY fF).bind fun t140=>((aJ.f k t140).bind fun ku=>(if ku.2.2.2.2.2=true then (some (ku.1 == dA && (ku.2.1 == aT && (ku.2.2.1 == aU && (ku.2.2.2.1 == eY && (ku.2.2.2.2.1 == fF)))))) else (some false))))))=some r:=h
 clear h
 replace H:=Option.bind_eq_some_iff.mp H
 obtain ⟨⟨t138,t139⟩,PV,H⟩:=H
 replace H:(if t138.toList=([]:List UInt8) then (some false) else ((bn.f k dA aT aU eY fF).bind fun t140=>((aJ.f k t140).bind fun ku=>(if ku.2.2.2.2.2=true then (some (ku.1 == dA && (ku.2.1 == aT && (ku.2.2.1 == aU && (ku.2.2.2.1 == eY && (ku.2.2.2.2.1 == fF)))))) else (some false)))))=some r:=H
 have A2:=ae.mk PV
 clear PV
 by_cases c3:t138.toList=([]:List UInt8)
 ·
  rw [if_pos c3] at H
  have nS:(t138.toList == ([]:List UInt8))=true:=beq_iff_eq.mpr c3
  have AV:(t138.toList != ([]:List UInt8))=false:=bne_eq_false_iff_eq.mpr c3
  clear c3
  obtain rfl:=Option.some.inj H
  go_enter Tryd.func28,Tryd.ntmps28
  go_wp2_with (first|((with_reducible refine dN (N:=1) rfl ?_);refine fB ?hg (N:=1) ?hd (cs:=#[.int .u8 dA,.int .u8 aT,.int .u8 aU,.int .u8 eY,.int .i64 fF]) (t:=55) ?hr ?_;(case hd=>rfl);(case hg=>rfl);(case hr=>first|(go_simp;done)|(go_simp;rfl));intro lH hg w4 hbox hb;have dS:=ae.mk (bg (by repeat (first|(with_reducible first|exact HB.out|apply ah|apply af|apply ai)|exact HB.out)) hb);have dR:=ae.mk (hbox);have dO:=ae.mk ((by rw [hg];exact (bQ (by repeat (first|(with_reducible first|exact HB.out|apply ah|apply af|apply ai)|exact HB.out))):w.heap.size≤lH));have gQ:=dO;clear HB;have HB:=dS;have jk:=dR;have Xh:=dO;have pO:=gQ;clear dS dR dO gQ;clear hb hbox hg;obtain ⟨zV,zU,zT,zS,Ym,zQ,zO,zN,zM,Yi⟩:=jO jk.out)|((with_reducible refine bu (f:=45) rfl ?_);refine dQ (some 10) rfl rfl Tryd.func45 (by kernel_rfl) rfl #[.int .u8 dA] rfl (by (try simp only [List.map_toArray,List.map_cons,List.map_nil]);first|done|rfl|(simp only [List.length_drop,List.length_take];rfl)) ?_;(with_reducible refine (fC.calls dA t138 t139 _ A2.out).mono ?_);rintro e w' ⟨rfl,⟨nd,rfl⟩⟩;refine ⟨_,rfl,?_⟩))
  go_ret
  exact ⟨by first|rfl|(simp [aQ,aN] <;> rfl)|(simp [*,aQ,aN] <;> rfl),by repeat (first|(with_reducible first|exact HB.out|apply ah|apply af|apply ai|refine aj ?_ pO.out)|exact HB.out)⟩
 ·
  rw [if_neg c3] at H
  have nS:(t138.toList == ([]:List UInt8))=false:=beq_eq_false_iff_ne.mpr c3
  have AV:(t138.toList != ([]:List UInt8))=true:=bne_iff_ne.mpr c3
  replace H:=Option.bind_eq_some_iff.mp H
  obtain ⟨t140,KF,H⟩:=H
  replace H:((aJ.f k t140).bind fun ku=>(if ku.2.2.2.2.2=true then (some (ku.1 == dA && (ku.2.1 == aT && (ku.2.2.1 == aU && (ku.2.2.2.1 == eY && (ku.2.2.2.2.1 == fF)))))) else (some false)))=some r:=H
  have A6:=ae.mk KF
  clear KF
  replace H:=Option.bind_eq_some_iff.mp H
  obtain ⟨⟨t143,t144,t145,t146,t147,t148⟩,Zi,H⟩:=H
  replace H:(if t148=true then (some (t143 == dA && (t144 == aT && (t145 == aU && (t146 == eY && (t147 == fF)))))) else (some false))=some r:=H
  have A7:=ae.mk Zi
  clear Zi
  by_cases c8:t148=true
  ·
   subst c8
   have H1:(some (t143 == dA && (t144 == aT && (t145 == aU && (t146 == eY && (t147 == fF))))))=some r:=by rw [if_pos rfl] at H;exact H
   clear H
   have H:=H1
   clear H1
   obtain rfl:=Option.some.inj H
   go_enter Tryd.func28,Tryd.ntmps28
   go_wp2_with (first|((with_reducible refine dN (N:=1) rfl ?_);refine fB ?hg (N:=1) ?hd (cs:=#[.int .u8 dA,.int .u8 aT,.int .u8 aU,.int .u8 eY,.int .i64 fF]) (t:=55) ?hr ?_;(case hd=>rfl);(case hg=>rfl);(case hr=>first|(go_simp;done)|(go_simp;rfl));intro lH hg w9 hbox hb;have dS:=ae.mk (bg (by repeat (first|(with_reducible first|exact HB.out|apply ah|apply af|apply ai)|exact HB.out)) hb);have dR:=ae.mk (hbox);have dO:=ae.mk ((by rw [hg];exact (bQ (by repeat (first|(with_reducible first|exact HB.out|apply ah|apply af|apply ai)|exact HB.out))):w.heap.size≤lH));have gQ:=dO;clear HB;have HB:=dS;have jk:=dR;have Xh:=dO;have pO:=gQ;clear dS dR dO gQ;clear hb hbox hg;obtain ⟨wR,wQ,wP,wO,Vo,wM,wL,wK,wJ,TI⟩:=jO jk.out)|((with_reducible refine bu (f:=45) rfl ?_);refine dQ (some 10) rfl rfl Tryd.func45 (by kernel_rfl) rfl #[.int .u8 dA] rfl (by (try simp only [List.map_toArray,List.map_cons,List.map_nil]);first|done|rfl|(simp only [List.length_drop,List.length_take];rfl)) ?_;(with_reducible refine (fC.calls dA t138 t139 _ A2.out).mono ?_);rintro e w' ⟨rfl,⟨nd,rfl⟩⟩;refine ⟨_,rfl,?_⟩;(try (rw [qL w9];generalize Au:World.drewN w9 _=w9;have dS:ae (w9.heap[lH]? = some (.cells #[.int .u8 dA,.int .u8 aT,.int .u8 aU,.int .u8 eY,.int .i64 fF] 55 (0,0))):=⟨by rw [← Au];exact (by (with_reducible repeat (first|refine au ?_ _|refine ay ?_|refine ak ?_ _));exact jk.out)⟩;have dR:ae (Below w.heap.size w w9):=⟨by rw [← Au];exact (by repeat (first|(with_reducible first|exact HB.out|apply ah|apply af|apply ai|refine aj ?_ pO.out)|exact HB.out))⟩;clear jk HB Au;have jk:=dS;have HB:=dR;clear dS dR;have OB:w9.cell? ⟨lH,0,none⟩=some (.int .u8 dA):=(ax jk.out 0).trans rfl;have OA:w9.cell? ⟨lH,1,none⟩=some (.int .u8 aT):=(ax jk.out 1).trans rfl;have Oz:w9.cell? ⟨lH,2,none⟩=some (.int .u8 aU):=(ax jk.out 2).trans rfl;have Oy:w9.cell? ⟨lH,3,none⟩=some (.int .u8 eY):=(ax jk.out 3).trans rfl;have Ox:w9.cell? ⟨lH,4,none⟩=some (.int .i64 fF):=(ax jk.out 4).trans rfl)))|((with_reducible refine bu (f:=47) rfl ?_);refine dQ (some 17) rfl rfl Tryd.func47 (by kernel_rfl) rfl #[.agg #[.int .u8 dA,.int .u8 aT,.int .u8 aU,.int .u8 eY,.int .i64 fF]] rfl (by (try simp only [List.map_toArray,List.map_cons,List.map_nil]);first|done|rfl|(simp only [List.length_drop,List.length_take];rfl)) ?_;(with_reducible refine (bn.calls k dA aT aU eY fF t140 _ ?bW A6.out).mono ?_);(case bW=>repeat (first|exact (Kd.bJ wo.out HB.out)|(with_reducible refine Kd.bM ?_ _)|(with_reducible refine Kd.bK ?_ _)|(with_reducible refine Kd.dB ?_)));rintro e w11 ⟨v141,rfl,ho0,hb⟩;refine ⟨_,rfl,?_⟩;have dS:=ae.mk (Kd.je ho0 (bQ (by repeat (first|(with_reducible first|exact HB.out|apply ah|apply af|apply ai|refine aj ?_ pO.out)|exact HB.out))));have dR:=ae.mk (bf (g:=lH) (o:=.cells #[.int .u8 dA,.int .u8 aT,.int .u8 aU,.int .u8 eY,.int .i64 fF] 55 (0,0)) (by (with_reducible repeat (first|refine au ?_ _|refine ay ?_|refine ak ?_ _));exact jk.out) hb);have dO:=ae.mk (bg (by repeat (first|(with_reducible first|exact HB.out|apply ah|apply af|apply ai|refine aj ?_ pO.out)|exact HB.out)) hb);clear jk;clear HB;have kT:=dS;have jk:=dR;have HB:=dO;clear dS dR dO;(try clear hb);(try clear hb2);(try clear hk);(try clear hi);(try clear ho0);obtain ⟨akS,akA,akl⟩:=Kd.jy kT.out;subst akl)|((with_reducible refine bu (f:=46) rfl ?_);refine dQ (some 18) rfl rfl Tryd.func46 (by kernel_rfl) rfl #[.slice akS t140.length akA] rfl (by (try simp only [List.map_toArray,List.map_cons,List.map_nil]);first|done|rfl|(simp only [List.length_drop,List.length_take];rfl)) ?_;(with_reducible refine (aJ.calls k _ _ t140 t143 t144 t145 t146 t147 true _ ?bW ?df A7.out).mono ?_);(case bW=>repeat (first|exact (Kd.fK kT.out).2.2|(with_reducible refine Kd.bM ?_ _)|(with_reducible refine Kd.bK ?_ _)|(with_reducible refine Kd.dB ?_)));(case df=>exact (Kd.fK kT.out).2.1);rintro e Xq ⟨rfl,hb⟩;refine ⟨_,rfl,?_⟩;have dS:=ae.mk (Kd.ji (by (with_reducible repeat (first|apply Kd.iy|apply Kd.iw|apply Kd.jb));exact kT.out) hb);have dR:=ae.mk (bf (g:=lH) (o:=.cells #[.int .u8 dA,.int .u8 aT,.int .u8 aU,.int .u8 eY,.int .i64 fF] 55 (0,0)) (by (with_reducible repeat (first|refine au ?_ _|refine ay ?_|refine ak ?_ _));exact jk.out) hb);have dO:=ae.mk (bg (by repeat (first|(with_reducible first|exact HB.out|apply ah|apply af|apply ai|refine aj ?_ pO.out)|exact HB.out)) hb);clear kT;clear jk;clear HB;have kT:=dS;have jk:=dR;have HB:=dO;clear dS dR dO;(try clear hb);(try clear hb2);(try clear hk);(try clear hi))|((with_reducible refine dN (N:=5) rfl ?_);refine fB ?hg (N:=5) ?hd (cs:=#[.int .u8 0,.int .u8 0,.int .u8 0,.int .u8 0,.int .i64 0]) (t:=55) ?hr ?_;(case hd=>rfl);(case hg=>rfl);(case hr=>first|(go_simp;done)|(go_simp;rfl));intro EH hg w14 hbox hb;have dS:=ae.mk (Kd.ji (by (with_reducible repeat (first|apply Kd.iy|apply Kd.iw|apply Kd.jb));exact kT.out) hb);have dR:=ae.mk (bf (g:=lH) (o:=.cells #[.int .u8 dA,.int .u8 aT,.int .u8 aU,.int .u8 eY,.int .i64 fF] 55 (0,0)) (by (with_reducible repeat (first|refine au ?_ _|refine ay ?_|refine ak ?_ _));exact jk.out) hb);have dO:=ae.mk (bg (by repeat (first|(with_reducible first|exact HB.out|apply ah|apply af|apply ai|refine aj ?_ pO.out)|exact HB.out)) hb);have gQ:=ae.mk (hbox);have lM:=ae.mk ((by rw [hg];exact (bQ (by repeat (first|(with_reducible first|exact HB.out|apply ah|apply af|apply ai|refine aj ?_ pO.out)|exact HB.out))):w.heap.size≤EH));have mg:=lM;have nI:=ae.mk ((by rw [hg];exact Nat.ne_of_lt (jY (g:=lH) (o:=.cells #[.int .u8 dA,.int .u8 aT,.int .u8 aU,.int .u8 eY,.int .i64 fF] 55 (0,0)) (by (with_reducible repeat (first|refine au ?_ _|refine ay ?_|refine ak ?_ _));exact jk.out)):lH ≠ EH));have vG:=ae.mk nI.out.symm;clear kT;clear jk;clear HB;have kT:=dS;have jk:=dR;have HB:=dO;have PT:=gQ;have acQ:=lM;have PR:=mg;have xJ:=nI;have xI:=vG;clear dS dR dO gQ lM mg nI vG;clear hb hbox hg;have aat:=xI.out;have aaj:=xJ.out;obtain ⟨Dp,Dn,Dl,Dk,JS,C9,CZ,CY,CX,Jh⟩:=jO PT.out;obtain ⟨JR,JQ,JP,JO,Va,Jg,Jf,Je,Jd,Tt⟩:=jO jk.out))
   go_ret
   exact ⟨by first|rfl|(simp [aQ,aN] <;> rfl)|(simp [*,aQ,aN] <;> rfl),by repeat (first|(with_reducible first|exact HB.out|apply ah|apply af|apply ai|refine aj ?_ pO.out|refine aj ?_ PR.out)|exact HB.out)⟩
  ·
   replace c8:=Bool.eq_false_iff.mpr c8
   subst c8
   have H1:(some false)=some r:=by rw [if_neg (show ¬ (false=true) by decide)] at H;exact H
   clear H
   have H:=H1
   clear H1
   obtain rfl:=Option.some.inj H
   go_enter Tryd.func28,Tryd.ntmps28
   go_wp2_with (first|((with_reducible refine dN (N:=1) rfl ?_);refine fB ?hg (N:=1) ?hd (cs:=#[.int .u8 dA,.int .u8 aT,.int .u8 aU,.int .u8 eY,.int .i64 fF]) (t:=55) ?hr ?_;(case hd=>rfl);(case hg=>rfl);(case hr=>first|(go_simp;done)|(go_simp;rfl));intro lH hg PZ hbox hb;have dS:=ae.mk (bg (by repeat (first|(with_reducible first|exact HB.out|apply ah|apply af|apply ai)|exact HB.out)) hb);have dR:=ae.mk (hbox);have dO:=ae.mk ((by rw [hg];exact (bQ (by repeat (first|(with_reducible first|exact HB.out|apply ah|apply af|apply ai)|exact HB.out))):w.heap.size≤lH));have gQ:=dO;clear HB;have HB:=dS;have jk:=dR;have Xh:=dO;have pO:=gQ;clear dS dR dO gQ;clear hb hbox hg;obtain ⟨ai6,ai5,ai4,ai3,ai2,agS,agR,agQ,agP,agO⟩:=jO jk.out)|((with_reducible refine bu (f:=45) rfl ?_);refine dQ (some 10) rfl rfl Tryd.func45 (by kernel_rfl) rfl #[.int .u8 dA] rfl (by (try simp only [List.map_toArray,List.map_cons,List.map_nil]);first|done|rfl|(simp only [List.length_drop,List.length_take];rfl)) ?_;(with_reducible refine (fC.calls dA t138 t139 _ A2.out).mono ?_);rintro e w' ⟨rfl,⟨nd,rfl⟩⟩;refine ⟨_,rfl,?_⟩;(try (rw [qL PZ];generalize Au:World.drewN PZ _=PZ;have dS:ae (PZ.heap[lH]? = some (.cells #[.int .u8 dA,.int .u8 aT,.int .u8 aU,.int .u8 eY,.int .i64 fF] 55 (0,0))):=⟨by rw [← Au];exact (by (with_reducible repeat (first|refine au ?_ _|refine ay ?_|refine ak ?_ _));exact jk.out)⟩;have dR:ae (Below w.heap.size w PZ):=⟨by rw [← Au];exact (by repeat (first|(with_reducible first|exact HB.out|apply ah|apply af|apply ai|refine aj ?_ pO.out)|exact HB.out))⟩;clear jk HB Au;have jk:=dS;have HB:=dR;clear dS dR;have OB:PZ.cell? ⟨lH,0,none⟩=some (.int .u8 dA):=(ax jk.out 0).trans rfl;have OA:PZ.cell? ⟨lH,1,none⟩=some (.int .u8 aT):=(ax jk.out 1).trans rfl;have Oz:PZ.cell? ⟨lH,2,none⟩=some (.int .u8 aU):=(ax jk.out 2).trans rfl;have Oy:PZ.cell? ⟨lH,3,none⟩=some (.int .u8 eY):=(ax jk.out 3).trans rfl;have Ox:PZ.cell? ⟨lH,4,none⟩=some (.int .i64 fF):=(ax jk.out 4).trans rfl)))|((with_reducible refine bu (f:=47) rfl ?_);refine dQ (some 17) rfl rfl Tryd.func47 (by kernel_rfl) rfl #[.agg #[.int .u8 dA,.int .u8 aT,.int .u8 aU,.int .u8 eY,.int .i64 fF]] rfl (by (try simp only [List.map_toArray,List.map_cons,List.map_nil]);first|done|rfl|(simp only [List.length_drop,List.length_take];rfl)) ?_;(with_reducible refine (bn.calls k dA aT aU eY fF t140 _ ?bW A6.out).mono ?_);(case bW=>repeat (first|exact (Kd.bJ wo.out HB.out)|(with_reducible refine Kd.bM ?_ _)|(with_reducible refine Kd.bK ?_ _)|(with_reducible refine Kd.dB ?_)));rintro e w20 ⟨v141,rfl,ho0,hb⟩;refine ⟨_,rfl,?_⟩;have dS:=ae.mk (Kd.je ho0 (bQ (by repeat (first|(with_reducible first|exact HB.out|apply ah|apply af|apply ai|refine aj ?_ pO.out)|exact HB.out))));have dR:=ae.mk (bf (g:=lH) (o:=.cells #[.int .u8 dA,.int .u8 aT,.int .u8 aU,.int .u8 eY,.int .i64 fF] 55 (0,0)) (by (with_reducible repeat (first|refine au ?_ _|refine ay ?_|refine ak ?_ _));exact jk.out) hb);have dO:=ae.mk (bg (by repeat (first|(with_reducible first|exact HB.out|apply ah|apply af|apply ai|refine aj ?_ pO.out)|exact HB.out)) hb);clear jk;clear HB;have kT:=dS;have jk:=dR;have HB:=dO;clear dS dR dO;(try clear hb);(try clear hb2);(try clear hk);(try clear hi);(try clear ho0);obtain ⟨Zh,YJ,Yr⟩:=Kd.jy kT.out;subst Yr)|((with_reducible refine bu (f:=46) rfl ?_);refine dQ (some 18) rfl rfl Tryd.func46 (by kernel_rfl) rfl #[.slice Zh t140.length YJ] rfl (by (try simp only [List.map_toArray,List.map_cons,List.map_nil]);first|done|rfl|(simp only [List.length_drop,List.length_take];rfl)) ?_;(with_reducible refine (aJ.calls k _ _ t140 t143 t144 t145 t146 t147 false _ ?bW ?df A7.out).mono ?_);(case bW=>repeat (first|exact (Kd.fK kT.out).2.2|(with_reducible refine Kd.bM ?_ _)|(with_reducible refine Kd.bK ?_ _)|(with_reducible refine Kd.dB ?_)));(case df=>exact (Kd.fK kT.out).2.1);rintro e Xp ⟨rfl,hb⟩;refine ⟨_,rfl,?_⟩;have dS:=ae.mk (Kd.ji (by (with_reducible repeat (first|apply Kd.iy|apply Kd.iw|apply Kd.jb));exact kT.out) hb);have dR:=ae.mk (bf (g:=lH) (o:=.cells #[.int .u8 dA,.int .u8 aT,.int .u8 aU,.int .u8 eY,.int .i64 fF] 55 (0,0)) (by (with_reducible repeat (first|refine au ?_ _|refine ay ?_|refine ak ?_ _));exact jk.out) hb);have dO:=ae.mk (bg (by repeat (first|(with_reducible first|exact HB.out|apply ah|apply af|apply ai|refine aj ?_ pO.out)|exact HB.out)) hb);clear kT;clear jk;clear HB;have kT:=dS;have jk:=dR;have HB:=dO;clear dS dR dO;(try clear hb);(try clear hb2);(try clear hk);(try clear hi))|((with_reducible refine dN (N:=5) rfl ?_);refine fB ?hg (N:=5) ?hd (cs:=#[.int .u8 0,.int .u8 0,.int .u8 0,.int .u8 0,.int .i64 0]) (t:=55) ?hr ?_;(case hd=>rfl);(case hg=>rfl);(case hr=>first|(go_simp;done)|(go_simp;rfl));intro EH hg w23 hbox hb;have dS:=ae.mk (Kd.ji (by (with_reducible repeat (first|apply Kd.iy|apply Kd.iw|apply Kd.jb));exact kT.out) hb);have dR:=ae.mk (bf (g:=lH) (o:=.cells #[.int .u8 dA,.int .u8 aT,.int .u8 aU,.int .u8 eY,.int .i64 fF] 55 (0,0)) (by (with_reducible repeat (first|refine au ?_ _|refine ay ?_|refine ak ?_ _));exact jk.out) hb);have dO:=ae.mk (bg (by repeat (first|(with_reducible first|exact HB.out|apply ah|apply af|apply ai|refine aj ?_ pO.out)|exact HB.out)) hb);have gQ:=ae.mk (hbox);have lM:=ae.mk ((by rw [hg];exact (bQ (by repeat (first|(with_reducible first|exact HB.out|apply ah|apply af|apply ai|refine aj ?_ pO.out)|exact HB.out))):w.heap.size≤EH));have mg:=lM;have nI:=ae.mk ((by rw [hg];exact Nat.ne_of_lt (jY (g:=lH) (o:=.cells #[.int .u8 dA,.int .u8 aT,.int .u8 aU,.int .u8 eY,.int .i64 fF] 55 (0,0)) (by (with_reducible repeat (first|refine au ?_ _|refine ay ?_|refine ak ?_ _));exact jk.out)):lH ≠ EH));have vG:=ae.mk nI.out.symm;clear kT;clear jk;clear HB;have kT:=dS;have jk:=dR;have HB:=dO;have PT:=gQ;have acQ:=lM;have PR:=mg;have xJ:=nI;have xI:=vG;clear dS dR dO gQ lM mg nI vG;clear hb hbox hg;have Wi:=xI.out;have We:=xJ.out;obtain ⟨yQ,yP,yO,yN,Dj,yI,yH,yG,yF,CW⟩:=jO PT.out))
   go_ret
   exact ⟨by first|rfl|(simp [aQ,aN] <;> rfl)|(simp [*,aQ,aN] <;> rfl),by repeat (first|(with_reducible first|exact HB.out|apply ah|apply af|apply ai|refine aj ?_ pO.out|refine aj ?_ PR.out)|exact HB.out)⟩
def bF.j0:Nat→Int→Bool→Int→Int→Int→Int→Int→Option (Bool)
 | 0,_,_,_,_,_,_,_=>none
 | k+1,x4,x5,adD,Ho,Hm,Qk,adC=>if x5=true then (some (decide (Ho < 8))) else (if x4=2 then (if Ho < 8 then (if Hm < 8 then (some (decide (Qk < 8))) else (some false)) else (some false)) else (if x4=9 then (some (decide (Hm < 8))) else (some true)))
def bF.f (k:Nat) (dA:Int) (aT:Int) (aU:Int) (eY:Int) (fF:Int):Option (Bool):=if dA=1 then (bF.j0 k dA (dA == 1) dA aT aU eY fF) else (if dA=4 then (bF.j0 k dA (dA == 4) dA aT aU eY fF) else (if dA=8 then (bF.j0 k dA (dA == 8) dA aT aU eY fF) else (if dA=14 then (bF.j0 k dA (dA == 14) dA aT aU eY fF) else (bF.j0 k dA (dA == 15) dA aT aU eY fF))))
theorem bF.gZ:∀ k,(∀ y0 y1 y2 y3 y4 y5 y6,dK (bF.j0 k y0 y1 y2 y3 y4 y5 y6) (bF.j0 (k+1) y0 y1 y2 y3 y4 y5 y6))
 | 0=>fun _ _ _ _ _ _ _ r h=>by simp [bF.j0] at h
 | k+1=>by
  have lu:=bF.gZ k
  ·
   intro y0 y1 y2 y3 y4 y5 y6
   unfold bF.j0
   repeat' with_reducible first|apply lu|exact dK.refl _|exact dK.none _|refine dK.ite ?_ ?_|refine dK.bind ?_ (fun _=>?_)
theorem bF.mono:∀ a0 a1 a2 a3 a4 k,dK (bF.f k a0 a1 a2 a3 a4) (bF.f (k+1) a0 a1 a2 a3 a4):=by
 intro a0 a1 a2 a3 a4 k
 have lu:=bF.gZ k
 unfold bF.f
 repeat' with_reducible first|apply lu|exact dK.refl _|exact dK.none _|refine dK.ite ?_ ?_|refine dK.bind ?_ (fun _=>?_)
set_option maxHeartbeats 8000000 in
set_option maxRecDepth 100000 in
theorem bF.calls (k:Nat) (dA:Int) (aT:Int) (aU:Int) (eY:Int) (fF:Int) (r:Bool) (w:World) (h:bF.f k dA aT aU eY fF=some r) :
  Calls Tryd.prog 29 #[.agg #[.int .u8 dA,.int .u8 aT,.int .u8 aU,.int .u8 eY,.int .i64 fF]] w fun e w'=>e=.returned (.bool r)∧Below w.heap.size w w':=by
 have AL:=Tryd.underlying55
 have HB:=ae.mk (Below.refl w.heap.size w)
 have H:(if dA=1 then (bF.j0 k dA (dA == 1) dA aT aU eY fF) else (if dA=4 then (bF.j0 k dA (dA == 4) dA aT aU eY fF) else (if dA=8 then (bF.j0 k dA (dA == 8) dA aT aU eY fF) else (if dA=14 then (bF.j0 k dA (dA == 14) dA aT aU eY fF) else (bF.j0 k dA (dA == 15) dA aT aU eY fF)))))=some r:=h
 clear h
 have HC2:=ae.mk H
 clear H
 go_enter Tryd.func29,Tryd.ntmps29
 go_upto_if 5 with (first|((with_reducible refine dN (N:=1) rfl ?_);refine fB ?hg (N:=1) ?hd (cs:=#[.int .u8 dA,.int .u8 aT,.int .u8 aU,.int .u8 eY,.int .i64 fF]) (t:=55) ?hr ?_;(case hd=>rfl);(case hg=>rfl);(case hr=>first|(go_simp;done)|(go_simp;rfl));intro WL hg w3 hbox hb;have dS:=ae.mk (bg (by repeat (first|(with_reducible first|exact HB.out|apply ah|apply af|apply ai)|exact HB.out)) hb);have dR:=ae.mk (hbox);have dO:=ae.mk ((by rw [hg];exact (bQ (by repeat (first|(with_reducible first|exact HB.out|apply ah|apply af|apply ai)|exact HB.out))):w.heap.size≤WL));have gQ:=dO;clear HB;have HB:=dS;have sV:=dR;have am1:=dO;have uw:=gQ;clear dS dR dO gQ;clear hb hbox hg;obtain ⟨Ov,Ou,Ot,Oq,Yn,Og,Oe,Oc,Ob,Yj⟩:=jO sV.out))
 (try simp only [Act.put,List.setIfInBounds_toArray,List.set_cons_zero,List.set_cons_succ])
 go_cut [5] (fun v5 wc=>∃ (kq:Nat) (mO:Bool),v5=.bool mO∧ae (bF.j0 kq dA mO dA aT aU eY fF=some r)∧ae (kq≤k)∧ae (wc.heap[WL]? = some (.cells #[.int .u8 dA,.int .u8 aT,.int .u8 aU,.int .u8 eY,.int .i64 fF] 55 (0,0)))∧ae (Below w.heap.size w wc))
 case first =>
  have H:=HC2.out
  clear HC2
  by_cases c5:dA=1
  ·
   rw [if_pos c5] at H
   have qO:(dA == 1)=true:=beq_iff_eq.mpr c5
   have L9:(dA != 1)=false:=bne_eq_false_iff_eq.mpr c5
   clear c5
   (first|rw [qO]|(simp only [bY,bZ];rw [qO])|skip)
   have H':=ae.mk H
   clear H
   go_wp2
   go_meet
   case rel=>exact ⟨_,((dA == 1)),(by first|rfl|(simp;done)|(simp [*];done)),H',⟨by first|omega|exact Nat.le_refl _⟩,⟨by (with_reducible repeat (first|refine au ?_ _|refine ay ?_|refine ak ?_ _));exact sV.out⟩,⟨by repeat (first|(with_reducible first|exact HB.out|apply ah|apply af|apply ai|refine aj ?_ uw.out)|exact HB.out)⟩⟩
  ·
   rw [if_neg c5] at H
   have qO:(dA == 1)=false:=beq_eq_false_iff_ne.mpr c5
   have L9:(dA != 1)=true:=bne_iff_ne.mpr c5
   (first|rw [qO]|(simp only [bY,bZ];rw [qO])|skip)
   by_cases c6:dA=4
   ·
    rw [if_pos c6] at H
    have nP:(dA == 4)=true:=beq_iff_eq.mpr c6
    have xE:(dA != 4)=false:=bne_eq_false_iff_eq.mpr c6
    clear c6
    have H':=ae.mk H
    clear H
    go_wp2
    go_meet
    case rel=>exact ⟨_,((dA == 4)),(by first|rfl|(simp;done)|(simp [*];done)),H',⟨by first|omega|exact Nat.le_refl _⟩,⟨by (with_reducible repeat (first|refine au ?_ _|refine ay ?_|refine ak ?_ _));exact sV.out⟩,⟨by repeat (first|(with_reducible first|exact HB.out|apply ah|apply af|apply ai|refine aj ?_ uw.out)|exact HB.out)⟩⟩
   ·
    rw [if_neg c6] at H
    have nP:(dA == 4)=false:=beq_eq_false_iff_ne.mpr c6
    have xE:(dA != 4)=true:=bne_iff_ne.mpr c6
    by_cases c7:dA=8
    ·
     rw [if_pos c7] at H
     have oG:(dA == 8)=true:=beq_iff_eq.mpr c7
     have yu:(dA != 8)=false:=bne_eq_false_iff_eq.mpr c7
     clear c7
     have H':=ae.mk H
     clear H
     go_wp2
     go_meet
     case rel=>exact ⟨_,((dA == 8)),(by first|rfl|(simp;done)|(simp [*];done)),H',⟨by first|omega|exact Nat.le_refl _⟩,⟨by (with_reducible repeat (first|refine au ?_ _|refine ay ?_|refine ak ?_ _));exact sV.out⟩,⟨by repeat (first|(with_reducible first|exact HB.out|apply ah|apply af|apply ai|refine aj ?_ uw.out)|exact HB.out)⟩⟩
    ·
     rw [if_neg c7] at H
     have oG:(dA == 8)=false:=beq_eq_false_iff_ne.mpr c7
     have yu:(dA != 8)=true:=bne_iff_ne.mpr c7
     by_cases c8:dA=14
     ·
      rw [if_pos c8] at H
      have oL:(dA == 14)=true:=beq_iff_eq.mpr c8
      have yt:(dA != 14)=false:=bne_eq_false_iff_eq.mpr c8
      clear c8
      have H':=ae.mk H
      clear H
      go_wp2
      go_meet
      case rel=>exact ⟨_,((dA == 14)),(by first|rfl|(simp;done)|(simp [*];done)),H',⟨by first|omega|exact Nat.le_refl _⟩,⟨by (with_reducible repeat (first|refine au ?_ _|refine ay ?_|refine ak ?_ _));exact sV.out⟩,⟨by repeat (first|(with_reducible first|exact HB.out|apply ah|apply af|apply ai|refine aj ?_ uw.out)|exact HB.out)⟩⟩
     ·
      rw [if_neg c8] at H
      have oL:(dA == 14)=false:=beq_eq_false_iff_ne.mpr c8
      have yt:(dA != 14)=true:=bne_iff_ne.mpr c8
      have H':=ae.mk H
      clear H
      go_wp2
      go_meet
      case rel=>exact ⟨_,((dA == 15)),(by first|rfl|(simp;done)|(simp [*];done)),H',⟨by first|omega|exact Nat.le_refl _⟩,⟨by (with_reducible repeat (first|refine au ?_ _|refine ay ?_|refine ak ?_ _));exact sV.out⟩,⟨by repeat (first|(with_reducible first|exact HB.out|apply ah|apply af|apply ai|refine aj ?_ uw.out)|exact HB.out)⟩⟩
 case rest =>
  clear HC2
  obtain ⟨kq,mO,rfl,HA,xK,sV,HB⟩:=hcut
  cases kq with
  | zero=>exact absurd HA.out (by simp [bF.j0])
  | succ MG =>
   have H:=HA.out
   clear HA
   simp only [bF.j0] at H
   by_cases c9:mO=true
   ·
    subst c9
    have H1:(some (decide (aT < 8)))=some r:=by rw [if_pos rfl] at H;exact H
    clear H
    have H:=H1
    clear H1
    obtain rfl:=Option.some.inj H
    obtain ⟨wR,wQ,wP,wO,Vo,wM,wL,wK,wJ,TI⟩:=jO sV.out
    go_wp2
    go_ret
    exact ⟨by first|rfl|(simp [aQ,aN] <;> rfl)|(simp [*,aQ,aN] <;> rfl),by repeat (first|(with_reducible first|exact HB.out|apply ah|apply af|apply ai|refine aj ?_ uw.out)|exact HB.out)⟩
   ·
    replace c9:=Bool.eq_false_iff.mpr c9
    subst c9
    have H1:(if dA=2 then (if aT < 8 then (if aU < 8 then (some (decide (eY < 8))) else (some false)) else (some false)) else (if dA=9 then (some (decide (aU < 8))) else (some true)))=some r:=by rw [if_neg (show ¬ (false=true) by decide)] at H;exact H
    clear H
    have H:=H1
    clear H1
    by_cases c11:dA=2
    ·
     rw [if_pos c11] at H
     have uk:(dA == 2)=true:=beq_iff_eq.mpr c11
     have BM:(dA != 2)=false:=bne_eq_false_iff_eq.mpr c11
     clear c11
     by_cases c12:aT < 8
     ·
      rw [if_pos c12] at H
      have vJ:decide (aT < 8)=true:=decide_eq_true c12
      clear c12
      by_cases c13:aU < 8
      ·
       rw [if_pos c13] at H
       have lZ:decide (aU < 8)=true:=decide_eq_true c13
       clear c13
       obtain rfl:=Option.some.inj H
       obtain ⟨Vk,Vj,Vh,Vg,ai8,TE,TD,TC,TB,agU⟩:=jO sV.out
       go_wp2
       go_ret
       exact ⟨by first|rfl|(simp [aQ,aN] <;> rfl)|(simp [*,aQ,aN] <;> rfl),by repeat (first|(with_reducible first|exact HB.out|apply ah|apply af|apply ai|refine aj ?_ uw.out)|exact HB.out)⟩
      ·
       rw [if_neg c13] at H
       have lZ:decide (aU < 8)=false:=decide_eq_false c13
       clear c13
       obtain rfl:=Option.some.inj H
       obtain ⟨Vf,Ve,Vd,Vb,ai7,TA,Tz,Tv,Tu,agT⟩:=jO sV.out
       go_wp2
       go_ret
       exact ⟨by first|rfl|(simp [aQ,aN] <;> rfl)|(simp [*,aQ,aN] <;> rfl),by repeat (first|(with_reducible first|exact HB.out|apply ah|apply af|apply ai|refine aj ?_ uw.out)|exact HB.out)⟩
     ·
      rw [if_neg c12] at H
      have vJ:decide (aT < 8)=false:=decide_eq_false c12
      clear c12
      obtain rfl:=Option.some.inj H
      obtain ⟨Dp,Dn,Dl,Dk,JS,C9,CZ,CY,CX,Jh⟩:=jO sV.out
      go_wp2
      go_ret
      exact ⟨by first|rfl|(simp [aQ,aN] <;> rfl)|(simp [*,aQ,aN] <;> rfl),by repeat (first|(with_reducible first|exact HB.out|apply ah|apply af|apply ai|refine aj ?_ uw.out)|exact HB.out)⟩
    ·
     rw [if_neg c11] at H
     have uk:(dA == 2)=false:=beq_eq_false_iff_ne.mpr c11
     have BM:(dA != 2)=true:=bne_iff_ne.mpr c11
     by_cases c17:dA=9
     ·
      rw [if_pos c17] at H
      have xX:(dA == 9)=true:=beq_iff_eq.mpr c17
      have EX:(dA != 9)=false:=bne_eq_false_iff_eq.mpr c17
      clear c17
      obtain rfl:=Option.some.inj H
      obtain ⟨JM,JL,JK,JJ,U9,Jc,Jb,Ja,I9,Tq⟩:=jO sV.out
      go_wp2
      go_ret
      exact ⟨by first|rfl|(simp [aQ,aN] <;> rfl)|(simp [*,aQ,aN] <;> rfl),by repeat (first|(with_reducible first|exact HB.out|apply ah|apply af|apply ai|refine aj ?_ uw.out)|exact HB.out)⟩
     ·
      rw [if_neg c17] at H
      have xX:(dA == 9)=false:=beq_eq_false_iff_ne.mpr c17
      have EX:(dA != 9)=true:=bne_iff_ne.mpr c17
      obtain rfl:=Option.some.inj H
      go_wp2
      go_ret
      exact ⟨by first|rfl|(simp [aQ,aN] <;> rfl)|(simp [*,aQ,aN] <;> rfl),by repeat (first|(with_reducible first|exact HB.out|apply ah|apply af|apply ai|refine aj ?_ uw.out)|exact HB.out)⟩
def fH.f (k:Nat) (l0:List ByteArray) (a1:ByteArray) (a2:Int):Option (Int):=if (wrap64 (a2)) ≥ (a1.size:Int) then (some (-1)) else (if 0≤(wrap64 (a2)) then (if (wrap64 (a2))≤(wrap64 ((wrap64 (a2))+1)) then (if (wrap64 ((wrap64 (a2))+1))≤(a1.size:Int) then ((aW.f k l0 (a1.extract ((wrap64 (a2)):Int).toNat ((wrap64 ((wrap64 (a2))+1)):Int).toNat)).bind fun t151=>(if t151=true then (if 0≤a2 then (if a2 < (a1.size:Int) then (some (((bt a1 a2) - 48) % 256)) else (none)) else (none)) else (some (-1)))) else (none)) else (none)) else (none))
theorem fH.mono:∀ a0 a1 a2 k,dK (fH.f k a0 a1 a2) (fH.f (k+1) a0 a1 a2):=by
 intro a0 a1 a2 k
 unfold fH.f
 repeat' with_reducible first|apply aW.mono|exact dK.refl _|exact dK.none _|refine dK.ite ?_ ?_|refine dK.bind ?_ (fun _=>?_)
set_option maxHeartbeats 8000000 in
set_option maxRecDepth 100000 in
theorem fH.calls (k:Nat) (A0:Option Addr) (c0:Nat) (l0:List ByteArray) (a1:ByteArray) (a2:Int) (r:Int) (w:World) (hr0:Kd.C Kd.string w A0 l0.length l0) (hc0:l0.length≤c0) (h:fH.f k l0 a1 a2=some r) :
  Calls Tryd.prog 31 #[.slice A0 l0.length c0,.string a1,.int .u8 a2] w fun e w'=>e=.returned (.int .i64 r)∧aV w w':=by
 have HR0:=ae.mk hr0
 have tC:=ae.mk hc0
 clear hr0 hc0
 have H:(if (wrap64 (a2)) ≥ (a1.size:Int) then (some (-1)) else (if 0≤(wrap64 (a2)) then (if (wrap64 (a2))≤(wrap64 ((wrap64 (a2))+1)) then (if (wrap64 ((wrap64 (a2))+1))≤(a1.size:Int) then ((aW.f k l0 (a1.extract ((wrap64 (a2)):Int).toNat ((wrap64 ((wrap64 (a2))+1)):Int).toNat)).bind fun t151=>(if t151=true then (if 0≤a2 then (if a2 < (a1.size:Int) then (some (((bt a1 a2) - 48) % 256)) else (none)) else (none)) else (some (-1)))) else (none)) else (none)) else (none)))=some r:=h
 clear h
 by_cases c4:(wrap64 (a2)) ≥ (a1.size:Int)
 ·
  rw [if_pos c4] at H
  have nR:decide ((a1.size:Int)≤(wrap64 (a2)))=true:=decide_eq_true c4
  clear c4
  obtain rfl:=Option.some.inj H
  go_enter Tryd.func31,Tryd.ntmps31
  go_wp2
  go_ret
  exact ⟨by first|rfl|(simp;done)|(simp [*];done),by repeat (first|exact aV.refl _|apply aV.step)⟩
 ·
  rw [if_neg c4] at H
  have nR:decide ((a1.size:Int)≤(wrap64 (a2)))=false:=decide_eq_false c4
  clear c4
  obtain ⟨sG,xB⟩:∃ j_:Int,(wrap64 (a2))=j_:=⟨_,rfl⟩
  replace H:(if 0≤(sG) then (if (sG)≤(wrap64 ((sG)+1)) then (if (wrap64 ((sG)+1))≤(a1.size:Int) then ((aW.f k l0 (a1.extract ((sG):Int).toNat ((wrap64 ((sG)+1)):Int).toNat)).bind fun t151=>(if t151=true then (if 0≤a2 then (if a2 < (a1.size:Int) then (some (((bt a1 a2) - 48) % 256)) else (none)) else (none)) else (some (-1)))) else (none)) else (none)) else (none))=some r:=by first|(rw [xB] at H;exact H)|(simp only [xB] at H ⊢;exact H)
  (try rw [xB] at nR)
  have aax:(IntKind.i64.wrap (a2))=sG:=(bY _).trans xB
  by_cases c6:0≤(sG)
  ·
   rw [if_pos c6] at H
   have nP:=eq_true c6
   have xE:decide (0≤(sG))=true:=decide_eq_true c6
   clear c6
   by_cases c7:(sG)≤(wrap64 ((sG)+1))
   ·
    rw [if_pos c7] at H
    have oG:=eq_true c7
    have yu:decide ((sG)≤(wrap64 ((sG)+1)))=true:=decide_eq_true c7
    by_cases c8:(wrap64 ((sG)+1))≤(a1.size:Int)
    ·
     rw [if_pos c8] at H
     have oL:=eq_true c8
     have yt:decide ((wrap64 ((sG)+1))≤(a1.size:Int))=true:=decide_eq_true c8
     replace H:=Option.bind_eq_some_iff.mp H
     obtain ⟨t151,MC,H⟩:=H
     replace H:(if t151=true then (if 0≤a2 then (if a2 < (a1.size:Int) then (some (((bt a1 a2) - 48) % 256)) else (none)) else (none)) else (some (-1)))=some r:=H
     have A9:=ae.mk MC
     clear MC
     by_cases c10:t151=true
     ·
      subst c10
      have H1:(if 0≤a2 then (if a2 < (a1.size:Int) then (some (((bt a1 a2) - 48) % 256)) else (none)) else (none))=some r:=by rw [if_pos rfl] at H;exact H
      clear H
      have H:=H1
      clear H1
      by_cases c11:0≤a2
      ·
       rw [if_pos c11] at H
       have uk:decide (0≤a2)=true:=decide_eq_true c11
       clear c11
       by_cases c12:a2 < (a1.size:Int)
       ·
        rw [if_pos c12] at H
        have vJ:decide (a2 < (a1.size:Int))=true:=decide_eq_true c12
        clear c12
        obtain rfl:=Option.some.inj H
        go_enter Tryd.func31,Tryd.ntmps31
        go_wp2_with (first|(go_at_call 27;(with_reducible refine (aW.calls k _ _ l0 (a1.extract ((sG):Int).toNat ((wrap64 ((sG)+1)):Int).toNat) true _ ?bW ?df A9.out).mono ?_);(case bW=>repeat (first|exact HR0.out|(with_reducible refine Kd.bM ?_ _)|(with_reducible refine Kd.bK ?_ _)|(with_reducible refine Kd.dB ?_)));(case df=>exact tC.out);rintro e w' ⟨rfl,⟨nd,rfl⟩⟩;have p13:0≤(a2:Int):=of_decide_eq_true (by first|(with_reducible assumption)|assumption);have q13:a2 < (a1.size:Int):=of_decide_eq_true (by first|(with_reducible assumption)|assumption);have QS:=kF a1 a2;replace p13:=eq_true p13;replace q13:=eq_true q13))
        go_ret
        exact ⟨by first|rfl|(simp;done)|(simp only [← xB] <;> (first|rfl|simp))|(simp [*];done),by repeat (first|exact aV.refl _|apply aV.step)⟩
       ·
        rw [if_neg c12] at H
        exact absurd H (by simp)
      ·
       rw [if_neg c11] at H
       exact absurd H (by simp)
     ·
      replace c10:=Bool.eq_false_iff.mpr c10
      subst c10
      have H1:(some (-1))=some r:=by rw [if_neg (show ¬ (false=true) by decide)] at H;exact H
      clear H
      have H:=H1
      clear H1
      obtain rfl:=Option.some.inj H
      go_enter Tryd.func31,Tryd.ntmps31
      go_wp2_with (first|(go_at_call 27;(with_reducible refine (aW.calls k _ _ l0 (a1.extract ((sG):Int).toNat ((wrap64 ((sG)+1)):Int).toNat) false _ ?bW ?df A9.out).mono ?_);(case bW=>repeat (first|exact HR0.out|(with_reducible refine Kd.bM ?_ _)|(with_reducible refine Kd.bK ?_ _)|(with_reducible refine Kd.dB ?_)));(case df=>exact tC.out);rintro e w' ⟨rfl,⟨nd,rfl⟩⟩))
      go_ret
      exact ⟨by first|rfl|(simp;done)|(simp only [← xB] <;> (first|rfl|simp))|(simp [*];done),by repeat (first|exact aV.refl _|apply aV.step)⟩
    ·
     rw [if_neg c8] at H
     exact absurd H (by simp)
   ·
    rw [if_neg c7] at H
    exact absurd H (by simp)
  ·
   rw [if_neg c6] at H
   exact absurd H (by simp)
def dP.f (k:Nat) (aY:List ByteArray) (aT:ByteArray) (aU:ByteArray) (aI:List (gY)) (a1:Int):Option (Int):=(fH.f k aY aT a1).bind fun t153=>(some t153)
theorem dP.mono:∀ a0 a1 a2 a3 a4 k,dK (dP.f k a0 a1 a2 a3 a4) (dP.f (k+1) a0 a1 a2 a3 a4):=by
 intro a0 a1 a2 a3 a4 k
 unfold dP.f
 repeat' with_reducible first|apply fH.mono|exact dK.refl _|exact dK.none _|refine dK.ite ?_ ?_|refine dK.bind ?_ (fun _=>?_)
set_option maxHeartbeats 8000000 in
set_option maxRecDepth 100000 in
theorem dP.calls (k:Nat) (dX:Option Addr) (dW:Nat) (aY:List ByteArray) (aT:ByteArray) (aU:ByteArray) (fQ:Option Addr) (eH:Nat) (aI:List (gY)) (a1:Int) (r:Int) (w:World) (jF:Kd.C Kd.string w dX aY.length aY) (jH:aY.length≤dW) (jE:Kd.C tu w fQ aI.length aI) (jG:aI.length≤eH) (h:dP.f k aY aT aU aI a1=some r) :
  Calls Tryd.prog 19 #[.agg #[.slice dX aY.length dW,.string aT,.string aU,.slice fQ aI.length eH],.int .u8 a1] w fun e w'=>e=.returned (.int .i64 r)∧Below w.heap.size w w':=by
 have xA:=Tryd.underlying25
 have iq:=ae.mk jF
 have iC:=ae.mk jH
 clear jF jH
 have jB:=ae.mk jE
 have jS:=ae.mk jG
 clear jE jG
 have HB:=ae.mk (Below.refl w.heap.size w)
 have H:((fH.f k aY aT a1).bind fun t153=>(some t153))=some r:=h
 clear h
 replace H:=Option.bind_eq_some_iff.mp H
 obtain ⟨t153,xh,H⟩:=H
 replace H:(some t153)=some r:=H
 have A3:=ae.mk xh
 clear xh
 obtain rfl:=Option.some.inj H
 go_enter Tryd.func19,Tryd.ntmps19
 go_wp2_with (first|((with_reducible refine dN (N:=2) rfl ?_);refine fB ?hg (N:=2) ?hd (cs:=#[.slice dX aY.length dW,.string aT,.string aU,.slice fQ aI.length eH]) (t:=25) ?hr ?_;(case hd=>rfl);(case hg=>rfl);(case hr=>first|(go_simp;done)|(go_simp;rfl));intro abl hg w4 hbox hb;have dS:=ae.mk (bg (by repeat (first|(with_reducible first|exact HB.out|apply ah|apply af|apply ai)|exact HB.out)) hb);have dR:=ae.mk (hbox);have dO:=ae.mk ((by rw [hg];exact (bQ (by repeat (first|(with_reducible first|exact HB.out|apply ah|apply af|apply ai)|exact HB.out))):w.heap.size≤abl));have gQ:=dO;clear HB;have HB:=dS;have acZ:=dR;have am0:=dO;have acV:=gQ;clear dS dR dO gQ;clear hb hbox hg;obtain ⟨zV,zU,zT,zS,zQ,zO,zN,zM⟩:=qM acZ.out)|((with_reducible refine bu (f:=31) rfl ?_);refine dQ (some 10) rfl rfl Tryd.func31 (by kernel_rfl) rfl #[.slice dX aY.length dW,.string aT,.int .u8 a1] rfl (by (try simp only [List.map_toArray,List.map_cons,List.map_nil]);first|done|rfl|(simp only [List.length_drop,List.length_take];rfl)) ?_;(with_reducible refine (fH.calls k _ _ aY aT a1 t153 _ ?bW ?df A3.out).mono ?_);(case bW=>repeat (first|exact (Kd.bJ iq.out HB.out)|(with_reducible refine Kd.bM ?_ _)|(with_reducible refine Kd.bK ?_ _)|(with_reducible refine Kd.dB ?_)));(case df=>exact iC.out);rintro e w' ⟨rfl,⟨nd,rfl⟩⟩;refine ⟨_,rfl,?_⟩))
 go_ret
 exact ⟨by first|rfl|(simp [aQ,aN] <;> rfl)|(simp [*,aQ,aN] <;> rfl),by repeat (first|(with_reducible first|exact HB.out|apply ah|apply af|apply ai|refine aj ?_ acV.out)|exact HB.out)⟩
def fJ.f (k:Nat) (aY:List ByteArray) (aT:ByteArray) (aU:ByteArray) (aI:List (gY)) (a1:Int):Option (Int):=(fH.f k aY aU a1).bind fun t155=>(some t155)
theorem fJ.mono:∀ a0 a1 a2 a3 a4 k,dK (fJ.f k a0 a1 a2 a3 a4) (fJ.f (k+1) a0 a1 a2 a3 a4):=by
 intro a0 a1 a2 a3 a4 k
 unfold fJ.f
 repeat' with_reducible first|apply fH.mono|exact dK.refl _|exact dK.none _|refine dK.ite ?_ ?_|refine dK.bind ?_ (fun _=>?_)
set_option maxHeartbeats 8000000 in
set_option maxRecDepth 100000 in
theorem fJ.calls (k:Nat) (dX:Option Addr) (dW:Nat) (aY:List ByteArray) (aT:ByteArray) (aU:ByteArray) (fQ:Option Addr) (eH:Nat) (aI:List (gY)) (a1:Int) (r:Int) (w:World) (jF:Kd.C Kd.string w dX aY.length aY) (jH:aY.length≤dW) (jE:Kd.C tu w fQ aI.length aI) (jG:aI.length≤eH) (h:fJ.f k aY aT aU aI a1=some r) :
  Calls Tryd.prog 20 #[.agg #[.slice dX aY.length dW,.string aT,.string aU,.slice fQ aI.length eH],.int .u8 a1] w fun e w'=>e=.returned (.int .i64 r)∧Below w.heap.size w w':=by
 have xA:=Tryd.underlying25
 have iq:=ae.mk jF
 have iC:=ae.mk jH
 clear jF jH
 have jB:=ae.mk jE
 have jS:=ae.mk jG
 clear jE jG
 have HB:=ae.mk (Below.refl w.heap.size w)
 have H:((fH.f k aY aU a1).bind fun t155=>(some t155))=some r:=h
 clear h
 replace H:=Option.bind_eq_some_iff.mp H
 obtain ⟨t155,xh,H⟩:=H
 replace H:(some t155)=some r:=H
 have A3:=ae.mk xh
 clear xh
 obtain rfl:=Option.some.inj H
 go_enter Tryd.func20,Tryd.ntmps20
 go_wp2_with (first|((with_reducible refine dN (N:=2) rfl ?_);refine fB ?hg (N:=2) ?hd (cs:=#[.slice dX aY.length dW,.string aT,.string aU,.slice fQ aI.length eH]) (t:=25) ?hr ?_;(case hd=>rfl);(case hg=>rfl);(case hr=>first|(go_simp;done)|(go_simp;rfl));intro abk hg w4 hbox hb;have dS:=ae.mk (bg (by repeat (first|(with_reducible first|exact HB.out|apply ah|apply af|apply ai)|exact HB.out)) hb);have dR:=ae.mk (hbox);have dO:=ae.mk ((by rw [hg];exact (bQ (by repeat (first|(with_reducible first|exact HB.out|apply ah|apply af|apply ai)|exact HB.out))):w.heap.size≤abk));have gQ:=dO;clear HB;have HB:=dS;have acY:=dR;have amZ:=dO;have acU:=gQ;clear dS dR dO gQ;clear hb hbox hg;obtain ⟨zV,zU,zT,zS,zQ,zO,zN,zM⟩:=qM acY.out)|((with_reducible refine bu (f:=31) rfl ?_);refine dQ (some 10) rfl rfl Tryd.func31 (by kernel_rfl) rfl #[.slice dX aY.length dW,.string aU,.int .u8 a1] rfl (by (try simp only [List.map_toArray,List.map_cons,List.map_nil]);first|done|rfl|(simp only [List.length_drop,List.length_take];rfl)) ?_;(with_reducible refine (fH.calls k _ _ aY aU a1 t155 _ ?bW ?df A3.out).mono ?_);(case bW=>repeat (first|exact (Kd.bJ iq.out HB.out)|(with_reducible refine Kd.bM ?_ _)|(with_reducible refine Kd.bK ?_ _)|(with_reducible refine Kd.dB ?_)));(case df=>exact iC.out);rintro e w' ⟨rfl,⟨nd,rfl⟩⟩;refine ⟨_,rfl,?_⟩))
 go_ret
 exact ⟨by first|rfl|(simp [aQ,aN] <;> rfl)|(simp [*,aQ,aN] <;> rfl),by repeat (first|(with_reducible first|exact HB.out|apply ah|apply af|apply ai|refine aj ?_ acU.out)|exact HB.out)⟩
def dh.f (a0:Int) (a1:Int):Option (Bool):=if a0 ≥ 0 then (some (a0 == a1)) else (some false)
set_option maxHeartbeats 8000000 in
set_option maxRecDepth 100000 in
theorem dh.calls (a0:Int) (a1:Int) (r:Bool) (w:World) (h:dh.f a0 a1=some r) :
  Calls Tryd.prog 48 #[.int .i64 a0,.int .i64 a1] w fun e w'=>e=.returned (.bool r)∧aV w w':=by
 have H:(if a0 ≥ 0 then (some (a0 == a1)) else (some false))=some r:=h
 clear h
 by_cases c3:a0 ≥ 0
 ·
  rw [if_pos c3] at H
  have nS:decide (0≤a0)=true:=decide_eq_true c3
  clear c3
  obtain rfl:=Option.some.inj H
  go_enter Tryd.func48,Tryd.ntmps48
  go_wp2
  go_ret
  exact ⟨by first|rfl|(simp;done)|(simp [*];done),by repeat (first|exact aV.refl _|apply aV.step)⟩
 ·
  rw [if_neg c3] at H
  have nS:decide (0≤a0)=false:=decide_eq_false c3
  clear c3
  obtain rfl:=Option.some.inj H
  go_enter Tryd.func48,Tryd.ntmps48
  go_wp2
  go_ret
  exact ⟨by first|rfl|(simp;done)|(simp [*];done),by repeat (first|exact aV.refl _|apply aV.step)⟩
end Go.Proofs.YtlemecdddhdagaaDoor.P
end
