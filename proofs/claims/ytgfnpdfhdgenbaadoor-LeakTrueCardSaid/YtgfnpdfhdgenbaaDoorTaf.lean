/- Parts of the proof of LeakTrue: what the functions that it reaches compute, and plain facts about that. -/
import Derived.Test.YtgfnpdfhdgenbaaDoorTab
import Derived.Test.YtgfnpdfhdgenbaaDoorTac
import Derived.Test.YtgfnpdfhdgenbaaDoorTae
set_option linter.unusedVariables false
set_option linter.unusedSimpArgs false
section
namespace Go.Proofs.YtgfnpdfhdgenbaaDoor.P
open Go.RowKit Go.Proofs.ae.bf Go.Proofs.ae.bY Go.Proofs.ae.cZ
attribute [local go_sem] kU kS mF mD jR jQ kT kR
attribute [local go_sem high] Zn
def ja.f (dF:Int) (aZ:Int) (bn:Int) (fV:Int) (gy:Int) (a1:Int):Option (Int):=if a1=97 then (some (wrap64 (aZ))) else (if a1=98 then (some (wrap64 (bn))) else (if a1=99 then (some (wrap64 (fV))) else (some gy)))
set_option maxHeartbeats 8000000 in
set_option maxRecDepth 100000 in
theorem ja.calls (dF:Int) (aZ:Int) (bn:Int) (fV:Int) (gy:Int) (a1:Int) (r:Int) (w:World) (h:ja.f dF aZ bn fV gy a1=some r) :
  Calls Tryd.prog 42 #[.agg #[.int .u8 dF,.int .u8 aZ,.int .u8 bn,.int .u8 fV,.int .i64 gy],.int .u8 a1] w fun e w'=>e=.returned (.int .i64 r)∧Below w.heap.size w w':=by
 have zl:=Tryd.underlying45
 have HB:=af.mk (Below.refl w.heap.size w)
 have H:(if a1=97 then (some (wrap64 (aZ))) else (if a1=98 then (some (wrap64 (bn))) else (if a1=99 then (some (wrap64 (fV))) else (some gy))))=some r:=h
 clear h
 by_cases c3:a1=97
 ·
  rw [if_pos c3] at H
  have qx:(a1 == 97)=true:=beq_iff_eq.mpr c3
  have DX:(a1 != 97)=false:=bne_eq_false_iff_eq.mpr c3
  clear c3
  obtain rfl:=Option.some.inj H
  go_enter Tryd.func42,Tryd.ntmps42
  go_wp2_with (first|((with_reducible refine bD (N:=2) rfl ?_);refine ed ?hg (N:=2) ?hd (cs:=#[.int .u8 dF,.int .u8 aZ,.int .u8 bn,.int .u8 fV,.int .i64 gy]) (t:=45) ?hr ?_;(case hd=>rfl);(case hg=>rfl);(case hr=>first|(go_simp;done)|(go_simp;rfl));intro zA hg w4 hbox hb;have dW:=af.mk (bC (by repeat (first|(with_reducible first|exact HB.out|apply aj|apply ag|apply ak)|exact HB.out)) hb);have dV:=af.mk (hbox);have dQ:=af.mk ((by rw [hg];exact (df (by repeat (first|(with_reducible first|exact HB.out|apply aj|apply ag|apply ak)|exact HB.out))):w.heap.size≤zA));have gK:=dQ;clear HB;have HB:=dW;have zQ:=dV;have O9:=dQ;have zO:=gK;clear dW dV dQ gK;clear hb hbox hg;obtain ⟨Hq,Ho,Hm,Hl,Xg,G5,GZ,GY,GX,WW⟩:=iV zQ.out))
  go_ret
  exact ⟨by first|rfl|(simp [aU,aT] <;> rfl)|(simp [*,aU,aT] <;> rfl),by repeat (first|(with_reducible first|exact HB.out|apply aj|apply ag|apply ak|refine ay ?_ zO.out)|exact HB.out)⟩
 ·
  rw [if_neg c3] at H
  have qx:(a1 == 97)=false:=beq_eq_false_iff_ne.mpr c3
  have DX:(a1 != 97)=true:=bne_iff_ne.mpr c3
  by_cases c6:a1=98
  ·
   rw [if_pos c6] at H
   have tK:(a1 == 98)=true:=beq_iff_eq.mpr c6
   have DV:(a1 != 98)=false:=bne_eq_false_iff_eq.mpr c6
   clear c6
   obtain rfl:=Option.some.inj H
   go_enter Tryd.func42,Tryd.ntmps42
   go_wp2_with (first|((with_reducible refine bD (N:=2) rfl ?_);refine ed ?hg (N:=2) ?hd (cs:=#[.int .u8 dF,.int .u8 aZ,.int .u8 bn,.int .u8 fV,.int .i64 gy]) (t:=45) ?hr ?_;(case hd=>rfl);(case hg=>rfl);(case hr=>first|(go_simp;done)|(go_simp;rfl));intro zA hg w7 hbox hb;have dW:=af.mk (bC (by repeat (first|(with_reducible first|exact HB.out|apply aj|apply ag|apply ak)|exact HB.out)) hb);have dV:=af.mk (hbox);have dQ:=af.mk ((by rw [hg];exact (df (by repeat (first|(with_reducible first|exact HB.out|apply aj|apply ag|apply ak)|exact HB.out))):w.heap.size≤zA));have gK:=dQ;clear HB;have HB:=dW;have zQ:=dV;have O9:=dQ;have zO:=gK;clear dW dV dQ gK;clear hb hbox hg;obtain ⟨Hg,Hf,He,Ha,Xb,GV,GU,GR,GN,WR⟩:=iV zQ.out))
   go_ret
   exact ⟨by first|rfl|(simp [aU,aT] <;> rfl)|(simp [*,aU,aT] <;> rfl),by repeat (first|(with_reducible first|exact HB.out|apply aj|apply ag|apply ak|refine ay ?_ zO.out)|exact HB.out)⟩
  ·
   rw [if_neg c6] at H
   have tK:(a1 == 98)=false:=beq_eq_false_iff_ne.mpr c6
   have DV:(a1 != 98)=true:=bne_iff_ne.mpr c6
   by_cases c9:a1=99
   ·
    rw [if_pos c9] at H
    have OA:(a1 == 99)=true:=beq_iff_eq.mpr c9
    have XA:(a1 != 99)=false:=bne_eq_false_iff_eq.mpr c9
    clear c9
    obtain rfl:=Option.some.inj H
    go_enter Tryd.func42,Tryd.ntmps42
    go_wp2_with (first|((with_reducible refine bD (N:=2) rfl ?_);refine ed ?hg (N:=2) ?hd (cs:=#[.int .u8 dF,.int .u8 aZ,.int .u8 bn,.int .u8 fV,.int .i64 gy]) (t:=45) ?hr ?_;(case hd=>rfl);(case hg=>rfl);(case hr=>first|(go_simp;done)|(go_simp;rfl));intro zA hg w10 hbox hb;have dW:=af.mk (bC (by repeat (first|(with_reducible first|exact HB.out|apply aj|apply ag|apply ak)|exact HB.out)) hb);have dV:=af.mk (hbox);have dQ:=af.mk ((by rw [hg];exact (df (by repeat (first|(with_reducible first|exact HB.out|apply aj|apply ag|apply ak)|exact HB.out))):w.heap.size≤zA));have gK:=dQ;clear HB;have HB:=dW;have zQ:=dV;have O9:=dQ;have zO:=gK;clear dW dV dQ gK;clear hb hbox hg;obtain ⟨yE,yD,yC,yB,TK,yu,yt,yl,yj,RI⟩:=iV zQ.out))
    go_ret
    exact ⟨by first|rfl|(simp [aU,aT] <;> rfl)|(simp [*,aU,aT] <;> rfl),by repeat (first|(with_reducible first|exact HB.out|apply aj|apply ag|apply ak|refine ay ?_ zO.out)|exact HB.out)⟩
   ·
    rw [if_neg c9] at H
    have OA:(a1 == 99)=false:=beq_eq_false_iff_ne.mpr c9
    have XA:(a1 != 99)=true:=bne_iff_ne.mpr c9
    obtain rfl:=Option.some.inj H
    go_enter Tryd.func42,Tryd.ntmps42
    go_wp2_with (first|((with_reducible refine bD (N:=2) rfl ?_);refine ed ?hg (N:=2) ?hd (cs:=#[.int .u8 dF,.int .u8 aZ,.int .u8 bn,.int .u8 fV,.int .i64 gy]) (t:=45) ?hr ?_;(case hd=>rfl);(case hg=>rfl);(case hr=>first|(go_simp;done)|(go_simp;rfl));intro zA hg w12 hbox hb;have dW:=af.mk (bC (by repeat (first|(with_reducible first|exact HB.out|apply aj|apply ag|apply ak)|exact HB.out)) hb);have dV:=af.mk (hbox);have dQ:=af.mk ((by rw [hg];exact (df (by repeat (first|(with_reducible first|exact HB.out|apply aj|apply ag|apply ak)|exact HB.out))):w.heap.size≤zA));have gK:=dQ;clear HB;have HB:=dW;have zQ:=dV;have O9:=dQ;have zO:=gK;clear dW dV dQ gK;clear hb hbox hg;obtain ⟨TJ,TI,TG,TF,agk,RH,RG,RF,RD,ael⟩:=iV zQ.out))
    go_ret
    exact ⟨by first|rfl|(simp [aU,aT] <;> rfl)|(simp [*,aU,aT] <;> rfl),by repeat (first|(with_reducible first|exact HB.out|apply aj|apply ag|apply ak|refine ay ?_ zO.out)|exact HB.out)⟩
def aW.l0:Nat→ByteArray→List ByteArray→Int→Int→Int→Int→Int→Int→Option (List ByteArray)
 | 0,_,_,_,_,_,_,_,_=>none
 | k+1,x4,x5,x6,II,IG,IE,IC,IB=>if x6 < (x4.size:Int) then (if 0≤x6 then ((ja.f II IG IE IC IB (bt x4 x6)).bind fun t134=>((iE.f t134 10).bind fun t135=>(if x5.length < 8796093022208 then (aW.l0 k x4 (x5++[t135]) (wrap64 (x6+1)) II IG IE IC IB) else (none)))) else (none)) else (some x5)
def aW.f (k:Nat) (dF:Int) (aZ:Int) (bn:Int) (fV:Int) (gy:Int):Option (List ByteArray):=(dY.f dF).bind fun Fe=>(aW.l0 k Fe.2 (([Fe.1]:List ByteArray)) 0 dF aZ bn fV gy)
theorem aW.iF:∀ k,(∀ y0 y1 y2 y3 y4 y5 y6 y7,eu (aW.l0 k y0 y1 y2 y3 y4 y5 y6 y7) (aW.l0 (k+1) y0 y1 y2 y3 y4 y5 y6 y7))
 | 0=>fun _ _ _ _ _ _ _ _ r h=>by simp [aW.l0] at h
 | k+1=>by
  have nI:=aW.iF k
  ·
   intro y0 y1 y2 y3 y4 y5 y6 y7
   unfold aW.l0
   repeat' with_reducible first|apply nI|exact eu.refl _|exact eu.none _|refine eu.ite ?_ ?_|refine eu.bind ?_ (fun _=>?_)
theorem aW.mono:∀ a0 a1 a2 a3 a4 k,eu (aW.f k a0 a1 a2 a3 a4) (aW.f (k+1) a0 a1 a2 a3 a4):=by
 intro a0 a1 a2 a3 a4 k
 have nI:=aW.iF k
 unfold aW.f
 repeat' with_reducible first|apply nI|exact eu.refl _|exact eu.none _|refine eu.ite ?_ ?_|refine eu.bind ?_ (fun _=>?_)
def aW.T6:Bool × List (List Nat × List Nat):=(true,[([],[]),([],[]),([],[]),([],[]),([2,3],[2,3]),([1,4],[1,4]),([5,5],[5]),([6],[6]),([0,7,6],[0,7]),([8,8,0,1,2,3,4,5,6,7,8],[0,8])])
def aW.B6:List Nat:=[0,0,0,0,12,30,62,126,255,511]
theorem aW.tab6:oz .any (opsOf Tryd.f32 6)=aW.T6:=by kernel_rfl
theorem aW.ZR:nM aW.T6.2 aW.B6=true:=by kernel_rfl
set_option maxHeartbeats 8000000 in
set_option maxRecDepth 100000 in
theorem aW.calls (k:Nat) (dF:Int) (aZ:Int) (bn:Int) (fV:Int) (gy:Int) (r:List ByteArray) (w:World) (EG:Kd.C zV w zW qJ.length qJ) (h:aW.f k dF aZ bn fV gy=some r) :
  Calls Tryd.prog 32 #[.agg #[.int .u8 dF,.int .u8 aZ,.int .u8 bn,.int .u8 fV,.int .i64 gy]] w fun e w'=>∃ v0_:Value,e=.returned (v0_)∧Kd.R Kd.string 9 w' w.heap.size (fun _=>True) v0_ r∧Below w.heap.size w w':=by
 have zl:=Tryd.underlying45
 have Eb:=af.mk EG
 clear EG
 have HB:=af.mk (Below.refl w.heap.size w)
 have H:((dY.f dF).bind fun Fe=>(aW.l0 k Fe.2 (([Fe.1]:List ByteArray)) 0 dF aZ bn fV gy))=some r:=h
 clear h
 replace H:=Option.bind_eq_some_iff.mp H
 obtain ⟨⟨t129,t130⟩,KR,H⟩:=H
 replace H:(aW.l0 k t130 (([t129]:List ByteArray)) 0 dF aZ bn fV gy)=some r:=H
 have A2:=af.mk KR
 clear KR
 obtain ⟨Yu,EF⟩:∃ y_:List ByteArray,y_=(([t129]:List ByteArray)):=⟨_,rfl⟩
 replace H:(aW.l0 k t130 Yu 0 dF aZ bn fV gy)=some r:=by first|(rw [EF];with_reducible exact H)|(have Il:=(Option.bind_some _ _).symm.trans H;rw [EF];with_reducible exact Il)|(have Il:=(Option.bind_some _ _).symm.trans H;with_reducible exact Il)|with_reducible exact H|(rw [EF];exact H)|exact H
 have Vz:=af.mk EF
 clear EF
 have H':=af.mk H
 clear H
 go_enter Tryd.func32,Tryd.ntmps32
 go_wp2_with (first|((with_reducible refine bD (N:=1) rfl ?_);refine ed ?hg (N:=1) ?hd (cs:=#[.int .u8 dF,.int .u8 aZ,.int .u8 bn,.int .u8 fV,.int .i64 gy]) (t:=45) ?hr ?_;(case hd=>rfl);(case hg=>rfl);(case hr=>first|(go_simp;done)|(go_simp;rfl));intro tH hg w3 hbox hb;have dW:=af.mk (bC (by repeat (first|(with_reducible first|exact HB.out|apply aj|apply ag|apply ak)|exact HB.out)) hb);have dV:=af.mk (hbox);have dQ:=af.mk ((by rw [hg];exact (df (by repeat (first|(with_reducible first|exact HB.out|apply aj|apply ag|apply ak)|exact HB.out))):w.heap.size≤tH));have gK:=dQ;clear HB;have HB:=dW;have iI:=dV;have ala:=dQ;have wH:=gK;clear dW dV dQ gK;clear hb hbox hg;obtain ⟨Xl,Xk,Xj,Xi,Xh,Xa,W9,WZ,WY,WX⟩:=iV iI.out)|((with_reducible refine bV (f:=30) rfl ?_);refine fU (some 10) rfl rfl Tryd.func30 (by kernel_rfl) rfl #[.int .u8 dF] rfl (by (try simp only [List.map_toArray,List.map_cons,List.map_nil]);first|done|rfl|(simp only [List.length_drop,List.length_take];rfl)) ?_;(with_reducible refine (dY.calls dF t129 t130 _ A2.out).mono ?_);rintro e w' ⟨rfl,⟨nd,rfl⟩⟩;refine ⟨_,rfl,?_⟩)|((with_reducible refine bD (N:=14) rfl ?_);refine Kd.KI Kd.string _ 9 ?hg (N:=14) ?hd (xs:=([t129]:List ByteArray)) (inner:=[.string t129]) (ok:=fun _=>True) (uN:=fun _=>True) ?hr ?hp (fun _ hk=>hk) trivial (Below.refl _ _) (Nat.le_refl _) (by simp) ?_;(case hd=>rfl);(case hg=>rfl);(case hr=>first|(go_simp;done)|(go_simp;rfl));(case hp=>exact (kK.one (show Kd.M Kd.string _ _ _ t129 [.string t129] from rfl) (kK.none _ _)));intro alI w5 YT hb Y6 EH;clear Y6 EH;(first|rw [← Vz.out] at YT|(simp only [Int.reduceToNat] at YT;rw [← Vz.out] at YT));have dW:=af.mk (Kd.qG YT (df (by repeat (first|(with_reducible first|exact HB.out|apply aj|apply ag|apply ak|refine ay ?_ wH.out)|exact HB.out))));have dV:=af.mk (bJ (g:=tH) (o:=.cells #[.int .u8 dF,.int .u8 aZ,.int .u8 bn,.int .u8 fV,.int .i64 gy] 45 (0,0)) (by (with_reducible repeat (first|refine ai ?_ _|refine ax ?_|refine ah ?_ _));exact iI.out) hb);have dQ:=af.mk (bC (by repeat (first|(with_reducible first|exact HB.out|apply aj|apply ag|apply ak|refine ay ?_ wH.out)|exact HB.out)) hb);clear iI;clear HB;have aan:=dW;have iI:=dV;have HB:=dQ;clear dW dV dQ;clear hb YT))
 go_loopg [5,6] k (fun kq v5 v6 w'=>∃ (lY:List ByteArray) (sK:Int),v6=.int .i64 sK∧af (aW.l0 kq t130 lY sK dF aZ bn fV gy=some r)∧af (kq≤k)∧af (Kd.R Kd.string 9 w' w.heap.size (fun _=>True) v5 lY)∧af (w'.heap[tH]? = some (.cells #[.int .u8 dF,.int .u8 aZ,.int .u8 bn,.int .u8 fV,.int .i64 gy] 45 (0,0)))∧af (Below w.heap.size w w'))
 case atStart=>exact ⟨(Yu),(0),(by first|rfl|(simp;done)|(simp [*];done)),H',⟨Nat.le_refl _⟩,⟨by (with_reducible repeat (first|apply Kd.jD|apply Kd.jC|apply Kd.ku));exact aan.out⟩,⟨by (with_reducible repeat (first|refine ai ?_ _|refine ax ?_|refine ah ?_ _));exact iI.out⟩,⟨by repeat (first|(with_reducible first|exact HB.out|apply aj|apply ag|apply ak|refine ay ?_ wH.out)|exact HB.out)⟩⟩
 case round =>
  clear H'
  obtain ⟨lY,sK,rfl,HA,uG,iG,iI,HB⟩:=hrel
  cases gk with
  | zero=>exact absurd HA.out (by simp [aW.l0])
  | succ k1 =>
   have H:=HA.out
   clear HA
   simp only [aW.l0] at H
   by_cases c7:sK < (t130.size:Int)
   ·
    rw [if_pos c7] at H
    have pU:decide (sK < (t130.size:Int))=true:=decide_eq_true c7
    clear c7
    by_cases c8:0≤sK
    ·
     rw [if_pos c8] at H
     have vY:decide (0≤sK)=true:=decide_eq_true c8
     clear c8
     replace H:=Option.bind_eq_some_iff.mp H
     obtain ⟨t134,Pq,H⟩:=H
     replace H:((iE.f t134 10).bind fun t135=>(if lY.length < 8796093022208 then (aW.l0 k1 t130 (lY++[t135]) (wrap64 (sK+1)) dF aZ bn fV gy) else (none)))=some r:=H
     have Yr:=af.mk Pq
     clear Pq
     replace H:=Option.bind_eq_some_iff.mp H
     obtain ⟨t135,aaV,H⟩:=H
     replace H:(if lY.length < 8796093022208 then (aW.l0 k1 t130 (lY++[t135]) (wrap64 (sK+1)) dF aZ bn fV gy) else (none))=some r:=H
     have A11:=af.mk aaV
     clear aaV
     by_cases c12:lY.length < 8796093022208
     ·
      rw [if_pos c12] at H
      have aae:=af.mk c12
      clear c12
      obtain ⟨Yt,EE⟩:∃ y_:List ByteArray,y_=(lY++[t135]):=⟨_,rfl⟩
      replace H:(aW.l0 k1 t130 Yt (wrap64 (sK+1)) dF aZ bn fV gy)=some r:=by first|(rw [EE];with_reducible exact H)|(have Il:=(Option.bind_some _ _).symm.trans H;rw [EE];with_reducible exact Il)|(have Il:=(Option.bind_some _ _).symm.trans H;with_reducible exact Il)|with_reducible exact H|(rw [EE];exact H)|exact H
      have aac:=af.mk EE
      clear EE
      have H':=af.mk H
      clear H
      try go_wp2
      have dW:=af.mk (Kd.ku iG.out)
      have dV:=af.mk (ax iI.out)
      have dQ:=af.mk (ak HB.out)
      clear iG
      clear iI
      clear HB
      have iG:=dW
      have iI:=dV
      have HB:=dQ
      clear dW dV dQ
      have p9:0≤(sK:Int):=of_decide_eq_true (by first|(with_reducible assumption)|assumption)
      have q9:sK < (t130.size:Int):=of_decide_eq_true (by first|(with_reducible assumption)|assumption)
      have hx9:=lI t130 sK
      replace p9:=eq_true p9
      replace q9:=eq_true q9
      refine oJ (n:=10) (S:=fun w'=>w'.cell? ⟨tH,0,none⟩=some (.int .u8 dF)∧w'.cell? ⟨tH,1,none⟩=some (.int .u8 aZ)∧w'.cell? ⟨tH,2,none⟩=some (.int .u8 bn)∧w'.cell? ⟨tH,3,none⟩=some (.int .u8 fV)∧w'.cell? ⟨tH,4,none⟩=some (.int .i64 gy)) (ds:=[]) #[false,false,false,false,false,false,false,false,false,false] (by kernel_rfl) rfl rfl ⟨(aJ iI.out 0).trans rfl,(aJ iI.out 1).trans rfl,(aJ iI.out 2).trans rfl,(aJ iI.out 3).trans rfl,(aJ iI.out 4).trans rfl⟩ (fun hHeld=>?_);refine kP aW.tab6 aW.ZR (fun fH qy=>?_)
      generalize wr.drew=w13 at iG iI HB hHeld ⊢
      refine bW (i:=0) (N:=some 21) (v:=?_) (a':=?_) #[true,false,false,false,false,false,false,false,false,false] rfl rfl (bG fH.out (by kernel_rfl)) (fun _ _ _ h=>h) (Or.inl ⟨by rfl,?_⟩) ?_ ?_
      rotate_left
      ·
       intro w'
       go_simp
       with_reducible rfl
      rotate_left
      ·
       simp only [Act.put,List.setIfInBounds_toArray,List.set_cons_zero,List.set_cons_succ,aX,aY]
       rfl
      refine bW (i:=2) (N:=some 23) (v:=?_) (a':=?_) #[true,false,true,false,false,false,false,false,false,false] rfl rfl (bG fH.out (by kernel_rfl)) (fun _ _ _ h=>h) (Or.inl ⟨by rfl,?_⟩) ?_ ?_
      rotate_left
      ·
       intro w'
       go_simp
       with_reducible rfl
      rotate_left
      ·
       simp only [Act.put,List.setIfInBounds_toArray,List.set_cons_zero,List.set_cons_succ,aX,aY]
       rfl
      refine bW (i:=3) (N:=some 24) (v:=?_) (a':=?_) #[true,false,true,true,false,false,false,false,false,false] rfl rfl (bG fH.out (by kernel_rfl)) (fun _ _ _ h=>h) (Or.inl ⟨by rfl,?_⟩) ?_ ?_
      rotate_left
      ·
       intro w'
       go_simp
       with_reducible rfl
      rotate_left
      ·
       simp only [Act.put,List.setIfInBounds_toArray,List.set_cons_zero,List.set_cons_succ,aX,aY]
       rfl
      refine jf (i:=1) (N:=some 22) (v:=?_) (a':=?_) #[true,true,true,true,false,false,false,false,false,false] rfl rfl (gm fH.out qy.out (by kernel_rfl)) (fun _ _ _ h=>h) (Or.inl ⟨by rfl,?_⟩) hHeld ?_ ?_
      rotate_left
      ·
       rintro w' ⟨s0,s1,s2,s3,s4⟩
       go_simp
       with_reducible rfl
      rotate_left
      ·
       simp only [Act.put,List.setIfInBounds_toArray,List.set_cons_zero,List.set_cons_succ,aX,aY]
       rfl
      refine jf (i:=4) (N:=some 25) (v:=?_) (a':=?_) #[true,true,true,true,true,false,false,false,false,false] rfl rfl (gm fH.out qy.out (by kernel_rfl)) (fun _ _ _ h=>h) (Or.inl ⟨by rfl,?_⟩) hHeld ?_ ?_
      rotate_left
      ·
       rintro w' ⟨s0,s1,s2,s3,s4⟩
       go_simp
       with_reducible rfl
      rotate_left
      ·
       simp only [Act.put,List.setIfInBounds_toArray,List.set_cons_zero,List.set_cons_succ,aX,aY]
       rfl
      refine nN (i:=5) (N:=some 26) #[true,true,true,true,true,true,false,false,false,false] rfl rfl (jU fH.out (by kernel_rfl)) (by decide) (fun K hK=>?_)
      refine qm Tryd.func42 (by kernel_rfl) rfl #[.agg #[.int .u8 dF,.int .u8 aZ,.int .u8 bn,.int .u8 fV,.int .i64 gy],.int .u8 (bt t130 sK)] (by rfl) rfl rfl (by (try simp only [List.map_toArray,List.map_cons,List.map_nil]);first|done|rfl|(simp only [List.length_drop,List.length_take];rfl)) ?_
      with_reducible refine (ja.calls dF aZ bn fV gy (bt t130 sK) t134 _ Yr.out).mono ?_
      rintro e w14 ⟨rfl,hb⟩
      refine ⟨_,rfl,?_⟩
      have dW:=af.mk (Kd.jF (by (with_reducible repeat (first|apply Kd.jD|apply Kd.jC|apply Kd.ku));exact iG.out) hb)
      have dV:=af.mk (bJ (g:=tH) (o:=.cells #[.int .u8 dF,.int .u8 aZ,.int .u8 bn,.int .u8 fV,.int .i64 gy] 45 (0,0)) (by (with_reducible repeat (first|refine ai ?_ _|refine ax ?_|refine ah ?_ _));exact iI.out) hb)
      have dQ:=af.mk (bC (by repeat (first|(with_reducible first|exact HB.out|apply aj|apply ag|apply ak|refine ay ?_ wH.out)|exact HB.out)) hb)
      clear iG
      clear iI
      clear HB
      have iG:=dW
      have iI:=dV
      have HB:=dQ
      clear dW dV dQ
      (try clear hb)
      (try clear hb2)
      (try clear hk)
      (try clear hi)
      refine hK.out _ _ ⟨(aJ iI.out 0).trans rfl,(aJ iI.out 1).trans rfl,(aJ iI.out 2).trans rfl,(aJ iI.out 3).trans rfl,(aJ iI.out 4).trans rfl⟩ (fun hHeld=>?_)
      clear hK K
      refine iT (a':=?_) ?_ ?_
      rotate_left
      ·
       show Act.put _ (some 26) _=_
       simp only [Act.put,List.setIfInBounds_toArray,List.set_cons_zero,List.set_cons_succ,aX,aY]
       rfl
      refine nN (i:=6) (N:=some 27) #[true,true,true,true,true,true,true,false,false,false] rfl rfl (jU fH.out (by kernel_rfl)) (by decide) (fun K hK=>?_)
      refine qm Tryd.func41 (by kernel_rfl) rfl #[.int .i64 t134,.int .i64 10] (by rfl) rfl rfl (by (try simp only [List.map_toArray,List.map_cons,List.map_nil]);first|done|rfl|(simp only [List.length_drop,List.length_take];rfl)) ?_
      with_reducible refine (iE.calls t134 10 t135 _ ?dX A11.out).mono ?_
      (case dX=>repeat (first|exact (Kd.bQ Eb.out HB.out)|(with_reducible refine Kd.dG ?_ _)|(with_reducible refine Kd.dH ?_ _)|(with_reducible refine Kd.dS ?_)))
      rintro e w15 ⟨rfl,hb⟩
      refine ⟨_,rfl,?_⟩
      have dW:=af.mk (Kd.jF (by (with_reducible repeat (first|apply Kd.jD|apply Kd.jC|apply Kd.ku));exact iG.out) hb)
      have dV:=af.mk (bJ (g:=tH) (o:=.cells #[.int .u8 dF,.int .u8 aZ,.int .u8 bn,.int .u8 fV,.int .i64 gy] 45 (0,0)) (by (with_reducible repeat (first|refine ai ?_ _|refine ax ?_|refine ah ?_ _));exact iI.out) hb)
      have dQ:=af.mk (bC (by repeat (first|(with_reducible first|exact HB.out|apply aj|apply ag|apply ak|refine ay ?_ wH.out)|exact HB.out)) hb)
      clear iG
      clear iI
      clear HB
      have iG:=dW
      have iI:=dV
      have HB:=dQ
      clear dW dV dQ
      (try clear hb)
      (try clear hb2)
      (try clear hk)
      (try clear hi)
      refine hK.out _ _ ⟨(aJ iI.out 0).trans rfl,(aJ iI.out 1).trans rfl,(aJ iI.out 2).trans rfl,(aJ iI.out 3).trans rfl,(aJ iI.out 4).trans rfl⟩ (fun hHeld=>?_)
      clear hK K
      refine iT (a':=?_) ?_ ?_
      rotate_left
      ·
       show Act.put _ (some 27) _=_
       simp only [Act.put,List.setIfInBounds_toArray,List.set_cons_zero,List.set_cons_succ,aX,aY]
       rfl
      refine nN (i:=7) (N:=some 28) #[true,true,true,true,true,true,true,true,false,false] rfl rfl (jU fH.out (by kernel_rfl)) (by decide) (fun K hK=>?_)
      refine uJ (w1:=?_) (v:=?_) (by rfl) rfl ?_ ?_
      rotate_left 2
      ·
       go_simp
       constructor
       ·
        rfl
       ·
        rfl
      refine hK.out _ _ ⟨(aJ (ah iI.out _) 0).trans rfl,(aJ (ah iI.out _) 1).trans rfl,(aJ (ah iI.out _) 2).trans rfl,(aJ (ah iI.out _) 3).trans rfl,(aJ (ah iI.out _) 4).trans rfl⟩ (fun hHeld=>?_)
      clear hK K
      refine iT (a':=?_) ?_ ?_
      rotate_left
      ·
       show Act.put _ (some 28) _=_
       simp only [Act.put,List.setIfInBounds_toArray,List.set_cons_zero,List.set_cons_succ,aX,aY]
       rfl
      refine nN (i:=8) (N:=some 29) #[true,true,true,true,true,true,true,true,true,false] rfl rfl (jU fH.out (by kernel_rfl)) (by decide) (fun K hK=>?_)
      refine Kd.uF Kd.string (w0:=w) w.heap.size (by rfl) (.tmp 21) (.tmp 28) 22 9 (.string ⟨#[]⟩) 16 rfl Tryd.underlying22 info9 rfl (by decide) (by omega) u5 lY t135 [.string t135] (fun _=>True) (fun _=>False) rfl rfl ?aP (fun _ hk=>hk.elim) ?aF ?aO ?aB ?aS ?aL ?_
      (case aP=>exact rfl)
      (case aB=>exact (by repeat (first|(with_reducible first|exact HB.out|apply aj|apply ag|apply ak|refine ay ?_ wH.out)|exact HB.out)))
      (case aF=>exact (fun _ _=>trivial))
      (case aO=>exact (by (with_reducible repeat (first|apply Kd.jD|apply Kd.jC|apply Kd.ku));exact iG.out))
      (case aS=>exact (df (by repeat (first|(with_reducible first|exact HB.out|apply aj|apply ag|apply ak|refine ay ?_ wH.out)|exact HB.out))))
      (case aL=>have:=aae.out;omega)
      intro alH w16 ho hb hg hat
      rw [← aac.out] at ho
      have dW:=af.mk (L8 (g:=tH) (o:=.cells #[.int .u8 dF,.int .u8 aZ,.int .u8 bn,.int .u8 fV,.int .i64 gy] 45 (0,0)) (by (with_reducible repeat (first|refine ai ?_ _|refine ax ?_|refine ah ?_ _));exact iI.out) hg (Kd.OV iG.out iI.out (by decide)))
      have dV:=af.mk (hb)
      have dQ:=af.mk (ho)
      clear iI
      clear HB
      clear iG
      have iI:=dW
      have HB:=dV
      have aam:=dQ
      clear dW dV dQ
      clear ho hb hg hat
      refine hK.out _ _ ⟨(aJ iI.out 0).trans rfl,(aJ iI.out 1).trans rfl,(aJ iI.out 2).trans rfl,(aJ iI.out 3).trans rfl,(aJ iI.out 4).trans rfl⟩ (fun hHeld=>?_)
      clear hK K
      refine iT (a':=?_) ?_ ?_
      rotate_left
      ·
       show Act.put _ (some 29) _=_
       simp only [Act.put,List.setIfInBounds_toArray,List.set_cons_zero,List.set_cons_succ,aX,aY]
       rfl
      refine bW (i:=9) (N:=some 5) (v:=?_) (a':=?_) #[true,true,true,true,true,true,true,true,true,true] rfl rfl (bG fH.out (by kernel_rfl)) (fun _ _ _ h=>h) (Or.inl ⟨by rfl,?_⟩) ?_ ?_
      rotate_left
      ·
       intro w'
       go_simp
       with_reducible rfl
      rotate_left
      ·
       simp only [Act.put,List.setIfInBounds_toArray,List.set_cons_zero,List.set_cons_succ,aX,aY]
       rfl
      refine qW (nV fH.out (by kernel_rfl)) ?_
      try go_wp2
      go_roundg k1
      case measure=>have:=uG.out;omega
      case rel=>exact ⟨(Yt),(wrap64 (sK+1)),(by first|rfl|(simp;done)|(simp [*];done)),H',⟨by have:=uG.out;omega⟩,⟨by (with_reducible repeat (first|apply Kd.jD|apply Kd.jC|apply Kd.ku));exact aam.out⟩,⟨by (with_reducible repeat (first|refine ai ?_ _|refine ax ?_|refine ah ?_ _));exact iI.out⟩,⟨by repeat (first|(with_reducible first|exact HB.out|apply aj|apply ag|apply ak|refine ay ?_ wH.out)|exact HB.out)⟩⟩
     ·
      rw [if_neg c12] at H
      exact absurd H (by simp)
    ·
     rw [if_neg c8] at H
     exact absurd H (by simp)
   ·
    rw [if_neg c7] at H
    have pU:decide (sK < (t130.size:Int))=false:=decide_eq_false c7
    clear c7
    obtain rfl:=Option.some.inj H
    go_wp2
    go_ret
    exact ⟨_,by first|rfl|(simp [aU,aT] <;> rfl)|(simp [*,aU,aT] <;> rfl),by (with_reducible repeat (first|apply Kd.jD|apply Kd.jC|apply Kd.ku));exact iG.out,by repeat (first|(with_reducible first|exact HB.out|apply aj|apply ag|apply ak|refine ay ?_ wH.out)|exact HB.out)⟩
def dI.f (k:Nat) (dF:Int) (aZ:Int) (bn:Int) (fV:Int) (gy:Int):Option (Bool):=(dY.f dF).bind fun OH=>(if OH.1.toList=([]:List UInt8) then (some false) else ((aW.f k dF aZ bn fV gy).bind fun t142=>((aH.f k t142).bind fun kW=>(if kW.2.2.2.2.2=true then (some (kW.1 == dF && (kW.2.1 == aZ && (kW.2.2.1 == bn && (kW.2.2.2.1 == fV && (kW.2.2.2.2.1 == gy)))))) else (some false)))))
theorem dI.mono:∀ a0 a1 a2 a3 a4 k,eu (dI.f k a0 a1 a2 a3 a4) (dI.f (k+1) a0 a1 a2 a3 a4):=by
 intro a0 a1 a2 a3 a4 k
 unfold dI.f
 repeat' with_reducible first|apply aW.mono|apply aH.mono|exact eu.refl _|exact eu.none _|refine eu.ite ?_ ?_|refine eu.bind ?_ (fun _=>?_)
set_option maxHeartbeats 8000000 in
set_option maxRecDepth 100000 in
theorem dI.calls (k:Nat) (dF:Int) (aZ:Int) (bn:Int) (fV:Int) (gy:Int) (r:Bool) (w:World) (EG:Kd.C zV w zW qJ.length qJ) (h:dI.f k dF aZ bn fV gy=some r) :
  Calls Tryd.prog 23 #[.agg #[.int .u8 dF,.int .u8 aZ,.int .u8 bn,.int .u8 fV,.int .i64 gy]] w fun e w'=>e=.returned (.bool r)∧Below w.heap.size w w':=by
 have zl:=Tryd.underlying45
 have Eb:=af.mk EG
 clear EG
 have HB:=af.mk (Below.refl w.heap.size w)
 have H:((dY.f dF).bind fun OH=>(if OH.1.toList=([]:List UInt8) then (some false) else ((aW.f k dF aZ bn fV gy).bind fun t142=>((aH.f k t142).bind fun kW=>(if kW.2.2.2.2.2=true then (some (kW.1 == dF && (kW.2.1 == aZ && (kW.2.2.1 == bn && (kW.2.2.2.1 == fV && (kW.2.2.2.2.1 == gy)))))) else (some false))))))=some r:=h
 clear h
 replace H:=Option.bind_eq_some_iff.mp H
 obtain ⟨⟨t140,t141⟩,KR,H⟩:=H
 replace H:(if t140.toList=([]:List UInt8) then (some false) else ((aW.f k dF aZ bn fV gy).bind fun t142=>((aH.f k t142).bind fun kW=>(if kW.2.2.2.2.2=true then (some (kW.1 == dF && (kW.2.1 == aZ && (kW.2.2.1 == bn && (kW.2.2.2.1 == fV && (kW.2.2.2.2.1 == gy)))))) else (some false)))))=some r:=H
 have A2:=af.mk KR
 clear KR
 by_cases c3:t140.toList=([]:List UInt8)
 ·
  rw [if_pos c3] at H
  have qx:(t140.toList == ([]:List UInt8))=true:=beq_iff_eq.mpr c3
  have DX:(t140.toList != ([]:List UInt8))=false:=bne_eq_false_iff_eq.mpr c3
  clear c3
  obtain rfl:=Option.some.inj H
  go_enter Tryd.func23,Tryd.ntmps23
  go_wp2_with (first|((with_reducible refine bD (N:=1) rfl ?_);refine ed ?hg (N:=1) ?hd (cs:=#[.int .u8 dF,.int .u8 aZ,.int .u8 bn,.int .u8 fV,.int .i64 gy]) (t:=45) ?hr ?_;(case hd=>rfl);(case hg=>rfl);(case hr=>first|(go_simp;done)|(go_simp;rfl));intro kV hg w4 hbox hb;have dW:=af.mk (bC (by repeat (first|(with_reducible first|exact HB.out|apply aj|apply ag|apply ak)|exact HB.out)) hb);have dV:=af.mk (hbox);have dQ:=af.mk ((by rw [hg];exact (df (by repeat (first|(with_reducible first|exact HB.out|apply aj|apply ag|apply ak)|exact HB.out))):w.heap.size≤kV));have gK:=dQ;clear HB;have HB:=dW;have iY:=dV;have VK:=dQ;have pK:=gK;clear dW dV dQ gK;clear hb hbox hg;obtain ⟨Hq,Ho,Hm,Hl,Xg,G5,GZ,GY,GX,WW⟩:=iV iY.out)|((with_reducible refine bV (f:=30) rfl ?_);refine fU (some 10) rfl rfl Tryd.func30 (by kernel_rfl) rfl #[.int .u8 dF] rfl (by (try simp only [List.map_toArray,List.map_cons,List.map_nil]);first|done|rfl|(simp only [List.length_drop,List.length_take];rfl)) ?_;(with_reducible refine (dY.calls dF t140 t141 _ A2.out).mono ?_);rintro e w' ⟨rfl,⟨nd,rfl⟩⟩;refine ⟨_,rfl,?_⟩))
  go_ret
  exact ⟨by first|rfl|(simp [aU,aT] <;> rfl)|(simp [*,aU,aT] <;> rfl),by repeat (first|(with_reducible first|exact HB.out|apply aj|apply ag|apply ak|refine ay ?_ pK.out)|exact HB.out)⟩
 ·
  rw [if_neg c3] at H
  have qx:(t140.toList == ([]:List UInt8))=false:=beq_eq_false_iff_ne.mpr c3
  have DX:(t140.toList != ([]:List UInt8))=true:=bne_iff_ne.mpr c3
  replace H:=Option.bind_eq_some_iff.mp H
  obtain ⟨t142,Pm,H⟩:=H
  replace H:((aH.f k t142).bind fun kW=>(if kW.2.2.2.2.2=true then (some (kW.1 == dF && (kW.2.1 == aZ && (kW.2.2.1 == bn && (kW.2.2.2.1 == fV && (kW.2.2.2.2.1 == gy)))))) else (some false)))=some r:=H
  have A6:=af.mk Pm
  clear Pm
  replace H:=Option.bind_eq_some_iff.mp H
  obtain ⟨⟨t145,t146,t147,t148,t149,t150⟩,A70,H⟩:=H
  replace H:(if t150=true then (some (t145 == dF && (t146 == aZ && (t147 == bn && (t148 == fV && (t149 == gy)))))) else (some false))=some r:=H
  have A7:=af.mk A70
  clear A70
  by_cases c8:t150=true
  ·
   subst c8
   have H1:(some (t145 == dF && (t146 == aZ && (t147 == bn && (t148 == fV && (t149 == gy))))))=some r:=by rw [if_pos rfl] at H;exact H
   clear H
   have H:=H1
   clear H1
   obtain rfl:=Option.some.inj H
   go_enter Tryd.func23,Tryd.ntmps23
   go_wp2_with (first|((with_reducible refine bD (N:=1) rfl ?_);refine ed ?hg (N:=1) ?hd (cs:=#[.int .u8 dF,.int .u8 aZ,.int .u8 bn,.int .u8 fV,.int .i64 gy]) (t:=45) ?hr ?_;(case hd=>rfl);(case hg=>rfl);(case hr=>first|(go_simp;done)|(go_simp;rfl));intro kV hg w9 hbox hb;have dW:=af.mk (bC (by repeat (first|(with_reducible first|exact HB.out|apply aj|apply ag|apply ak)|exact HB.out)) hb);have dV:=af.mk (hbox);have dQ:=af.mk ((by rw [hg];exact (df (by repeat (first|(with_reducible first|exact HB.out|apply aj|apply ag|apply ak)|exact HB.out))):w.heap.size≤kV));have gK:=dQ;clear HB;have HB:=dW;have iY:=dV;have VK:=dQ;have pK:=gK;clear dW dV dQ gK;clear hb hbox hg;obtain ⟨DF,DD,DC,Dz,TL,Dl,Dk,Dj,Di,RJ⟩:=iV iY.out)|((with_reducible refine bV (f:=30) rfl ?_);refine fU (some 10) rfl rfl Tryd.func30 (by kernel_rfl) rfl #[.int .u8 dF] rfl (by (try simp only [List.map_toArray,List.map_cons,List.map_nil]);first|done|rfl|(simp only [List.length_drop,List.length_take];rfl)) ?_;(with_reducible refine (dY.calls dF t140 t141 _ A2.out).mono ?_);rintro e w' ⟨rfl,⟨nd,rfl⟩⟩;refine ⟨_,rfl,?_⟩;(try (rw [qo w9];generalize zS:World.drewN w9 _=w9;have dW:af (w9.heap[kV]? = some (.cells #[.int .u8 dF,.int .u8 aZ,.int .u8 bn,.int .u8 fV,.int .i64 gy] 45 (0,0))):=⟨by rw [← zS];exact (by (with_reducible repeat (first|refine ai ?_ _|refine ax ?_|refine ah ?_ _));exact iY.out)⟩;have dV:af (Below w.heap.size w w9):=⟨by rw [← zS];exact (by repeat (first|(with_reducible first|exact HB.out|apply aj|apply ag|apply ak|refine ay ?_ pK.out)|exact HB.out))⟩;clear iY HB zS;have iY:=dW;have HB:=dV;clear dW dV;have NU:w9.cell? ⟨kV,0,none⟩=some (.int .u8 dF):=(aJ iY.out 0).trans rfl;have NT:w9.cell? ⟨kV,1,none⟩=some (.int .u8 aZ):=(aJ iY.out 1).trans rfl;have NS:w9.cell? ⟨kV,2,none⟩=some (.int .u8 bn):=(aJ iY.out 2).trans rfl;have NR:w9.cell? ⟨kV,3,none⟩=some (.int .u8 fV):=(aJ iY.out 3).trans rfl;have NQ:w9.cell? ⟨kV,4,none⟩=some (.int .i64 gy):=(aJ iY.out 4).trans rfl)))|((with_reducible refine bV (f:=32) rfl ?_);refine fU (some 17) rfl rfl Tryd.func32 (by kernel_rfl) rfl #[.agg #[.int .u8 dF,.int .u8 aZ,.int .u8 bn,.int .u8 fV,.int .i64 gy]] rfl (by (try simp only [List.map_toArray,List.map_cons,List.map_nil]);first|done|rfl|(simp only [List.length_drop,List.length_take];rfl)) ?_;(with_reducible refine (aW.calls k dF aZ bn fV gy t142 _ ?dX A6.out).mono ?_);(case dX=>repeat (first|exact (Kd.bQ Eb.out HB.out)|(with_reducible refine Kd.dG ?_ _)|(with_reducible refine Kd.dH ?_ _)|(with_reducible refine Kd.dS ?_)));rintro e w11 ⟨v143,rfl,ho0,hb⟩;refine ⟨_,rfl,?_⟩;have dW:=af.mk (Kd.qG ho0 (df (by repeat (first|(with_reducible first|exact HB.out|apply aj|apply ag|apply ak|refine ay ?_ pK.out)|exact HB.out))));have dV:=af.mk (bJ (g:=kV) (o:=.cells #[.int .u8 dF,.int .u8 aZ,.int .u8 bn,.int .u8 fV,.int .i64 gy] 45 (0,0)) (by (with_reducible repeat (first|refine ai ?_ _|refine ax ?_|refine ah ?_ _));exact iY.out) hb);have dQ:=af.mk (bC (by repeat (first|(with_reducible first|exact HB.out|apply aj|apply ag|apply ak|refine ay ?_ pK.out)|exact HB.out)) hb);clear iY;clear HB;have oh:=dW;have iY:=dV;have HB:=dQ;clear dW dV dQ;(try clear hb);(try clear hb2);(try clear hk);(try clear hi);(try clear ho0);obtain ⟨aie,ahK,ahB⟩:=Kd.oV oh.out;subst ahB)|((with_reducible refine bV (f:=31) rfl ?_);refine fU (some 18) rfl rfl Tryd.func31 (by kernel_rfl) rfl #[.slice aie t142.length ahK] rfl (by (try simp only [List.map_toArray,List.map_cons,List.map_nil]);first|done|rfl|(simp only [List.length_drop,List.length_take];rfl)) ?_;(with_reducible refine (aH.calls k _ _ t142 t145 t146 t147 t148 t149 true _ ?dX ?fB A7.out).mono ?_);(case dX=>repeat (first|exact (Kd.gp oh.out).2.2|(with_reducible refine Kd.dG ?_ _)|(with_reducible refine Kd.dH ?_ _)|(with_reducible refine Kd.dS ?_)));(case fB=>exact (Kd.gp oh.out).2.1);rintro e w13 ⟨rfl,hb⟩;refine ⟨_,rfl,?_⟩;have dW:=af.mk (Kd.jF (by (with_reducible repeat (first|apply Kd.jD|apply Kd.jC|apply Kd.ku));exact oh.out) hb);have dV:=af.mk (bJ (g:=kV) (o:=.cells #[.int .u8 dF,.int .u8 aZ,.int .u8 bn,.int .u8 fV,.int .i64 gy] 45 (0,0)) (by (with_reducible repeat (first|refine ai ?_ _|refine ax ?_|refine ah ?_ _));exact iY.out) hb);have dQ:=af.mk (bC (by repeat (first|(with_reducible first|exact HB.out|apply aj|apply ag|apply ak|refine ay ?_ pK.out)|exact HB.out)) hb);clear oh;clear iY;clear HB;have oh:=dW;have iY:=dV;have HB:=dQ;clear dW dV dQ;(try clear hb);(try clear hb2);(try clear hk);(try clear hi))|((with_reducible refine bD (N:=5) rfl ?_);refine ed ?hg (N:=5) ?hd (cs:=#[.int .u8 0,.int .u8 0,.int .u8 0,.int .u8 0,.int .i64 0]) (t:=45) ?hr ?_;(case hd=>rfl);(case hg=>rfl);(case hr=>first|(go_simp;done)|(go_simp;rfl));intro EM hg w14 hbox hb;have dW:=af.mk (Kd.jF (by (with_reducible repeat (first|apply Kd.jD|apply Kd.jC|apply Kd.ku));exact oh.out) hb);have dV:=af.mk (bJ (g:=kV) (o:=.cells #[.int .u8 dF,.int .u8 aZ,.int .u8 bn,.int .u8 fV,.int .i64 gy] 45 (0,0)) (by (with_reducible repeat (first|refine ai ?_ _|refine ax ?_|refine ah ?_ _));exact iY.out) hb);have dQ:=af.mk (bC (by repeat (first|(with_reducible first|exact HB.out|apply aj|apply ag|apply ak|refine ay ?_ pK.out)|exact HB.out)) hb);have gK:=af.mk (hbox);have jT:=af.mk ((by rw [hg];exact (df (by repeat (first|(with_reducible first|exact HB.out|apply aj|apply ag|apply ak|refine ay ?_ pK.out)|exact HB.out))):w.heap.size≤EM));have lL:=jT;have kQ:=af.mk ((by rw [hg];exact Nat.ne_of_lt (iC (g:=kV) (o:=.cells #[.int .u8 dF,.int .u8 aZ,.int .u8 bn,.int .u8 fV,.int .i64 gy] 45 (0,0)) (by (with_reducible repeat (first|refine ai ?_ _|refine ax ?_|refine ah ?_ _));exact iY.out)):kV ≠ EM));have o9:=af.mk kQ.out.symm;clear oh;clear iY;clear HB;have oh:=dW;have iY:=dV;have HB:=dQ;have Pj:=gK;have aax:=jT;have Pe:=lL;have wY:=kQ;have wX:=o9;clear dW dV dQ gK jT lL kQ o9;clear hb hbox hg;have Y1:=wX.out;have YX:=wY.out;obtain ⟨yA,yz,yx,yw,Kt,yh,yg,yf,yc,JI⟩:=iV Pj.out;obtain ⟨Kr,Kq,Ko,J9,TE,JH,JG,JF,JE,Rz⟩:=iV iY.out))
   go_ret
   exact ⟨by first|rfl|(simp [aU,aT] <;> rfl)|(simp [*,aU,aT] <;> rfl),by repeat (first|(with_reducible first|exact HB.out|apply aj|apply ag|apply ak|refine ay ?_ pK.out|refine ay ?_ Pe.out)|exact HB.out)⟩
  ·
   replace c8:=Bool.eq_false_iff.mpr c8
   subst c8
   have H1:(some false)=some r:=by rw [if_neg (show ¬ (false=true) by decide)] at H;exact H
   clear H
   have H:=H1
   clear H1
   obtain rfl:=Option.some.inj H
   go_enter Tryd.func23,Tryd.ntmps23
   go_wp2_with (first|((with_reducible refine bD (N:=1) rfl ?_);refine ed ?hg (N:=1) ?hd (cs:=#[.int .u8 dF,.int .u8 aZ,.int .u8 bn,.int .u8 fV,.int .i64 gy]) (t:=45) ?hr ?_;(case hd=>rfl);(case hg=>rfl);(case hr=>first|(go_simp;done)|(go_simp;rfl));intro kV hg Pv hbox hb;have dW:=af.mk (bC (by repeat (first|(with_reducible first|exact HB.out|apply aj|apply ag|apply ak)|exact HB.out)) hb);have dV:=af.mk (hbox);have dQ:=af.mk ((by rw [hg];exact (df (by repeat (first|(with_reducible first|exact HB.out|apply aj|apply ag|apply ak)|exact HB.out))):w.heap.size≤kV));have gK:=dQ;clear HB;have HB:=dW;have iY:=dV;have VK:=dQ;have pK:=gK;clear dW dV dQ gK;clear hb hbox hg;obtain ⟨af2,af1,af0,afZ,afY,ad5,ad1,adZ,adY,adX⟩:=iV iY.out)|((with_reducible refine bV (f:=30) rfl ?_);refine fU (some 10) rfl rfl Tryd.func30 (by kernel_rfl) rfl #[.int .u8 dF] rfl (by (try simp only [List.map_toArray,List.map_cons,List.map_nil]);first|done|rfl|(simp only [List.length_drop,List.length_take];rfl)) ?_;(with_reducible refine (dY.calls dF t140 t141 _ A2.out).mono ?_);rintro e w' ⟨rfl,⟨nd,rfl⟩⟩;refine ⟨_,rfl,?_⟩;(try (rw [qo Pv];generalize zS:World.drewN Pv _=Pv;have dW:af (Pv.heap[kV]? = some (.cells #[.int .u8 dF,.int .u8 aZ,.int .u8 bn,.int .u8 fV,.int .i64 gy] 45 (0,0))):=⟨by rw [← zS];exact (by (with_reducible repeat (first|refine ai ?_ _|refine ax ?_|refine ah ?_ _));exact iY.out)⟩;have dV:af (Below w.heap.size w Pv):=⟨by rw [← zS];exact (by repeat (first|(with_reducible first|exact HB.out|apply aj|apply ag|apply ak|refine ay ?_ pK.out)|exact HB.out))⟩;clear iY HB zS;have iY:=dW;have HB:=dV;clear dW dV;have NU:Pv.cell? ⟨kV,0,none⟩=some (.int .u8 dF):=(aJ iY.out 0).trans rfl;have NT:Pv.cell? ⟨kV,1,none⟩=some (.int .u8 aZ):=(aJ iY.out 1).trans rfl;have NS:Pv.cell? ⟨kV,2,none⟩=some (.int .u8 bn):=(aJ iY.out 2).trans rfl;have NR:Pv.cell? ⟨kV,3,none⟩=some (.int .u8 fV):=(aJ iY.out 3).trans rfl;have NQ:Pv.cell? ⟨kV,4,none⟩=some (.int .i64 gy):=(aJ iY.out 4).trans rfl)))|((with_reducible refine bV (f:=32) rfl ?_);refine fU (some 17) rfl rfl Tryd.func32 (by kernel_rfl) rfl #[.agg #[.int .u8 dF,.int .u8 aZ,.int .u8 bn,.int .u8 fV,.int .i64 gy]] rfl (by (try simp only [List.map_toArray,List.map_cons,List.map_nil]);first|done|rfl|(simp only [List.length_drop,List.length_take];rfl)) ?_;(with_reducible refine (aW.calls k dF aZ bn fV gy t142 _ ?dX A6.out).mono ?_);(case dX=>repeat (first|exact (Kd.bQ Eb.out HB.out)|(with_reducible refine Kd.dG ?_ _)|(with_reducible refine Kd.dH ?_ _)|(with_reducible refine Kd.dS ?_)));rintro e w20 ⟨v143,rfl,ho0,hb⟩;refine ⟨_,rfl,?_⟩;have dW:=af.mk (Kd.qG ho0 (df (by repeat (first|(with_reducible first|exact HB.out|apply aj|apply ag|apply ak|refine ay ?_ pK.out)|exact HB.out))));have dV:=af.mk (bJ (g:=kV) (o:=.cells #[.int .u8 dF,.int .u8 aZ,.int .u8 bn,.int .u8 fV,.int .i64 gy] 45 (0,0)) (by (with_reducible repeat (first|refine ai ?_ _|refine ax ?_|refine ah ?_ _));exact iY.out) hb);have dQ:=af.mk (bC (by repeat (first|(with_reducible first|exact HB.out|apply aj|apply ag|apply ak|refine ay ?_ pK.out)|exact HB.out)) hb);clear iY;clear HB;have oh:=dW;have iY:=dV;have HB:=dQ;clear dW dV dQ;(try clear hb);(try clear hb2);(try clear hk);(try clear hi);(try clear ho0);obtain ⟨aid,ahJ,ahA⟩:=Kd.oV oh.out;subst ahA)|((with_reducible refine bV (f:=31) rfl ?_);refine fU (some 18) rfl rfl Tryd.func31 (by kernel_rfl) rfl #[.slice aid t142.length ahJ] rfl (by (try simp only [List.map_toArray,List.map_cons,List.map_nil]);first|done|rfl|(simp only [List.length_drop,List.length_take];rfl)) ?_;(with_reducible refine (aH.calls k _ _ t142 t145 t146 t147 t148 t149 false _ ?dX ?fB A7.out).mono ?_);(case dX=>repeat (first|exact (Kd.gp oh.out).2.2|(with_reducible refine Kd.dG ?_ _)|(with_reducible refine Kd.dH ?_ _)|(with_reducible refine Kd.dS ?_)));(case fB=>exact (Kd.gp oh.out).2.1);rintro e w22 ⟨rfl,hb⟩;refine ⟨_,rfl,?_⟩;have dW:=af.mk (Kd.jF (by (with_reducible repeat (first|apply Kd.jD|apply Kd.jC|apply Kd.ku));exact oh.out) hb);have dV:=af.mk (bJ (g:=kV) (o:=.cells #[.int .u8 dF,.int .u8 aZ,.int .u8 bn,.int .u8 fV,.int .i64 gy] 45 (0,0)) (by (with_reducible repeat (first|refine ai ?_ _|refine ax ?_|refine ah ?_ _));exact iY.out) hb);have dQ:=af.mk (bC (by repeat (first|(with_reducible first|exact HB.out|apply aj|apply ag|apply ak|refine ay ?_ pK.out)|exact HB.out)) hb);clear oh;clear iY;clear HB;have oh:=dW;have iY:=dV;have HB:=dQ;clear dW dV dQ;(try clear hb);(try clear hb2);(try clear hk);(try clear hi))|((with_reducible refine bD (N:=5) rfl ?_);refine ed ?hg (N:=5) ?hd (cs:=#[.int .u8 0,.int .u8 0,.int .u8 0,.int .u8 0,.int .i64 0]) (t:=45) ?hr ?_;(case hd=>rfl);(case hg=>rfl);(case hr=>first|(go_simp;done)|(go_simp;rfl));intro EM hg Yd hbox hb;have dW:=af.mk (Kd.jF (by (with_reducible repeat (first|apply Kd.jD|apply Kd.jC|apply Kd.ku));exact oh.out) hb);have dV:=af.mk (bJ (g:=kV) (o:=.cells #[.int .u8 dF,.int .u8 aZ,.int .u8 bn,.int .u8 fV,.int .i64 gy] 45 (0,0)) (by (with_reducible repeat (first|refine ai ?_ _|refine ax ?_|refine ah ?_ _));exact iY.out) hb);have dQ:=af.mk (bC (by repeat (first|(with_reducible first|exact HB.out|apply aj|apply ag|apply ak|refine ay ?_ pK.out)|exact HB.out)) hb);have gK:=af.mk (hbox);have jT:=af.mk ((by rw [hg];exact (df (by repeat (first|(with_reducible first|exact HB.out|apply aj|apply ag|apply ak|refine ay ?_ pK.out)|exact HB.out))):w.heap.size≤EM));have lL:=jT;have kQ:=af.mk ((by rw [hg];exact Nat.ne_of_lt (iC (g:=kV) (o:=.cells #[.int .u8 dF,.int .u8 aZ,.int .u8 bn,.int .u8 fV,.int .i64 gy] 45 (0,0)) (by (with_reducible repeat (first|refine ai ?_ _|refine ax ?_|refine ah ?_ _));exact iY.out)):kV ≠ EM));have o9:=af.mk kQ.out.symm;clear oh;clear iY;clear HB;have oh:=dW;have iY:=dV;have HB:=dQ;have Pj:=gK;have aax:=jT;have Pe:=lL;have wY:=kQ;have wX:=o9;clear dW dV dQ gK jT lL kQ o9;clear hb hbox hg;have UU:=wX.out;have UQ:=wY.out;obtain ⟨Dy,Dx,Dw,Dv,Du,Dh,Df,Dc,C9,CZ⟩:=iV Pj.out))
   go_ret
   exact ⟨by first|rfl|(simp [aU,aT] <;> rfl)|(simp [*,aU,aT] <;> rfl),by repeat (first|(with_reducible first|exact HB.out|apply aj|apply ag|apply ak|refine ay ?_ pK.out|refine ay ?_ Pe.out)|exact HB.out)⟩
def bu.j0:Nat→Int→Bool→Int→Int→Int→Int→Int→Option (Bool)
 | 0,_,_,_,_,_,_,_=>none
 | k+1,x4,x5,aaY,Iz,Iy,PR,aaX=>if x5=true then (some (decide (Iz < 8))) else (if x4=2 then (if Iz < 8 then (if Iy < 8 then (some (decide (PR < 8))) else (some false)) else (some false)) else (if x4=9 then (some (decide (Iy < 8))) else (some true)))
def bu.f (k:Nat) (dF:Int) (aZ:Int) (bn:Int) (fV:Int) (gy:Int):Option (Bool):=if dF=1 then (bu.j0 k dF (dF == 1) dF aZ bn fV gy) else (if dF=4 then (bu.j0 k dF (dF == 4) dF aZ bn fV gy) else (if dF=8 then (bu.j0 k dF (dF == 8) dF aZ bn fV gy) else (if dF=14 then (bu.j0 k dF (dF == 14) dF aZ bn fV gy) else (bu.j0 k dF (dF == 15) dF aZ bn fV gy))))
theorem bu.iF:∀ k,(∀ y0 y1 y2 y3 y4 y5 y6,eu (bu.j0 k y0 y1 y2 y3 y4 y5 y6) (bu.j0 (k+1) y0 y1 y2 y3 y4 y5 y6))
 | 0=>fun _ _ _ _ _ _ _ r h=>by simp [bu.j0] at h
 | k+1=>by
  have nI:=bu.iF k
  ·
   intro y0 y1 y2 y3 y4 y5 y6
   unfold bu.j0
   repeat' with_reducible first|apply nI|exact eu.refl _|exact eu.none _|refine eu.ite ?_ ?_|refine eu.bind ?_ (fun _=>?_)
theorem bu.mono:∀ a0 a1 a2 a3 a4 k,eu (bu.f k a0 a1 a2 a3 a4) (bu.f (k+1) a0 a1 a2 a3 a4):=by
 intro a0 a1 a2 a3 a4 k
 have nI:=bu.iF k
 unfold bu.f
 repeat' with_reducible first|apply nI|exact eu.refl _|exact eu.none _|refine eu.ite ?_ ?_|refine eu.bind ?_ (fun _=>?_)
set_option maxHeartbeats 8000000 in
set_option maxRecDepth 100000 in
theorem bu.calls (k:Nat) (dF:Int) (aZ:Int) (bn:Int) (fV:Int) (gy:Int) (r:Bool) (w:World) (h:bu.f k dF aZ bn fV gy=some r) :
  Calls Tryd.prog 24 #[.agg #[.int .u8 dF,.int .u8 aZ,.int .u8 bn,.int .u8 fV,.int .i64 gy]] w fun e w'=>e=.returned (.bool r)∧Below w.heap.size w w':=by
 have zl:=Tryd.underlying45
 have HB:=af.mk (Below.refl w.heap.size w)
 have H:(if dF=1 then (bu.j0 k dF (dF == 1) dF aZ bn fV gy) else (if dF=4 then (bu.j0 k dF (dF == 4) dF aZ bn fV gy) else (if dF=8 then (bu.j0 k dF (dF == 8) dF aZ bn fV gy) else (if dF=14 then (bu.j0 k dF (dF == 14) dF aZ bn fV gy) else (bu.j0 k dF (dF == 15) dF aZ bn fV gy)))))=some r:=h
 clear h
 have HC2:=af.mk H
 clear H
 go_enter Tryd.func24,Tryd.ntmps24
 go_upto_if 5 with (first|((with_reducible refine bD (N:=1) rfl ?_);refine ed ?hg (N:=1) ?hd (cs:=#[.int .u8 dF,.int .u8 aZ,.int .u8 bn,.int .u8 fV,.int .i64 gy]) (t:=45) ?hr ?_;(case hd=>rfl);(case hg=>rfl);(case hr=>first|(go_simp;done)|(go_simp;rfl));intro Vf hg w3 hbox hb;have dW:=af.mk (bC (by repeat (first|(with_reducible first|exact HB.out|apply aj|apply ag|apply ak)|exact HB.out)) hb);have dV:=af.mk (hbox);have dQ:=af.mk ((by rw [hg];exact (df (by repeat (first|(with_reducible first|exact HB.out|apply aj|apply ag|apply ak)|exact HB.out))):w.heap.size≤Vf));have gK:=dQ;clear HB;have HB:=dW;have sH:=dV;have ak9:=dQ;have tZ:=gK;clear dW dV dQ gK;clear hb hbox hg;obtain ⟨Xl,Xk,Xj,Xi,Xh,Xa,W9,WZ,WY,WX⟩:=iV sH.out))
 (try simp only [Act.put,List.setIfInBounds_toArray,List.set_cons_zero,List.set_cons_succ])
 go_cut [5] (fun v5 wc=>∃ (kq:Nat) (lY:Bool),v5=.bool lY∧af (bu.j0 kq dF lY dF aZ bn fV gy=some r)∧af (kq≤k)∧af (wc.heap[Vf]? = some (.cells #[.int .u8 dF,.int .u8 aZ,.int .u8 bn,.int .u8 fV,.int .i64 gy] 45 (0,0)))∧af (Below w.heap.size w wc))
 case first =>
  have H:=HC2.out
  clear HC2
  by_cases c5:dF=1
  ·
   rw [if_pos c5] at H
   have qY:(dF == 1)=true:=beq_iff_eq.mpr c5
   have OB:(dF != 1)=false:=bne_eq_false_iff_eq.mpr c5
   clear c5
   (first|rw [qY]|(simp only [aX,aY];rw [qY])|skip)
   have H':=af.mk H
   clear H
   go_wp2
   go_meet
   case rel=>exact ⟨_,((dF == 1)),(by first|rfl|(simp;done)|(simp [*];done)),H',⟨by first|omega|exact Nat.le_refl _⟩,⟨by (with_reducible repeat (first|refine ai ?_ _|refine ax ?_|refine ah ?_ _));exact sH.out⟩,⟨by repeat (first|(with_reducible first|exact HB.out|apply aj|apply ag|apply ak|refine ay ?_ tZ.out)|exact HB.out)⟩⟩
  ·
   rw [if_neg c5] at H
   have qY:(dF == 1)=false:=beq_eq_false_iff_ne.mpr c5
   have OB:(dF != 1)=true:=bne_iff_ne.mpr c5
   (first|rw [qY]|(simp only [aX,aY];rw [qY])|skip)
   by_cases c6:dF=4
   ·
    rw [if_pos c6] at H
    have tK:(dF == 4)=true:=beq_iff_eq.mpr c6
    have DV:(dF != 4)=false:=bne_eq_false_iff_eq.mpr c6
    clear c6
    have H':=af.mk H
    clear H
    go_wp2
    go_meet
    case rel=>exact ⟨_,((dF == 4)),(by first|rfl|(simp;done)|(simp [*];done)),H',⟨by first|omega|exact Nat.le_refl _⟩,⟨by (with_reducible repeat (first|refine ai ?_ _|refine ax ?_|refine ah ?_ _));exact sH.out⟩,⟨by repeat (first|(with_reducible first|exact HB.out|apply aj|apply ag|apply ak|refine ay ?_ tZ.out)|exact HB.out)⟩⟩
   ·
    rw [if_neg c6] at H
    have tK:(dF == 4)=false:=beq_eq_false_iff_ne.mpr c6
    have DV:(dF != 4)=true:=bne_iff_ne.mpr c6
    by_cases c7:dF=8
    ·
     rw [if_pos c7] at H
     have pU:(dF == 8)=true:=beq_iff_eq.mpr c7
     have Ai:(dF != 8)=false:=bne_eq_false_iff_eq.mpr c7
     clear c7
     have H':=af.mk H
     clear H
     go_wp2
     go_meet
     case rel=>exact ⟨_,((dF == 8)),(by first|rfl|(simp;done)|(simp [*];done)),H',⟨by first|omega|exact Nat.le_refl _⟩,⟨by (with_reducible repeat (first|refine ai ?_ _|refine ax ?_|refine ah ?_ _));exact sH.out⟩,⟨by repeat (first|(with_reducible first|exact HB.out|apply aj|apply ag|apply ak|refine ay ?_ tZ.out)|exact HB.out)⟩⟩
    ·
     rw [if_neg c7] at H
     have pU:(dF == 8)=false:=beq_eq_false_iff_ne.mpr c7
     have Ai:(dF != 8)=true:=bne_iff_ne.mpr c7
     by_cases c8:dF=14
     ·
      rw [if_pos c8] at H
      have vY:(dF == 14)=true:=beq_iff_eq.mpr c8
      have ES:(dF != 14)=false:=bne_eq_false_iff_eq.mpr c8
      clear c8
      have H':=af.mk H
      clear H
      go_wp2
      go_meet
      case rel=>exact ⟨_,((dF == 14)),(by first|rfl|(simp;done)|(simp [*];done)),H',⟨by first|omega|exact Nat.le_refl _⟩,⟨by (with_reducible repeat (first|refine ai ?_ _|refine ax ?_|refine ah ?_ _));exact sH.out⟩,⟨by repeat (first|(with_reducible first|exact HB.out|apply aj|apply ag|apply ak|refine ay ?_ tZ.out)|exact HB.out)⟩⟩
     ·
      rw [if_neg c8] at H
      have vY:(dF == 14)=false:=beq_eq_false_iff_ne.mpr c8
      have ES:(dF != 14)=true:=bne_iff_ne.mpr c8
      have H':=af.mk H
      clear H
      go_wp2
      go_meet
      case rel=>exact ⟨_,((dF == 15)),(by first|rfl|(simp;done)|(simp [*];done)),H',⟨by first|omega|exact Nat.le_refl _⟩,⟨by (with_reducible repeat (first|refine ai ?_ _|refine ax ?_|refine ah ?_ _));exact sH.out⟩,⟨by repeat (first|(with_reducible first|exact HB.out|apply aj|apply ag|apply ak|refine ay ?_ tZ.out)|exact HB.out)⟩⟩
 case rest =>
  clear HC2
  obtain ⟨kq,lY,rfl,HA,D8,sH,HB⟩:=hcut
  cases kq with
  | zero=>exact absurd HA.out (by simp [bu.j0])
  | succ UM =>
   have H:=HA.out
   clear HA
   simp only [bu.j0] at H
   by_cases c9:lY=true
   ·
    subst c9
    have H1:(some (decide (aZ < 8)))=some r:=by rw [if_pos rfl] at H;exact H
    clear H
    have H:=H1
    clear H1
    obtain rfl:=Option.some.inj H
    obtain ⟨DF,DD,DC,Dz,TL,Dl,Dk,Dj,Di,RJ⟩:=iV sH.out
    go_wp2
    go_ret
    exact ⟨by first|rfl|(simp [aU,aT] <;> rfl)|(simp [*,aU,aT] <;> rfl),by repeat (first|(with_reducible first|exact HB.out|apply aj|apply ag|apply ak|refine ay ?_ tZ.out)|exact HB.out)⟩
   ·
    replace c9:=Bool.eq_false_iff.mpr c9
    subst c9
    have H1:(if dF=2 then (if aZ < 8 then (if bn < 8 then (some (decide (fV < 8))) else (some false)) else (some false)) else (if dF=9 then (some (decide (bn < 8))) else (some true)))=some r:=by rw [if_neg (show ¬ (false=true) by decide)] at H;exact H
    clear H
    have H:=H1
    clear H1
    by_cases c11:dF=2
    ·
     rw [if_pos c11] at H
     have uD:(dF == 2)=true:=beq_iff_eq.mpr c11
     have Bq:(dF != 2)=false:=bne_eq_false_iff_eq.mpr c11
     clear c11
     by_cases c12:aZ < 8
     ·
      rw [if_pos c12] at H
      have vZ:decide (aZ < 8)=true:=decide_eq_true c12
      clear c12
      by_cases c13:bn < 8
      ·
       rw [if_pos c13] at H
       have oH:decide (bn < 8)=true:=decide_eq_true c13
       clear c13
       obtain rfl:=Option.some.inj H
       obtain ⟨agj,agi,agh,agf,age,aek,aej,aei,aeh,aeg⟩:=iV sH.out
       go_wp2
       go_ret
       exact ⟨by first|rfl|(simp [aU,aT] <;> rfl)|(simp [*,aU,aT] <;> rfl),by repeat (first|(with_reducible first|exact HB.out|apply aj|apply ag|apply ak|refine ay ?_ tZ.out)|exact HB.out)⟩
      ·
       rw [if_neg c13] at H
       have oH:decide (bn < 8)=false:=decide_eq_false c13
       clear c13
       obtain rfl:=Option.some.inj H
       obtain ⟨agd,agc,agb,aga,af9,aef,aee,aed,aec,aeb⟩:=iV sH.out
       go_wp2
       go_ret
       exact ⟨by first|rfl|(simp [aU,aT] <;> rfl)|(simp [*,aU,aT] <;> rfl),by repeat (first|(with_reducible first|exact HB.out|apply aj|apply ag|apply ak|refine ay ?_ tZ.out)|exact HB.out)⟩
     ·
      rw [if_neg c12] at H
      have vZ:decide (aZ < 8)=false:=decide_eq_false c12
      clear c12
      obtain rfl:=Option.some.inj H
      obtain ⟨yA,yz,yx,yw,Kt,yh,yg,yf,yc,JI⟩:=iV sH.out
      go_wp2
      go_ret
      exact ⟨by first|rfl|(simp [aU,aT] <;> rfl)|(simp [*,aU,aT] <;> rfl),by repeat (first|(with_reducible first|exact HB.out|apply aj|apply ag|apply ak|refine ay ?_ tZ.out)|exact HB.out)⟩
    ·
     rw [if_neg c11] at H
     have uD:(dF == 2)=false:=beq_eq_false_iff_ne.mpr c11
     have Bq:(dF != 2)=true:=bne_iff_ne.mpr c11
     by_cases c17:dF=9
     ·
      rw [if_pos c17] at H
      have xB:(dF == 9)=true:=beq_iff_eq.mpr c17
      have EY:(dF != 9)=false:=bne_eq_false_iff_eq.mpr c17
      clear c17
      obtain rfl:=Option.some.inj H
      obtain ⟨af8,af7,af6,af5,af4,aea,ad9,ad8,ad7,ad6⟩:=iV sH.out
      go_wp2
      go_ret
      exact ⟨by first|rfl|(simp [aU,aT] <;> rfl)|(simp [*,aU,aT] <;> rfl),by repeat (first|(with_reducible first|exact HB.out|apply aj|apply ag|apply ak|refine ay ?_ tZ.out)|exact HB.out)⟩
     ·
      rw [if_neg c17] at H
      have xB:(dF == 9)=false:=beq_eq_false_iff_ne.mpr c17
      have EY:(dF != 9)=true:=bne_iff_ne.mpr c17
      obtain rfl:=Option.some.inj H
      go_wp2
      go_ret
      exact ⟨by first|rfl|(simp [aU,aT] <;> rfl)|(simp [*,aU,aT] <;> rfl),by repeat (first|(with_reducible first|exact HB.out|apply aj|apply ag|apply ak|refine ay ?_ tZ.out)|exact HB.out)⟩
def eH.f (k:Nat) (l0:List ByteArray) (a1:ByteArray) (a2:Int):Option (Int):=if (wrap64 (a2)) ≥ (a1.size:Int) then (some (-1)) else (if 0≤(wrap64 (a2)) then (if (wrap64 (a2))≤(wrap64 ((wrap64 (a2))+1)) then (if (wrap64 ((wrap64 (a2))+1))≤(a1.size:Int) then ((aN.f k l0 (a1.extract ((wrap64 (a2)):Int).toNat ((wrap64 ((wrap64 (a2))+1)):Int).toNat)).bind fun t153=>(if t153=true then (if 0≤a2 then (if a2 < (a1.size:Int) then (some (((bt a1 a2) - 48) % 256)) else (none)) else (none)) else (some (-1)))) else (none)) else (none)) else (none))
theorem eH.mono:∀ a0 a1 a2 k,eu (eH.f k a0 a1 a2) (eH.f (k+1) a0 a1 a2):=by
 intro a0 a1 a2 k
 unfold eH.f
 repeat' with_reducible first|apply aN.mono|exact eu.refl _|exact eu.none _|refine eu.ite ?_ ?_|refine eu.bind ?_ (fun _=>?_)
set_option maxHeartbeats 8000000 in
set_option maxRecDepth 100000 in
theorem eH.calls (k:Nat) (A0:Option Addr) (c0:Nat) (l0:List ByteArray) (a1:ByteArray) (a2:Int) (r:Int) (w:World) (hr0:Kd.C Kd.string w A0 l0.length l0) (hc0:l0.length≤c0) (h:eH.f k l0 a1 a2=some r) :
  Calls Tryd.prog 37 #[.slice A0 l0.length c0,.string a1,.int .u8 a2] w fun e w'=>e=.returned (.int .i64 r)∧bz w w':=by
 have HR0:=af.mk hr0
 have Ed:=af.mk hc0
 clear hr0 hc0
 have H:(if (wrap64 (a2)) ≥ (a1.size:Int) then (some (-1)) else (if 0≤(wrap64 (a2)) then (if (wrap64 (a2))≤(wrap64 ((wrap64 (a2))+1)) then (if (wrap64 ((wrap64 (a2))+1))≤(a1.size:Int) then ((aN.f k l0 (a1.extract ((wrap64 (a2)):Int).toNat ((wrap64 ((wrap64 (a2))+1)):Int).toNat)).bind fun t153=>(if t153=true then (if 0≤a2 then (if a2 < (a1.size:Int) then (some (((bt a1 a2) - 48) % 256)) else (none)) else (none)) else (some (-1)))) else (none)) else (none)) else (none)))=some r:=h
 clear h
 by_cases c4:(wrap64 (a2)) ≥ (a1.size:Int)
 ·
  rw [if_pos c4] at H
  have qp:decide ((a1.size:Int)≤(wrap64 (a2)))=true:=decide_eq_true c4
  clear c4
  obtain rfl:=Option.some.inj H
  go_enter Tryd.func37,Tryd.ntmps37
  go_wp2
  go_ret
  exact ⟨by first|rfl|(simp;done)|(simp [*];done),by repeat (first|exact bz.refl _|apply bz.step)⟩
 ·
  rw [if_neg c4] at H
  have qp:decide ((a1.size:Int)≤(wrap64 (a2)))=false:=decide_eq_false c4
  clear c4
  obtain ⟨BZ,LK⟩:∃ j_:Int,(wrap64 (a2))=j_:=⟨_,rfl⟩
  replace H:(if 0≤(BZ) then (if (BZ)≤(wrap64 ((BZ)+1)) then (if (wrap64 ((BZ)+1))≤(a1.size:Int) then ((aN.f k l0 (a1.extract ((BZ):Int).toNat ((wrap64 ((BZ)+1)):Int).toNat)).bind fun t153=>(if t153=true then (if 0≤a2 then (if a2 < (a1.size:Int) then (some (((bt a1 a2) - 48) % 256)) else (none)) else (none)) else (some (-1)))) else (none)) else (none)) else (none))=some r:=by first|(rw [LK] at H;exact H)|(simp only [LK] at H ⊢;exact H)
  (try rw [LK] at qp)
  have ajN:(IntKind.i64.wrap (a2))=BZ:=(aX _).trans LK
  by_cases c6:0≤(BZ)
  ·
   rw [if_pos c6] at H
   have tK:=eq_true c6
   have DV:decide (0≤(BZ))=true:=decide_eq_true c6
   clear c6
   by_cases c7:(BZ)≤(wrap64 ((BZ)+1))
   ·
    rw [if_pos c7] at H
    have pU:=eq_true c7
    have Ai:decide ((BZ)≤(wrap64 ((BZ)+1)))=true:=decide_eq_true c7
    by_cases c8:(wrap64 ((BZ)+1))≤(a1.size:Int)
    ·
     rw [if_pos c8] at H
     have vY:=eq_true c8
     have ES:decide ((wrap64 ((BZ)+1))≤(a1.size:Int))=true:=decide_eq_true c8
     replace H:=Option.bind_eq_some_iff.mp H
     obtain ⟨t153,VM,H⟩:=H
     replace H:(if t153=true then (if 0≤a2 then (if a2 < (a1.size:Int) then (some (((bt a1 a2) - 48) % 256)) else (none)) else (none)) else (some (-1)))=some r:=H
     have A9:=af.mk VM
     clear VM
     by_cases c10:t153=true
     ·
      subst c10
      have H1:(if 0≤a2 then (if a2 < (a1.size:Int) then (some (((bt a1 a2) - 48) % 256)) else (none)) else (none))=some r:=by rw [if_pos rfl] at H;exact H
      clear H
      have H:=H1
      clear H1
      by_cases c11:0≤a2
      ·
       rw [if_pos c11] at H
       have uD:decide (0≤a2)=true:=decide_eq_true c11
       clear c11
       by_cases c12:a2 < (a1.size:Int)
       ·
        rw [if_pos c12] at H
        have vZ:decide (a2 < (a1.size:Int))=true:=decide_eq_true c12
        clear c12
        obtain rfl:=Option.some.inj H
        go_enter Tryd.func37,Tryd.ntmps37
        go_wp2_with (first|(go_at_call 22;(with_reducible refine (aN.calls k _ _ l0 (a1.extract ((BZ):Int).toNat ((wrap64 ((BZ)+1)):Int).toNat) true _ ?dX ?fB A9.out).mono ?_);(case dX=>repeat (first|exact HR0.out|(with_reducible refine Kd.dG ?_ _)|(with_reducible refine Kd.dH ?_ _)|(with_reducible refine Kd.dS ?_)));(case fB=>exact Ed.out);rintro e w' ⟨rfl,⟨nd,rfl⟩⟩;have p13:0≤(a2:Int):=of_decide_eq_true (by first|(with_reducible assumption)|assumption);have q13:a2 < (a1.size:Int):=of_decide_eq_true (by first|(with_reducible assumption)|assumption);have agV:=lI a1 a2;replace p13:=eq_true p13;replace q13:=eq_true q13))
        go_ret
        exact ⟨by first|rfl|(simp;done)|(simp only [← LK] <;> (first|rfl|simp))|(simp [*];done),by repeat (first|exact bz.refl _|apply bz.step)⟩
       ·
        rw [if_neg c12] at H
        exact absurd H (by simp)
      ·
       rw [if_neg c11] at H
       exact absurd H (by simp)
     ·
      replace c10:=Bool.eq_false_iff.mpr c10
      subst c10
      have H1:(some (-1))=some r:=by rw [if_neg (show ¬ (false=true) by decide)] at H;exact H
      clear H
      have H:=H1
      clear H1
      obtain rfl:=Option.some.inj H
      go_enter Tryd.func37,Tryd.ntmps37
      go_wp2_with (first|(go_at_call 22;(with_reducible refine (aN.calls k _ _ l0 (a1.extract ((BZ):Int).toNat ((wrap64 ((BZ)+1)):Int).toNat) false _ ?dX ?fB A9.out).mono ?_);(case dX=>repeat (first|exact HR0.out|(with_reducible refine Kd.dG ?_ _)|(with_reducible refine Kd.dH ?_ _)|(with_reducible refine Kd.dS ?_)));(case fB=>exact Ed.out);rintro e w' ⟨rfl,⟨nd,rfl⟩⟩))
      go_ret
      exact ⟨by first|rfl|(simp;done)|(simp only [← LK] <;> (first|rfl|simp))|(simp [*];done),by repeat (first|exact bz.refl _|apply bz.step)⟩
    ·
     rw [if_neg c8] at H
     exact absurd H (by simp)
   ·
    rw [if_neg c7] at H
    exact absurd H (by simp)
  ·
   rw [if_neg c6] at H
   exact absurd H (by simp)
def dE.f (k:Nat) (bF:List ByteArray) (aZ:ByteArray) (bn:ByteArray) (aG:List (gY)) (a1:Int):Option (Int):=(eH.f k bF aZ a1).bind fun t155=>(some t155)
theorem dE.mono:∀ a0 a1 a2 a3 a4 k,eu (dE.f k a0 a1 a2 a3 a4) (dE.f (k+1) a0 a1 a2 a3 a4):=by
 intro a0 a1 a2 a3 a4 k
 unfold dE.f
 repeat' with_reducible first|apply eH.mono|exact eu.refl _|exact eu.none _|refine eu.ite ?_ ?_|refine eu.bind ?_ (fun _=>?_)
set_option maxHeartbeats 8000000 in
set_option maxRecDepth 100000 in
theorem dE.calls (k:Nat) (fA:Option Addr) (eY:Nat) (bF:List ByteArray) (aZ:ByteArray) (bn:ByteArray) (gz:Option Addr) (fC:Nat) (aG:List (gY)) (a1:Int) (r:Int) (w:World) (jX:Kd.C Kd.string w fA bF.length bF) (jZ:bF.length≤eY) (jW:Kd.C uU w gz aG.length aG) (jY:aG.length≤fC) (h:dE.f k bF aZ bn aG a1=some r) :
  Calls Tryd.prog 28 #[.agg #[.slice fA bF.length eY,.string aZ,.string bn,.slice gz aG.length fC],.int .u8 a1] w fun e w'=>e=.returned (.int .i64 r)∧Below w.heap.size w w':=by
 have Ad:=Tryd.underlying25
 have jk:=af.mk jX
 have jv:=af.mk jZ
 clear jX jZ
 have jL:=af.mk jW
 have lX:=af.mk jY
 clear jW jY
 have HB:=af.mk (Below.refl w.heap.size w)
 have H:((eH.f k bF aZ a1).bind fun t155=>(some t155))=some r:=h
 clear h
 replace H:=Option.bind_eq_some_iff.mp H
 obtain ⟨t155,KQ,H⟩:=H
 replace H:(some t155)=some r:=H
 have A3:=af.mk KQ
 clear KQ
 obtain rfl:=Option.some.inj H
 go_enter Tryd.func28,Tryd.ntmps28
 go_wp2_with (first|((with_reducible refine bD (N:=2) rfl ?_);refine ed ?hg (N:=2) ?hd (cs:=#[.slice fA bF.length eY,.string aZ,.string bn,.slice gz aG.length fC]) (t:=25) ?hr ?_;(case hd=>rfl);(case hg=>rfl);(case hr=>first|(go_simp;done)|(go_simp;rfl));intro Zj hg w4 hbox hb;have dW:=af.mk (bC (by repeat (first|(with_reducible first|exact HB.out|apply aj|apply ag|apply ak)|exact HB.out)) hb);have dV:=af.mk (hbox);have dQ:=af.mk ((by rw [hg];exact (df (by repeat (first|(with_reducible first|exact HB.out|apply aj|apply ag|apply ak)|exact HB.out))):w.heap.size≤Zj));have gK:=dQ;clear HB;have HB:=dW;have aaD:=dV;have ak8:=dQ;have aaB:=gK;clear dW dV dQ gK;clear hb hbox hg;obtain ⟨Hq,Ho,Hm,Hl,G5,GZ,GY,GX⟩:=lZ aaD.out)|((with_reducible refine bV (f:=37) rfl ?_);refine fU (some 10) rfl rfl Tryd.func37 (by kernel_rfl) rfl #[.slice fA bF.length eY,.string aZ,.int .u8 a1] rfl (by (try simp only [List.map_toArray,List.map_cons,List.map_nil]);first|done|rfl|(simp only [List.length_drop,List.length_take];rfl)) ?_;(with_reducible refine (eH.calls k _ _ bF aZ a1 t155 _ ?dX ?fB A3.out).mono ?_);(case dX=>repeat (first|exact (Kd.bQ jk.out HB.out)|(with_reducible refine Kd.dG ?_ _)|(with_reducible refine Kd.dH ?_ _)|(with_reducible refine Kd.dS ?_)));(case fB=>exact jv.out);rintro e w' ⟨rfl,⟨nd,rfl⟩⟩;refine ⟨_,rfl,?_⟩))
 go_ret
 exact ⟨by first|rfl|(simp [aU,aT] <;> rfl)|(simp [*,aU,aT] <;> rfl),by repeat (first|(with_reducible first|exact HB.out|apply aj|apply ag|apply ak|refine ay ?_ aaB.out)|exact HB.out)⟩
def bZ.f (a0:Int) (a1:Int):Option (Bool):=if a0 ≥ 0 then (some (a0 == a1)) else (some false)
set_option maxHeartbeats 8000000 in
set_option maxRecDepth 100000 in
theorem bZ.calls (a0:Int) (a1:Int) (r:Bool) (w:World) (h:bZ.f a0 a1=some r) :
  Calls Tryd.prog 33 #[.int .i64 a0,.int .i64 a1] w fun e w'=>e=.returned (.bool r)∧bz w w':=by
 have H:(if a0 ≥ 0 then (some (a0 == a1)) else (some false))=some r:=h
 clear h
 by_cases c3:a0 ≥ 0
 ·
  rw [if_pos c3] at H
  have qx:decide (0≤a0)=true:=decide_eq_true c3
  clear c3
  obtain rfl:=Option.some.inj H
  go_enter Tryd.func33,Tryd.ntmps33
  go_wp2
  go_ret
  exact ⟨by first|rfl|(simp;done)|(simp [*];done),by repeat (first|exact bz.refl _|apply bz.step)⟩
 ·
  rw [if_neg c3] at H
  have qx:decide (0≤a0)=false:=decide_eq_false c3
  clear c3
  obtain rfl:=Option.some.inj H
  go_enter Tryd.func33,Tryd.ntmps33
  go_wp2
  go_ret
  exact ⟨by first|rfl|(simp;done)|(simp [*];done),by repeat (first|exact bz.refl _|apply bz.step)⟩
end Go.Proofs.YtgfnpdfhdgenbaaDoor.P
end
