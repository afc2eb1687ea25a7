/- Parts of the proof of FullTrue: what the functions that it reaches compute, and plain facts about that. -/
import Derived.Test.YtbmhmlgfpijmhaaDoorFab
import Derived.Test.YtbmhmlgfpijmhaaDoorFae
import Derived.Test.YtbmhmlgfpijmhaaDoorFaf
import Derived.Test.YtbmhmlgfpijmhaaDoorFag
set_option linter.unusedVariables false
set_option linter.unusedSimpArgs false
section
namespace Go.Proofs.YtbmhmlgfpijmhaaDoor.P
open Go.RowKit Go.Proofs.af.bG Go.Proofs.af.dD Go.Proofs.af.dM
attribute [local go_sem] kF kD lK lJ jH jG kE kC
attribute [local go_sem high] ZH
def jD.f (dC:Int) (aY:Int) (aZ:Int) (fV:Int) (gu:Int) (a1:Int):Option (Int):=if a1=97 then (some (wrap64 (aY))) else (if a1=98 then (some (wrap64 (aZ))) else (if a1=99 then (some (wrap64 (fV))) else (some gu)))
set_option maxHeartbeats 8000000 in
set_option maxRecDepth 100000 in
theorem jD.calls (dC:Int) (aY:Int) (aZ:Int) (fV:Int) (gu:Int) (a1:Int) (r:Int) (w:World) (h:jD.f dC aY aZ fV gu a1=some r) :
  Calls Tryd.prog 49 #[.agg #[.int .u8 dC,.int .u8 aY,.int .u8 aZ,.int .u8 fV,.int .i64 gu],.int .u8 a1] w fun e w'=>e=.returned (.int .i64 r)∧Below w.heap.size w w':=by
 have Ai:=Tryd.underlying39
 have HB:=ae.mk (Below.refl w.heap.size w)
 have H:(if a1=97 then (some (wrap64 (aY))) else (if a1=98 then (some (wrap64 (aZ))) else (if a1=99 then (some (wrap64 (fV))) else (some gu))))=some r:=h
 clear h
 by_cases c3:a1=97
 ·
  rw [if_pos c3] at H
  have oQ:(a1 == 97)=true:=beq_iff_eq.mpr c3
  have Ef:(a1 != 97)=false:=bne_eq_false_iff_eq.mpr c3
  clear c3
  obtain rfl:=Option.some.inj H
  go_enter Tryd.func49,Tryd.ntmps49
  go_wp2_with (first|((with_reducible refine bI (N:=2) rfl ?_);refine dZ ?hg (N:=2) ?hd (cs:=#[.int .u8 dC,.int .u8 aY,.int .u8 aZ,.int .u8 fV,.int .i64 gu]) (t:=39) ?hr ?_;(case hd=>rfl);(case hg=>rfl);(case hr=>first|(go_simp;done)|(go_simp;rfl));intro lM hg w4 hbox hb;have eU:=ae.mk (bz (by repeat (first|(with_reducible first|exact HB.out|apply ay|apply ai|apply ax)|exact HB.out)) hb);have eQ:=ae.mk (hbox);have eu:=ae.mk ((by rw [hg];exact (cu (by repeat (first|(with_reducible first|exact HB.out|apply ay|apply ai|apply ax)|exact HB.out))):w.heap.size≤lM));have ig:=eu;clear HB;have HB:=eU;have jv:=eQ;have Ph:=eu;have zV:=ig;clear eU eQ eu ig;clear hb hbox hg;have zH:w4.cell? ⟨lM,0,none⟩=some (.int .u8 dC):=(ah jv.out 0).trans rfl;have zG:w4.cell? ⟨lM,1,none⟩=some (.int .u8 aY):=(ah jv.out 1).trans rfl;have zF:w4.cell? ⟨lM,2,none⟩=some (.int .u8 aZ):=(ah jv.out 2).trans rfl;have zD:w4.cell? ⟨lM,3,none⟩=some (.int .u8 fV):=(ah jv.out 3).trans rfl;have Xu:w4.cell? ⟨lM,4,none⟩=some (.int .i64 gu):=(ah jv.out 4).trans rfl;have zC:=ag jv.out 0;have zB:=ag jv.out 1;have zA:=ag jv.out 2;have zy:=ag jv.out 3;have Xi:=ag jv.out 4))
  go_ret
  exact ⟨by first|rfl|(simp [aT,aQ] <;> rfl)|(simp [*,aT,aQ] <;> rfl),by repeat (first|(with_reducible first|exact HB.out|apply ay|apply ai|apply ax|refine aA ?_ zV.out)|exact HB.out)⟩
 ·
  rw [if_neg c3] at H
  have oQ:(a1 == 97)=false:=beq_eq_false_iff_ne.mpr c3
  have Ef:(a1 != 97)=true:=bne_iff_ne.mpr c3
  by_cases c6:a1=98
  ·
   rw [if_pos c6] at H
   have oP:(a1 == 98)=true:=beq_iff_eq.mpr c6
   have xw:(a1 != 98)=false:=bne_eq_false_iff_eq.mpr c6
   clear c6
   obtain rfl:=Option.some.inj H
   go_enter Tryd.func49,Tryd.ntmps49
   go_wp2_with (first|((with_reducible refine bI (N:=2) rfl ?_);refine dZ ?hg (N:=2) ?hd (cs:=#[.int .u8 dC,.int .u8 aY,.int .u8 aZ,.int .u8 fV,.int .i64 gu]) (t:=39) ?hr ?_;(case hd=>rfl);(case hg=>rfl);(case hr=>first|(go_simp;done)|(go_simp;rfl));intro lM hg w7 hbox hb;have eU:=ae.mk (bz (by repeat (first|(with_reducible first|exact HB.out|apply ay|apply ai|apply ax)|exact HB.out)) hb);have eQ:=ae.mk (hbox);have eu:=ae.mk ((by rw [hg];exact (cu (by repeat (first|(with_reducible first|exact HB.out|apply ay|apply ai|apply ax)|exact HB.out))):w.heap.size≤lM));have ig:=eu;clear HB;have HB:=eU;have jv:=eQ;have Ph:=eu;have zV:=ig;clear eU eQ eu ig;clear hb hbox hg;have G5:w7.cell? ⟨lM,0,none⟩=some (.int .u8 dC):=(ah jv.out 0).trans rfl;have GZ:w7.cell? ⟨lM,1,none⟩=some (.int .u8 aY):=(ah jv.out 1).trans rfl;have GY:w7.cell? ⟨lM,2,none⟩=some (.int .u8 aZ):=(ah jv.out 2).trans rfl;have GX:w7.cell? ⟨lM,3,none⟩=some (.int .u8 fV):=(ah jv.out 3).trans rfl;have Xo:w7.cell? ⟨lM,4,none⟩=some (.int .i64 gu):=(ah jv.out 4).trans rfl;have GV:=ag jv.out 0;have GU:=ag jv.out 1;have GR:=ag jv.out 2;have GN:=ag jv.out 3;have Xd:=ag jv.out 4))
   go_ret
   exact ⟨by first|rfl|(simp [aT,aQ] <;> rfl)|(simp [*,aT,aQ] <;> rfl),by repeat (first|(with_reducible first|exact HB.out|apply ay|apply ai|apply ax|refine aA ?_ zV.out)|exact HB.out)⟩
  ·
   rw [if_neg c6] at H
   have oP:(a1 == 98)=false:=beq_eq_false_iff_ne.mpr c6
   have xw:(a1 != 98)=true:=bne_iff_ne.mpr c6
   by_cases c9:a1=99
   ·
    rw [if_pos c9] at H
    have Fv:(a1 == 99)=true:=beq_iff_eq.mpr c9
    have XJ:(a1 != 99)=false:=bne_eq_false_iff_eq.mpr c9
    clear c9
    obtain rfl:=Option.some.inj H
    go_enter Tryd.func49,Tryd.ntmps49
    go_wp2_with (first|((with_reducible refine bI (N:=2) rfl ?_);refine dZ ?hg (N:=2) ?hd (cs:=#[.int .u8 dC,.int .u8 aY,.int .u8 aZ,.int .u8 fV,.int .i64 gu]) (t:=39) ?hr ?_;(case hd=>rfl);(case hg=>rfl);(case hr=>first|(go_simp;done)|(go_simp;rfl));intro lM hg w10 hbox hb;have eU:=ae.mk (bz (by repeat (first|(with_reducible first|exact HB.out|apply ay|apply ai|apply ax)|exact HB.out)) hb);have eQ:=ae.mk (hbox);have eu:=ae.mk ((by rw [hg];exact (cu (by repeat (first|(with_reducible first|exact HB.out|apply ay|apply ai|apply ax)|exact HB.out))):w.heap.size≤lM));have ig:=eu;clear HB;have HB:=eU;have jv:=eQ;have Ph:=eu;have zV:=ig;clear eU eQ eu ig;clear hb hbox hg;have D9:w10.cell? ⟨lM,0,none⟩=some (.int .u8 dC):=(ah jv.out 0).trans rfl;have D8:w10.cell? ⟨lM,1,none⟩=some (.int .u8 aY):=(ah jv.out 1).trans rfl;have D7:w10.cell? ⟨lM,2,none⟩=some (.int .u8 aZ):=(ah jv.out 2).trans rfl;have D6:w10.cell? ⟨lM,3,none⟩=some (.int .u8 fV):=(ah jv.out 3).trans rfl;have Ud:w10.cell? ⟨lM,4,none⟩=some (.int .i64 gu):=(ah jv.out 4).trans rfl;have DN:=ag jv.out 0;have DL:=ag jv.out 1;have DK:=ag jv.out 2;have DJ:=ag jv.out 3;have RI:=ag jv.out 4))
    go_ret
    exact ⟨by first|rfl|(simp [aT,aQ] <;> rfl)|(simp [*,aT,aQ] <;> rfl),by repeat (first|(with_reducible first|exact HB.out|apply ay|apply ai|apply ax|refine aA ?_ zV.out)|exact HB.out)⟩
   ·
    rw [if_neg c9] at H
    have Fv:(a1 == 99)=false:=beq_eq_false_iff_ne.mpr c9
    have XJ:(a1 != 99)=true:=bne_iff_ne.mpr c9
    obtain rfl:=Option.some.inj H
    go_enter Tryd.func49,Tryd.ntmps49
    go_wp2_with (first|((with_reducible refine bI (N:=2) rfl ?_);refine dZ ?hg (N:=2) ?hd (cs:=#[.int .u8 dC,.int .u8 aY,.int .u8 aZ,.int .u8 fV,.int .i64 gu]) (t:=39) ?hr ?_;(case hd=>rfl);(case hg=>rfl);(case hr=>first|(go_simp;done)|(go_simp;rfl));intro lM hg w12 hbox hb;have eU:=ae.mk (bz (by repeat (first|(with_reducible first|exact HB.out|apply ay|apply ai|apply ax)|exact HB.out)) hb);have eQ:=ae.mk (hbox);have eu:=ae.mk ((by rw [hg];exact (cu (by repeat (first|(with_reducible first|exact HB.out|apply ay|apply ai|apply ax)|exact HB.out))):w.heap.size≤lM));have ig:=eu;clear HB;have HB:=eU;have jv:=eQ;have Ph:=eu;have zV:=ig;clear eU eQ eu ig;clear hb hbox hg;have Uc:w12.cell? ⟨lM,0,none⟩=some (.int .u8 dC):=(ah jv.out 0).trans rfl;have Ub:w12.cell? ⟨lM,1,none⟩=some (.int .u8 aY):=(ah jv.out 1).trans rfl;have Ua:w12.cell? ⟨lM,2,none⟩=some (.int .u8 aZ):=(ah jv.out 2).trans rfl;have TZ:w12.cell? ⟨lM,3,none⟩=some (.int .u8 fV):=(ah jv.out 3).trans rfl;have afy:w12.cell? ⟨lM,4,none⟩=some (.int .i64 gu):=(ah jv.out 4).trans rfl;have RH:=ag jv.out 0;have RG:=ag jv.out 1;have RF:=ag jv.out 2;have RD:=ag jv.out 3;have ad6:=ag jv.out 4))
    go_ret
    exact ⟨by first|rfl|(simp [aT,aQ] <;> rfl)|(simp [*,aT,aQ] <;> rfl),by repeat (first|(with_reducible first|exact HB.out|apply ay|apply ai|apply ax|refine aA ?_ zV.out)|exact HB.out)⟩
def bg.l0:Nat→ByteArray→List ByteArray→Int→Int→Int→Int→Int→Int→Option (List ByteArray)
 | 0,_,_,_,_,_,_,_,_=>none
 | k+1,x4,x5,x6,Ie,Ic,Ib,Ia,H9=>if x6 < (x4.size:Int) then (if 0≤x6 then ((jD.f Ie Ic Ib Ia H9 (bt x4 x6)).bind fun t169=>((iW.f t169 10).bind fun t170=>(if x5.length < 8796093022208 then (bg.l0 k x4 (x5++[t170]) (wrap64 (x6+1)) Ie Ic Ib Ia H9) else (none)))) else (none)) else (some x5)
def bg.f (k:Nat) (dC:Int) (aY:Int) (aZ:Int) (fV:Int) (gu:Int):Option (List ByteArray):=(fG.f dC).bind fun FO=>(bg.l0 k FO.2 (([FO.1]:List ByteArray)) 0 dC aY aZ fV gu)
theorem bg.iq:∀ k,(∀ y0 y1 y2 y3 y4 y5 y6 y7,dN (bg.l0 k y0 y1 y2 y3 y4 y5 y6 y7) (bg.l0 (k+1) y0 y1 y2 y3 y4 y5 y6 y7))
 | 0=>fun _ _ _ _ _ _ _ _ r h=>by simp [bg.l0] at h
 | k+1=>by
  have kZ:=bg.iq k
  ·
   intro y0 y1 y2 y3 y4 y5 y6 y7
   unfold bg.l0
   repeat' with_reducible first|apply kZ|exact dN.refl _|exact dN.none _|refine dN.ite ?_ ?_|refine dN.bind ?_ (fun _=>?_)
theorem bg.mono:∀ a0 a1 a2 a3 a4 k,dN (bg.f k a0 a1 a2 a3 a4) (bg.f (k+1) a0 a1 a2 a3 a4):=by
 intro a0 a1 a2 a3 a4 k
 have kZ:=bg.iq k
 unfold bg.f
 repeat' with_reducible first|apply kZ|exact dN.refl _|exact dN.none _|refine dN.ite ?_ ?_|refine dN.bind ?_ (fun _=>?_)
def bg.T6:Bool × List (List Nat × List Nat):=(true,[([],[]),([],[]),([],[]),([],[]),([2,3],[2,3]),([1,4],[1,4]),([5,5],[5]),([6],[6]),([0,7,6],[0,7]),([8,8,0,1,2,3,4,5,6,7,8],[0,8])])
def bg.B6:List Nat:=[0,0,0,0,12,30,62,126,255,511]
theorem bg.tab6:pG .any (opsOf Tryd.f38 6)=bg.T6:=by kernel_rfl
theorem bg.aan:pW bg.T6.2 bg.B6=true:=by kernel_rfl
set_option maxHeartbeats 8000000 in
set_option maxRecDepth 100000 in
theorem bg.calls (k:Nat) (dC:Int) (aY:Int) (aZ:Int) (fV:Int) (gu:Int) (r:List ByteArray) (w:World) (EW:Kd.C Ad w Ae rF.length rF) (h:bg.f k dC aY aZ fV gu=some r) :
  Calls Tryd.prog 38 #[.agg #[.int .u8 dC,.int .u8 aY,.int .u8 aZ,.int .u8 fV,.int .i64 gu]] w fun e w'=>∃ v0_:Value,e=.returned (v0_)∧Kd.R Kd.string 9 w' w.heap.size (fun _=>True) v0_ r∧Below w.heap.size w w':=by
 have Ai:=Tryd.underlying39
 have Gf:=ae.mk EW
 clear EW
 have HB:=ae.mk (Below.refl w.heap.size w)
 have H:((fG.f dC).bind fun FO=>(bg.l0 k FO.2 (([FO.1]:List ByteArray)) 0 dC aY aZ fV gu))=some r:=h
 clear h
 replace H:=Option.bind_eq_some_iff.mp H
 obtain ⟨⟨t164,t165⟩,Pn,H⟩:=H
 replace H:(bg.l0 k t165 (([t164]:List ByteArray)) 0 dC aY aZ fV gu)=some r:=H
 have A2:=ae.mk Pn
 clear Pn
 obtain ⟨Yx,ER⟩:∃ y_:List ByteArray,y_=(([t164]:List ByteArray)):=⟨_,rfl⟩
 replace H:(bg.l0 k t165 Yx 0 dC aY aZ fV gu)=some r:=by first|(rw [ER];with_reducible exact H)|(have Eo:=(Option.bind_some _ _).symm.trans H;rw [ER];with_reducible exact Eo)|(have Eo:=(Option.bind_some _ _).symm.trans H;with_reducible exact Eo)|with_reducible exact H|(rw [ER];exact H)|exact H
 have Vw:=ae.mk ER
 clear ER
 have H':=ae.mk H
 clear H
 go_enter Tryd.func38,Tryd.ntmps38
 go_wp2_with (first|((with_reducible refine bI (N:=1) rfl ?_);refine dZ ?hg (N:=1) ?hd (cs:=#[.int .u8 dC,.int .u8 aY,.int .u8 aZ,.int .u8 fV,.int .i64 gu]) (t:=39) ?hr ?_;(case hd=>rfl);(case hg=>rfl);(case hr=>first|(go_simp;done)|(go_simp;rfl));intro qE hg w3 hbox hb;have eU:=ae.mk (bz (by repeat (first|(with_reducible first|exact HB.out|apply ay|apply ai|apply ax)|exact HB.out)) hb);have eQ:=ae.mk (hbox);have eu:=ae.mk ((by rw [hg];exact (cu (by repeat (first|(with_reducible first|exact HB.out|apply ay|apply ai|apply ax)|exact HB.out))):w.heap.size≤qE));have ig:=eu;clear HB;have HB:=eU;have iQ:=eQ;have ajx:=eu;have wU:=ig;clear eU eQ eu ig;clear hb hbox hg;have Xz:w3.cell? ⟨qE,0,none⟩=some (.int .u8 dC):=(ah iQ.out 0).trans rfl;have Xy:w3.cell? ⟨qE,1,none⟩=some (.int .u8 aY):=(ah iQ.out 1).trans rfl;have Xx:w3.cell? ⟨qE,2,none⟩=some (.int .u8 aZ):=(ah iQ.out 2).trans rfl;have Xw:w3.cell? ⟨qE,3,none⟩=some (.int .u8 fV):=(ah iQ.out 3).trans rfl;have Xv:w3.cell? ⟨qE,4,none⟩=some (.int .i64 gu):=(ah iQ.out 4).trans rfl;have Xn:=ag iQ.out 0;have Xm:=ag iQ.out 1;have Xl:=ag iQ.out 2;have Xk:=ag iQ.out 3;have Xj:=ag iQ.out 4)|((with_reducible refine bT (f:=36) rfl ?_);refine gp (some 10) rfl rfl Tryd.func36 (by kernel_rfl) rfl #[.int .u8 dC] rfl (by (try simp only [List.map_toArray,List.map_cons,List.map_nil]);first|done|rfl|(simp only [List.length_drop,List.length_take];rfl)) ?_;(with_reducible refine (fG.calls dC t164 t165 _ A2.out).mono ?_);rintro e w' ⟨rfl,⟨nd,rfl⟩⟩;refine ⟨_,rfl,?_⟩)|((with_reducible refine bI (N:=14) rfl ?_);refine Kd.KN Kd.string _ 9 ?hg (N:=14) ?hd (xs:=([t164]:List ByteArray)) (inner:=[.string t164]) (ok:=fun _=>True) (vG:=fun _=>True) ?hr ?hp (fun _ hk=>hk) trivial (Below.refl _ _) (Nat.le_refl _) (by simp) ?_;(case hd=>rfl);(case hg=>rfl);(case hr=>first|(go_simp;done)|(go_simp;rfl));(case hp=>exact (lF.one (show Kd.M Kd.string _ _ _ t164 [.string t164] from rfl) (lF.none _ _)));intro v167 w5 Y3 hb Zr EX;clear Zr EX;(first|rw [← Vw.out] at Y3|(simp only [Int.reduceToNat] at Y3;rw [← Vw.out] at Y3));have eU:=ae.mk (Kd.tq Y3 (cu (by repeat (first|(with_reducible first|exact HB.out|apply ay|apply ai|apply ax|refine aA ?_ wU.out)|exact HB.out))));have eQ:=ae.mk (bK (g:=qE) (o:=.cells #[.int .u8 dC,.int .u8 aY,.int .u8 aZ,.int .u8 fV,.int .i64 gu] 39 (0,0)) (by (with_reducible repeat (first|refine au ?_ _|refine aC ?_|refine ak ?_ _));exact iQ.out) hb);have eu:=ae.mk (bz (by repeat (first|(with_reducible first|exact HB.out|apply ay|apply ai|apply ax|refine aA ?_ wU.out)|exact HB.out)) hb);clear iQ;clear HB;have aaE:=eU;have iQ:=eQ;have HB:=eu;clear eU eQ eu;clear hb Y3))
 go_loopg [5,6] k (fun kq v5 v6 w'=>∃ (mY:List ByteArray) (tV:Int),v6=.int .i64 tV∧ae (bg.l0 kq t165 mY tV dC aY aZ fV gu=some r)∧ae (kq≤k)∧ae (Kd.R Kd.string 9 w' w.heap.size (fun _=>True) v5 mY)∧ae (w'.heap[qE]? = some (.cells #[.int .u8 dC,.int .u8 aY,.int .u8 aZ,.int .u8 fV,.int .i64 gu] 39 (0,0)))∧ae (Below w.heap.size w w'))
 case atStart=>exact ⟨(Yx),(0),(by first|rfl|(simp;done)|(simp [*];done)),H',⟨Nat.le_refl _⟩,⟨by (with_reducible repeat (first|apply Kd.jA|apply Kd.jy|apply Kd.jZ));exact aaE.out⟩,⟨by (with_reducible repeat (first|refine au ?_ _|refine aC ?_|refine ak ?_ _));exact iQ.out⟩,⟨by repeat (first|(with_reducible first|exact HB.out|apply ay|apply ai|apply ax|refine aA ?_ wU.out)|exact HB.out)⟩⟩
 case round =>
  clear H'
  obtain ⟨mY,tV,rfl,HA,rD,wR,iQ,HB⟩:=hrel
  cases gk with
  | zero=>exact absurd HA.out (by simp [bg.l0])
  | succ k1 =>
   have H:=HA.out
   clear HA
   simp only [bg.l0] at H
   by_cases c7:tV < (t165.size:Int)
   ·
    rw [if_pos c7] at H
    have pJ:decide (tV < (t165.size:Int))=true:=decide_eq_true c7
    clear c7
    by_cases c8:0≤tV
    ·
     rw [if_pos c8] at H
     have qU:decide (0≤tV)=true:=decide_eq_true c8
     clear c8
     replace H:=Option.bind_eq_some_iff.mp H
     obtain ⟨t169,Px,H⟩:=H
     replace H:((iW.f t169 10).bind fun t170=>(if mY.length < 8796093022208 then (bg.l0 k1 t165 (mY++[t170]) (wrap64 (tV+1)) dC aY aZ fV gu) else (none)))=some r:=H
     have Yv:=ae.mk Px
     clear Px
     replace H:=Option.bind_eq_some_iff.mp H
     obtain ⟨t170,abg,H⟩:=H
     replace H:(if mY.length < 8796093022208 then (bg.l0 k1 t165 (mY++[t170]) (wrap64 (tV+1)) dC aY aZ fV gu) else (none))=some r:=H
     have A11:=ae.mk abg
     clear abg
     by_cases c12:mY.length < 8796093022208
     ·
      rw [if_pos c12] at H
      have aaw:=ae.mk c12
      clear c12
      obtain ⟨Yw,EP⟩:∃ y_:List ByteArray,y_=(mY++[t170]):=⟨_,rfl⟩
      replace H:(bg.l0 k1 t165 Yw (wrap64 (tV+1)) dC aY aZ fV gu)=some r:=by first|(rw [EP];with_reducible exact H)|(have Eo:=(Option.bind_some _ _).symm.trans H;rw [EP];with_reducible exact Eo)|(have Eo:=(Option.bind_some _ _).symm.trans H;with_reducible exact Eo)|with_reducible exact H|(rw [EP];exact H)|exact H
      have aav:=ae.mk EP
      clear EP
      have H':=ae.mk H
      clear H
      try go_wp2
      have eU:=ae.mk (Kd.jZ wR.out)
      have eQ:=ae.mk (aC iQ.out)
      have eu:=ae.mk (ax HB.out)
      clear wR
      clear iQ
      clear HB
      have wR:=eU
      have iQ:=eQ
      have HB:=eu
      clear eU eQ eu
      have p9:0≤(tV:Int):=of_decide_eq_true (by first|(with_reducible assumption)|assumption)
      have q9:tV < (t165.size:Int):=of_decide_eq_true (by first|(with_reducible assumption)|assumption)
      have hx9:=kP t165 tV
      replace p9:=eq_true p9
      replace q9:=eq_true q9
      refine qy (n:=10) (S:=fun w'=>w'.cell? ⟨qE,0,none⟩=some (.int .u8 dC)∧w'.cell? ⟨qE,1,none⟩=some (.int .u8 aY)∧w'.cell? ⟨qE,2,none⟩=some (.int .u8 aZ)∧w'.cell? ⟨qE,3,none⟩=some (.int .u8 fV)∧w'.cell? ⟨qE,4,none⟩=some (.int .i64 gu)) (ds:=[]) #[false,false,false,false,false,false,false,false,false,false] (by kernel_rfl) rfl rfl ⟨(ah iQ.out 0).trans rfl,(ah iQ.out 1).trans rfl,(ah iQ.out 2).trans rfl,(ah iQ.out 3).trans rfl,(ah iQ.out 4).trans rfl⟩ (fun hHeld=>?_);refine mF bg.tab6 bg.aan (fun jh tN=>?_)
      generalize wr.drew=w13 at wR iQ HB hHeld ⊢
      refine iC (i:=0) (N:=some 21) (v:=?_) (a':=?_) #[true,false,false,false,false,false,false,false,false,false] rfl rfl (gq jh.out (by kernel_rfl)) (fun _ _ _ h=>h) (Or.inl ⟨by rfl,?_⟩) ?_ ?_
      rotate_left
      ·
       intro w'
       go_simp
       with_reducible rfl
      rotate_left
      ·
       simp only [Act.put,List.setIfInBounds_toArray,List.set_cons_zero,List.set_cons_succ,bY,bZ]
       rfl
      refine iC (i:=2) (N:=some 23) (v:=?_) (a':=?_) #[true,false,true,false,false,false,false,false,false,false] rfl rfl (gq jh.out (by kernel_rfl)) (fun _ _ _ h=>h) (Or.inl ⟨by rfl,?_⟩) ?_ ?_
      rotate_left
      ·
       intro w'
       go_simp
       with_reducible rfl
      rotate_left
      ·
       simp only [Act.put,List.setIfInBounds_toArray,List.set_cons_zero,List.set_cons_succ,bY,bZ]
       rfl
      refine iC (i:=3) (N:=some 24) (v:=?_) (a':=?_) #[true,false,true,true,false,false,false,false,false,false] rfl rfl (gq jh.out (by kernel_rfl)) (fun _ _ _ h=>h) (Or.inl ⟨by rfl,?_⟩) ?_ ?_
      rotate_left
      ·
       intro w'
       go_simp
       with_reducible rfl
      rotate_left
      ·
       simp only [Act.put,List.setIfInBounds_toArray,List.set_cons_zero,List.set_cons_succ,bY,bZ]
       rfl
      refine kM (i:=1) (N:=some 22) (v:=?_) (a':=?_) #[true,true,true,true,false,false,false,false,false,false] rfl rfl (iO jh.out tN.out (by kernel_rfl)) (fun _ _ _ h=>h) (Or.inl ⟨by rfl,?_⟩) hHeld ?_ ?_
      rotate_left
      ·
       rintro w' ⟨s0,s1,s2,s3,s4⟩
       go_simp
       with_reducible rfl
      rotate_left
      ·
       simp only [Act.put,List.setIfInBounds_toArray,List.set_cons_zero,List.set_cons_succ,bY,bZ]
       rfl
      refine kM (i:=4) (N:=some 25) (v:=?_) (a':=?_) #[true,true,true,true,true,false,false,false,false,false] rfl rfl (iO jh.out tN.out (by kernel_rfl)) (fun _ _ _ h=>h) (Or.inl ⟨by rfl,?_⟩) hHeld ?_ ?_
      rotate_left
      ·
       rintro w' ⟨s0,s1,s2,s3,s4⟩
       go_simp
       with_reducible rfl
      rotate_left
      ·
       simp only [Act.put,List.setIfInBounds_toArray,List.set_cons_zero,List.set_cons_succ,bY,bZ]
       rfl
      refine oD (i:=5) (N:=some 26) #[true,true,true,true,true,true,false,false,false,false] rfl rfl (kG jh.out (by kernel_rfl)) (by decide) (fun K hK=>?_)
      refine nR Tryd.func49 (by kernel_rfl) rfl #[.agg #[.int .u8 dC,.int .u8 aY,.int .u8 aZ,.int .u8 fV,.int .i64 gu],.int .u8 (bt t165 tV)] (by rfl) rfl rfl (by (try simp only [List.map_toArray,List.map_cons,List.map_nil]);first|done|rfl|(simp only [List.length_drop,List.length_take];rfl)) ?_
      with_reducible refine (jD.calls dC aY aZ fV gu (bt t165 tV) t169 _ Yv.out).mono ?_
      rintro e Me ⟨rfl,hb⟩
      refine ⟨_,rfl,?_⟩
      have eU:=ae.mk (Kd.jL (by (with_reducible repeat (first|apply Kd.jA|apply Kd.jy|apply Kd.jZ));exact wR.out) hb)
      have eQ:=ae.mk (bK (g:=qE) (o:=.cells #[.int .u8 dC,.int .u8 aY,.int .u8 aZ,.int .u8 fV,.int .i64 gu] 39 (0,0)) (by (with_reducible repeat (first|refine au ?_ _|refine aC ?_|refine ak ?_ _));exact iQ.out) hb)
      have eu:=ae.mk (bz (by repeat (first|(with_reducible first|exact HB.out|apply ay|apply ai|apply ax|refine aA ?_ wU.out)|exact HB.out)) hb)
      clear wR
      clear iQ
      clear HB
      have wR:=eU
      have iQ:=eQ
      have HB:=eu
      clear eU eQ eu
      (try clear hb)
      (try clear hb2)
      (try clear hk)
      (try clear hi)
      refine hK.out _ _ ⟨(ah iQ.out 0).trans rfl,(ah iQ.out 1).trans rfl,(ah iQ.out 2).trans rfl,(ah iQ.out 3).trans rfl,(ah iQ.out 4).trans rfl⟩ (fun hHeld=>?_)
      clear hK K
      refine je (a':=?_) ?_ ?_
      rotate_left
      ·
       show Act.put _ (some 26) _=_
       simp only [Act.put,List.setIfInBounds_toArray,List.set_cons_zero,List.set_cons_succ,bY,bZ]
       rfl
      refine oD (i:=6) (N:=some 27) #[true,true,true,true,true,true,true,false,false,false] rfl rfl (kG jh.out (by kernel_rfl)) (by decide) (fun K hK=>?_)
      refine nR Tryd.func48 (by kernel_rfl) rfl #[.int .i64 t169,.int .i64 10] (by rfl) rfl rfl (by (try simp only [List.map_toArray,List.map_cons,List.map_nil]);first|done|rfl|(simp only [List.length_drop,List.length_take];rfl)) ?_
      with_reducible refine (iW.calls t169 10 t170 _ ?dR A11.out).mono ?_
      (case dR=>repeat (first|exact (Kd.bW Gf.out HB.out)|(with_reducible refine Kd.dA ?_ _)|(with_reducible refine Kd.dL ?_ _)|(with_reducible refine Kd.dW ?_)))
      rintro e Yy ⟨rfl,hb⟩
      refine ⟨_,rfl,?_⟩
      have eU:=ae.mk (Kd.jL (by (with_reducible repeat (first|apply Kd.jA|apply Kd.jy|apply Kd.jZ));exact wR.out) hb)
      have eQ:=ae.mk (bK (g:=qE) (o:=.cells #[.int .u8 dC,.int .u8 aY,.int .u8 aZ,.int .u8 fV,.int .i64 gu] 39 (0,0)) (by (with_reducible repeat (first|refine au ?_ _|refine aC ?_|refine ak ?_ _));exact iQ.out) hb)
      have eu:=ae.mk (bz (by repeat (first|(with_reducible first|exact HB.out|apply ay|apply ai|apply ax|refine aA ?_ wU.out)|exact HB.out)) hb)
      clear wR
      clear iQ
      clear HB
      have wR:=eU
      have iQ:=eQ
      have HB:=eu
      clear eU eQ eu
      (try clear hb)
      (try clear hb2)
      (try clear hk)
      (try clear hi)
      refine hK.out _ _ ⟨(ah iQ.out 0).trans rfl,(ah iQ.out 1).trans rfl,(ah iQ.out 2).trans rfl,(ah iQ.out 3).trans rfl,(ah iQ.out 4).trans rfl⟩ (fun hHeld=>?_)
      clear hK K
      refine je (a':=?_) ?_ ?_
      rotate_left
      ·
       show Act.put _ (some 27) _=_
       simp only [Act.put,List.setIfInBounds_toArray,List.set_cons_zero,List.set_cons_succ,bY,bZ]
       rfl
      refine oD (i:=7) (N:=some 28) #[true,true,true,true,true,true,true,true,false,false] rfl rfl (kG jh.out (by kernel_rfl)) (by decide) (fun K hK=>?_)
      refine wX (w1:=?_) (v:=?_) (by rfl) rfl ?_ ?_
      rotate_left 2
      ·
       go_simp
       constructor
       ·
        rfl
       ·
        rfl
      refine hK.out _ _ ⟨(ah (ak iQ.out _) 0).trans rfl,(ah (ak iQ.out _) 1).trans rfl,(ah (ak iQ.out _) 2).trans rfl,(ah (ak iQ.out _) 3).trans rfl,(ah (ak iQ.out _) 4).trans rfl⟩ (fun hHeld=>?_)
      clear hK K
      refine je (a':=?_) ?_ ?_
      rotate_left
      ·
       show Act.put _ (some 28) _=_
       simp only [Act.put,List.setIfInBounds_toArray,List.set_cons_zero,List.set_cons_succ,bY,bZ]
       rfl
      refine oD (i:=8) (N:=some 29) #[true,true,true,true,true,true,true,true,true,false] rfl rfl (kG jh.out (by kernel_rfl)) (by decide) (fun K hK=>?_)
      refine Kd.Ap Kd.string (w0:=w) w.heap.size (by rfl) (.tmp 21) (.tmp 28) 22 9 (.string ⟨#[]⟩) 16 rfl Tryd.underlying22 info9 rfl (by decide) (by omega) u5 mY t170 [.string t170] (fun _=>True) (fun _=>False) rfl rfl ?aP (fun _ hk=>hk.elim) ?aF ?aO ?aB ?aS ?aL ?_
      (case aP=>exact rfl)
      (case aB=>exact (by repeat (first|(with_reducible first|exact HB.out|apply ay|apply ai|apply ax|refine aA ?_ wU.out)|exact HB.out)))
      (case aF=>exact (fun _ _=>trivial))
      (case aO=>exact (by (with_reducible repeat (first|apply Kd.jA|apply Kd.jy|apply Kd.jZ));exact wR.out))
      (case aS=>exact (cu (by repeat (first|(with_reducible first|exact HB.out|apply ay|apply ai|apply ax|refine aA ?_ wU.out)|exact HB.out))))
      (case aL=>have:=aaw.out;omega)
      intro aj0 w16 ho hb hg hat
      rw [← aav.out] at ho
      have eU:=ae.mk (LX (g:=qE) (o:=.cells #[.int .u8 dC,.int .u8 aY,.int .u8 aZ,.int .u8 fV,.int .i64 gu] 39 (0,0)) (by (with_reducible repeat (first|refine au ?_ _|refine aC ?_|refine ak ?_ _));exact iQ.out) hg (Kd.ahp wR.out iQ.out (by decide)))
      have eQ:=ae.mk (hb)
      have eu:=ae.mk (ho)
      clear iQ
      clear HB
      clear wR
      have iQ:=eU
      have HB:=eQ
      have aaD:=eu
      clear eU eQ eu
      clear ho hb hg hat
      refine hK.out _ _ ⟨(ah iQ.out 0).trans rfl,(ah iQ.out 1).trans rfl,(ah iQ.out 2).trans rfl,(ah iQ.out 3).trans rfl,(ah iQ.out 4).trans rfl⟩ (fun hHeld=>?_)
      clear hK K
      refine je (a':=?_) ?_ ?_
      rotate_left
      ·
       show Act.put _ (some 29) _=_
       simp only [Act.put,List.setIfInBounds_toArray,List.set_cons_zero,List.set_cons_succ,bY,bZ]
       rfl
      refine iC (i:=9) (N:=some 5) (v:=?_) (a':=?_) #[true,true,true,true,true,true,true,true,true,true] rfl rfl (gq jh.out (by kernel_rfl)) (fun _ _ _ h=>h) (Or.inl ⟨by rfl,?_⟩) ?_ ?_
      rotate_left
      ·
       intro w'
       go_simp
       with_reducible rfl
      rotate_left
      ·
       simp only [Act.put,List.setIfInBounds_toArray,List.set_cons_zero,List.set_cons_succ,bY,bZ]
       rfl
      refine tu (pX jh.out (by kernel_rfl)) ?_
      try go_wp2
      go_roundg k1
      case measure=>have:=rD.out;omega
      case rel=>exact ⟨(Yw),(wrap64 (tV+1)),(by first|rfl|(simp;done)|(simp [*];done)),H',⟨by have:=rD.out;omega⟩,⟨by (with_reducible repeat (first|apply Kd.jA|apply Kd.jy|apply Kd.jZ));exact aaD.out⟩,⟨by (with_reducible repeat (first|refine au ?_ _|refine aC ?_|refine ak ?_ _));exact iQ.out⟩,⟨by repeat (first|(with_reducible first|exact HB.out|apply ay|apply ai|apply ax|refine aA ?_ wU.out)|exact HB.out)⟩⟩
     ·
      rw [if_neg c12] at H
      exact absurd H (by simp)
    ·
     rw [if_neg c8] at H
     exact absurd H (by simp)
   ·
    rw [if_neg c7] at H
    have pJ:decide (tV < (t165.size:Int))=false:=decide_eq_false c7
    clear c7
    obtain rfl:=Option.some.inj H
    go_wp2
    go_ret
    exact ⟨_,by first|rfl|(simp [aT,aQ] <;> rfl)|(simp [*,aT,aQ] <;> rfl),by (with_reducible repeat (first|apply Kd.jA|apply Kd.jy|apply Kd.jZ));exact wR.out,by repeat (first|(with_reducible first|exact HB.out|apply ay|apply ai|apply ax|refine aA ?_ wU.out)|exact HB.out)⟩
def dS.f (k:Nat) (dC:Int) (aY:Int) (aZ:Int) (fV:Int) (gu:Int):Option (Bool):=(fG.f dC).bind fun OI=>(if OI.1.toList=([]:List UInt8) then (some false) else ((bg.f k dC aY aZ fV gu).bind fun t177=>((aI.f k t177).bind fun lN=>(if lN.2.2.2.2.2=true then (some (lN.1 == dC && (lN.2.1 == aY && (lN.2.2.1 == aZ && (lN.2.2.2.1 == fV && (lN.2.2.2.2.1 == gu)))))) else (some false)))))
theorem dS.mono:∀ a0 a1 a2 a3 a4 k,dN (dS.f k a0 a1 a2 a3 a4) (dS.f (k+1) a0 a1 a2 a3 a4):=by
 intro a0 a1 a2 a3 a4 k
 unfold dS.f
 repeat' with_reducible first|apply bg.mono|apply aI.mono|exact dN.refl _|exact dN.none _|refine dN.ite ?_ ?_|refine dN.bind ?_ (fun _=>?_)
set_option maxHeartbeats 8000000 in
set_option maxRecDepth 100000 in
theorem dS.calls (k:Nat) (dC:Int) (aY:Int) (aZ:Int) (fV:Int) (gu:Int) (r:Bool) (w:World) (EW:Kd.C Ad w Ae rF.length rF) (h:dS.f k dC aY aZ fV gu=some r) :
  Calls Tryd.prog 28 #[.agg #[.int .u8 dC,.int .u8 aY,.int .u8 aZ,.int .u8 fV,.int .i64 gu]] w fun e w'=>e=.returned (.bool r)∧Below w.heap.size w w':=by
 have Ai:=Tryd.underlying39
 have Gf:=ae.mk EW
 clear EW
 have HB:=ae.mk (Below.refl w.heap.size w)
 have H:((fG.f dC).bind fun OI=>(if OI.1.toList=([]:List UInt8) then (some false) else ((bg.f k dC aY aZ fV gu).bind fun t177=>((aI.f k t177).bind fun lN=>(if lN.2.2.2.2.2=true then (some (lN.1 == dC && (lN.2.1 == aY && (lN.2.2.1 == aZ && (lN.2.2.2.1 == fV && (lN.2.2.2.2.1 == gu)))))) else (some false))))))=some r:=h
 clear h
 replace H:=Option.bind_eq_some_iff.mp H
 obtain ⟨⟨t175,t176⟩,Pn,H⟩:=H
 replace H:(if t175.toList=([]:List UInt8) then (some false) else ((bg.f k dC aY aZ fV gu).bind fun t177=>((aI.f k t177).bind fun lN=>(if lN.2.2.2.2.2=true then (some (lN.1 == dC && (lN.2.1 == aY && (lN.2.2.1 == aZ && (lN.2.2.2.1 == fV && (lN.2.2.2.2.1 == gu)))))) else (some false)))))=some r:=H
 have A2:=ae.mk Pn
 clear Pn
 by_cases c3:t175.toList=([]:List UInt8)
 ·
  rw [if_pos c3] at H
  have oQ:(t175.toList == ([]:List UInt8))=true:=beq_iff_eq.mpr c3
  have Ef:(t175.toList != ([]:List UInt8))=false:=bne_eq_false_iff_eq.mpr c3
  clear c3
  obtain rfl:=Option.some.inj H
  go_enter Tryd.func28,Tryd.ntmps28
  go_wp2_with (first|((with_reducible refine bI (N:=1) rfl ?_);refine dZ ?hg (N:=1) ?hd (cs:=#[.int .u8 dC,.int .u8 aY,.int .u8 aZ,.int .u8 fV,.int .i64 gu]) (t:=39) ?hr ?_;(case hd=>rfl);(case hg=>rfl);(case hr=>first|(go_simp;done)|(go_simp;rfl));intro iZ hg w4 hbox hb;have eU:=ae.mk (bz (by repeat (first|(with_reducible first|exact HB.out|apply ay|apply ai|apply ax)|exact HB.out)) hb);have eQ:=ae.mk (hbox);have eu:=ae.mk ((by rw [hg];exact (cu (by repeat (first|(with_reducible first|exact HB.out|apply ay|apply ai|apply ax)|exact HB.out))):w.heap.size≤iZ));have ig:=eu;clear HB;have HB:=eU;have gK:=eQ;have VG:=eu;have qw:=ig;clear eU eQ eu ig;clear hb hbox hg;have zH:w4.cell? ⟨iZ,0,none⟩=some (.int .u8 dC):=(ah gK.out 0).trans rfl;have zG:w4.cell? ⟨iZ,1,none⟩=some (.int .u8 aY):=(ah gK.out 1).trans rfl;have zF:w4.cell? ⟨iZ,2,none⟩=some (.int .u8 aZ):=(ah gK.out 2).trans rfl;have zD:w4.cell? ⟨iZ,3,none⟩=some (.int .u8 fV):=(ah gK.out 3).trans rfl;have Xu:w4.cell? ⟨iZ,4,none⟩=some (.int .i64 gu):=(ah gK.out 4).trans rfl;have zC:=ag gK.out 0;have zB:=ag gK.out 1;have zA:=ag gK.out 2;have zy:=ag gK.out 3;have Xi:=ag gK.out 4)|((with_reducible refine bT (f:=36) rfl ?_);refine gp (some 10) rfl rfl Tryd.func36 (by kernel_rfl) rfl #[.int .u8 dC] rfl (by (try simp only [List.map_toArray,List.map_cons,List.map_nil]);first|done|rfl|(simp only [List.length_drop,List.length_take];rfl)) ?_;(with_reducible refine (fG.calls dC t175 t176 _ A2.out).mono ?_);rintro e w' ⟨rfl,⟨nd,rfl⟩⟩;refine ⟨_,rfl,?_⟩))
  go_ret
  exact ⟨by first|rfl|(simp [aT,aQ] <;> rfl)|(simp [*,aT,aQ] <;> rfl),by repeat (first|(with_reducible first|exact HB.out|apply ay|apply ai|apply ax|refine aA ?_ qw.out)|exact HB.out)⟩
 ·
  rw [if_neg c3] at H
  have oQ:(t175.toList == ([]:List UInt8))=false:=beq_eq_false_iff_ne.mpr c3
  have Ef:(t175.toList != ([]:List UInt8))=true:=bne_iff_ne.mpr c3
  replace H:=Option.bind_eq_some_iff.mp H
  obtain ⟨t177,Pm,H⟩:=H
  replace H:((aI.f k t177).bind fun lN=>(if lN.2.2.2.2.2=true then (some (lN.1 == dC && (lN.2.1 == aY && (lN.2.2.1 == aZ && (lN.2.2.2.1 == fV && (lN.2.2.2.2.1 == gu)))))) else (some false)))=some r:=H
  have A6:=ae.mk Pm
  clear Pm
  replace H:=Option.bind_eq_some_iff.mp H
  obtain ⟨⟨t180,t181,t182,t183,t184,t185⟩,VK,H⟩:=H
  replace H:(if t185=true then (some (t180 == dC && (t181 == aY && (t182 == aZ && (t183 == fV && (t184 == gu)))))) else (some false))=some r:=H
  have A7:=ae.mk VK
  clear VK
  by_cases c8:t185=true
  ·
   subst c8
   have H1:(some (t180 == dC && (t181 == aY && (t182 == aZ && (t183 == fV && (t184 == gu))))))=some r:=by rw [if_pos rfl] at H;exact H
   clear H
   have H:=H1
   clear H1
   obtain rfl:=Option.some.inj H
   go_enter Tryd.func28,Tryd.ntmps28
   go_wp2_with (first|((with_reducible refine bI (N:=1) rfl ?_);refine dZ ?hg (N:=1) ?hd (cs:=#[.int .u8 dC,.int .u8 aY,.int .u8 aZ,.int .u8 fV,.int .i64 gu]) (t:=39) ?hr ?_;(case hd=>rfl);(case hg=>rfl);(case hr=>first|(go_simp;done)|(go_simp;rfl));intro iZ hg w9 hbox hb;have eU:=ae.mk (bz (by repeat (first|(with_reducible first|exact HB.out|apply ay|apply ai|apply ax)|exact HB.out)) hb);have eQ:=ae.mk (hbox);have eu:=ae.mk ((by rw [hg];exact (cu (by repeat (first|(with_reducible first|exact HB.out|apply ay|apply ai|apply ax)|exact HB.out))):w.heap.size≤iZ));have ig:=eu;clear HB;have HB:=eU;have gK:=eQ;have VG:=eu;have qw:=ig;clear eU eQ eu ig;clear hb hbox hg;have yS:w9.cell? ⟨iZ,0,none⟩=some (.int .u8 dC):=(ah gK.out 0).trans rfl;have yR:w9.cell? ⟨iZ,1,none⟩=some (.int .u8 aY):=(ah gK.out 1).trans rfl;have yQ:w9.cell? ⟨iZ,2,none⟩=some (.int .u8 aZ):=(ah gK.out 2).trans rfl;have yP:w9.cell? ⟨iZ,3,none⟩=some (.int .u8 fV):=(ah gK.out 3).trans rfl;have Ue:w9.cell? ⟨iZ,4,none⟩=some (.int .i64 gu):=(ah gK.out 4).trans rfl;have yK:=ag gK.out 0;have yJ:=ag gK.out 1;have yI:=ag gK.out 2;have yH:=ag gK.out 3;have RJ:=ag gK.out 4)|((with_reducible refine bT (f:=36) rfl ?_);refine gp (some 10) rfl rfl Tryd.func36 (by kernel_rfl) rfl #[.int .u8 dC] rfl (by (try simp only [List.map_toArray,List.map_cons,List.map_nil]);first|done|rfl|(simp only [List.length_drop,List.length_take];rfl)) ?_;(with_reducible refine (fG.calls dC t175 t176 _ A2.out).mono ?_);rintro e w' ⟨rfl,⟨nd,rfl⟩⟩;refine ⟨_,rfl,?_⟩;(try (rw [qO w9];generalize zX:World.drewN w9 _=w9;have eU:ae (w9.heap[iZ]? = some (.cells #[.int .u8 dC,.int .u8 aY,.int .u8 aZ,.int .u8 fV,.int .i64 gu] 39 (0,0))):=⟨by rw [← zX];exact (by (with_reducible repeat (first|refine au ?_ _|refine aC ?_|refine ak ?_ _));exact gK.out)⟩;have eQ:ae (Below w.heap.size w w9):=⟨by rw [← zX];exact (by repeat (first|(with_reducible first|exact HB.out|apply ay|apply ai|apply ax|refine aA ?_ qw.out)|exact HB.out))⟩;clear gK HB zX;have gK:=eU;have HB:=eQ;clear eU eQ;have Ob:w9.cell? ⟨iZ,0,none⟩=some (.int .u8 dC):=(ah gK.out 0).trans rfl;have Oa:w9.cell? ⟨iZ,1,none⟩=some (.int .u8 aY):=(ah gK.out 1).trans rfl;have N9:w9.cell? ⟨iZ,2,none⟩=some (.int .u8 aZ):=(ah gK.out 2).trans rfl;have N8:w9.cell? ⟨iZ,3,none⟩=some (.int .u8 fV):=(ah gK.out 3).trans rfl;have N7:w9.cell? ⟨iZ,4,none⟩=some (.int .i64 gu):=(ah gK.out 4).trans rfl)))|((with_reducible refine bT (f:=38) rfl ?_);refine gp (some 17) rfl rfl Tryd.func38 (by kernel_rfl) rfl #[.agg #[.int .u8 dC,.int .u8 aY,.int .u8 aZ,.int .u8 fV,.int .i64 gu]] rfl (by (try simp only [List.map_toArray,List.map_cons,List.map_nil]);first|done|rfl|(simp only [List.length_drop,List.length_take];rfl)) ?_;(with_reducible refine (bg.calls k dC aY aZ fV gu t177 _ ?dR A6.out).mono ?_);(case dR=>repeat (first|exact (Kd.bW Gf.out HB.out)|(with_reducible refine Kd.dA ?_ _)|(with_reducible refine Kd.dL ?_ _)|(with_reducible refine Kd.dW ?_)));rintro e VT ⟨afP,rfl,ho0,hb⟩;refine ⟨_,rfl,?_⟩;have eU:=ae.mk (Kd.tq ho0 (cu (by repeat (first|(with_reducible first|exact HB.out|apply ay|apply ai|apply ax|refine aA ?_ qw.out)|exact HB.out))));have eQ:=ae.mk (bK (g:=iZ) (o:=.cells #[.int .u8 dC,.int .u8 aY,.int .u8 aZ,.int .u8 fV,.int .i64 gu] 39 (0,0)) (by (with_reducible repeat (first|refine au ?_ _|refine aC ?_|refine ak ?_ _));exact gK.out) hb);have eu:=ae.mk (bz (by repeat (first|(with_reducible first|exact HB.out|apply ay|apply ai|apply ax|refine aA ?_ qw.out)|exact HB.out)) hb);clear gK;clear HB;have oW:=eU;have gK:=eQ;have HB:=eu;clear eU eQ eu;(try clear hb);(try clear hb2);(try clear hk);(try clear hi);(try clear ho0);obtain ⟨ahK,ahl,ahc⟩:=Kd.sZ oW.out;subst ahc)|((with_reducible refine bT (f:=37) rfl ?_);refine gp (some 18) rfl rfl Tryd.func37 (by kernel_rfl) rfl #[.slice ahK t177.length ahl] rfl (by (try simp only [List.map_toArray,List.map_cons,List.map_nil]);first|done|rfl|(simp only [List.length_drop,List.length_take];rfl)) ?_;(with_reducible refine (aI.calls k _ _ t177 t180 t181 t182 t183 t184 true _ ?dR ?dU A7.out).mono ?_);(case dR=>repeat (first|exact (Kd.gz oW.out).2.2|(with_reducible refine Kd.dA ?_ _)|(with_reducible refine Kd.dL ?_ _)|(with_reducible refine Kd.dW ?_)));(case dU=>exact (Kd.gz oW.out).2.1);rintro e w13 ⟨rfl,hb⟩;refine ⟨_,rfl,?_⟩;have eU:=ae.mk (Kd.jL (by (with_reducible repeat (first|apply Kd.jA|apply Kd.jy|apply Kd.jZ));exact oW.out) hb);have eQ:=ae.mk (bK (g:=iZ) (o:=.cells #[.int .u8 dC,.int .u8 aY,.int .u8 aZ,.int .u8 fV,.int .i64 gu] 39 (0,0)) (by (with_reducible repeat (first|refine au ?_ _|refine aC ?_|refine ak ?_ _));exact gK.out) hb);have eu:=ae.mk (bz (by repeat (first|(with_reducible first|exact HB.out|apply ay|apply ai|apply ax|refine aA ?_ qw.out)|exact HB.out)) hb);clear oW;clear gK;clear HB;have oW:=eU;have gK:=eQ;have HB:=eu;clear eU eQ eu;(try clear hb);(try clear hb2);(try clear hk);(try clear hi))|((with_reducible refine bI (N:=5) rfl ?_);refine dZ ?hg (N:=5) ?hd (cs:=#[.int .u8 0,.int .u8 0,.int .u8 0,.int .u8 0,.int .i64 0]) (t:=39) ?hr ?_;(case hd=>rfl);(case hg=>rfl);(case hr=>first|(go_simp;done)|(go_simp;rfl));intro qN hg Me hbox hb;have eU:=ae.mk (Kd.jL (by (with_reducible repeat (first|apply Kd.jA|apply Kd.jy|apply Kd.jZ));exact oW.out) hb);have eQ:=ae.mk (bK (g:=iZ) (o:=.cells #[.int .u8 dC,.int .u8 aY,.int .u8 aZ,.int .u8 fV,.int .i64 gu] 39 (0,0)) (by (with_reducible repeat (first|refine au ?_ _|refine aC ?_|refine ak ?_ _));exact gK.out) hb);have eu:=ae.mk (bz (by repeat (first|(with_reducible first|exact HB.out|apply ay|apply ai|apply ax|refine aA ?_ qw.out)|exact HB.out)) hb);have ig:=ae.mk (hbox);have mW:=ae.mk ((by rw [hg];exact (cu (by repeat (first|(with_reducible first|exact HB.out|apply ay|apply ai|apply ax|refine aA ?_ qw.out)|exact HB.out))):w.heap.size≤qN));have mM:=mW;have nD:=ae.mk ((by rw [hg];exact Nat.ne_of_lt (jJ (g:=iZ) (o:=.cells #[.int .u8 dC,.int .u8 aY,.int .u8 aZ,.int .u8 fV,.int .i64 gu] 39 (0,0)) (by (with_reducible repeat (first|refine au ?_ _|refine aC ?_|refine ak ?_ _));exact gK.out)):iZ ≠ qN));have uS:=ae.mk nD.out.symm;clear oW;clear gK;clear HB;have oW:=eU;have gK:=eQ;have HB:=eu;have nU:=ig;have aaN:=mW;have Pj:=mM;have xy:=nD;have xx:=uS;clear eU eQ eu ig mW mM nD uS;clear hb hbox hg;have Zn:=xx.out;have Zd:=xy.out;have yO:Me.cell? ⟨qN,0,none⟩=some (.int .u8 0):=(ah nU.out 0).trans rfl;have yN:Me.cell? ⟨qN,1,none⟩=some (.int .u8 0):=(ah nU.out 1).trans rfl;have yM:Me.cell? ⟨qN,2,none⟩=some (.int .u8 0):=(ah nU.out 2).trans rfl;have yL:Me.cell? ⟨qN,3,none⟩=some (.int .u8 0):=(ah nU.out 3).trans rfl;have KA:Me.cell? ⟨qN,4,none⟩=some (.int .i64 0):=(ah nU.out 4).trans rfl;have yG:=ag nU.out 0;have yF:=ag nU.out 1;have yE:=ag nU.out 2;have yD:=ag nU.out 3;have JA:=ag nU.out 4;have Kz:Me.cell? ⟨iZ,0,none⟩=some (.int .u8 dC):=(ah gK.out 0).trans rfl;have Ky:Me.cell? ⟨iZ,1,none⟩=some (.int .u8 aY):=(ah gK.out 1).trans rfl;have Kw:Me.cell? ⟨iZ,2,none⟩=some (.int .u8 aZ):=(ah gK.out 2).trans rfl;have Kv:Me.cell? ⟨iZ,3,none⟩=some (.int .u8 fV):=(ah gK.out 3).trans rfl;have TS:Me.cell? ⟨iZ,4,none⟩=some (.int .i64 gu):=(ah gK.out 4).trans rfl;have Jz:=ag gK.out 0;have Jy:=ag gK.out 1;have Jw:=ag gK.out 2;have Jv:=ag gK.out 3;have Rt:=ag gK.out 4))
   go_ret
   exact ⟨by first|rfl|(simp [aT,aQ] <;> rfl)|(simp [*,aT,aQ] <;> rfl),by repeat (first|(with_reducible first|exact HB.out|apply ay|apply ai|apply ax|refine aA ?_ qw.out|refine aA ?_ Pj.out)|exact HB.out)⟩
  ·
   replace c8:=Bool.eq_false_iff.mpr c8
   subst c8
   have H1:(some false)=some r:=by rw [if_neg (show ¬ (false=true) by decide)] at H;exact H
   clear H
   have H:=H1
   clear H1
   obtain rfl:=Option.some.inj H
   go_enter Tryd.func28,Tryd.ntmps28
   go_wp2_with (first|((with_reducible refine bI (N:=1) rfl ?_);refine dZ ?hg (N:=1) ?hd (cs:=#[.int .u8 dC,.int .u8 aY,.int .u8 aZ,.int .u8 fV,.int .i64 gu]) (t:=39) ?hr ?_;(case hd=>rfl);(case hg=>rfl);(case hr=>first|(go_simp;done)|(go_simp;rfl));intro iZ hg Gj hbox hb;have eU:=ae.mk (bz (by repeat (first|(with_reducible first|exact HB.out|apply ay|apply ai|apply ax)|exact HB.out)) hb);have eQ:=ae.mk (hbox);have eu:=ae.mk ((by rw [hg];exact (cu (by repeat (first|(with_reducible first|exact HB.out|apply ay|apply ai|apply ax)|exact HB.out))):w.heap.size≤iZ));have ig:=eu;clear HB;have HB:=eU;have gK:=eQ;have VG:=eu;have qw:=ig;clear eU eQ eu ig;clear hb hbox hg;have afr:Gj.cell? ⟨iZ,0,none⟩=some (.int .u8 dC):=(ah gK.out 0).trans rfl;have afq:Gj.cell? ⟨iZ,1,none⟩=some (.int .u8 aY):=(ah gK.out 1).trans rfl;have afp:Gj.cell? ⟨iZ,2,none⟩=some (.int .u8 aZ):=(ah gK.out 2).trans rfl;have afo:Gj.cell? ⟨iZ,3,none⟩=some (.int .u8 fV):=(ah gK.out 3).trans rfl;have afn:Gj.cell? ⟨iZ,4,none⟩=some (.int .i64 gu):=(ah gK.out 4).trans rfl;have adX:=ag gK.out 0;have adW:=ag gK.out 1;have adV:=ag gK.out 2;have adU:=ag gK.out 3;have adT:=ag gK.out 4)|((with_reducible refine bT (f:=36) rfl ?_);refine gp (some 10) rfl rfl Tryd.func36 (by kernel_rfl) rfl #[.int .u8 dC] rfl (by (try simp only [List.map_toArray,List.map_cons,List.map_nil]);first|done|rfl|(simp only [List.length_drop,List.length_take];rfl)) ?_;(with_reducible refine (fG.calls dC t175 t176 _ A2.out).mono ?_);rintro e w' ⟨rfl,⟨nd,rfl⟩⟩;refine ⟨_,rfl,?_⟩;(try (rw [qO Gj];generalize zX:World.drewN Gj _=Gj;have eU:ae (Gj.heap[iZ]? = some (.cells #[.int .u8 dC,.int .u8 aY,.int .u8 aZ,.int .u8 fV,.int .i64 gu] 39 (0,0))):=⟨by rw [← zX];exact (by (with_reducible repeat (first|refine au ?_ _|refine aC ?_|refine ak ?_ _));exact gK.out)⟩;have eQ:ae (Below w.heap.size w Gj):=⟨by rw [← zX];exact (by repeat (first|(with_reducible first|exact HB.out|apply ay|apply ai|apply ax|refine aA ?_ qw.out)|exact HB.out))⟩;clear gK HB zX;have gK:=eU;have HB:=eQ;clear eU eQ;have Ob:Gj.cell? ⟨iZ,0,none⟩=some (.int .u8 dC):=(ah gK.out 0).trans rfl;have Oa:Gj.cell? ⟨iZ,1,none⟩=some (.int .u8 aY):=(ah gK.out 1).trans rfl;have N9:Gj.cell? ⟨iZ,2,none⟩=some (.int .u8 aZ):=(ah gK.out 2).trans rfl;have N8:Gj.cell? ⟨iZ,3,none⟩=some (.int .u8 fV):=(ah gK.out 3).trans rfl;have N7:Gj.cell? ⟨iZ,4,none⟩=some (.int .i64 gu):=(ah gK.out 4).trans rfl)))|((with_reducible refine bT (f:=38) rfl ?_);refine gp (some 17) rfl rfl Tryd.func38 (by kernel_rfl) rfl #[.agg #[.int .u8 dC,.int .u8 aY,.int .u8 aZ,.int .u8 fV,.int .i64 gu]] rfl (by (try simp only [List.map_toArray,List.map_cons,List.map_nil]);first|done|rfl|(simp only [List.length_drop,List.length_take];rfl)) ?_;(with_reducible refine (bg.calls k dC aY aZ fV gu t177 _ ?dR A6.out).mono ?_);(case dR=>repeat (first|exact (Kd.bW Gf.out HB.out)|(with_reducible refine Kd.dA ?_ _)|(with_reducible refine Kd.dL ?_ _)|(with_reducible refine Kd.dW ?_)));rintro e w20 ⟨afP,rfl,ho0,hb⟩;refine ⟨_,rfl,?_⟩;have eU:=ae.mk (Kd.tq ho0 (cu (by repeat (first|(with_reducible first|exact HB.out|apply ay|apply ai|apply ax|refine aA ?_ qw.out)|exact HB.out))));have eQ:=ae.mk (bK (g:=iZ) (o:=.cells #[.int .u8 dC,.int .u8 aY,.int .u8 aZ,.int .u8 fV,.int .i64 gu] 39 (0,0)) (by (with_reducible repeat (first|refine au ?_ _|refine aC ?_|refine ak ?_ _));exact gK.out) hb);have eu:=ae.mk (bz (by repeat (first|(with_reducible first|exact HB.out|apply ay|apply ai|apply ax|refine aA ?_ qw.out)|exact HB.out)) hb);clear gK;clear HB;have oW:=eU;have gK:=eQ;have HB:=eu;clear eU eQ eu;(try clear hb);(try clear hb2);(try clear hk);(try clear hi);(try clear ho0);obtain ⟨ahJ,ahk,ahb⟩:=Kd.sZ oW.out;subst ahb)|((with_reducible refine bT (f:=37) rfl ?_);refine gp (some 18) rfl rfl Tryd.func37 (by kernel_rfl) rfl #[.slice ahJ t177.length ahk] rfl (by (try simp only [List.map_toArray,List.map_cons,List.map_nil]);first|done|rfl|(simp only [List.length_drop,List.length_take];rfl)) ?_;(with_reducible refine (aI.calls k _ _ t177 t180 t181 t182 t183 t184 false _ ?dR ?dU A7.out).mono ?_);(case dR=>repeat (first|exact (Kd.gz oW.out).2.2|(with_reducible refine Kd.dA ?_ _)|(with_reducible refine Kd.dL ?_ _)|(with_reducible refine Kd.dW ?_)));(case dU=>exact (Kd.gz oW.out).2.1);rintro e w22 ⟨rfl,hb⟩;refine ⟨_,rfl,?_⟩;have eU:=ae.mk (Kd.jL (by (with_reducible repeat (first|apply Kd.jA|apply Kd.jy|apply Kd.jZ));exact oW.out) hb);have eQ:=ae.mk (bK (g:=iZ) (o:=.cells #[.int .u8 dC,.int .u8 aY,.int .u8 aZ,.int .u8 fV,.int .i64 gu] 39 (0,0)) (by (with_reducible repeat (first|refine au ?_ _|refine aC ?_|refine ak ?_ _));exact gK.out) hb);have eu:=ae.mk (bz (by repeat (first|(with_reducible first|exact HB.out|apply ay|apply ai|apply ax|refine aA ?_ qw.out)|exact HB.out)) hb);clear oW;clear gK;clear HB;have oW:=eU;have gK:=eQ;have HB:=eu;clear eU eQ eu;(try clear hb);(try clear hb2);(try clear hk);(try clear hi))|((with_reducible refine bI (N:=5) rfl ?_);refine dZ ?hg (N:=5) ?hd (cs:=#[.int .u8 0,.int .u8 0,.int .u8 0,.int .u8 0,.int .i64 0]) (t:=39) ?hr ?_;(case hd=>rfl);(case hg=>rfl);(case hr=>first|(go_simp;done)|(go_simp;rfl));intro qN hg vT hbox hb;have eU:=ae.mk (Kd.jL (by (with_reducible repeat (first|apply Kd.jA|apply Kd.jy|apply Kd.jZ));exact oW.out) hb);have eQ:=ae.mk (bK (g:=iZ) (o:=.cells #[.int .u8 dC,.int .u8 aY,.int .u8 aZ,.int .u8 fV,.int .i64 gu] 39 (0,0)) (by (with_reducible repeat (first|refine au ?_ _|refine aC ?_|refine ak ?_ _));exact gK.out) hb);have eu:=ae.mk (bz (by repeat (first|(with_reducible first|exact HB.out|apply ay|apply ai|apply ax|refine aA ?_ qw.out)|exact HB.out)) hb);have ig:=ae.mk (hbox);have mW:=ae.mk ((by rw [hg];exact (cu (by repeat (first|(with_reducible first|exact HB.out|apply ay|apply ai|apply ax|refine aA ?_ qw.out)|exact HB.out))):w.heap.size≤qN));have mM:=mW;have nD:=ae.mk ((by rw [hg];exact Nat.ne_of_lt (jJ (g:=iZ) (o:=.cells #[.int .u8 dC,.int .u8 aY,.int .u8 aZ,.int .u8 fV,.int .i64 gu] 39 (0,0)) (by (with_reducible repeat (first|refine au ?_ _|refine aC ?_|refine ak ?_ _));exact gK.out)):iZ ≠ qN));have uS:=ae.mk nD.out.symm;clear oW;clear gK;clear HB;have oW:=eU;have gK:=eQ;have HB:=eu;have nU:=ig;have aaN:=mW;have Pj:=mM;have xy:=nD;have xx:=uS;clear eU eQ eu ig mW mM nD uS;clear hb hbox hg;have Zl:=xx.out;have Zb:=xy.out;have Ko:vT.cell? ⟨qN,0,none⟩=some (.int .u8 0):=(ah nU.out 0).trans rfl;have J9:vT.cell? ⟨qN,1,none⟩=some (.int .u8 0):=(ah nU.out 1).trans rfl;have J8:vT.cell? ⟨qN,2,none⟩=some (.int .u8 0):=(ah nU.out 2).trans rfl;have J7:vT.cell? ⟨qN,3,none⟩=some (.int .u8 0):=(ah nU.out 3).trans rfl;have J6:vT.cell? ⟨qN,4,none⟩=some (.int .i64 0):=(ah nU.out 4).trans rfl;have Jq:=ag nU.out 0;have Jp:=ag nU.out 1;have Jo:=ag nU.out 2;have Jn:=ag nU.out 3;have Jm:=ag nU.out 4))
   go_ret
   exact ⟨by first|rfl|(simp [aT,aQ] <;> rfl)|(simp [*,aT,aQ] <;> rfl),by repeat (first|(with_reducible first|exact HB.out|apply ay|apply ai|apply ax|refine aA ?_ qw.out|refine aA ?_ Pj.out)|exact HB.out)⟩
def bF.j0:Nat→Int→Bool→Int→Int→Int→Int→Int→Option (Bool)
 | 0,_,_,_,_,_,_,_=>none
 | k+1,x4,x5,abk,H7,H6,PO,abj=>if x5=true then (some (decide (H7 < 8))) else (if x4=2 then (if H7 < 8 then (if H6 < 8 then (some (decide (PO < 8))) else (some false)) else (some false)) else (if x4=9 then (some (decide (H6 < 8))) else (some true)))
def bF.f (k:Nat) (dC:Int) (aY:Int) (aZ:Int) (fV:Int) (gu:Int):Option (Bool):=if dC=1 then (bF.j0 k dC (dC == 1) dC aY aZ fV gu) else (if dC=4 then (bF.j0 k dC (dC == 4) dC aY aZ fV gu) else (if dC=8 then (bF.j0 k dC (dC == 8) dC aY aZ fV gu) else (if dC=14 then (bF.j0 k dC (dC == 14) dC aY aZ fV gu) else (bF.j0 k dC (dC == 15) dC aY aZ fV gu))))
theorem bF.iq:∀ k,(∀ y0 y1 y2 y3 y4 y5 y6,dN (bF.j0 k y0 y1 y2 y3 y4 y5 y6) (bF.j0 (k+1) y0 y1 y2 y3 y4 y5 y6))
 | 0=>fun _ _ _ _ _ _ _ r h=>by simp [bF.j0] at h
 | k+1=>by
  have kZ:=bF.iq k
  ·
   intro y0 y1 y2 y3 y4 y5 y6
   unfold bF.j0
   repeat' with_reducible first|apply kZ|exact dN.refl _|exact dN.none _|refine dN.ite ?_ ?_|refine dN.bind ?_ (fun _=>?_)
theorem bF.mono:∀ a0 a1 a2 a3 a4 k,dN (bF.f k a0 a1 a2 a3 a4) (bF.f (k+1) a0 a1 a2 a3 a4):=by
 intro a0 a1 a2 a3 a4 k
 have kZ:=bF.iq k
 unfold bF.f
 repeat' with_reducible first|apply kZ|exact dN.refl _|exact dN.none _|refine dN.ite ?_ ?_|refine dN.bind ?_ (fun _=>?_)
set_option maxHeartbeats 8000000 in
set_option maxRecDepth 100000 in
theorem bF.calls (k:Nat) (dC:Int) (aY:Int) (aZ:Int) (fV:Int) (gu:Int) (r:Bool) (w:World) (h:bF.f k dC aY aZ fV gu=some r) :
  Calls Tryd.prog 29 #[.agg #[.int .u8 dC,.int .u8 aY,.int .u8 aZ,.int .u8 fV,.int .i64 gu]] w fun e w'=>e=.returned (.bool r)∧Below w.heap.size w w':=by
 have Ai:=Tryd.underlying39
 have HB:=ae.mk (Below.refl w.heap.size w)
 have H:(if dC=1 then (bF.j0 k dC (dC == 1) dC aY aZ fV gu) else (if dC=4 then (bF.j0 k dC (dC == 4) dC aY aZ fV gu) else (if dC=8 then (bF.j0 k dC (dC == 8) dC aY aZ fV gu) else (if dC=14 then (bF.j0 k dC (dC == 14) dC aY aZ fV gu) else (bF.j0 k dC (dC == 15) dC aY aZ fV gu)))))=some r:=h
 clear h
 have HC2:=ae.mk H
 clear H
 go_enter Tryd.func29,Tryd.ntmps29
 go_upto_if 5 with (first|((with_reducible refine bI (N:=1) rfl ?_);refine dZ ?hg (N:=1) ?hd (cs:=#[.int .u8 dC,.int .u8 aY,.int .u8 aZ,.int .u8 fV,.int .i64 gu]) (t:=39) ?hr ?_;(case hd=>rfl);(case hg=>rfl);(case hr=>first|(go_simp;done)|(go_simp;rfl));intro kN hg w3 hbox hb;have eU:=ae.mk (bz (by repeat (first|(with_reducible first|exact HB.out|apply ay|apply ai|apply ax)|exact HB.out)) hb);have eQ:=ae.mk (hbox);have eu:=ae.mk ((by rw [hg];exact (cu (by repeat (first|(with_reducible first|exact HB.out|apply ay|apply ai|apply ax)|exact HB.out))):w.heap.size≤kN));have ig:=eu;clear HB;have HB:=eU;have iy:=eQ;have ajw:=eu;have uz:=ig;clear eU eQ eu ig;clear hb hbox hg;have Xz:w3.cell? ⟨kN,0,none⟩=some (.int .u8 dC):=(ah iy.out 0).trans rfl;have Xy:w3.cell? ⟨kN,1,none⟩=some (.int .u8 aY):=(ah iy.out 1).trans rfl;have Xx:w3.cell? ⟨kN,2,none⟩=some (.int .u8 aZ):=(ah iy.out 2).trans rfl;have Xw:w3.cell? ⟨kN,3,none⟩=some (.int .u8 fV):=(ah iy.out 3).trans rfl;have Xv:w3.cell? ⟨kN,4,none⟩=some (.int .i64 gu):=(ah iy.out 4).trans rfl;have Xn:=ag iy.out 0;have Xm:=ag iy.out 1;have Xl:=ag iy.out 2;have Xk:=ag iy.out 3;have Xj:=ag iy.out 4))
 (try simp only [Act.put,List.setIfInBounds_toArray,List.set_cons_zero,List.set_cons_succ])
 go_cut [5] (fun v5 wc=>∃ (kq:Nat) (mY:Bool),v5=.bool mY∧ae (bF.j0 kq dC mY dC aY aZ fV gu=some r)∧ae (kq≤k)∧ae (wc.heap[kN]? = some (.cells #[.int .u8 dC,.int .u8 aY,.int .u8 aZ,.int .u8 fV,.int .i64 gu] 39 (0,0)))∧ae (Below w.heap.size w wc))
 case first =>
  have H:=HC2.out
  clear HC2
  by_cases c5:dC=1
  ·
   rw [if_pos c5] at H
   have qB:(dC == 1)=true:=beq_iff_eq.mpr c5
   have Oy:(dC != 1)=false:=bne_eq_false_iff_eq.mpr c5
   clear c5
   (first|rw [qB]|(simp only [bY,bZ];rw [qB])|skip)
   have H':=ae.mk H
   clear H
   go_wp2
   go_meet
   case rel=>exact ⟨_,((dC == 1)),(by first|rfl|(simp;done)|(simp [*];done)),H',⟨by first|omega|exact Nat.le_refl _⟩,⟨by (with_reducible repeat (first|refine au ?_ _|refine aC ?_|refine ak ?_ _));exact iy.out⟩,⟨by repeat (first|(with_reducible first|exact HB.out|apply ay|apply ai|apply ax|refine aA ?_ uz.out)|exact HB.out)⟩⟩
  ·
   rw [if_neg c5] at H
   have qB:(dC == 1)=false:=beq_eq_false_iff_ne.mpr c5
   have Oy:(dC != 1)=true:=bne_iff_ne.mpr c5
   (first|rw [qB]|(simp only [bY,bZ];rw [qB])|skip)
   by_cases c6:dC=4
   ·
    rw [if_pos c6] at H
    have oP:(dC == 4)=true:=beq_iff_eq.mpr c6
    have xw:(dC != 4)=false:=bne_eq_false_iff_eq.mpr c6
    clear c6
    have H':=ae.mk H
    clear H
    go_wp2
    go_meet
    case rel=>exact ⟨_,((dC == 4)),(by first|rfl|(simp;done)|(simp [*];done)),H',⟨by first|omega|exact Nat.le_refl _⟩,⟨by (with_reducible repeat (first|refine au ?_ _|refine aC ?_|refine ak ?_ _));exact iy.out⟩,⟨by repeat (first|(with_reducible first|exact HB.out|apply ay|apply ai|apply ax|refine aA ?_ uz.out)|exact HB.out)⟩⟩
   ·
    rw [if_neg c6] at H
    have oP:(dC == 4)=false:=beq_eq_false_iff_ne.mpr c6
    have xw:(dC != 4)=true:=bne_iff_ne.mpr c6
    by_cases c7:dC=8
    ·
     rw [if_pos c7] at H
     have pJ:(dC == 8)=true:=beq_iff_eq.mpr c7
     have zL:(dC != 8)=false:=bne_eq_false_iff_eq.mpr c7
     clear c7
     have H':=ae.mk H
     clear H
     go_wp2
     go_meet
     case rel=>exact ⟨_,((dC == 8)),(by first|rfl|(simp;done)|(simp [*];done)),H',⟨by first|omega|exact Nat.le_refl _⟩,⟨by (with_reducible repeat (first|refine au ?_ _|refine aC ?_|refine ak ?_ _));exact iy.out⟩,⟨by repeat (first|(with_reducible first|exact HB.out|apply ay|apply ai|apply ax|refine aA ?_ uz.out)|exact HB.out)⟩⟩
    ·
     rw [if_neg c7] at H
     have pJ:(dC == 8)=false:=beq_eq_false_iff_ne.mpr c7
     have zL:(dC != 8)=true:=bne_iff_ne.mpr c7
     by_cases c8:dC=14
     ·
      rw [if_pos c8] at H
      have qU:(dC == 14)=true:=beq_iff_eq.mpr c8
      have Ed:(dC != 14)=false:=bne_eq_false_iff_eq.mpr c8
      clear c8
      have H':=ae.mk H
      clear H
      go_wp2
      go_meet
      case rel=>exact ⟨_,((dC == 14)),(by first|rfl|(simp;done)|(simp [*];done)),H',⟨by first|omega|exact Nat.le_refl _⟩,⟨by (with_reducible repeat (first|refine au ?_ _|refine aC ?_|refine ak ?_ _));exact iy.out⟩,⟨by repeat (first|(with_reducible first|exact HB.out|apply ay|apply ai|apply ax|refine aA ?_ uz.out)|exact HB.out)⟩⟩
     ·
      rw [if_neg c8] at H
      have qU:(dC == 14)=false:=beq_eq_false_iff_ne.mpr c8
      have Ed:(dC != 14)=true:=bne_iff_ne.mpr c8
      have H':=ae.mk H
      clear H
      go_wp2
      go_meet
      case rel=>exact ⟨_,((dC == 15)),(by first|rfl|(simp;done)|(simp [*];done)),H',⟨by first|omega|exact Nat.le_refl _⟩,⟨by (with_reducible repeat (first|refine au ?_ _|refine aC ?_|refine ak ?_ _));exact iy.out⟩,⟨by repeat (first|(with_reducible first|exact HB.out|apply ay|apply ai|apply ax|refine aA ?_ uz.out)|exact HB.out)⟩⟩
 case rest =>
  clear HC2
  obtain ⟨kq,mY,rfl,HA,En,iy,HB⟩:=hcut
  cases kq with
  | zero=>exact absurd HA.out (by simp [bF.j0])
  | succ UN =>
   have H:=HA.out
   clear HA
   simp only [bF.j0] at H
   by_cases c9:mY=true
   ·
    subst c9
    have H1:(some (decide (aY < 8)))=some r:=by rw [if_pos rfl] at H;exact H
    clear H
    have H:=H1
    clear H1
    obtain rfl:=Option.some.inj H
    have yS:wc.cell? ⟨kN,0,none⟩=some (.int .u8 dC):=(ah iy.out 0).trans rfl
    have yR:wc.cell? ⟨kN,1,none⟩=some (.int .u8 aY):=(ah iy.out 1).trans rfl
    have yQ:wc.cell? ⟨kN,2,none⟩=some (.int .u8 aZ):=(ah iy.out 2).trans rfl
    have yP:wc.cell? ⟨kN,3,none⟩=some (.int .u8 fV):=(ah iy.out 3).trans rfl
    have Ue:wc.cell? ⟨kN,4,none⟩=some (.int .i64 gu):=(ah iy.out 4).trans rfl
    have yK:=ag iy.out 0
    have yJ:=ag iy.out 1
    have yI:=ag iy.out 2
    have yH:=ag iy.out 3
    have RJ:=ag iy.out 4
    go_wp2
    go_ret
    exact ⟨by first|rfl|(simp [aT,aQ] <;> rfl)|(simp [*,aT,aQ] <;> rfl),by repeat (first|(with_reducible first|exact HB.out|apply ay|apply ai|apply ax|refine aA ?_ uz.out)|exact HB.out)⟩
   ·
    replace c9:=Bool.eq_false_iff.mpr c9
    subst c9
    have H1:(if dC=2 then (if aY < 8 then (if aZ < 8 then (some (decide (fV < 8))) else (some false)) else (some false)) else (if dC=9 then (some (decide (aZ < 8))) else (some true)))=some r:=by rw [if_neg (show ¬ (false=true) by decide)] at H;exact H
    clear H
    have H:=H1
    clear H1
    by_cases c11:dC=2
    ·
     rw [if_pos c11] at H
     have uo:(dC == 2)=true:=beq_iff_eq.mpr c11
     have Bz:(dC != 2)=false:=bne_eq_false_iff_eq.mpr c11
     clear c11
     by_cases c12:aY < 8
     ·
      rw [if_pos c12] at H
      have um:decide (aY < 8)=true:=decide_eq_true c12
      clear c12
      by_cases c13:aZ < 8
      ·
       rw [if_pos c13] at H
       have pg:decide (aZ < 8)=true:=decide_eq_true c13
       clear c13
       obtain rfl:=Option.some.inj H
       have afx:wc.cell? ⟨kN,0,none⟩=some (.int .u8 dC):=(ah iy.out 0).trans rfl
       have afw:wc.cell? ⟨kN,1,none⟩=some (.int .u8 aY):=(ah iy.out 1).trans rfl
       have afv:wc.cell? ⟨kN,2,none⟩=some (.int .u8 aZ):=(ah iy.out 2).trans rfl
       have afu:wc.cell? ⟨kN,3,none⟩=some (.int .u8 fV):=(ah iy.out 3).trans rfl
       have aft:wc.cell? ⟨kN,4,none⟩=some (.int .i64 gu):=(ah iy.out 4).trans rfl
       have ad5:=ag iy.out 0
       have ad4:=ag iy.out 1
       have ad3:=ag iy.out 2
       have ad1:=ag iy.out 3
       have adZ:=ag iy.out 4
       go_wp2
       go_ret
       exact ⟨by first|rfl|(simp [aT,aQ] <;> rfl)|(simp [*,aT,aQ] <;> rfl),by repeat (first|(with_reducible first|exact HB.out|apply ay|apply ai|apply ax|refine aA ?_ uz.out)|exact HB.out)⟩
      ·
       rw [if_neg c13] at H
       have pg:decide (aZ < 8)=false:=decide_eq_false c13
       clear c13
       obtain rfl:=Option.some.inj H
       have TY:wc.cell? ⟨kN,0,none⟩=some (.int .u8 dC):=(ah iy.out 0).trans rfl
       have TW:wc.cell? ⟨kN,1,none⟩=some (.int .u8 aY):=(ah iy.out 1).trans rfl
       have TV:wc.cell? ⟨kN,2,none⟩=some (.int .u8 aZ):=(ah iy.out 2).trans rfl
       have TU:wc.cell? ⟨kN,3,none⟩=some (.int .u8 fV):=(ah iy.out 3).trans rfl
       have TT:wc.cell? ⟨kN,4,none⟩=some (.int .i64 gu):=(ah iy.out 4).trans rfl
       have Rz:=ag iy.out 0
       have Ry:=ag iy.out 1
       have Rx:=ag iy.out 2
       have Rw:=ag iy.out 3
       have Ru:=ag iy.out 4
       go_wp2
       go_ret
       exact ⟨by first|rfl|(simp [aT,aQ] <;> rfl)|(simp [*,aT,aQ] <;> rfl),by repeat (first|(with_reducible first|exact HB.out|apply ay|apply ai|apply ax|refine aA ?_ uz.out)|exact HB.out)⟩
     ·
      rw [if_neg c12] at H
      have um:decide (aY < 8)=false:=decide_eq_false c12
      clear c12
      obtain rfl:=Option.some.inj H
      have yO:wc.cell? ⟨kN,0,none⟩=some (.int .u8 dC):=(ah iy.out 0).trans rfl
      have yN:wc.cell? ⟨kN,1,none⟩=some (.int .u8 aY):=(ah iy.out 1).trans rfl
      have yM:wc.cell? ⟨kN,2,none⟩=some (.int .u8 aZ):=(ah iy.out 2).trans rfl
      have yL:wc.cell? ⟨kN,3,none⟩=some (.int .u8 fV):=(ah iy.out 3).trans rfl
      have KA:wc.cell? ⟨kN,4,none⟩=some (.int .i64 gu):=(ah iy.out 4).trans rfl
      have yG:=ag iy.out 0
      have yF:=ag iy.out 1
      have yE:=ag iy.out 2
      have yD:=ag iy.out 3
      have JA:=ag iy.out 4
      go_wp2
      go_ret
      exact ⟨by first|rfl|(simp [aT,aQ] <;> rfl)|(simp [*,aT,aQ] <;> rfl),by repeat (first|(with_reducible first|exact HB.out|apply ay|apply ai|apply ax|refine aA ?_ uz.out)|exact HB.out)⟩
    ·
     rw [if_neg c11] at H
     have uo:(dC == 2)=false:=beq_eq_false_iff_ne.mpr c11
     have Bz:(dC != 2)=true:=bne_iff_ne.mpr c11
     by_cases c17:dC=9
     ·
      rw [if_pos c17] at H
      have zO:(dC == 9)=true:=beq_iff_eq.mpr c17
      have FD:(dC != 9)=false:=bne_eq_false_iff_eq.mpr c17
      clear c17
      obtain rfl:=Option.some.inj H
      have TP:wc.cell? ⟨kN,0,none⟩=some (.int .u8 dC):=(ah iy.out 0).trans rfl
      have TN:wc.cell? ⟨kN,1,none⟩=some (.int .u8 aY):=(ah iy.out 1).trans rfl
      have TM:wc.cell? ⟨kN,2,none⟩=some (.int .u8 aZ):=(ah iy.out 2).trans rfl
      have TL:wc.cell? ⟨kN,3,none⟩=some (.int .u8 fV):=(ah iy.out 3).trans rfl
      have afs:wc.cell? ⟨kN,4,none⟩=some (.int .i64 gu):=(ah iy.out 4).trans rfl
      have Rq:=ag iy.out 0
      have Ro:=ag iy.out 1
      have Rn:=ag iy.out 2
      have Rl:=ag iy.out 3
      have adY:=ag iy.out 4
      go_wp2
      go_ret
      exact ⟨by first|rfl|(simp [aT,aQ] <;> rfl)|(simp [*,aT,aQ] <;> rfl),by repeat (first|(with_reducible first|exact HB.out|apply ay|apply ai|apply ax|refine aA ?_ uz.out)|exact HB.out)⟩
     ·
      rw [if_neg c17] at H
      have zO:(dC == 9)=false:=beq_eq_false_iff_ne.mpr c17
      have FD:(dC != 9)=true:=bne_iff_ne.mpr c17
      obtain rfl:=Option.some.inj H
      go_wp2
      go_ret
      exact ⟨by first|rfl|(simp [aT,aQ] <;> rfl)|(simp [*,aT,aQ] <;> rfl),by repeat (first|(with_reducible first|exact HB.out|apply ay|apply ai|apply ax|refine aA ?_ uz.out)|exact HB.out)⟩
def fJ.f (k:Nat) (l0:List ByteArray) (a1:ByteArray) (a2:Int):Option (Int):=if (wrap64 (a2)) ≥ (a1.size:Int) then (some (-1)) else (if 0≤(wrap64 (a2)) then (if (wrap64 (a2))≤(wrap64 ((wrap64 (a2))+1)) then (if (wrap64 ((wrap64 (a2))+1))≤(a1.size:Int) then ((aW.f k l0 (a1.extract ((wrap64 (a2)):Int).toNat ((wrap64 ((wrap64 (a2))+1)):Int).toNat)).bind fun t188=>(if t188=true then (if 0≤a2 then (if a2 < (a1.size:Int) then (some (((bt a1 a2) - 48) % 256)) else (none)) else (none)) else (some (-1)))) else (none)) else (none)) else (none))
theorem fJ.mono:∀ a0 a1 a2 k,dN (fJ.f k a0 a1 a2) (fJ.f (k+1) a0 a1 a2):=by
 intro a0 a1 a2 k
 unfold fJ.f
 repeat' with_reducible first|apply aW.mono|exact dN.refl _|exact dN.none _|refine dN.ite ?_ ?_|refine dN.bind ?_ (fun _=>?_)
set_option maxHeartbeats 8000000 in
set_option maxRecDepth 100000 in
theorem fJ.calls (k:Nat) (A0:Option Addr) (c0:Nat) (l0:List ByteArray) (a1:ByteArray) (a2:Int) (r:Int) (w:World) (hr0:Kd.C Kd.string w A0 l0.length l0) (hc0:l0.length≤c0) (h:fJ.f k l0 a1 a2=some r) :
  Calls Tryd.prog 23 #[.slice A0 l0.length c0,.string a1,.int .u8 a2] w fun e w'=>e=.returned (.int .i64 r)∧aV w w':=by
 have HR0:=ae.mk hr0
 have vS:=ae.mk hc0
 clear hr0 hc0
 have H:(if (wrap64 (a2)) ≥ (a1.size:Int) then (some (-1)) else (if 0≤(wrap64 (a2)) then (if (wrap64 (a2))≤(wrap64 ((wrap64 (a2))+1)) then (if (wrap64 ((wrap64 (a2))+1))≤(a1.size:Int) then ((aW.f k l0 (a1.extract ((wrap64 (a2)):Int).toNat ((wrap64 ((wrap64 (a2))+1)):Int).toNat)).bind fun t188=>(if t188=true then (if 0≤a2 then (if a2 < (a1.size:Int) then (some (((bt a1 a2) - 48) % 256)) else (none)) else (none)) else (some (-1)))) else (none)) else (none)) else (none)))=some r:=h
 clear h
 by_cases c4:(wrap64 (a2)) ≥ (a1.size:Int)
 ·
  rw [if_pos c4] at H
  have oG:decide ((a1.size:Int)≤(wrap64 (a2)))=true:=decide_eq_true c4
  clear c4
  obtain rfl:=Option.some.inj H
  go_enter Tryd.func23,Tryd.ntmps23
  go_wp2
  go_ret
  exact ⟨by first|rfl|(simp;done)|(simp [*];done),by repeat (first|exact aV.refl _|apply aV.step)⟩
 ·
  rw [if_neg c4] at H
  have oG:decide ((a1.size:Int)≤(wrap64 (a2)))=false:=decide_eq_false c4
  clear c4
  obtain ⟨sW,xn⟩:∃ j_:Int,(wrap64 (a2))=j_:=⟨_,rfl⟩
  replace H:(if 0≤(sW) then (if (sW)≤(wrap64 ((sW)+1)) then (if (wrap64 ((sW)+1))≤(a1.size:Int) then ((aW.f k l0 (a1.extract ((sW):Int).toNat ((wrap64 ((sW)+1)):Int).toNat)).bind fun t188=>(if t188=true then (if 0≤a2 then (if a2 < (a1.size:Int) then (some (((bt a1 a2) - 48) % 256)) else (none)) else (none)) else (some (-1)))) else (none)) else (none)) else (none))=some r:=by first|(rw [xn] at H;exact H)|(simp only [xn] at H ⊢;exact H)
  (try rw [xn] at oG)
  have Zq:(IntKind.i64.wrap (a2))=sW:=(bY _).trans xn
  by_cases c6:0≤(sW)
  ·
   rw [if_pos c6] at H
   have oP:=eq_true c6
   have xw:decide (0≤(sW))=true:=decide_eq_true c6
   clear c6
   by_cases c7:(sW)≤(wrap64 ((sW)+1))
   ·
    rw [if_pos c7] at H
    have pJ:=eq_true c7
    have zL:decide ((sW)≤(wrap64 ((sW)+1)))=true:=decide_eq_true c7
    by_cases c8:(wrap64 ((sW)+1))≤(a1.size:Int)
    ·
     rw [if_pos c8] at H
     have qU:=eq_true c8
     have Ed:decide ((wrap64 ((sW)+1))≤(a1.size:Int))=true:=decide_eq_true c8
     replace H:=Option.bind_eq_some_iff.mp H
     obtain ⟨t188,KR,H⟩:=H
     replace H:(if t188=true then (if 0≤a2 then (if a2 < (a1.size:Int) then (some (((bt a1 a2) - 48) % 256)) else (none)) else (none)) else (some (-1)))=some r:=H
     have A9:=ae.mk KR
     clear KR
     by_cases c10:t188=true
     ·
      subst c10
      have H1:(if 0≤a2 then (if a2 < (a1.size:Int) then (some (((bt a1 a2) - 48) % 256)) else (none)) else (none))=some r:=by rw [if_pos rfl] at H;exact H
      clear H
      have H:=H1
      clear H1
      by_cases c11:0≤a2
      ·
       rw [if_pos c11] at H
       have uo:decide (0≤a2)=true:=decide_eq_true c11
       clear c11
       by_cases c12:a2 < (a1.size:Int)
       ·
        rw [if_pos c12] at H
        have um:decide (a2 < (a1.size:Int))=true:=decide_eq_true c12
        clear c12
        obtain rfl:=Option.some.inj H
        go_enter Tryd.func23,Tryd.ntmps23
        go_wp2_with (first|(go_at_call 27;(with_reducible refine (aW.calls k _ _ l0 (a1.extract ((sW):Int).toNat ((wrap64 ((sW)+1)):Int).toNat) true _ ?dR ?dU A9.out).mono ?_);(case dR=>repeat (first|exact HR0.out|(with_reducible refine Kd.dA ?_ _)|(with_reducible refine Kd.dL ?_ _)|(with_reducible refine Kd.dW ?_)));(case dU=>exact vS.out);rintro e w' ⟨rfl,⟨nd,rfl⟩⟩;have p13:0≤(a2:Int):=of_decide_eq_true (by first|(with_reducible assumption)|assumption);have q13:a2 < (a1.size:Int):=of_decide_eq_true (by first|(with_reducible assumption)|assumption);have Qi:=kP a1 a2;replace p13:=eq_true p13;replace q13:=eq_true q13))
        go_ret
        exact ⟨by first|rfl|(simp;done)|(simp only [← xn] <;> (first|rfl|simp))|(simp [*];done),by repeat (first|exact aV.refl _|apply aV.step)⟩
       ·
        rw [if_neg c12] at H
        exact absurd H (by simp)
      ·
       rw [if_neg c11] at H
       exact absurd H (by simp)
     ·
      replace c10:=Bool.eq_false_iff.mpr c10
      subst c10
      have H1:(some (-1))=some r:=by rw [if_neg (show ¬ (false=true) by decide)] at H;exact H
      clear H
      have H:=H1
      clear H1
      obtain rfl:=Option.some.inj H
      go_enter Tryd.func23,Tryd.ntmps23
      go_wp2_with (first|(go_at_call 27;(with_reducible refine (aW.calls k _ _ l0 (a1.extract ((sW):Int).toNat ((wrap64 ((sW)+1)):Int).toNat) false _ ?dR ?dU A9.out).mono ?_);(case dR=>repeat (first|exact HR0.out|(with_reducible refine Kd.dA ?_ _)|(with_reducible refine Kd.dL ?_ _)|(with_reducible refine Kd.dW ?_)));(case dU=>exact vS.out);rintro e w' ⟨rfl,⟨nd,rfl⟩⟩))
      go_ret
      exact ⟨by first|rfl|(simp;done)|(simp only [← xn] <;> (first|rfl|simp))|(simp [*];done),by repeat (first|exact aV.refl _|apply aV.step)⟩
    ·
     rw [if_neg c8] at H
     exact absurd H (by simp)
   ·
    rw [if_neg c7] at H
    exact absurd H (by simp)
  ·
   rw [if_neg c6] at H
   exact absurd H (by simp)
def bM.f (k:Nat) (bC:List ByteArray) (aY:ByteArray) (aZ:ByteArray) (aJ:List (iG)) (a1:Int):Option (Int):=(fJ.f k bC aY a1).bind fun t190=>(some t190)
theorem bM.mono:∀ a0 a1 a2 a3 a4 k,dN (bM.f k a0 a1 a2 a3 a4) (bM.f (k+1) a0 a1 a2 a3 a4):=by
 intro a0 a1 a2 a3 a4 k
 unfold bM.f
 repeat' with_reducible first|apply fJ.mono|exact dN.refl _|exact dN.none _|refine dN.ite ?_ ?_|refine dN.bind ?_ (fun _=>?_)
set_option maxHeartbeats 8000000 in
set_option maxRecDepth 100000 in
theorem bM.calls (k:Nat) (eP:Option Addr) (eH:Nat) (bC:List ByteArray) (aY:ByteArray) (aZ:ByteArray) (gy:Option Addr) (fB:Nat) (aJ:List (iG)) (a1:Int) (r:Int) (w:World) (jV:Kd.C Kd.string w eP bC.length bC) (jX:bC.length≤eH) (jU:Kd.C k39 w gy aJ.length aJ) (jW:aJ.length≤fB) (h:bM.f k bC aY aZ aJ a1=some r) :
  Calls Tryd.prog 15 #[.agg #[.slice eP bC.length eH,.string aY,.string aZ,.slice gy aJ.length fB],.int .u8 a1] w fun e w'=>e=.returned (.int .i64 r)∧Below w.heap.size w w':=by
 have yj:=Tryd.underlying25
 have ji:=ae.mk jV
 have jr:=ae.mk jX
 clear jV jX
 have jR:=ae.mk jU
 have lD:=ae.mk jW
 clear jU jW
 have HB:=ae.mk (Below.refl w.heap.size w)
 have H:((fJ.f k bC aY a1).bind fun t190=>(some t190))=some r:=h
 clear h
 replace H:=Option.bind_eq_some_iff.mp H
 obtain ⟨t190,wW,H⟩:=H
 replace H:(some t190)=some r:=H
 have A3:=ae.mk wW
 clear wW
 obtain rfl:=Option.some.inj H
 go_enter Tryd.func15,Tryd.ntmps15
 go_wp2_with (first|((with_reducible refine bI (N:=2) rfl ?_);refine dZ ?hg (N:=2) ?hd (cs:=#[.slice eP bC.length eH,.string aY,.string aZ,.slice gy aJ.length fB]) (t:=25) ?hr ?_;(case hd=>rfl);(case hg=>rfl);(case hr=>first|(go_simp;done)|(go_simp;rfl));intro E8 hg w4 hbox hb;have eU:=ae.mk (bz (by repeat (first|(with_reducible first|exact HB.out|apply ay|apply ai|apply ax)|exact HB.out)) hb);have eQ:=ae.mk (hbox);have eu:=ae.mk ((by rw [hg];exact (cu (by repeat (first|(with_reducible first|exact HB.out|apply ay|apply ai|apply ax)|exact HB.out))):w.heap.size≤E8));have ig:=eu;clear HB;have HB:=eU;have xY:=eQ;have ajv:=eu;have aaR:=ig;clear eU eQ eu ig;clear hb hbox hg;have zH:w4.cell? ⟨E8,0,none⟩=some (.slice eP bC.length eH):=(ah xY.out 0).trans rfl;have zG:w4.cell? ⟨E8,1,none⟩=some (.string aY):=(ah xY.out 1).trans rfl;have zF:w4.cell? ⟨E8,2,none⟩=some (.string aZ):=(ah xY.out 2).trans rfl;have zD:w4.cell? ⟨E8,3,none⟩=some (.slice gy aJ.length fB):=(ah xY.out 3).trans rfl;have zC:=ag xY.out 0;have zB:=ag xY.out 1;have zA:=ag xY.out 2;have zy:=ag xY.out 3)|((with_reducible refine bT (f:=23) rfl ?_);refine gp (some 10) rfl rfl Tryd.func23 (by kernel_rfl) rfl #[.slice eP bC.length eH,.string aY,.int .u8 a1] rfl (by (try simp only [List.map_toArray,List.map_cons,List.map_nil]);first|done|rfl|(simp only [List.length_drop,List.length_take];rfl)) ?_;(with_reducible refine (fJ.calls k _ _ bC aY a1 t190 _ ?dR ?dU A3.out).mono ?_);(case dR=>repeat (first|exact (Kd.bW ji.out HB.out)|(with_reducible refine Kd.dA ?_ _)|(with_reducible refine Kd.dL ?_ _)|(with_reducible refine Kd.dW ?_)));(case dU=>exact jr.out);rintro e w' ⟨rfl,⟨nd,rfl⟩⟩;refine ⟨_,rfl,?_⟩))
 go_ret
 exact ⟨by first|rfl|(simp [aT,aQ] <;> rfl)|(simp [*,aT,aQ] <;> rfl),by repeat (first|(with_reducible first|exact HB.out|apply ay|apply ai|apply ax|refine aA ?_ aaR.out)|exact HB.out)⟩
def dh.f (a0:Int) (a1:Int):Option (Bool):=if a0 ≥ 0 then (some (a0 == a1)) else (some false)
set_option maxHeartbeats 8000000 in
set_option maxRecDepth 100000 in
theorem dh.calls (a0:Int) (a1:Int) (r:Bool) (w:World) (h:dh.f a0 a1=some r) :
  Calls Tryd.prog 39 #[.int .i64 a0,.int .i64 a1] w fun e w'=>e=.returned (.bool r)∧aV w w':=by
 have H:(if a0 ≥ 0 then (some (a0 == a1)) else (some false))=some r:=h
 clear h
 by_cases c3:a0 ≥ 0
 ·
  rw [if_pos c3] at H
  have oQ:decide (0≤a0)=true:=decide_eq_true c3
  clear c3
  obtain rfl:=Option.some.inj H
  go_enter Tryd.func39,Tryd.ntmps39
  go_wp2
  go_ret
  exact ⟨by first|rfl|(simp;done)|(simp [*];done),by repeat (first|exact aV.refl _|apply aV.step)⟩
 ·
  rw [if_neg c3] at H
  have oQ:decide (0≤a0)=false:=decide_eq_false c3
  clear c3
  obtain rfl:=Option.some.inj H
  go_enter Tryd.func39,Tryd.ntmps39
  go_wp2
  go_ret
  exact ⟨by first|rfl|(simp;done)|(simp [*];done),by repeat (first|exact aV.refl _|apply aV.step)⟩
end Go.Proofs.YtbmhmlgfpijmhaaDoor.P
end
