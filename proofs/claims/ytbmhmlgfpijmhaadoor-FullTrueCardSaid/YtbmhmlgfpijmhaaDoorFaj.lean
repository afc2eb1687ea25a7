/- Parts of the proof of FullTrue: what the functions that it reaches compute, and plain facts about that. -/
import Derived.Test.YtbmhmlgfpijmhaaDoorFab
import Derived.Test.YtbmhmlgfpijmhaaDoorFah
import Derived.Test.YtbmhmlgfpijmhaaDoorFai
set_option linter.unusedVariables false
set_option linter.unusedSimpArgs false
section
namespace Go.Proofs.YtbmhmlgfpijmhaaDoor.P
open Go.RowKit Go.Proofs.af.bG Go.Proofs.af.dD Go.Proofs.af.dM
attribute [local go_sem] kF kD lK lJ jH jG kE kC
def aX.j0:Nat→Int→Int→Int→Bool→List ByteArray→ByteArray→ByteArray→List (iG)→Int→Int→Int→Int→Int→Option (Bool)
 | 0,_,_,_,_,_,_,_,_,_,_,_,_,_=>none
 | k+1,x5,x6,x16,x17,sQ,sO,sN,sK,abh,PN,PM,PL,yu=>if x17=true then (some (decide (x5 ≥ 0))) else (if x16=7 then ((dh.f x5 x6).bind fun t209=>(some t209)) else (if x16=15 then ((bM.f k sQ sO sN sK PL).bind fun t210=>((dh.f x6 t210).bind fun t211=>(some t211))) else (if x16=8 then (if x6 ≥ 0 then ((fE.f k sQ sO sN sK x6 yu).bind fun t212=>(some t212)) else (some false)) else (if x16=9 then (if x5 ≥ 0 then ((fE.f k sQ sO sN sK x5 yu).bind fun t213=>(some t213)) else (some false)) else (if x16=10 then (if x6 ≥ 0 then ((gm.f k sQ sO sN sK x6 yu).bind fun t214=>((dh.f x5 t214).bind fun t215=>(some t215))) else (some false)) else (if x16=11 then (if x5 ≥ 0 then ((gm.f k sQ sO sN sK x5 yu).bind fun t216=>((dh.f x6 t216).bind fun t217=>(some t217))) else (some false)) else (if x16=12 then ((fK.f k sQ sO sN sK PM).bind fun t218=>((dh.f x5 t218).bind fun t219=>(some t219))) else (if x16=13 then ((fK.f k sQ sO sN sK PN).bind fun t220=>((dh.f x6 t220).bind fun t221=>(some t221))) else (some true)))))))))
def aX.f (k:Nat) (bC:List ByteArray) (aY:ByteArray) (aZ:ByteArray) (aJ:List (iG)) (gX:Int) (l9:Int) (lU:Int) (ny:Int) (lT:Int):Option (Bool):=(bM.f k bC aY aZ aJ l9).bind fun t207=>((bM.f k bC aY aZ aJ lU).bind fun t208=>(if gX=5 then (aX.j0 k t207 t208 gX (gX == 5) bC aY aZ aJ gX l9 lU ny lT) else (aX.j0 k t207 t208 gX (gX == 6) bC aY aZ aJ gX l9 lU ny lT)))
theorem aX.iq:∀ k,(∀ y0 y1 y2 y3 y4 y5 y6 y7 y8 y9 su vg uZ,dN (aX.j0 k y0 y1 y2 y3 y4 y5 y6 y7 y8 y9 su vg uZ) (aX.j0 (k+1) y0 y1 y2 y3 y4 y5 y6 y7 y8 y9 su vg uZ))
 | 0=>fun _ _ _ _ _ _ _ _ _ _ _ _ _ r h=>by simp [aX.j0] at h
 | k+1=>by
  have kZ:=aX.iq k
  ·
   intro y0 y1 y2 y3 y4 y5 y6 y7 y8 y9 su vg uZ
   unfold aX.j0
   repeat' with_reducible first|apply kZ|apply fK.mono|apply bM.mono|apply fE.mono|apply gm.mono|exact dN.refl _|exact dN.none _|refine dN.ite ?_ ?_|refine dN.bind ?_ (fun _=>?_)
theorem aX.mono:∀ a0 a1 a2 a3 a4 a5 a6 a7 a8 k,dN (aX.f k a0 a1 a2 a3 a4 a5 a6 a7 a8) (aX.f (k+1) a0 a1 a2 a3 a4 a5 a6 a7 a8):=by
 intro a0 a1 a2 a3 a4 a5 a6 a7 a8 k
 have kZ:=aX.iq k
 unfold aX.f
 repeat' with_reducible first|apply kZ|apply fK.mono|apply bM.mono|apply fE.mono|apply gm.mono|exact dN.refl _|exact dN.none _|refine dN.ite ?_ ?_|refine dN.bind ?_ (fun _=>?_)
def aX.T1:Bool × List (List Nat × List Nat):=(true,[([],[]),([],[]),([1],[1]),([0,2],[0,2]),([],[]),([],[]),([5],[5]),([4,6,3],[4,6]),([3,7,0,1,2,3],[3]),([7,8,0,1,2,3,4,5,6,7,8],[7])])
def aX.B1:List Nat:=[0,0,2,7,0,0,32,127,255,511]
theorem aX.afR:pG .any (opsOf Tryd.f30 1)=aX.T1:=by kernel_rfl
theorem aX.aap:pW aX.T1.2 aX.B1=true:=by kernel_rfl
set_option maxHeartbeats 8000000 in
set_option maxRecDepth 100000 in
theorem aX.calls (k:Nat) (eP:Option Addr) (eH:Nat) (bC:List ByteArray) (aY:ByteArray) (aZ:ByteArray) (gy:Option Addr) (fB:Nat) (aJ:List (iG)) (gX:Int) (l9:Int) (lU:Int) (ny:Int) (lT:Int) (r:Bool) (w:World) (jV:Kd.C Kd.string w eP bC.length bC) (jX:bC.length≤eH) (jU:Kd.C k39 w gy aJ.length aJ) (jW:aJ.length≤fB) (h:aX.f k bC aY aZ aJ gX l9 lU ny lT=some r) :
  Calls Tryd.prog 30 #[.agg #[.slice eP bC.length eH,.string aY,.string aZ,.slice gy aJ.length fB],.agg #[.int .u8 gX,.int .u8 l9,.int .u8 lU,.int .u8 ny,.int .i64 lT]] w fun e w'=>e=.returned (.bool r)∧Below w.heap.size w w':=by
 have yj:=Tryd.underlying25
 have Ai:=Tryd.underlying39
 have ji:=ae.mk jV
 have jr:=ae.mk jX
 clear jV jX
 have jR:=ae.mk jU
 have lD:=ae.mk jW
 clear jU jW
 have HB:=ae.mk (Below.refl w.heap.size w)
 have H:((bM.f k bC aY aZ aJ l9).bind fun t207=>((bM.f k bC aY aZ aJ lU).bind fun t208=>(if gX=5 then (aX.j0 k t207 t208 gX (gX == 5) bC aY aZ aJ gX l9 lU ny lT) else (aX.j0 k t207 t208 gX (gX == 6) bC aY aZ aJ gX l9 lU ny lT))))=some r:=h
 clear h
 replace H:=Option.bind_eq_some_iff.mp H
 obtain ⟨t207,wW,H⟩:=H
 replace H:((bM.f k bC aY aZ aJ lU).bind fun t208=>(if gX=5 then (aX.j0 k t207 t208 gX (gX == 5) bC aY aZ aJ gX l9 lU ny lT) else (aX.j0 k t207 t208 gX (gX == 6) bC aY aZ aJ gX l9 lU ny lT)))=some r:=H
 have A3:=ae.mk wW
 clear wW
 replace H:=Option.bind_eq_some_iff.mp H
 obtain ⟨t208,Md,H⟩:=H
 replace H:(if gX=5 then (aX.j0 k t207 t208 gX (gX == 5) bC aY aZ aJ gX l9 lU ny lT) else (aX.j0 k t207 t208 gX (gX == 6) bC aY aZ aJ gX l9 lU ny lT))=some r:=H
 have A4:=ae.mk Md
 clear Md
 have O8:=ae.mk H
 clear H
 go_enter Tryd.func30,Tryd.ntmps30
 try go_wp2_with (first|((with_reducible refine bI (N:=2) rfl ?_);refine dZ ?hg (N:=2) ?hd (cs:=#[.slice eP bC.length eH,.string aY,.string aZ,.slice gy aJ.length fB]) (t:=25) ?hr ?_;(case hd=>rfl);(case hg=>rfl);(case hr=>first|(go_simp;done)|(go_simp;rfl));intro ja hg w6 hbox hb;have eU:=ae.mk (bz (by repeat (first|(with_reducible first|exact HB.out|apply ay|apply ai|apply ax)|exact HB.out)) hb);have eQ:=ae.mk (hbox);have eu:=ae.mk ((by rw [hg];exact (cu (by repeat (first|(with_reducible first|exact HB.out|apply ay|apply ai|apply ax)|exact HB.out))):w.heap.size≤ja));have ig:=eu;clear HB;have HB:=eU;have fD:=eQ;have ajt:=eu;have lQ:=ig;clear eU eQ eu ig;clear hb hbox hg)|((with_reducible refine bI (N:=3) rfl ?_);refine dZ ?hg (N:=3) ?hd (cs:=#[.int .u8 gX,.int .u8 l9,.int .u8 lU,.int .u8 ny,.int .i64 lT]) (t:=39) ?hr ?_;(case hd=>rfl);(case hg=>rfl);(case hr=>first|(go_simp;done)|(go_simp;rfl));intro iK hg w7 hbox hb;have eU:=ae.mk (bK (g:=ja) (o:=.cells #[.slice eP bC.length eH,.string aY,.string aZ,.slice gy aJ.length fB] 25 (0,0)) (by (with_reducible repeat (first|refine au ?_ _|refine aC ?_|refine ak ?_ _));exact fD.out) hb);have eQ:=ae.mk (bz (by repeat (first|(with_reducible first|exact HB.out|apply ay|apply ai|apply ax|refine aA ?_ lQ.out)|exact HB.out)) hb);have eu:=ae.mk (hbox);have ig:=ae.mk ((by rw [hg];exact (cu (by repeat (first|(with_reducible first|exact HB.out|apply ay|apply ai|apply ax|refine aA ?_ lQ.out)|exact HB.out))):w.heap.size≤iK));have mW:=ig;have mM:=ae.mk ((by rw [hg];exact Nat.ne_of_lt (jJ (g:=ja) (o:=.cells #[.slice eP bC.length eH,.string aY,.string aZ,.slice gy aJ.length fB] 25 (0,0)) (by (with_reducible repeat (first|refine au ?_ _|refine aC ?_|refine ak ?_ _));exact fD.out)):ja ≠ iK));have nD:=ae.mk mM.out.symm;clear fD;clear HB;have fD:=eU;have HB:=eQ;have dQ:=eu;have ajs:=ig;have mr:=mW;have oh:=mM;have og:=nD;clear eU eQ eu ig mW mM nD;clear hb hbox hg))
 have eU:=ae.mk (aC fD.out)
 have eQ:=ae.mk (aC dQ.out)
 have eu:=ae.mk (ax HB.out)
 clear fD
 clear dQ
 clear HB
 have fD:=eU
 have dQ:=eQ
 have HB:=eu
 clear eU eQ eu
 refine qy (n:=10) (S:=fun w'=>w'.cell? ⟨ja,0,none⟩=some (.slice eP bC.length eH)∧w'.cell? ⟨ja,1,none⟩=some (.string aY)∧w'.cell? ⟨ja,2,none⟩=some (.string aZ)∧w'.cell? ⟨ja,3,none⟩=some (.slice gy aJ.length fB)∧w'.cell? ⟨iK,0,none⟩=some (.int .u8 gX)∧w'.cell? ⟨iK,1,none⟩=some (.int .u8 l9)∧w'.cell? ⟨iK,2,none⟩=some (.int .u8 lU)∧w'.cell? ⟨iK,3,none⟩=some (.int .u8 ny)∧w'.cell? ⟨iK,4,none⟩=some (.int .i64 lT)) (ds:=[]) #[false,false,false,false,false,false,false,false,false,false] (by kernel_rfl) rfl rfl ⟨(ah fD.out 0).trans rfl,(ah fD.out 1).trans rfl,(ah fD.out 2).trans rfl,(ah fD.out 3).trans rfl,(ah dQ.out 0).trans rfl,(ah dQ.out 1).trans rfl,(ah dQ.out 2).trans rfl,(ah dQ.out 3).trans rfl,(ah dQ.out 4).trans rfl⟩ (fun hHeld=>?_);refine mF aX.afR aX.aap (fun jh tN=>?_)
 generalize w7.drew=w8 at fD dQ HB hHeld ⊢
 refine iC (i:=1) (N:=some 8) (v:=?_) (a':=?_) #[false,true,false,false,false,false,false,false,false,false] rfl rfl (gq jh.out (by kernel_rfl)) (fun _ _ _ h=>h) (Or.inl ⟨by rfl,?_⟩) ?_ ?_
 rotate_left
 ·
  intro w'
  go_simp
  with_reducible rfl
 rotate_left
 ·
  simp only [Act.put,List.setIfInBounds_toArray,List.set_cons_zero,List.set_cons_succ,bY,bZ]
  rfl
 refine iC (i:=5) (N:=some 12) (v:=?_) (a':=?_) #[false,true,false,false,false,true,false,false,false,false] rfl rfl (gq jh.out (by kernel_rfl)) (fun _ _ _ h=>h) (Or.inl ⟨by rfl,?_⟩) ?_ ?_
 rotate_left
 ·
  intro w'
  go_simp
  with_reducible rfl
 rotate_left
 ·
  simp only [Act.put,List.setIfInBounds_toArray,List.set_cons_zero,List.set_cons_succ,bY,bZ]
  rfl
 refine kM (i:=0) (N:=some 7) (v:=?_) (a':=?_) #[true,true,false,false,false,true,false,false,false,false] rfl rfl (iO jh.out tN.out (by kernel_rfl)) (fun _ _ _ h=>h) (Or.inl ⟨by rfl,?_⟩) hHeld ?_ ?_
 rotate_left
 ·
  rintro w' ⟨s0,s1,s2,s3,s4,s5,s6,s7,s8⟩
  go_simp
  with_reducible rfl
 rotate_left
 ·
  simp only [Act.put,List.setIfInBounds_toArray,List.set_cons_zero,List.set_cons_succ,bY,bZ]
  rfl
 refine kM (i:=2) (N:=some 9) (v:=?_) (a':=?_) #[true,true,true,false,false,true,false,false,false,false] rfl rfl (iO jh.out tN.out (by kernel_rfl)) (fun _ _ _ h=>h) (Or.inl ⟨by rfl,?_⟩) hHeld ?_ ?_
 rotate_left
 ·
  rintro w' ⟨s0,s1,s2,s3,s4,s5,s6,s7,s8⟩
  go_simp
  with_reducible rfl
 rotate_left
 ·
  simp only [Act.put,List.setIfInBounds_toArray,List.set_cons_zero,List.set_cons_succ,bY,bZ]
  rfl
 refine kM (i:=4) (N:=some 11) (v:=?_) (a':=?_) #[true,true,true,false,true,true,false,false,false,false] rfl rfl (iO jh.out tN.out (by kernel_rfl)) (fun _ _ _ h=>h) (Or.inl ⟨by rfl,?_⟩) hHeld ?_ ?_
 rotate_left
 ·
  rintro w' ⟨s0,s1,s2,s3,s4,s5,s6,s7,s8⟩
  go_simp
  with_reducible rfl
 rotate_left
 ·
  simp only [Act.put,List.setIfInBounds_toArray,List.set_cons_zero,List.set_cons_succ,bY,bZ]
  rfl
 refine kM (i:=6) (N:=some 13) (v:=?_) (a':=?_) #[true,true,true,false,true,true,true,false,false,false] rfl rfl (iO jh.out tN.out (by kernel_rfl)) (fun _ _ _ h=>h) (Or.inl ⟨by rfl,?_⟩) hHeld ?_ ?_
 rotate_left
 ·
  rintro w' ⟨s0,s1,s2,s3,s4,s5,s6,s7,s8⟩
  go_simp
  with_reducible rfl
 rotate_left
 ·
  simp only [Act.put,List.setIfInBounds_toArray,List.set_cons_zero,List.set_cons_succ,bY,bZ]
  rfl
 refine oD (i:=3) (N:=some 10) #[true,true,true,true,true,true,true,false,false,false] rfl rfl (kG jh.out (by kernel_rfl)) (by decide) (fun K hK=>?_)
 refine nR Tryd.func15 (by kernel_rfl) rfl #[.agg #[.slice eP bC.length eH,.string aY,.string aZ,.slice gy aJ.length fB],.int .u8 l9] (by rfl) rfl rfl (by (try simp only [List.map_toArray,List.map_cons,List.map_nil]);first|done|rfl|(simp only [List.length_drop,List.length_take];rfl)) ?_
 with_reducible refine (bM.calls k _ _ bC aY aZ _ _ aJ l9 t207 _ ?dR ?dU ?jq ?jo A3.out).mono ?_
 (case dR=>repeat (first|exact (Kd.bW ji.out HB.out)|(with_reducible refine Kd.dA ?_ _)|(with_reducible refine Kd.dL ?_ _)|(with_reducible refine Kd.dW ?_)))
 (case dU=>exact jr.out)
 (case jq=>repeat (first|exact (Kd.bW jR.out HB.out)|(with_reducible refine Kd.dA ?_ _)|(with_reducible refine Kd.dL ?_ _)|(with_reducible refine Kd.dW ?_)))
 (case jo=>exact lD.out)
 rintro e w9 ⟨rfl,hb⟩
 refine ⟨_,rfl,?_⟩
 have eU:=ae.mk (bK (g:=ja) (o:=.cells #[.slice eP bC.length eH,.string aY,.string aZ,.slice gy aJ.length fB] 25 (0,0)) (by (with_reducible repeat (first|refine au ?_ _|refine aC ?_|refine ak ?_ _));exact fD.out) hb)
 have eQ:=ae.mk (bK (g:=iK) (o:=.cells #[.int .u8 gX,.int .u8 l9,.int .u8 lU,.int .u8 ny,.int .i64 lT] 39 (0,0)) (by (with_reducible repeat (first|refine au ?_ _|refine aC ?_|refine ak ?_ _));exact dQ.out) hb)
 have eu:=ae.mk (bz (by repeat (first|(with_reducible first|exact HB.out|apply ay|apply ai|apply ax|refine aA ?_ lQ.out|refine aA ?_ mr.out)|exact HB.out)) hb)
 clear fD
 clear dQ
 clear HB
 have fD:=eU
 have dQ:=eQ
 have HB:=eu
 clear eU eQ eu
 (try clear hb)
 (try clear hb2)
 (try clear hk)
 (try clear hi)
 refine hK.out _ _ ⟨(ah fD.out 0).trans rfl,(ah fD.out 1).trans rfl,(ah fD.out 2).trans rfl,(ah fD.out 3).trans rfl,(ah dQ.out 0).trans rfl,(ah dQ.out 1).trans rfl,(ah dQ.out 2).trans rfl,(ah dQ.out 3).trans rfl,(ah dQ.out 4).trans rfl⟩ (fun hHeld=>?_)
 clear hK K
 refine je (a':=?_) ?_ ?_
 rotate_left
 ·
  show Act.put _ (some 10) _=_
  simp only [Act.put,List.setIfInBounds_toArray,List.set_cons_zero,List.set_cons_succ,bY,bZ]
  rfl
 refine oD (i:=7) (N:=some 14) #[true,true,true,true,true,true,true,true,false,false] rfl rfl (kG jh.out (by kernel_rfl)) (by decide) (fun K hK=>?_)
 refine nR Tryd.func15 (by kernel_rfl) rfl #[.agg #[.slice eP bC.length eH,.string aY,.string aZ,.slice gy aJ.length fB],.int .u8 lU] (by rfl) rfl rfl (by (try simp only [List.map_toArray,List.map_cons,List.map_nil]);first|done|rfl|(simp only [List.length_drop,List.length_take];rfl)) ?_
 with_reducible refine (bM.calls k _ _ bC aY aZ _ _ aJ lU t208 _ ?dR ?dU ?jq ?jo A4.out).mono ?_
 (case dR=>repeat (first|exact (Kd.bW ji.out HB.out)|(with_reducible refine Kd.dA ?_ _)|(with_reducible refine Kd.dL ?_ _)|(with_reducible refine Kd.dW ?_)))
 (case dU=>exact jr.out)
 (case jq=>repeat (first|exact (Kd.bW jR.out HB.out)|(with_reducible refine Kd.dA ?_ _)|(with_reducible refine Kd.dL ?_ _)|(with_reducible refine Kd.dW ?_)))
 (case jo=>exact lD.out)
 rintro e w10 ⟨rfl,hb⟩
 refine ⟨_,rfl,?_⟩
 have eU:=ae.mk (bK (g:=ja) (o:=.cells #[.slice eP bC.length eH,.string aY,.string aZ,.slice gy aJ.length fB] 25 (0,0)) (by (with_reducible repeat (first|refine au ?_ _|refine aC ?_|refine ak ?_ _));exact fD.out) hb)
 have eQ:=ae.mk (bK (g:=iK) (o:=.cells #[.int .u8 gX,.int .u8 l9,.int .u8 lU,.int .u8 ny,.int .i64 lT] 39 (0,0)) (by (with_reducible repeat (first|refine au ?_ _|refine aC ?_|refine ak ?_ _));exact dQ.out) hb)
 have eu:=ae.mk (bz (by repeat (first|(with_reducible first|exact HB.out|apply ay|apply ai|apply ax|refine aA ?_ lQ.out|refine aA ?_ mr.out)|exact HB.out)) hb)
 clear fD
 clear dQ
 clear HB
 have fD:=eU
 have dQ:=eQ
 have HB:=eu
 clear eU eQ eu
 (try clear hb)
 (try clear hb2)
 (try clear hk)
 (try clear hi)
 refine hK.out _ _ ⟨(ah fD.out 0).trans rfl,(ah fD.out 1).trans rfl,(ah fD.out 2).trans rfl,(ah fD.out 3).trans rfl,(ah dQ.out 0).trans rfl,(ah dQ.out 1).trans rfl,(ah dQ.out 2).trans rfl,(ah dQ.out 3).trans rfl,(ah dQ.out 4).trans rfl⟩ (fun hHeld=>?_)
 clear hK K
 refine je (a':=?_) ?_ ?_
 rotate_left
 ·
  show Act.put _ (some 14) _=_
  simp only [Act.put,List.setIfInBounds_toArray,List.set_cons_zero,List.set_cons_succ,bY,bZ]
  rfl
 refine iC (i:=8) (N:=some 5) (v:=?_) (a':=?_) #[true,true,true,true,true,true,true,true,true,false] rfl rfl (gq jh.out (by kernel_rfl)) (fun _ _ _ h=>h) (Or.inl ⟨by rfl,?_⟩) ?_ ?_
 rotate_left
 ·
  intro w'
  go_simp
  with_reducible rfl
 rotate_left
 ·
  simp only [Act.put,List.setIfInBounds_toArray,List.set_cons_zero,List.set_cons_succ,bY,bZ]
  rfl
 refine iC (i:=9) (N:=some 6) (v:=?_) (a':=?_) #[true,true,true,true,true,true,true,true,true,true] rfl rfl (gq jh.out (by kernel_rfl)) (fun _ _ _ h=>h) (Or.inl ⟨by rfl,?_⟩) ?_ ?_
 rotate_left
 ·
  intro w'
  go_simp
  with_reducible rfl
 rotate_left
 ·
  simp only [Act.put,List.setIfInBounds_toArray,List.set_cons_zero,List.set_cons_succ,bY,bZ]
  rfl
 refine tu (pX jh.out (by kernel_rfl)) ?_
 have aiy:=og.out
 have aie:=oh.out
 have D5:w10.cell? ⟨iK,0,none⟩=some (.int .u8 gX):=(ah dQ.out 0).trans rfl
 have DZ:w10.cell? ⟨iK,1,none⟩=some (.int .u8 l9):=(ah dQ.out 1).trans rfl
 have DY:w10.cell? ⟨iK,2,none⟩=some (.int .u8 lU):=(ah dQ.out 2).trans rfl
 have DX:w10.cell? ⟨iK,3,none⟩=some (.int .u8 ny):=(ah dQ.out 3).trans rfl
 have afz:w10.cell? ⟨iK,4,none⟩=some (.int .i64 lT):=(ah dQ.out 4).trans rfl
 have DI:=ag dQ.out 0
 have DF:=ag dQ.out 1
 have DD:=ag dQ.out 2
 have DC:=ag dQ.out 3
 have ad7:=ag dQ.out 4
 go_upto_if 17 with (fail)
 go_cut [17] (fun v17 wc=>∃ (kq:Nat) (H8:Bool),v17=.bool H8∧ae (aX.j0 kq t207 t208 gX H8 bC aY aZ aJ gX l9 lU ny lT=some r)∧ae (kq≤k)∧ae (wc.heap[ja]? = some (.cells #[(.slice eP bC.length eH),.string aY,.string aZ,(.slice gy aJ.length fB)] 25 (0,0)))∧ae (wc.heap[iK]? = some (.cells #[.int .u8 gX,.int .u8 l9,.int .u8 lU,.int .u8 ny,.int .i64 lT] 39 (0,0)))∧ae (Below w.heap.size w wc))
 case first =>
  have H:=O8.out
  clear O8
  by_cases c13:gX=5
  ·
   rw [if_pos c13] at H
   have pg:(gX == 5)=true:=beq_iff_eq.mpr c13
   have FI:(gX != 5)=false:=bne_eq_false_iff_eq.mpr c13
   clear c13
   (first|rw [pg]|(simp only [bY,bZ];rw [pg])|skip)
   have H':=ae.mk H
   clear H
   go_wp2
   go_meet
   case rel=>exact ⟨_,((gX == 5)),(by first|rfl|(simp;done)|(simp [*];done)),H',⟨by first|omega|exact Nat.le_refl _⟩,⟨by (with_reducible repeat (first|refine au ?_ _|refine aC ?_|refine ak ?_ _));exact fD.out⟩,⟨by (with_reducible repeat (first|refine au ?_ _|refine aC ?_|refine ak ?_ _));exact dQ.out⟩,⟨by repeat (first|(with_reducible first|exact HB.out|apply ay|apply ai|apply ax|refine aA ?_ lQ.out|refine aA ?_ mr.out)|exact HB.out)⟩⟩
  ·
   rw [if_neg c13] at H
   have pg:(gX == 5)=false:=beq_eq_false_iff_ne.mpr c13
   have FI:(gX != 5)=true:=bne_iff_ne.mpr c13
   (first|rw [pg]|(simp only [bY,bZ];rw [pg])|skip)
   have H':=ae.mk H
   clear H
   go_wp2
   go_meet
   case rel=>exact ⟨_,((gX == 6)),(by first|rfl|(simp;done)|(simp [*];done)),H',⟨by first|omega|exact Nat.le_refl _⟩,⟨by (with_reducible repeat (first|refine au ?_ _|refine aC ?_|refine ak ?_ _));exact fD.out⟩,⟨by (with_reducible repeat (first|refine au ?_ _|refine aC ?_|refine ak ?_ _));exact dQ.out⟩,⟨by repeat (first|(with_reducible first|exact HB.out|apply ay|apply ai|apply ax|refine aA ?_ lQ.out|refine aA ?_ mr.out)|exact HB.out)⟩⟩
 case rest =>
  clear O8
  obtain ⟨kq,H8,rfl,HA,MC,fD,dQ,HB⟩:=hcut
  cases kq with
  | zero=>exact absurd HA.out (by simp [aX.j0])
  | succ yB =>
   have H:=HA.out
   clear HA
   simp only [aX.j0] at H
   by_cases c14:H8=true
   ·
    subst c14
    have H1:(some (decide (t207 ≥ 0)))=some r:=by rw [if_pos rfl] at H;exact H
    clear H
    have H:=H1
    clear H1
    obtain rfl:=Option.some.inj H
    go_wp2
    go_ret
    exact ⟨by first|rfl|(simp [aT,aQ] <;> rfl)|(simp [*,aT,aQ] <;> rfl),by repeat (first|(with_reducible first|exact HB.out|apply ay|apply ai|apply ax|refine aA ?_ lQ.out|refine aA ?_ mr.out)|exact HB.out)⟩
   ·
    replace c14:=Bool.eq_false_iff.mpr c14
    subst c14
    have H1:(if gX=7 then ((dh.f t207 t208).bind fun t209=>(some t209)) else (if gX=15 then ((bM.f yB bC aY aZ aJ ny).bind fun t210=>((dh.f t208 t210).bind fun t211=>(some t211))) else (if gX=8 then (if t208 ≥ 0 then ((fE.f yB bC aY aZ aJ t208 lT).bind fun t212=>(some t212)) else (some false)) else (if gX=9 then (if t207 ≥ 0 then ((fE.f yB bC aY aZ aJ t207 lT).bind fun t213=>(some t213)) else (some false)) else (if gX=10 then (if t208 ≥ 0 then ((gm.f yB bC aY aZ aJ t208 lT).bind fun t214=>((dh.f t207 t214).bind fun t215=>(some t215))) else (some false)) else (if gX=11 then (if t207 ≥ 0 then ((gm.f yB bC aY aZ aJ t207 lT).bind fun t216=>((dh.f t208 t216).bind fun t217=>(some t217))) else (some false)) else (if gX=12 then ((fK.f yB bC aY aZ aJ lU).bind fun t218=>((dh.f t207 t218).bind fun t219=>(some t219))) else (if gX=13 then ((fK.f yB bC aY aZ aJ l9).bind fun t220=>((dh.f t208 t220).bind fun t221=>(some t221))) else (some true)))))))))=some r:=by rw [if_neg (show ¬ (false=true) by decide)] at H;exact H
    clear H
    have H:=H1
    clear H1
    by_cases c15:gX=7
    ·
     rw [if_pos c15] at H
     have qF:(gX == 7)=true:=beq_iff_eq.mpr c15
     have FH:(gX != 7)=false:=bne_eq_false_iff_eq.mpr c15
     clear c15
     replace H:=Option.bind_eq_some_iff.mp H
     obtain ⟨t209,Pq,H⟩:=H
     replace H:(some t209)=some r:=H
     have A16:=ae.mk Pq
     clear Pq
     obtain rfl:=Option.some.inj H
     go_wp2_with (first|((with_reducible refine bT (f:=39) rfl ?_);refine gp (some 26) rfl rfl Tryd.func39 (by kernel_rfl) rfl #[.int .i64 t207,.int .i64 t208] rfl (by (try simp only [List.map_toArray,List.map_cons,List.map_nil]);first|done|rfl|(simp only [List.length_drop,List.length_take];rfl)) ?_;(with_reducible refine (dh.calls t207 t208 t209 _ A16.out).mono ?_);rintro e w' ⟨rfl,⟨nd,rfl⟩⟩;refine ⟨_,rfl,?_⟩))
     go_ret
     exact ⟨by first|rfl|(simp [aT,aQ] <;> rfl)|(simp [*,aT,aQ] <;> rfl),by repeat (first|(with_reducible first|exact HB.out|apply ay|apply ai|apply ax|refine aA ?_ lQ.out|refine aA ?_ mr.out)|exact HB.out)⟩
    ·
     rw [if_neg c15] at H
     have qF:(gX == 7)=false:=beq_eq_false_iff_ne.mpr c15
     have FH:(gX != 7)=true:=bne_iff_ne.mpr c15
     by_cases c17:gX=15
     ·
      rw [if_pos c17] at H
      have zO:(gX == 15)=true:=beq_iff_eq.mpr c17
      have FD:(gX != 15)=false:=bne_eq_false_iff_eq.mpr c17
      clear c17
      replace H:=Option.bind_eq_some_iff.mp H
      obtain ⟨t210,aba,H⟩:=H
      replace H:((dh.f t208 t210).bind fun t211=>(some t211))=some r:=H
      have A18:=ae.mk aba
      clear aba
      replace H:=Option.bind_eq_some_iff.mp H
      obtain ⟨t211,Po,H⟩:=H
      replace H:(some t211)=some r:=H
      have VL:=ae.mk Po
      clear Po
      obtain rfl:=Option.some.inj H
      have Zm:=oh.out
      have Zc:=og.out
      have DW:wc.cell? ⟨ja,0,none⟩=some (.slice eP bC.length eH):=(ah fD.out 0).trans rfl
      have DV:wc.cell? ⟨ja,1,none⟩=some (.string aY):=(ah fD.out 1).trans rfl
      have DU:wc.cell? ⟨ja,2,none⟩=some (.string aZ):=(ah fD.out 2).trans rfl
      have DT:wc.cell? ⟨ja,3,none⟩=some (.slice gy aJ.length fB):=(ah fD.out 3).trans rfl
      have Dz:=ag fD.out 0
      have Dy:=ag fD.out 1
      have Dx:=ag fD.out 2
      have Dw:=ag fD.out 3
      have TJ:wc.cell? ⟨iK,0,none⟩=some (.int .u8 gX):=(ah dQ.out 0).trans rfl
      have TI:wc.cell? ⟨iK,1,none⟩=some (.int .u8 l9):=(ah dQ.out 1).trans rfl
      have TG:wc.cell? ⟨iK,2,none⟩=some (.int .u8 lU):=(ah dQ.out 2).trans rfl
      have TF:wc.cell? ⟨iK,3,none⟩=some (.int .u8 ny):=(ah dQ.out 3).trans rfl
      have afh:wc.cell? ⟨iK,4,none⟩=some (.int .i64 lT):=(ah dQ.out 4).trans rfl
      have Rj:=ag dQ.out 0
      have Ri:=ag dQ.out 1
      have Rh:=ag dQ.out 2
      have Rf:=ag dQ.out 3
      have adN:=ag dQ.out 4
      go_wp2_with (first|((with_reducible refine bT (f:=15) rfl ?_);refine gp (some 33) rfl rfl Tryd.func15 (by kernel_rfl) rfl #[.agg #[.slice eP bC.length eH,.string aY,.string aZ,.slice gy aJ.length fB],.int .u8 ny] rfl (by (try simp only [List.map_toArray,List.map_cons,List.map_nil]);first|done|rfl|(simp only [List.length_drop,List.length_take];rfl)) ?_;(with_reducible refine (bM.calls yB _ _ bC aY aZ _ _ aJ ny t210 _ ?dR ?dU ?jq ?jo A18.out).mono ?_);(case dR=>repeat (first|exact (Kd.bW ji.out HB.out)|(with_reducible refine Kd.dA ?_ _)|(with_reducible refine Kd.dL ?_ _)|(with_reducible refine Kd.dW ?_)));(case dU=>exact jr.out);(case jq=>repeat (first|exact (Kd.bW jR.out HB.out)|(with_reducible refine Kd.dA ?_ _)|(with_reducible refine Kd.dL ?_ _)|(with_reducible refine Kd.dW ?_)));(case jo=>exact lD.out);rintro e vT ⟨rfl,hb⟩;refine ⟨_,rfl,?_⟩;have eU:=ae.mk (bK (g:=ja) (o:=.cells #[.slice eP bC.length eH,.string aY,.string aZ,.slice gy aJ.length fB] 25 (0,0)) (by (with_reducible repeat (first|refine au ?_ _|refine aC ?_|refine ak ?_ _));exact fD.out) hb);have eQ:=ae.mk (bK (g:=iK) (o:=.cells #[.int .u8 gX,.int .u8 l9,.int .u8 lU,.int .u8 ny,.int .i64 lT] 39 (0,0)) (by (with_reducible repeat (first|refine au ?_ _|refine aC ?_|refine ak ?_ _));exact dQ.out) hb);have eu:=ae.mk (bz (by repeat (first|(with_reducible first|exact HB.out|apply ay|apply ai|apply ax|refine aA ?_ lQ.out|refine aA ?_ mr.out)|exact HB.out)) hb);clear fD;clear dQ;clear HB;have fD:=eU;have dQ:=eQ;have HB:=eu;clear eU eQ eu;(try clear hb);(try clear hb2);(try clear hk);(try clear hi))|((with_reducible refine bT (f:=39) rfl ?_);refine gp (some 34) rfl rfl Tryd.func39 (by kernel_rfl) rfl #[.int .i64 t208,.int .i64 t210] rfl (by (try simp only [List.map_toArray,List.map_cons,List.map_nil]);first|done|rfl|(simp only [List.length_drop,List.length_take];rfl)) ?_;(with_reducible refine (dh.calls t208 t210 t211 _ VL.out).mono ?_);rintro e w' ⟨rfl,⟨nd,rfl⟩⟩;refine ⟨_,rfl,?_⟩))
      go_ret
      exact ⟨by first|rfl|(simp [aT,aQ] <;> rfl)|(simp [*,aT,aQ] <;> rfl),by repeat (first|(with_reducible first|exact HB.out|apply ay|apply ai|apply ax|refine aA ?_ lQ.out|refine aA ?_ mr.out)|exact HB.out)⟩
     ·
      rw [if_neg c17] at H
      have zO:(gX == 15)=false:=beq_eq_false_iff_ne.mpr c17
      have FD:(gX != 15)=true:=bne_iff_ne.mpr c17
      by_cases c24:gX=8
      ·
       rw [if_pos c24] at H
       have aag:(gX == 8)=true:=beq_iff_eq.mpr c24
       have aaf:(gX != 8)=false:=bne_eq_false_iff_eq.mpr c24
       clear c24
       by_cases c25:t208 ≥ 0
       ·
        rw [if_pos c25] at H
        have aae:decide (0≤t208)=true:=decide_eq_true c25
        clear c25
        replace H:=Option.bind_eq_some_iff.mp H
        obtain ⟨t212,aa8,H⟩:=H
        replace H:(some t212)=some r:=H
        have A26:=ae.mk aa8
        clear aa8
        obtain rfl:=Option.some.inj H
        have Zj:=oh.out
        have Y9:=og.out
        have J5:wc.cell? ⟨ja,0,none⟩=some (.slice eP bC.length eH):=(ah fD.out 0).trans rfl
        have J4:wc.cell? ⟨ja,1,none⟩=some (.string aY):=(ah fD.out 1).trans rfl
        have J3:wc.cell? ⟨ja,2,none⟩=some (.string aZ):=(ah fD.out 2).trans rfl
        have JZ:wc.cell? ⟨ja,3,none⟩=some (.slice gy aJ.length fB):=(ah fD.out 3).trans rfl
        have Jl:=ag fD.out 0
        have Jk:=ag fD.out 1
        have Jj:=ag fD.out 2
        have Ji:=ag fD.out 3
        have Tu:wc.cell? ⟨iK,0,none⟩=some (.int .u8 gX):=(ah dQ.out 0).trans rfl
        have Tt:wc.cell? ⟨iK,1,none⟩=some (.int .u8 l9):=(ah dQ.out 1).trans rfl
        have Tq:wc.cell? ⟨iK,2,none⟩=some (.int .u8 lU):=(ah dQ.out 2).trans rfl
        have Tn:wc.cell? ⟨iK,3,none⟩=some (.int .u8 ny):=(ah dQ.out 3).trans rfl
        have aff:wc.cell? ⟨iK,4,none⟩=some (.int .i64 lT):=(ah dQ.out 4).trans rfl
        have QZ:=ag dQ.out 0
        have QY:=ag dQ.out 1
        have QX:=ag dQ.out 2
        have QW:=ag dQ.out 3
        have adL:=ag dQ.out 4
        go_wp2_with (first|(go_at_call 40;(with_reducible refine (fE.calls yB _ _ bC aY aZ _ _ aJ t208 lT t212 _ ?dR ?dU ?jq ?jo A26.out).mono ?_);(case dR=>repeat (first|exact (Kd.bW ji.out HB.out)|(with_reducible refine Kd.dA ?_ _)|(with_reducible refine Kd.dL ?_ _)|(with_reducible refine Kd.dW ?_)));(case dU=>exact jr.out);(case jq=>repeat (first|exact (Kd.bW jR.out HB.out)|(with_reducible refine Kd.dA ?_ _)|(with_reducible refine Kd.dL ?_ _)|(with_reducible refine Kd.dW ?_)));(case jo=>exact lD.out);rintro e VS ⟨rfl,hb⟩;have eU:=ae.mk (bK (g:=ja) (o:=.cells #[.slice eP bC.length eH,.string aY,.string aZ,.slice gy aJ.length fB] 25 (0,0)) (by (with_reducible repeat (first|refine au ?_ _|refine aC ?_|refine ak ?_ _));exact fD.out) hb);have eQ:=ae.mk (bK (g:=iK) (o:=.cells #[.int .u8 gX,.int .u8 l9,.int .u8 lU,.int .u8 ny,.int .i64 lT] 39 (0,0)) (by (with_reducible repeat (first|refine au ?_ _|refine aC ?_|refine ak ?_ _));exact dQ.out) hb);have eu:=ae.mk (bz (by repeat (first|(with_reducible first|exact HB.out|apply ay|apply ai|apply ax|refine aA ?_ lQ.out|refine aA ?_ mr.out)|exact HB.out)) hb);clear fD;clear dQ;clear HB;have fD:=eU;have dQ:=eQ;have HB:=eu;clear eU eQ eu;(try clear hb);(try clear hb2);(try clear hk);(try clear hi)))
        go_ret
        exact ⟨by first|rfl|(simp [aT,aQ] <;> rfl)|(simp [*,aT,aQ] <;> rfl),by repeat (first|(with_reducible first|exact HB.out|apply ay|apply ai|apply ax|refine aA ?_ lQ.out|refine aA ?_ mr.out)|exact HB.out)⟩
       ·
        rw [if_neg c25] at H
        have aae:decide (0≤t208)=false:=decide_eq_false c25
        clear c25
        obtain rfl:=Option.some.inj H
        go_wp2
        go_ret
        exact ⟨by first|rfl|(simp [aT,aQ] <;> rfl)|(simp [*,aT,aQ] <;> rfl),by repeat (first|(with_reducible first|exact HB.out|apply ay|apply ai|apply ax|refine aA ?_ lQ.out|refine aA ?_ mr.out)|exact HB.out)⟩
      ·
       rw [if_neg c24] at H
       have aag:(gX == 8)=false:=beq_eq_false_iff_ne.mpr c24
       have aaf:(gX != 8)=true:=bne_iff_ne.mpr c24
       by_cases c31:gX=9
       ·
        rw [if_pos c31] at H
        have aac:(gX == 9)=true:=beq_iff_eq.mpr c31
        have aab:(gX != 9)=false:=bne_eq_false_iff_eq.mpr c31
        clear c31
        by_cases c32:t207 ≥ 0
        ·
         rw [if_pos c32] at H
         have Z9:decide (0≤t207)=true:=decide_eq_true c32
         clear c32
         replace H:=Option.bind_eq_some_iff.mp H
         obtain ⟨t213,aa6,H⟩:=H
         replace H:(some t213)=some r:=H
         have A33:=ae.mk aa6
         clear aa6
         obtain rfl:=Option.some.inj H
         have UU:=oh.out
         have UR:=og.out
         have JU:wc.cell? ⟨ja,0,none⟩=some (.slice eP bC.length eH):=(ah fD.out 0).trans rfl
         have JS:wc.cell? ⟨ja,1,none⟩=some (.string aY):=(ah fD.out 1).trans rfl
         have JR:wc.cell? ⟨ja,2,none⟩=some (.string aZ):=(ah fD.out 2).trans rfl
         have JQ:wc.cell? ⟨ja,3,none⟩=some (.slice gy aJ.length fB):=(ah fD.out 3).trans rfl
         have Jd:=ag fD.out 0
         have Jc:=ag fD.out 1
         have Jb:=ag fD.out 2
         have Ja:=ag fD.out 3
         have Ti:wc.cell? ⟨iK,0,none⟩=some (.int .u8 gX):=(ah dQ.out 0).trans rfl
         have Tf:wc.cell? ⟨iK,1,none⟩=some (.int .u8 l9):=(ah dQ.out 1).trans rfl
         have Td:wc.cell? ⟨iK,2,none⟩=some (.int .u8 lU):=(ah dQ.out 2).trans rfl
         have Tc:wc.cell? ⟨iK,3,none⟩=some (.int .u8 ny):=(ah dQ.out 3).trans rfl
         have ae0:wc.cell? ⟨iK,4,none⟩=some (.int .i64 lT):=(ah dQ.out 4).trans rfl
         have QT:=ag dQ.out 0
         have QS:=ag dQ.out 1
         have QR:=ag dQ.out 2
         have QQ:=ag dQ.out 3
         have adw:=ag dQ.out 4
         go_wp2_with (first|(go_at_call 40;(with_reducible refine (fE.calls yB _ _ bC aY aZ _ _ aJ t207 lT t213 _ ?dR ?dU ?jq ?jo A33.out).mono ?_);(case dR=>repeat (first|exact (Kd.bW ji.out HB.out)|(with_reducible refine Kd.dA ?_ _)|(with_reducible refine Kd.dL ?_ _)|(with_reducible refine Kd.dW ?_)));(case dU=>exact jr.out);(case jq=>repeat (first|exact (Kd.bW jR.out HB.out)|(with_reducible refine Kd.dA ?_ _)|(with_reducible refine Kd.dL ?_ _)|(with_reducible refine Kd.dW ?_)));(case jo=>exact lD.out);rintro e VR ⟨rfl,hb⟩;have eU:=ae.mk (bK (g:=ja) (o:=.cells #[.slice eP bC.length eH,.string aY,.string aZ,.slice gy aJ.length fB] 25 (0,0)) (by (with_reducible repeat (first|refine au ?_ _|refine aC ?_|refine ak ?_ _));exact fD.out) hb);have eQ:=ae.mk (bK (g:=iK) (o:=.cells #[.int .u8 gX,.int .u8 l9,.int .u8 lU,.int .u8 ny,.int .i64 lT] 39 (0,0)) (by (with_reducible repeat (first|refine au ?_ _|refine aC ?_|refine ak ?_ _));exact dQ.out) hb);have eu:=ae.mk (bz (by repeat (first|(with_reducible first|exact HB.out|apply ay|apply ai|apply ax|refine aA ?_ lQ.out|refine aA ?_ mr.out)|exact HB.out)) hb);clear fD;clear dQ;clear HB;have fD:=eU;have dQ:=eQ;have HB:=eu;clear eU eQ eu;(try clear hb);(try clear hb2);(try clear hk);(try clear hi)))
         go_ret
         exact ⟨by first|rfl|(simp [aT,aQ] <;> rfl)|(simp [*,aT,aQ] <;> rfl),by repeat (first|(with_reducible first|exact HB.out|apply ay|apply ai|apply ax|refine aA ?_ lQ.out|refine aA ?_ mr.out)|exact HB.out)⟩
        ·
         rw [if_neg c32] at H
         have Z9:decide (0≤t207)=false:=decide_eq_false c32
         clear c32
         obtain rfl:=Option.some.inj H
         go_wp2
         go_ret
         exact ⟨by first|rfl|(simp [aT,aQ] <;> rfl)|(simp [*,aT,aQ] <;> rfl),by repeat (first|(with_reducible first|exact HB.out|apply ay|apply ai|apply ax|refine aA ?_ lQ.out|refine aA ?_ mr.out)|exact HB.out)⟩
       ·
        rw [if_neg c31] at H
        have aac:(gX == 9)=false:=beq_eq_false_iff_ne.mpr c31
        have aab:(gX != 9)=true:=bne_iff_ne.mpr c31
        by_cases zY:gX=10
        ·
         rw [if_pos zY] at H
         have rX:(gX == 10)=true:=beq_iff_eq.mpr zY
         have OC:(gX != 10)=false:=bne_eq_false_iff_eq.mpr zY
         clear zY
         by_cases OB:t208 ≥ 0
         ·
          rw [if_pos OB] at H
          have ZY:decide (0≤t208)=true:=decide_eq_true OB
          clear OB
          replace H:=Option.bind_eq_some_iff.mp H
          obtain ⟨t214,aa5,H⟩:=H
          replace H:((dh.f t207 t214).bind fun t215=>(some t215))=some r:=H
          have Md:=ae.mk aa5
          clear aa5
          replace H:=Option.bind_eq_some_iff.mp H
          obtain ⟨t215,aa4,H⟩:=H
          replace H:(some t215)=some r:=H
          have A41:=ae.mk aa4
          clear aa4
          obtain rfl:=Option.some.inj H
          have air:=oh.out
          have ah7:=og.out
          have SI:wc.cell? ⟨ja,0,none⟩=some (.slice eP bC.length eH):=(ah fD.out 0).trans rfl
          have SH:wc.cell? ⟨ja,1,none⟩=some (.string aY):=(ah fD.out 1).trans rfl
          have SG:wc.cell? ⟨ja,2,none⟩=some (.string aZ):=(ah fD.out 2).trans rfl
          have SE:wc.cell? ⟨ja,3,none⟩=some (.slice gy aJ.length fB):=(ah fD.out 3).trans rfl
          have QG:=ag fD.out 0
          have QF:=ag fD.out 1
          have QE:=ag fD.out 2
          have QD:=ag fD.out 3
          have SC:wc.cell? ⟨iK,0,none⟩=some (.int .u8 gX):=(ah dQ.out 0).trans rfl
          have SB:wc.cell? ⟨iK,1,none⟩=some (.int .u8 l9):=(ah dQ.out 1).trans rfl
          have SA:wc.cell? ⟨iK,2,none⟩=some (.int .u8 lU):=(ah dQ.out 2).trans rfl
          have Sz:wc.cell? ⟨iK,3,none⟩=some (.int .u8 ny):=(ah dQ.out 3).trans rfl
          have Sv:wc.cell? ⟨iK,4,none⟩=some (.int .i64 lT):=(ah dQ.out 4).trans rfl
          have QC:=ag dQ.out 0
          have QB:=ag dQ.out 1
          have QA:=ag dQ.out 2
          have Qz:=ag dQ.out 3
          have Qy:=ag dQ.out 4
          go_wp2_with (first|(go_at_call 41;(with_reducible refine (gm.calls yB _ _ bC aY aZ _ _ aJ t208 lT t214 _ ?dR ?dU ?jq ?jo Md.out).mono ?_);(case dR=>repeat (first|exact (Kd.bW ji.out HB.out)|(with_reducible refine Kd.dA ?_ _)|(with_reducible refine Kd.dL ?_ _)|(with_reducible refine Kd.dW ?_)));(case dU=>exact jr.out);(case jq=>repeat (first|exact (Kd.bW jR.out HB.out)|(with_reducible refine Kd.dA ?_ _)|(with_reducible refine Kd.dL ?_ _)|(with_reducible refine Kd.dW ?_)));(case jo=>exact lD.out);rintro e w45 ⟨rfl,hb⟩;have eU:=ae.mk (bK (g:=ja) (o:=.cells #[.slice eP bC.length eH,.string aY,.string aZ,.slice gy aJ.length fB] 25 (0,0)) (by (with_reducible repeat (first|refine au ?_ _|refine aC ?_|refine ak ?_ _));exact fD.out) hb);have eQ:=ae.mk (bK (g:=iK) (o:=.cells #[.int .u8 gX,.int .u8 l9,.int .u8 lU,.int .u8 ny,.int .i64 lT] 39 (0,0)) (by (with_reducible repeat (first|refine au ?_ _|refine aC ?_|refine ak ?_ _));exact dQ.out) hb);have eu:=ae.mk (bz (by repeat (first|(with_reducible first|exact HB.out|apply ay|apply ai|apply ax|refine aA ?_ lQ.out|refine aA ?_ mr.out)|exact HB.out)) hb);clear fD;clear dQ;clear HB;have fD:=eU;have dQ:=eQ;have HB:=eu;clear eU eQ eu;(try clear hb);(try clear hb2);(try clear hk);(try clear hi))|(go_at_call 39;(with_reducible refine (dh.calls t207 t214 t215 _ A41.out).mono ?_);rintro e w' ⟨rfl,⟨nd,rfl⟩⟩))
          go_ret
          exact ⟨by first|rfl|(simp [aT,aQ] <;> rfl)|(simp [*,aT,aQ] <;> rfl),by repeat (first|(with_reducible first|exact HB.out|apply ay|apply ai|apply ax|refine aA ?_ lQ.out|refine aA ?_ mr.out)|exact HB.out)⟩
         ·
          rw [if_neg OB] at H
          have ZY:decide (0≤t208)=false:=decide_eq_false OB
          clear OB
          obtain rfl:=Option.some.inj H
          go_wp2
          go_ret
          exact ⟨by first|rfl|(simp [aT,aQ] <;> rfl)|(simp [*,aT,aQ] <;> rfl),by repeat (first|(with_reducible first|exact HB.out|apply ay|apply ai|apply ax|refine aA ?_ lQ.out|refine aA ?_ mr.out)|exact HB.out)⟩
        ·
         rw [if_neg zY] at H
         have rX:(gX == 10)=false:=beq_eq_false_iff_ne.mpr zY
         have OC:(gX != 10)=true:=bne_iff_ne.mpr zY
         by_cases c46:gX=11
         ·
          rw [if_pos c46] at H
          have zM:(gX == 11)=true:=beq_iff_eq.mpr c46
          have OA:(gX != 11)=false:=bne_eq_false_iff_eq.mpr c46
          clear c46
          by_cases Oz:t207 ≥ 0
          ·
           rw [if_pos Oz] at H
           have ZV:decide (0≤t207)=true:=decide_eq_true Oz
           clear Oz
           replace H:=Option.bind_eq_some_iff.mp H
           obtain ⟨t216,aaZ,H⟩:=H
           replace H:((dh.f t208 t216).bind fun t217=>(some t217))=some r:=H
           have A48:=ae.mk aaZ
           clear aaZ
           replace H:=Option.bind_eq_some_iff.mp H
           obtain ⟨t217,aaY,H⟩:=H
           replace H:(some t217)=some r:=H
           have A49:=ae.mk aaY
           clear aaY
           obtain rfl:=Option.some.inj H
           have aim:=oh.out
           have ah2:=og.out
           have aeK:wc.cell? ⟨ja,0,none⟩=some (.slice eP bC.length eH):=(ah fD.out 0).trans rfl
           have aeJ:wc.cell? ⟨ja,1,none⟩=some (.string aY):=(ah fD.out 1).trans rfl
           have aeI:wc.cell? ⟨ja,2,none⟩=some (.string aZ):=(ah fD.out 2).trans rfl
           have aeH:wc.cell? ⟨ja,3,none⟩=some (.slice gy aJ.length fB):=(ah fD.out 3).trans rfl
           have adf:=ag fD.out 0
           have ade:=ag fD.out 1
           have adb:=ag fD.out 2
           have ada:=ag fD.out 3
           have JP:wc.cell? ⟨iK,0,none⟩=some (.int .u8 gX):=(ah dQ.out 0).trans rfl
           have JO:wc.cell? ⟨iK,1,none⟩=some (.int .u8 l9):=(ah dQ.out 1).trans rfl
           have JM:wc.cell? ⟨iK,2,none⟩=some (.int .u8 lU):=(ah dQ.out 2).trans rfl
           have JL:wc.cell? ⟨iK,3,none⟩=some (.int .u8 ny):=(ah dQ.out 3).trans rfl
           have Su:wc.cell? ⟨iK,4,none⟩=some (.int .i64 lT):=(ah dQ.out 4).trans rfl
           have I9:=ag dQ.out 0
           have I8:=ag dQ.out 1
           have I7:=ag dQ.out 2
           have I5:=ag dQ.out 3
           have Qx:=ag dQ.out 4
           go_wp2_with (first|(go_at_call 41;(with_reducible refine (gm.calls yB _ _ bC aY aZ _ _ aJ t207 lT t216 _ ?dR ?dU ?jq ?jo A48.out).mono ?_);(case dR=>repeat (first|exact (Kd.bW ji.out HB.out)|(with_reducible refine Kd.dA ?_ _)|(with_reducible refine Kd.dL ?_ _)|(with_reducible refine Kd.dW ?_)));(case dU=>exact jr.out);(case jq=>repeat (first|exact (Kd.bW jR.out HB.out)|(with_reducible refine Kd.dA ?_ _)|(with_reducible refine Kd.dL ?_ _)|(with_reducible refine Kd.dW ?_)));(case jo=>exact lD.out);rintro e w53 ⟨rfl,hb⟩;have eU:=ae.mk (bK (g:=ja) (o:=.cells #[.slice eP bC.length eH,.string aY,.string aZ,.slice gy aJ.length fB] 25 (0,0)) (by (with_reducible repeat (first|refine au ?_ _|refine aC ?_|refine ak ?_ _));exact fD.out) hb);have eQ:=ae.mk (bK (g:=iK) (o:=.cells #[.int .u8 gX,.int .u8 l9,.int .u8 lU,.int .u8 ny,.int .i64 lT] 39 (0,0)) (by (with_reducible repeat (first|refine au ?_ _|refine aC ?_|refine ak ?_ _));exact dQ.out) hb);have eu:=ae.mk (bz (by repeat (first|(with_reducible first|exact HB.out|apply ay|apply ai|apply ax|refine aA ?_ lQ.out|refine aA ?_ mr.out)|exact HB.out)) hb);clear fD;clear dQ;clear HB;have fD:=eU;have dQ:=eQ;have HB:=eu;clear eU eQ eu;(try clear hb);(try clear hb2);(try clear hk);(try clear hi))|(go_at_call 39;(with_reducible refine (dh.calls t208 t216 t217 _ A49.out).mono ?_);rintro e w' ⟨rfl,⟨nd,rfl⟩⟩))
           go_ret
           exact ⟨by first|rfl|(simp [aT,aQ] <;> rfl)|(simp [*,aT,aQ] <;> rfl),by repeat (first|(with_reducible first|exact HB.out|apply ay|apply ai|apply ax|refine aA ?_ lQ.out|refine aA ?_ mr.out)|exact HB.out)⟩
          ·
           rw [if_neg Oz] at H
           have ZV:decide (0≤t207)=false:=decide_eq_false Oz
           clear Oz
           obtain rfl:=Option.some.inj H
           go_wp2
           go_ret
           exact ⟨by first|rfl|(simp [aT,aQ] <;> rfl)|(simp [*,aT,aQ] <;> rfl),by repeat (first|(with_reducible first|exact HB.out|apply ay|apply ai|apply ax|refine aA ?_ lQ.out|refine aA ?_ mr.out)|exact HB.out)⟩
         ·
          rw [if_neg c46] at H
          have zM:(gX == 11)=false:=beq_eq_false_iff_ne.mpr c46
          have OA:(gX != 11)=true:=bne_iff_ne.mpr c46
          by_cases XM:gX=12
          ·
           rw [if_pos XM] at H
           have ZR:(gX == 12)=true:=beq_iff_eq.mpr XM
           have ZQ:(gX != 12)=false:=bne_eq_false_iff_eq.mpr XM
           clear XM
           replace H:=Option.bind_eq_some_iff.mp H
           obtain ⟨t218,aaX,H⟩:=H
           replace H:((dh.f t207 t218).bind fun t219=>(some t219))=some r:=H
           have A55:=ae.mk aaX
           clear aaX
           replace H:=Option.bind_eq_some_iff.mp H
           obtain ⟨t219,aaW,H⟩:=H
           replace H:(some t219)=some r:=H
           have A56:=ae.mk aaW
           clear aaW
           obtain rfl:=Option.some.inj H
           have Zg:=oh.out
           have Y6:=og.out
           have RZ:wc.cell? ⟨ja,0,none⟩=some (.slice eP bC.length eH):=(ah fD.out 0).trans rfl
           have RY:wc.cell? ⟨ja,1,none⟩=some (.string aY):=(ah fD.out 1).trans rfl
           have RX:wc.cell? ⟨ja,2,none⟩=some (.string aZ):=(ah fD.out 2).trans rfl
           have RV:wc.cell? ⟨ja,3,none⟩=some (.slice gy aJ.length fB):=(ah fD.out 3).trans rfl
           have Qq:=ag fD.out 0
           have Qp:=ag fD.out 1
           have Qo:=ag fD.out 2
           have Qn:=ag fD.out 3
           have JK:wc.cell? ⟨iK,0,none⟩=some (.int .u8 gX):=(ah dQ.out 0).trans rfl
           have JJ:wc.cell? ⟨iK,1,none⟩=some (.int .u8 l9):=(ah dQ.out 1).trans rfl
           have JI:wc.cell? ⟨iK,2,none⟩=some (.int .u8 lU):=(ah dQ.out 2).trans rfl
           have JH:wc.cell? ⟨iK,3,none⟩=some (.int .u8 ny):=(ah dQ.out 3).trans rfl
           have JG:wc.cell? ⟨iK,4,none⟩=some (.int .i64 lT):=(ah dQ.out 4).trans rfl
           have I4:=ag dQ.out 0
           have IZ:=ag dQ.out 1
           have IY:=ag dQ.out 2
           have IX:=ag dQ.out 3
           have IW:=ag dQ.out 4
           go_wp2_with (first|((with_reducible refine bT (f:=42) rfl ?_);refine gp (some 89) rfl rfl Tryd.func42 (by kernel_rfl) rfl #[.agg #[.slice eP bC.length eH,.string aY,.string aZ,.slice gy aJ.length fB],.int .u8 lU] rfl (by (try simp only [List.map_toArray,List.map_cons,List.map_nil]);first|done|rfl|(simp only [List.length_drop,List.length_take];rfl)) ?_;(with_reducible refine (fK.calls yB _ _ bC aY aZ _ _ aJ lU t218 _ ?dR ?dU ?jq ?jo A55.out).mono ?_);(case dR=>repeat (first|exact (Kd.bW ji.out HB.out)|(with_reducible refine Kd.dA ?_ _)|(with_reducible refine Kd.dL ?_ _)|(with_reducible refine Kd.dW ?_)));(case dU=>exact jr.out);(case jq=>repeat (first|exact (Kd.bW jR.out HB.out)|(with_reducible refine Kd.dA ?_ _)|(with_reducible refine Kd.dL ?_ _)|(with_reducible refine Kd.dW ?_)));(case jo=>exact lD.out);rintro e w60 ⟨rfl,hb⟩;refine ⟨_,rfl,?_⟩;have eU:=ae.mk (bK (g:=ja) (o:=.cells #[.slice eP bC.length eH,.string aY,.string aZ,.slice gy aJ.length fB] 25 (0,0)) (by (with_reducible repeat (first|refine au ?_ _|refine aC ?_|refine ak ?_ _));exact fD.out) hb);have eQ:=ae.mk (bK (g:=iK) (o:=.cells #[.int .u8 gX,.int .u8 l9,.int .u8 lU,.int .u8 ny,.int .i64 lT] 39 (0,0)) (by (with_reducible repeat (first|refine au ?_ _|refine aC ?_|refine ak ?_ _));exact dQ.out) hb);have eu:=ae.mk (bz (by repeat (first|(with_reducible first|exact HB.out|apply ay|apply ai|apply ax|refine aA ?_ lQ.out|refine aA ?_ mr.out)|exact HB.out)) hb);clear fD;clear dQ;clear HB;have fD:=eU;have dQ:=eQ;have HB:=eu;clear eU eQ eu;(try clear hb);(try clear hb2);(try clear hk);(try clear hi))|((with_reducible refine bT (f:=39) rfl ?_);refine gp (some 90) rfl rfl Tryd.func39 (by kernel_rfl) rfl #[.int .i64 t207,.int .i64 t218] rfl (by (try simp only [List.map_toArray,List.map_cons,List.map_nil]);first|done|rfl|(simp only [List.length_drop,List.length_take];rfl)) ?_;(with_reducible refine (dh.calls t207 t218 t219 _ A56.out).mono ?_);rintro e w' ⟨rfl,⟨nd,rfl⟩⟩;refine ⟨_,rfl,?_⟩))
           go_ret
           exact ⟨by first|rfl|(simp [aT,aQ] <;> rfl)|(simp [*,aT,aQ] <;> rfl),by repeat (first|(with_reducible first|exact HB.out|apply ay|apply ai|apply ax|refine aA ?_ lQ.out|refine aA ?_ mr.out)|exact HB.out)⟩
          ·
           rw [if_neg XM] at H
           have ZR:(gX == 12)=false:=beq_eq_false_iff_ne.mpr XM
           have ZQ:(gX != 12)=true:=bne_iff_ne.mpr XM
           by_cases XK:gX=13
           ·
            rw [if_pos XK] at H
            have ZM:(gX == 13)=true:=beq_iff_eq.mpr XK
            have ZL:(gX != 13)=false:=bne_eq_false_iff_eq.mpr XK
            clear XK
            replace H:=Option.bind_eq_some_iff.mp H
            obtain ⟨t220,aaV,H⟩:=H
            replace H:((dh.f t208 t220).bind fun t221=>(some t221))=some r:=H
            have A62:=ae.mk aaV
            clear aaV
            replace H:=Option.bind_eq_some_iff.mp H
            obtain ⟨t221,aaU,H⟩:=H
            replace H:(some t221)=some r:=H
            have A63:=ae.mk aaU
            clear aaU
            obtain rfl:=Option.some.inj H
            have Ze:=oh.out
            have Y4:=og.out
            have RU:wc.cell? ⟨ja,0,none⟩=some (.slice eP bC.length eH):=(ah fD.out 0).trans rfl
            have RS:wc.cell? ⟨ja,1,none⟩=some (.string aY):=(ah fD.out 1).trans rfl
            have RQ:wc.cell? ⟨ja,2,none⟩=some (.string aZ):=(ah fD.out 2).trans rfl
            have RP:wc.cell? ⟨ja,3,none⟩=some (.slice gy aJ.length fB):=(ah fD.out 3).trans rfl
            have Qm:=ag fD.out 0
            have Ql:=ag fD.out 1
            have Qk:=ag fD.out 2
            have Qj:=ag fD.out 3
            have aeg:wc.cell? ⟨iK,0,none⟩=some (.int .u8 gX):=(ah dQ.out 0).trans rfl
            have aef:wc.cell? ⟨iK,1,none⟩=some (.int .u8 l9):=(ah dQ.out 1).trans rfl
            have aee:wc.cell? ⟨iK,2,none⟩=some (.int .u8 lU):=(ah dQ.out 2).trans rfl
            have aed:wc.cell? ⟨iK,3,none⟩=some (.int .u8 ny):=(ah dQ.out 3).trans rfl
            have aec:wc.cell? ⟨iK,4,none⟩=some (.int .i64 lT):=(ah dQ.out 4).trans rfl
            have acJ:=ag dQ.out 0
            have acI:=ag dQ.out 1
            have acH:=ag dQ.out 2
            have acG:=ag dQ.out 3
            have acF:=ag dQ.out 4
            go_wp2_with (first|((with_reducible refine bT (f:=42) rfl ?_);refine gp (some 97) rfl rfl Tryd.func42 (by kernel_rfl) rfl #[.agg #[.slice eP bC.length eH,.string aY,.string aZ,.slice gy aJ.length fB],.int .u8 l9] rfl (by (try simp only [List.map_toArray,List.map_cons,List.map_nil]);first|done|rfl|(simp only [List.length_drop,List.length_take];rfl)) ?_;(with_reducible refine (fK.calls yB _ _ bC aY aZ _ _ aJ l9 t220 _ ?dR ?dU ?jq ?jo A62.out).mono ?_);(case dR=>repeat (first|exact (Kd.bW ji.out HB.out)|(with_reducible refine Kd.dA ?_ _)|(with_reducible refine Kd.dL ?_ _)|(with_reducible refine Kd.dW ?_)));(case dU=>exact jr.out);(case jq=>repeat (first|exact (Kd.bW jR.out HB.out)|(with_reducible refine Kd.dA ?_ _)|(with_reducible refine Kd.dL ?_ _)|(with_reducible refine Kd.dW ?_)));(case jo=>exact lD.out);rintro e w67 ⟨rfl,hb⟩;refine ⟨_,rfl,?_⟩;have eU:=ae.mk (bK (g:=ja) (o:=.cells #[.slice eP bC.length eH,.string aY,.string aZ,.slice gy aJ.length fB] 25 (0,0)) (by (with_reducible repeat (first|refine au ?_ _|refine aC ?_|refine ak ?_ _));exact fD.out) hb);have eQ:=ae.mk (bK (g:=iK) (o:=.cells #[.int .u8 gX,.int .u8 l9,.int .u8 lU,.int .u8 ny,.int .i64 lT] 39 (0,0)) (by (with_reducible repeat (first|refine au ?_ _|refine aC ?_|refine ak ?_ _));exact dQ.out) hb);have eu:=ae.mk (bz (by repeat (first|(with_reducible first|exact HB.out|apply ay|apply ai|apply ax|refine aA ?_ lQ.out|refine aA ?_ mr.out)|exact HB.out)) hb);clear fD;clear dQ;clear HB;have fD:=eU;have dQ:=eQ;have HB:=eu;clear eU eQ eu;(try clear hb);(try clear hb2);(try clear hk);(try clear hi))|((with_reducible refine bT (f:=39) rfl ?_);refine gp (some 98) rfl rfl Tryd.func39 (by kernel_rfl) rfl #[.int .i64 t208,.int .i64 t220] rfl (by (try simp only [List.map_toArray,List.map_cons,List.map_nil]);first|done|rfl|(simp only [List.length_drop,List.length_take];rfl)) ?_;(with_reducible refine (dh.calls t208 t220 t221 _ A63.out).mono ?_);rintro e w' ⟨rfl,⟨nd,rfl⟩⟩;refine ⟨_,rfl,?_⟩))
            go_ret
            exact ⟨by first|rfl|(simp [aT,aQ] <;> rfl)|(simp [*,aT,aQ] <;> rfl),by repeat (first|(with_reducible first|exact HB.out|apply ay|apply ai|apply ax|refine aA ?_ lQ.out|refine aA ?_ mr.out)|exact HB.out)⟩
           ·
            rw [if_neg XK] at H
            have ZM:(gX == 13)=false:=beq_eq_false_iff_ne.mpr XK
            have ZL:(gX != 13)=true:=bne_iff_ne.mpr XK
            obtain rfl:=Option.some.inj H
            go_wp2
            go_ret
            exact ⟨by first|rfl|(simp [aT,aQ] <;> rfl)|(simp [*,aT,aQ] <;> rfl),by repeat (first|(with_reducible first|exact HB.out|apply ay|apply ai|apply ax|refine aA ?_ lQ.out|refine aA ?_ mr.out)|exact HB.out)⟩
end Go.Proofs.YtbmhmlgfpijmhaaDoor.P
end
