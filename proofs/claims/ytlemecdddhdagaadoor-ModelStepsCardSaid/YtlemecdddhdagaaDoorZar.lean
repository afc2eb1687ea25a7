/- Parts of the proof of ModelSteps: what the functions that it reaches compute, and plain facts about that. -/
import Derived.Test.YtlemecdddhdagaaDoorZab
import Derived.Test.YtlemecdddhdagaaDoorZam
import Derived.Test.YtlemecdddhdagaaDoorZap
import Derived.Test.YtlemecdddhdagaaDoorZaq
import Derived.Test.YtlemecdddhdagaaDoorZah
import Derived.Test.YtlemecdddhdagaaDoorZak
set_option linter.unusedVariables false
set_option linter.unusedSimpArgs false
section
namespace Go.Proofs.YtlemecdddhdagaaDoor.P
open Go.RowKit Go.Proofs.af.bF Go.Proofs.af.dD Go.Proofs.af.dN
attribute [local go_sem] lF lC mP mO kE kD lD lu
def aY.j0:Nat→Int→Int→Int→Bool→List ByteArray→ByteArray→ByteArray→List (iD)→Int→Int→Int→Int→Int→Option (Bool)
 | 0,_,_,_,_,_,_,_,_,_,_,_,_,_=>none
 | k+1,x5,x6,x16,x17,um,uk,uj,ui,agR,TK,TJ,TI,zS=>if x17=true then (some (decide (x5 ≥ 0))) else (if x16=7 then ((dC.f x5 x6).bind fun t172=>(some t172)) else (if x16=15 then ((dO.f k um uk uj ui TI).bind fun t173=>((dC.f x6 t173).bind fun t174=>(some t174))) else (if x16=8 then (if x6 ≥ 0 then ((fB.f k um uk uj ui x6 zS).bind fun t175=>(some t175)) else (some false)) else (if x16=9 then (if x5 ≥ 0 then ((fB.f k um uk uj ui x5 zS).bind fun t176=>(some t176)) else (some false)) else (if x16=10 then (if x6 ≥ 0 then ((gz.f k um uk uj ui x6 zS).bind fun t177=>((dC.f x5 t177).bind fun t178=>(some t178))) else (some false)) else (if x16=11 then (if x5 ≥ 0 then ((gz.f k um uk uj ui x5 zS).bind fun t179=>((dC.f x6 t179).bind fun t180=>(some t180))) else (some false)) else (if x16=12 then ((fQ.f k um uk uj ui TJ).bind fun t181=>((dC.f x5 t181).bind fun t182=>(some t182))) else (if x16=13 then ((fQ.f k um uk uj ui TK).bind fun t183=>((dC.f x6 t183).bind fun t184=>(some t184))) else (some true)))))))))
def aY.f (k:Nat) (aZ:List ByteArray) (aV:ByteArray) (aW:ByteArray) (aI:List (iD)) (bZ:Int) (gB:Int) (ig:Int) (iH:Int) (iC:Int):Option (Bool):=(dO.f k aZ aV aW aI gB).bind fun t170=>((dO.f k aZ aV aW aI ig).bind fun t171=>(if bZ=5 then (aY.j0 k t170 t171 bZ (bZ == 5) aZ aV aW aI bZ gB ig iH iC) else (aY.j0 k t170 t171 bZ (bZ == 6) aZ aV aW aI bZ gB ig iH iC)))
theorem aY.iF:∀ k,(∀ y0 y1 y2 y3 y4 y5 y6 y7 y8 y9 AX Ip Io,dP (aY.j0 k y0 y1 y2 y3 y4 y5 y6 y7 y8 y9 AX Ip Io) (aY.j0 (k+1) y0 y1 y2 y3 y4 y5 y6 y7 y8 y9 AX Ip Io))
 | 0=>fun _ _ _ _ _ _ _ _ _ _ _ _ _ r h=>by simp [aY.j0] at h
 | k+1=>by
  have lW:=aY.iF k
  ·
   intro y0 y1 y2 y3 y4 y5 y6 y7 y8 y9 AX Ip Io
   unfold aY.j0
   repeat' with_reducible first|apply lW|apply fQ.mono|apply dO.mono|apply fB.mono|apply gz.mono|exact dP.refl _|exact dP.none _|refine dP.ite ?_ ?_|refine dP.bind ?_ (fun _=>?_)
theorem aY.mono:∀ a0 a1 a2 a3 a4 a5 a6 a7 a8 k,dP (aY.f k a0 a1 a2 a3 a4 a5 a6 a7 a8) (aY.f (k+1) a0 a1 a2 a3 a4 a5 a6 a7 a8):=by
 intro a0 a1 a2 a3 a4 a5 a6 a7 a8 k
 have lW:=aY.iF k
 unfold aY.f
 repeat' with_reducible first|apply lW|apply fQ.mono|apply dO.mono|apply fB.mono|apply gz.mono|exact dP.refl _|exact dP.none _|refine dP.ite ?_ ?_|refine dP.bind ?_ (fun _=>?_)
def aY.T1:Bool × List (List Nat × List Nat):=(true,[([],[]),([],[]),([1],[1]),([0,2],[0,2]),([],[]),([],[]),([5],[5]),([4,6,3],[4,6]),([3,7,0,1,2,3],[3]),([7,8,0,1,2,3,4,5,6,7,8],[7])])
def aY.B1:List Nat:=[0,0,2,7,0,0,32,127,255,511]
theorem aY.aac:qM .any (opsOf Tryd.f30 1)=aY.T1:=by kernel_rfl
theorem aY.RV:rZ aY.T1.2 aY.B1=true:=by kernel_rfl
set_option maxHeartbeats 8000000 in
set_option maxRecDepth 100000 in
theorem aY.calls (k:Nat) (eu:Option Addr) (ed:Nat) (aZ:List ByteArray) (aV:ByteArray) (aW:ByteArray) (gm:Option Addr) (eX:Nat) (aI:List (iD)) (bZ:Int) (gB:Int) (ig:Int) (iH:Int) (iC:Int) (r:Bool) (w:World) (jV:Kd.C Kd.string w eu aZ.length aZ) (jX:aZ.length≤ed) (jU:Kd.C uD w gm aI.length aI) (jW:aI.length≤eX) (h:aY.f k aZ aV aW aI bZ gB ig iH iC=some r) :
  Calls Tryd.prog 30 #[.agg #[.slice eu aZ.length ed,.string aV,.string aW,.slice gm aI.length eX],.agg #[.int .u8 bZ,.int .u8 gB,.int .u8 ig,.int .u8 iH,.int .i64 iC]] w fun e w'=>e=.returned (.bool r)∧Below w.heap.size w w':=by
 have yP:=Tryd.underlying25
 have CW:=Tryd.underlying55
 have iI:=ae.mk jV
 have iL:=ae.mk jX
 clear jV jX
 have jR:=ae.mk jU
 have kK:=ae.mk jW
 clear jU jW
 have HB:=ae.mk (Below.refl w.heap.size w)
 have H:((dO.f k aZ aV aW aI gB).bind fun t170=>((dO.f k aZ aV aW aI ig).bind fun t171=>(if bZ=5 then (aY.j0 k t170 t171 bZ (bZ == 5) aZ aV aW aI bZ gB ig iH iC) else (aY.j0 k t170 t171 bZ (bZ == 6) aZ aV aW aI bZ gB ig iH iC))))=some r:=h
 clear h
 replace H:=Option.bind_eq_some_iff.mp H
 obtain ⟨t170,yF,H⟩:=H
 replace H:((dO.f k aZ aV aW aI ig).bind fun t171=>(if bZ=5 then (aY.j0 k t170 t171 bZ (bZ == 5) aZ aV aW aI bZ gB ig iH iC) else (aY.j0 k t170 t171 bZ (bZ == 6) aZ aV aW aI bZ gB ig iH iC)))=some r:=H
 have A3:=ae.mk yF
 clear yF
 replace H:=Option.bind_eq_some_iff.mp H
 obtain ⟨t171,CO,H⟩:=H
 replace H:(if bZ=5 then (aY.j0 k t170 t171 bZ (bZ == 5) aZ aV aW aI bZ gB ig iH iC) else (aY.j0 k t170 t171 bZ (bZ == 6) aZ aV aW aI bZ gB ig iH iC))=some r:=H
 have A4:=ae.mk CO
 clear CO
 have JB:=ae.mk H
 clear H
 go_enter Tryd.func30,Tryd.ntmps30
 try go_wp2_with (first|((with_reducible refine bD (N:=2) rfl ?_);refine fG ?hg (N:=2) ?hd (cs:=#[.slice eu aZ.length ed,.string aV,.string aW,.slice gm aI.length eX]) (t:=25) ?hr ?_;(case hd=>rfl);(case hg=>rfl);(case hr=>first|(go_simp;done)|(go_simp;rfl));intro pV hg w6 hbox hb;have dX:=ae.mk (bn (by repeat (first|(with_reducible first|exact HB.out|apply ah|apply ag|apply ai)|exact HB.out)) hb);have dW:=ae.mk (hbox);have dU:=ae.mk ((by rw [hg];exact (bY (by repeat (first|(with_reducible first|exact HB.out|apply ah|apply ag|apply ai)|exact HB.out))):w.heap.size≤pV));have iq:=dU;clear HB;have HB:=dX;have iO:=dW;have aqH:=dU;have mg:=iq;clear dX dW dU iq;clear hb hbox hg)|((with_reducible refine bD (N:=3) rfl ?_);refine fG ?hg (N:=3) ?hd (cs:=#[.int .u8 bZ,.int .u8 gB,.int .u8 ig,.int .u8 iH,.int .i64 iC]) (t:=55) ?hr ?_;(case hd=>rfl);(case hg=>rfl);(case hr=>first|(go_simp;done)|(go_simp;rfl));intro qG hg w7 hbox hb;have dX:=ae.mk (bg (g:=pV) (o:=.cells #[.slice eu aZ.length ed,.string aV,.string aW,.slice gm aI.length eX] 25 (0,0)) (by (with_reducible repeat (first|refine au ?_ _|refine ay ?_|refine ak ?_ _));exact iO.out) hb);have dW:=ae.mk (bn (by repeat (first|(with_reducible first|exact HB.out|apply ah|apply ag|apply ai|refine aj ?_ mg.out)|exact HB.out)) hb);have dU:=ae.mk (hbox);have iq:=ae.mk ((by rw [hg];exact (bY (by repeat (first|(with_reducible first|exact HB.out|apply ah|apply ag|apply ai|refine aj ?_ mg.out)|exact HB.out))):w.heap.size≤qG));have mr:=iq;have ny:=ae.mk ((by rw [hg];exact Nat.ne_of_lt (kR (g:=pV) (o:=.cells #[.slice eu aZ.length ed,.string aV,.string aW,.slice gm aI.length eX] 25 (0,0)) (by (with_reducible repeat (first|refine au ?_ _|refine ay ?_|refine ak ?_ _));exact iO.out)):pV ≠ qG));have oz:=ae.mk ny.out.symm;clear iO;clear HB;have iO:=dX;have HB:=dW;have iM:=dU;have aqG:=iq;have ng:=mr;have o6:=ny;have o5:=oz;clear dX dW dU iq mr ny oz;clear hb hbox hg))
 have dX:=ae.mk (ay iO.out)
 have dW:=ae.mk (ay iM.out)
 have dU:=ae.mk (ai HB.out)
 clear iO
 clear iM
 clear HB
 have iO:=dX
 have iM:=dW
 have HB:=dU
 clear dX dW dU
 refine qg (n:=10) (S:=fun w'=>w'.cell? ⟨pV,0,none⟩=some (.slice eu aZ.length ed)∧w'.cell? ⟨pV,1,none⟩=some (.string aV)∧w'.cell? ⟨pV,2,none⟩=some (.string aW)∧w'.cell? ⟨pV,3,none⟩=some (.slice gm aI.length eX)∧w'.cell? ⟨qG,0,none⟩=some (.int .u8 bZ)∧w'.cell? ⟨qG,1,none⟩=some (.int .u8 gB)∧w'.cell? ⟨qG,2,none⟩=some (.int .u8 ig)∧w'.cell? ⟨qG,3,none⟩=some (.int .u8 iH)∧w'.cell? ⟨qG,4,none⟩=some (.int .i64 iC)) (ds:=[]) #[false,false,false,false,false,false,false,false,false,false] (by kernel_rfl) rfl rfl ⟨(ax iO.out 0).trans rfl,(ax iO.out 1).trans rfl,(ax iO.out 2).trans rfl,(ax iO.out 3).trans rfl,(ax iM.out 0).trans rfl,(ax iM.out 1).trans rfl,(ax iM.out 2).trans rfl,(ax iM.out 3).trans rfl,(ax iM.out 4).trans rfl⟩ (fun hHeld=>?_);refine ry aY.aac aY.RV (fun lT Df=>?_)
 generalize w7.drew=w8 at iO iM HB hHeld ⊢
 refine gZ (i:=1) (N:=some 8) (v:=?_) (a':=?_) #[false,true,false,false,false,false,false,false,false,false] rfl rfl (iP lT.out (by kernel_rfl)) (fun _ _ _ h=>h) (Or.inl ⟨by rfl,?_⟩) ?_ ?_
 rotate_left
 ·
  intro w'
  go_simp
  with_reducible rfl
 rotate_left
 ·
  simp only [Act.put,List.setIfInBounds_toArray,List.set_cons_zero,List.set_cons_succ,bT,bW]
  rfl
 refine gZ (i:=5) (N:=some 12) (v:=?_) (a':=?_) #[false,true,false,false,false,true,false,false,false,false] rfl rfl (iP lT.out (by kernel_rfl)) (fun _ _ _ h=>h) (Or.inl ⟨by rfl,?_⟩) ?_ ?_
 rotate_left
 ·
  intro w'
  go_simp
  with_reducible rfl
 rotate_left
 ·
  simp only [Act.put,List.setIfInBounds_toArray,List.set_cons_zero,List.set_cons_succ,bT,bW]
  rfl
 refine jY (i:=0) (N:=some 7) (v:=?_) (a':=?_) #[true,true,false,false,false,true,false,false,false,false] rfl rfl (kX lT.out Df.out (by kernel_rfl)) (fun _ _ _ h=>h) (Or.inl ⟨by rfl,?_⟩) hHeld ?_ ?_
 rotate_left
 ·
  rintro w' ⟨s0,s1,s2,s3,s4,s5,s6,s7,s8⟩
  go_simp
  with_reducible rfl
 rotate_left
 ·
  simp only [Act.put,List.setIfInBounds_toArray,List.set_cons_zero,List.set_cons_succ,bT,bW]
  rfl
 refine jY (i:=2) (N:=some 9) (v:=?_) (a':=?_) #[true,true,true,false,false,true,false,false,false,false] rfl rfl (kX lT.out Df.out (by kernel_rfl)) (fun _ _ _ h=>h) (Or.inl ⟨by rfl,?_⟩) hHeld ?_ ?_
 rotate_left
 ·
  rintro w' ⟨s0,s1,s2,s3,s4,s5,s6,s7,s8⟩
  go_simp
  with_reducible rfl
 rotate_left
 ·
  simp only [Act.put,List.setIfInBounds_toArray,List.set_cons_zero,List.set_cons_succ,bT,bW]
  rfl
 refine jY (i:=4) (N:=some 11) (v:=?_) (a':=?_) #[true,true,true,false,true,true,false,false,false,false] rfl rfl (kX lT.out Df.out (by kernel_rfl)) (fun _ _ _ h=>h) (Or.inl ⟨by rfl,?_⟩) hHeld ?_ ?_
 rotate_left
 ·
  rintro w' ⟨s0,s1,s2,s3,s4,s5,s6,s7,s8⟩
  go_simp
  with_reducible rfl
 rotate_left
 ·
  simp only [Act.put,List.setIfInBounds_toArray,List.set_cons_zero,List.set_cons_succ,bT,bW]
  rfl
 refine jY (i:=6) (N:=some 13) (v:=?_) (a':=?_) #[true,true,true,false,true,true,true,false,false,false] rfl rfl (kX lT.out Df.out (by kernel_rfl)) (fun _ _ _ h=>h) (Or.inl ⟨by rfl,?_⟩) hHeld ?_ ?_
 rotate_left
 ·
  rintro w' ⟨s0,s1,s2,s3,s4,s5,s6,s7,s8⟩
  go_simp
  with_reducible rfl
 rotate_left
 ·
  simp only [Act.put,List.setIfInBounds_toArray,List.set_cons_zero,List.set_cons_succ,bT,bW]
  rfl
 refine oP (i:=3) (N:=some 10) #[true,true,true,true,true,true,true,false,false,false] rfl rfl (nP lT.out (by kernel_rfl)) (by decide) (fun K hK=>?_)
 refine pz Tryd.func19 (by kernel_rfl) rfl #[.agg #[.slice eu aZ.length ed,.string aV,.string aW,.slice gm aI.length eX],.int .u8 gB] (by rfl) rfl rfl (by (try simp only [List.map_toArray,List.map_cons,List.map_nil]);first|done|rfl|(simp only [List.length_drop,List.length_take];rfl)) ?_
 with_reducible refine (dO.calls k _ _ aZ aV aW _ _ aI gB t170 _ ?df ?dA ?iY ?iW A3.out).mono ?_
 (case df=>repeat (first|exact (Kd.bJ iI.out HB.out)|(with_reducible refine Kd.bQ ?_ _)|(with_reducible refine Kd.bP ?_ _)|(with_reducible refine Kd.dF ?_)))
 (case dA=>exact iL.out)
 (case iY=>repeat (first|exact (Kd.bJ jR.out HB.out)|(with_reducible refine Kd.bQ ?_ _)|(with_reducible refine Kd.bP ?_ _)|(with_reducible refine Kd.dF ?_)))
 (case iW=>exact kK.out)
 rintro e w9 ⟨rfl,hb⟩
 refine ⟨_,rfl,?_⟩
 have dX:=ae.mk (bg (g:=pV) (o:=.cells #[.slice eu aZ.length ed,.string aV,.string aW,.slice gm aI.length eX] 25 (0,0)) (by (with_reducible repeat (first|refine au ?_ _|refine ay ?_|refine ak ?_ _));exact iO.out) hb)
 have dW:=ae.mk (bg (g:=qG) (o:=.cells #[.int .u8 bZ,.int .u8 gB,.int .u8 ig,.int .u8 iH,.int .i64 iC] 55 (0,0)) (by (with_reducible repeat (first|refine au ?_ _|refine ay ?_|refine ak ?_ _));exact iM.out) hb)
 have dU:=ae.mk (bn (by repeat (first|(with_reducible first|exact HB.out|apply ah|apply ag|apply ai|refine aj ?_ mg.out|refine aj ?_ ng.out)|exact HB.out)) hb)
 clear iO
 clear iM
 clear HB
 have iO:=dX
 have iM:=dW
 have HB:=dU
 clear dX dW dU
 (try clear hb)
 (try clear hb2)
 (try clear hk)
 (try clear hi)
 refine hK.out _ _ ⟨(ax iO.out 0).trans rfl,(ax iO.out 1).trans rfl,(ax iO.out 2).trans rfl,(ax iO.out 3).trans rfl,(ax iM.out 0).trans rfl,(ax iM.out 1).trans rfl,(ax iM.out 2).trans rfl,(ax iM.out 3).trans rfl,(ax iM.out 4).trans rfl⟩ (fun hHeld=>?_)
 clear hK K
 refine je (a':=?_) ?_ ?_
 rotate_left
 ·
  show Act.put _ (some 10) _=_
  simp only [Act.put,List.setIfInBounds_toArray,List.set_cons_zero,List.set_cons_succ,bT,bW]
  rfl
 refine oP (i:=7) (N:=some 14) #[true,true,true,true,true,true,true,true,false,false] rfl rfl (nP lT.out (by kernel_rfl)) (by decide) (fun K hK=>?_)
 refine pz Tryd.func19 (by kernel_rfl) rfl #[.agg #[.slice eu aZ.length ed,.string aV,.string aW,.slice gm aI.length eX],.int .u8 ig] (by rfl) rfl rfl (by (try simp only [List.map_toArray,List.map_cons,List.map_nil]);first|done|rfl|(simp only [List.length_drop,List.length_take];rfl)) ?_
 with_reducible refine (dO.calls k _ _ aZ aV aW _ _ aI ig t171 _ ?df ?dA ?iY ?iW A4.out).mono ?_
 (case df=>repeat (first|exact (Kd.bJ iI.out HB.out)|(with_reducible refine Kd.bQ ?_ _)|(with_reducible refine Kd.bP ?_ _)|(with_reducible refine Kd.dF ?_)))
 (case dA=>exact iL.out)
 (case iY=>repeat (first|exact (Kd.bJ jR.out HB.out)|(with_reducible refine Kd.bQ ?_ _)|(with_reducible refine Kd.bP ?_ _)|(with_reducible refine Kd.dF ?_)))
 (case iW=>exact kK.out)
 rintro e w10 ⟨rfl,hb⟩
 refine ⟨_,rfl,?_⟩
 have dX:=ae.mk (bg (g:=pV) (o:=.cells #[.slice eu aZ.length ed,.string aV,.string aW,.slice gm aI.length eX] 25 (0,0)) (by (with_reducible repeat (first|refine au ?_ _|refine ay ?_|refine ak ?_ _));exact iO.out) hb)
 have dW:=ae.mk (bg (g:=qG) (o:=.cells #[.int .u8 bZ,.int .u8 gB,.int .u8 ig,.int .u8 iH,.int .i64 iC] 55 (0,0)) (by (with_reducible repeat (first|refine au ?_ _|refine ay ?_|refine ak ?_ _));exact iM.out) hb)
 have dU:=ae.mk (bn (by repeat (first|(with_reducible first|exact HB.out|apply ah|apply ag|apply ai|refine aj ?_ mg.out|refine aj ?_ ng.out)|exact HB.out)) hb)
 clear iO
 clear iM
 clear HB
 have iO:=dX
 have iM:=dW
 have HB:=dU
 clear dX dW dU
 (try clear hb)
 (try clear hb2)
 (try clear hk)
 (try clear hi)
 refine hK.out _ _ ⟨(ax iO.out 0).trans rfl,(ax iO.out 1).trans rfl,(ax iO.out 2).trans rfl,(ax iO.out 3).trans rfl,(ax iM.out 0).trans rfl,(ax iM.out 1).trans rfl,(ax iM.out 2).trans rfl,(ax iM.out 3).trans rfl,(ax iM.out 4).trans rfl⟩ (fun hHeld=>?_)
 clear hK K
 refine je (a':=?_) ?_ ?_
 rotate_left
 ·
  show Act.put _ (some 14) _=_
  simp only [Act.put,List.setIfInBounds_toArray,List.set_cons_zero,List.set_cons_succ,bT,bW]
  rfl
 refine gZ (i:=8) (N:=some 5) (v:=?_) (a':=?_) #[true,true,true,true,true,true,true,true,true,false] rfl rfl (iP lT.out (by kernel_rfl)) (fun _ _ _ h=>h) (Or.inl ⟨by rfl,?_⟩) ?_ ?_
 rotate_left
 ·
  intro w'
  go_simp
  with_reducible rfl
 rotate_left
 ·
  simp only [Act.put,List.setIfInBounds_toArray,List.set_cons_zero,List.set_cons_succ,bT,bW]
  rfl
 refine gZ (i:=9) (N:=some 6) (v:=?_) (a':=?_) #[true,true,true,true,true,true,true,true,true,true] rfl rfl (iP lT.out (by kernel_rfl)) (fun _ _ _ h=>h) (Or.inl ⟨by rfl,?_⟩) ?_ ?_
 rotate_left
 ·
  intro w'
  go_simp
  with_reducible rfl
 rotate_left
 ·
  simp only [Act.put,List.setIfInBounds_toArray,List.set_cons_zero,List.set_cons_succ,bT,bW]
  rfl
 refine tq (wL lT.out (by kernel_rfl)) ?_
 have adB:=o5.out
 have adr:=o6.out
 obtain ⟨Fg,Ff,Fe,Fb,X4,EX,EW,EU,ET,Wj⟩:=kF iM.out
 go_upto_if 17 with (fail)
 go_cut [17] (fun v17 wc=>∃ (kq:Nat) (JL:Bool),v17=.bool JL∧ae (aY.j0 kq t170 t171 bZ JL aZ aV aW aI bZ gB ig iH iC=some r)∧ae (kq≤k)∧ae (wc.heap[pV]? = some (.cells #[(.slice eu aZ.length ed),.string aV,.string aW,(.slice gm aI.length eX)] 25 (0,0)))∧ae (wc.heap[qG]? = some (.cells #[.int .u8 bZ,.int .u8 gB,.int .u8 ig,.int .u8 iH,.int .i64 iC] 55 (0,0)))∧ae (Below w.heap.size w wc))
 case first =>
  have H:=JB.out
  clear JB
  by_cases c13:bZ=5
  ·
   rw [if_pos c13] at H
   have mY:(bZ == 5)=true:=beq_iff_eq.mpr c13
   have yx:(bZ != 5)=false:=bne_eq_false_iff_eq.mpr c13
   clear c13
   (first|rw [mY]|(simp only [bT,bW];rw [mY])|skip)
   have H':=ae.mk H
   clear H
   go_wp2
   go_meet
   case rel=>exact ⟨_,((bZ == 5)),(by first|rfl|(simp;done)|(simp [*];done)),H',⟨by first|omega|exact Nat.le_refl _⟩,⟨by (with_reducible repeat (first|refine au ?_ _|refine ay ?_|refine ak ?_ _));exact iO.out⟩,⟨by (with_reducible repeat (first|refine au ?_ _|refine ay ?_|refine ak ?_ _));exact iM.out⟩,⟨by repeat (first|(with_reducible first|exact HB.out|apply ah|apply ag|apply ai|refine aj ?_ mg.out|refine aj ?_ ng.out)|exact HB.out)⟩⟩
  ·
   rw [if_neg c13] at H
   have mY:(bZ == 5)=false:=beq_eq_false_iff_ne.mpr c13
   have yx:(bZ != 5)=true:=bne_iff_ne.mpr c13
   (first|rw [mY]|(simp only [bT,bW];rw [mY])|skip)
   have H':=ae.mk H
   clear H
   go_wp2
   go_meet
   case rel=>exact ⟨_,((bZ == 6)),(by first|rfl|(simp;done)|(simp [*];done)),H',⟨by first|omega|exact Nat.le_refl _⟩,⟨by (with_reducible repeat (first|refine au ?_ _|refine ay ?_|refine ak ?_ _));exact iO.out⟩,⟨by (with_reducible repeat (first|refine au ?_ _|refine ay ?_|refine ak ?_ _));exact iM.out⟩,⟨by repeat (first|(with_reducible first|exact HB.out|apply ah|apply ag|apply ai|refine aj ?_ mg.out|refine aj ?_ ng.out)|exact HB.out)⟩⟩
 case rest =>
  clear JB
  obtain ⟨kq,JL,rfl,HA,JA,iO,iM,HB⟩:=hcut
  cases kq with
  | zero=>exact absurd HA.out (by simp [aY.j0])
  | succ vZ =>
   have H:=HA.out
   clear HA
   simp only [aY.j0] at H
   by_cases c14:JL=true
   ·
    subst c14
    have H1:(some (decide (t170 ≥ 0)))=some r:=by rw [if_pos rfl] at H;exact H
    clear H
    have H:=H1
    clear H1
    obtain rfl:=Option.some.inj H
    go_wp2
    go_ret
    exact ⟨by first|rfl|(simp [aQ,aN] <;> rfl)|(simp [*,aQ,aN] <;> rfl),by repeat (first|(with_reducible first|exact HB.out|apply ah|apply ag|apply ai|refine aj ?_ mg.out|refine aj ?_ ng.out)|exact HB.out)⟩
   ·
    replace c14:=Bool.eq_false_iff.mpr c14
    subst c14
    have H1:(if bZ=7 then ((dC.f t170 t171).bind fun t172=>(some t172)) else (if bZ=15 then ((dO.f vZ aZ aV aW aI iH).bind fun t173=>((dC.f t171 t173).bind fun t174=>(some t174))) else (if bZ=8 then (if t171 ≥ 0 then ((fB.f vZ aZ aV aW aI t171 iC).bind fun t175=>(some t175)) else (some false)) else (if bZ=9 then (if t170 ≥ 0 then ((fB.f vZ aZ aV aW aI t170 iC).bind fun t176=>(some t176)) else (some false)) else (if bZ=10 then (if t171 ≥ 0 then ((gz.f vZ aZ aV aW aI t171 iC).bind fun t177=>((dC.f t170 t177).bind fun t178=>(some t178))) else (some false)) else (if bZ=11 then (if t170 ≥ 0 then ((gz.f vZ aZ aV aW aI t170 iC).bind fun t179=>((dC.f t171 t179).bind fun t180=>(some t180))) else (some false)) else (if bZ=12 then ((fQ.f vZ aZ aV aW aI ig).bind fun t181=>((dC.f t170 t181).bind fun t182=>(some t182))) else (if bZ=13 then ((fQ.f vZ aZ aV aW aI gB).bind fun t183=>((dC.f t171 t183).bind fun t184=>(some t184))) else (some true)))))))))=some r:=by rw [if_neg (show ¬ (false=true) by decide)] at H;exact H
    clear H
    have H:=H1
    clear H1
    by_cases c15:bZ=7
    ·
     rw [if_pos c15] at H
     have qR:(bZ == 7)=true:=beq_iff_eq.mpr c15
     have Hr:(bZ != 7)=false:=bne_eq_false_iff_eq.mpr c15
     clear c15
     replace H:=Option.bind_eq_some_iff.mp H
     obtain ⟨t172,Ii,H⟩:=H
     replace H:(some t172)=some r:=H
     have A16:=ae.mk Ii
     clear Ii
     obtain rfl:=Option.some.inj H
     go_wp2_with (first|((with_reducible refine bz (f:=48) rfl ?_);refine dV (some 26) rfl rfl Tryd.func48 (by kernel_rfl) rfl #[.int .i64 t170,.int .i64 t171] rfl (by (try simp only [List.map_toArray,List.map_cons,List.map_nil]);first|done|rfl|(simp only [List.length_drop,List.length_take];rfl)) ?_;(with_reducible refine (dC.calls t170 t171 t172 _ A16.out).mono ?_);rintro e w' ⟨rfl,⟨nd,rfl⟩⟩;refine ⟨_,rfl,?_⟩))
     go_ret
     exact ⟨by first|rfl|(simp [aQ,aN] <;> rfl)|(simp [*,aQ,aN] <;> rfl),by repeat (first|(with_reducible first|exact HB.out|apply ah|apply ag|apply ai|refine aj ?_ mg.out|refine aj ?_ ng.out)|exact HB.out)⟩
    ·
     rw [if_neg c15] at H
     have qR:(bZ == 7)=false:=beq_eq_false_iff_ne.mpr c15
     have Hr:(bZ != 7)=true:=bne_iff_ne.mpr c15
     by_cases c17:bZ=15
     ·
      rw [if_pos c17] at H
      have zC:(bZ == 15)=true:=beq_iff_eq.mpr c17
      have Hq:(bZ != 15)=false:=bne_eq_false_iff_eq.mpr c17
      clear c17
      replace H:=Option.bind_eq_some_iff.mp H
      obtain ⟨t173,agN,H⟩:=H
      replace H:((dC.f t171 t173).bind fun t174=>(some t174))=some r:=H
      have A18:=ae.mk agN
      clear agN
      replace H:=Option.bind_eq_some_iff.mp H
      obtain ⟨t174,Ih,H⟩:=H
      replace H:(some t174)=some r:=H
      have Td:=ae.mk Ih
      clear Ih
      obtain rfl:=Option.some.inj H
      have apw:=o6.out
      have ao4:=o5.out
      obtain ⟨XM,XL,XK,XJ,VV,VU,VT,VS⟩:=rW iO.out
      obtain ⟨MP,MO,MN,MM,amh,Ls,Lr,Lp,Lm,ajZ⟩:=kF iM.out
      go_wp2_with (first|((with_reducible refine bz (f:=19) rfl ?_);refine dV (some 33) rfl rfl Tryd.func19 (by kernel_rfl) rfl #[.agg #[.slice eu aZ.length ed,.string aV,.string aW,.slice gm aI.length eX],.int .u8 iH] rfl (by (try simp only [List.map_toArray,List.map_cons,List.map_nil]);first|done|rfl|(simp only [List.length_drop,List.length_take];rfl)) ?_;(with_reducible refine (dO.calls vZ _ _ aZ aV aW _ _ aI iH t173 _ ?df ?dA ?iY ?iW A18.out).mono ?_);(case df=>repeat (first|exact (Kd.bJ iI.out HB.out)|(with_reducible refine Kd.bQ ?_ _)|(with_reducible refine Kd.bP ?_ _)|(with_reducible refine Kd.dF ?_)));(case dA=>exact iL.out);(case iY=>repeat (first|exact (Kd.bJ jR.out HB.out)|(with_reducible refine Kd.bQ ?_ _)|(with_reducible refine Kd.bP ?_ _)|(with_reducible refine Kd.dF ?_)));(case iW=>exact kK.out);rintro e w23 ⟨rfl,hb⟩;refine ⟨_,rfl,?_⟩;have dX:=ae.mk (bg (g:=pV) (o:=.cells #[.slice eu aZ.length ed,.string aV,.string aW,.slice gm aI.length eX] 25 (0,0)) (by (with_reducible repeat (first|refine au ?_ _|refine ay ?_|refine ak ?_ _));exact iO.out) hb);have dW:=ae.mk (bg (g:=qG) (o:=.cells #[.int .u8 bZ,.int .u8 gB,.int .u8 ig,.int .u8 iH,.int .i64 iC] 55 (0,0)) (by (with_reducible repeat (first|refine au ?_ _|refine ay ?_|refine ak ?_ _));exact iM.out) hb);have dU:=ae.mk (bn (by repeat (first|(with_reducible first|exact HB.out|apply ah|apply ag|apply ai|refine aj ?_ mg.out|refine aj ?_ ng.out)|exact HB.out)) hb);clear iO;clear iM;clear HB;have iO:=dX;have iM:=dW;have HB:=dU;clear dX dW dU;(try clear hb);(try clear hb2);(try clear hk);(try clear hi))|((with_reducible refine bz (f:=48) rfl ?_);refine dV (some 34) rfl rfl Tryd.func48 (by kernel_rfl) rfl #[.int .i64 t171,.int .i64 t173] rfl (by (try simp only [List.map_toArray,List.map_cons,List.map_nil]);first|done|rfl|(simp only [List.length_drop,List.length_take];rfl)) ?_;(with_reducible refine (dC.calls t171 t173 t174 _ Td.out).mono ?_);rintro e w' ⟨rfl,⟨nd,rfl⟩⟩;refine ⟨_,rfl,?_⟩))
      go_ret
      exact ⟨by first|rfl|(simp [aQ,aN] <;> rfl)|(simp [*,aQ,aN] <;> rfl),by repeat (first|(with_reducible first|exact HB.out|apply ah|apply ag|apply ai|refine aj ?_ mg.out|refine aj ?_ ng.out)|exact HB.out)⟩
     ·
      rw [if_neg c17] at H
      have zC:(bZ == 15)=false:=beq_eq_false_iff_ne.mpr c17
      have Hq:(bZ != 15)=true:=bne_iff_ne.mpr c17
      by_cases c24:bZ=8
      ·
       rw [if_pos c24] at H
       have afr:(bZ == 8)=true:=beq_iff_eq.mpr c24
       have afq:(bZ != 8)=false:=bne_eq_false_iff_eq.mpr c24
       clear c24
       by_cases c25:t171 ≥ 0
       ·
        rw [if_pos c25] at H
        have afp:decide (0≤t171)=true:=decide_eq_true c25
        clear c25
        replace H:=Option.bind_eq_some_iff.mp H
        obtain ⟨t175,agL,H⟩:=H
        replace H:(some t175)=some r:=H
        have A26:=ae.mk agL
        clear agL
        obtain rfl:=Option.some.inj H
        have ady:=o6.out
        have ado:=o5.out
        obtain ⟨ML,MK,MJ,MI,Ll,Lj,Lh,Le⟩:=rW iO.out
        obtain ⟨XC,XB,XA,Xz,Xy,VL,VK,VJ,VI,VH⟩:=kF iM.out
        go_wp2_with (first|(go_at_call 49;(with_reducible refine (fB.calls vZ _ _ aZ aV aW _ _ aI t171 iC t175 _ ?df ?dA ?iY ?iW A26.out).mono ?_);(case df=>repeat (first|exact (Kd.bJ iI.out HB.out)|(with_reducible refine Kd.bQ ?_ _)|(with_reducible refine Kd.bP ?_ _)|(with_reducible refine Kd.dF ?_)));(case dA=>exact iL.out);(case iY=>repeat (first|exact (Kd.bJ jR.out HB.out)|(with_reducible refine Kd.bQ ?_ _)|(with_reducible refine Kd.bP ?_ _)|(with_reducible refine Kd.dF ?_)));(case iW=>exact kK.out);rintro e w30 ⟨rfl,hb⟩;have dX:=ae.mk (bg (g:=pV) (o:=.cells #[.slice eu aZ.length ed,.string aV,.string aW,.slice gm aI.length eX] 25 (0,0)) (by (with_reducible repeat (first|refine au ?_ _|refine ay ?_|refine ak ?_ _));exact iO.out) hb);have dW:=ae.mk (bg (g:=qG) (o:=.cells #[.int .u8 bZ,.int .u8 gB,.int .u8 ig,.int .u8 iH,.int .i64 iC] 55 (0,0)) (by (with_reducible repeat (first|refine au ?_ _|refine ay ?_|refine ak ?_ _));exact iM.out) hb);have dU:=ae.mk (bn (by repeat (first|(with_reducible first|exact HB.out|apply ah|apply ag|apply ai|refine aj ?_ mg.out|refine aj ?_ ng.out)|exact HB.out)) hb);clear iO;clear iM;clear HB;have iO:=dX;have iM:=dW;have HB:=dU;clear dX dW dU;(try clear hb);(try clear hb2);(try clear hk);(try clear hi)))
        go_ret
        exact ⟨by first|rfl|(simp [aQ,aN] <;> rfl)|(simp [*,aQ,aN] <;> rfl),by repeat (first|(with_reducible first|exact HB.out|apply ah|apply ag|apply ai|refine aj ?_ mg.out|refine aj ?_ ng.out)|exact HB.out)⟩
       ·
        rw [if_neg c25] at H
        have afp:decide (0≤t171)=false:=decide_eq_false c25
        clear c25
        obtain rfl:=Option.some.inj H
        go_wp2
        go_ret
        exact ⟨by first|rfl|(simp [aQ,aN] <;> rfl)|(simp [*,aQ,aN] <;> rfl),by repeat (first|(with_reducible first|exact HB.out|apply ah|apply ag|apply ai|refine aj ?_ mg.out|refine aj ?_ ng.out)|exact HB.out)⟩
      ·
       rw [if_neg c24] at H
       have afr:(bZ == 8)=false:=beq_eq_false_iff_ne.mpr c24
       have afq:(bZ != 8)=true:=bne_iff_ne.mpr c24
       by_cases c31:bZ=9
       ·
        rw [if_pos c31] at H
        have afm:(bZ == 9)=true:=beq_iff_eq.mpr c31
        have afl:(bZ != 9)=false:=bne_eq_false_iff_eq.mpr c31
        clear c31
        by_cases c32:t170 ≥ 0
        ·
         rw [if_pos c32] at H
         have RH:decide (0≤t170)=true:=decide_eq_true c32
         clear c32
         replace H:=Option.bind_eq_some_iff.mp H
         obtain ⟨t176,S9,H⟩:=H
         replace H:(some t176)=some r:=H
         have A33:=ae.mk S9
         clear S9
         obtain rfl:=Option.some.inj H
         have Y4:=o6.out
         have Y2:=o5.out
         obtain ⟨MH,MG,MF,MC,Ld,Lc,La,KZ⟩:=rW iO.out
         obtain ⟨Xw,Xv,Xu,Xt,Xr,VF,VE,VD,VC,VB⟩:=kF iM.out
         go_wp2_with (first|(go_at_call 49;(with_reducible refine (fB.calls vZ _ _ aZ aV aW _ _ aI t170 iC t176 _ ?df ?dA ?iY ?iW A33.out).mono ?_);(case df=>repeat (first|exact (Kd.bJ iI.out HB.out)|(with_reducible refine Kd.bQ ?_ _)|(with_reducible refine Kd.bP ?_ _)|(with_reducible refine Kd.dF ?_)));(case dA=>exact iL.out);(case iY=>repeat (first|exact (Kd.bJ jR.out HB.out)|(with_reducible refine Kd.bQ ?_ _)|(with_reducible refine Kd.bP ?_ _)|(with_reducible refine Kd.dF ?_)));(case iW=>exact kK.out);rintro e w37 ⟨rfl,hb⟩;have dX:=ae.mk (bg (g:=pV) (o:=.cells #[.slice eu aZ.length ed,.string aV,.string aW,.slice gm aI.length eX] 25 (0,0)) (by (with_reducible repeat (first|refine au ?_ _|refine ay ?_|refine ak ?_ _));exact iO.out) hb);have dW:=ae.mk (bg (g:=qG) (o:=.cells #[.int .u8 bZ,.int .u8 gB,.int .u8 ig,.int .u8 iH,.int .i64 iC] 55 (0,0)) (by (with_reducible repeat (first|refine au ?_ _|refine ay ?_|refine ak ?_ _));exact iM.out) hb);have dU:=ae.mk (bn (by repeat (first|(with_reducible first|exact HB.out|apply ah|apply ag|apply ai|refine aj ?_ mg.out|refine aj ?_ ng.out)|exact HB.out)) hb);clear iO;clear iM;clear HB;have iO:=dX;have iM:=dW;have HB:=dU;clear dX dW dU;(try clear hb);(try clear hb2);(try clear hk);(try clear hi)))
         go_ret
         exact ⟨by first|rfl|(simp [aQ,aN] <;> rfl)|(simp [*,aQ,aN] <;> rfl),by repeat (first|(with_reducible first|exact HB.out|apply ah|apply ag|apply ai|refine aj ?_ mg.out|refine aj ?_ ng.out)|exact HB.out)⟩
        ·
         rw [if_neg c32] at H
         have RH:decide (0≤t170)=false:=decide_eq_false c32
         clear c32
         obtain rfl:=Option.some.inj H
         go_wp2
         go_ret
         exact ⟨by first|rfl|(simp [aQ,aN] <;> rfl)|(simp [*,aQ,aN] <;> rfl),by repeat (first|(with_reducible first|exact HB.out|apply ah|apply ag|apply ai|refine aj ?_ mg.out|refine aj ?_ ng.out)|exact HB.out)⟩
       ·
        rw [if_neg c31] at H
        have afm:(bZ == 9)=false:=beq_eq_false_iff_ne.mpr c31
        have afl:(bZ != 9)=true:=bne_iff_ne.mpr c31
        by_cases Ns:bZ=10
        ·
         rw [if_pos Ns] at H
         have BX:(bZ == 10)=true:=beq_iff_eq.mpr Ns
         have afg:(bZ != 10)=false:=bne_eq_false_iff_eq.mpr Ns
         clear Ns
         by_cases c39:t171 ≥ 0
         ·
          rw [if_pos c39] at H
          have aff:decide (0≤t171)=true:=decide_eq_true c39
          clear c39
          replace H:=Option.bind_eq_some_iff.mp H
          obtain ⟨t177,agH,H⟩:=H
          replace H:((dC.f t170 t177).bind fun t178=>(some t178))=some r:=H
          have CO:=ae.mk agH
          clear agH
          replace H:=Option.bind_eq_some_iff.mp H
          obtain ⟨t178,agG,H⟩:=H
          replace H:(some t178)=some r:=H
          have A41:=ae.mk agG
          clear agG
          obtain rfl:=Option.some.inj H
          have api:=o6.out
          have aoR:=o5.out
          obtain ⟨Me,Md,Mc,L9,KY,KX,KW,KU⟩:=rW iO.out
          obtain ⟨Xm,Xl,Xk,Xj,Xi,Vw,Vu,Vt,Vs,Vr⟩:=kF iM.out
          go_wp2_with (first|(go_at_call 50;(with_reducible refine (gz.calls vZ _ _ aZ aV aW _ _ aI t171 iC t177 _ ?df ?dA ?iY ?iW CO.out).mono ?_);(case df=>repeat (first|exact (Kd.bJ iI.out HB.out)|(with_reducible refine Kd.bQ ?_ _)|(with_reducible refine Kd.bP ?_ _)|(with_reducible refine Kd.dF ?_)));(case dA=>exact iL.out);(case iY=>repeat (first|exact (Kd.bJ jR.out HB.out)|(with_reducible refine Kd.bQ ?_ _)|(with_reducible refine Kd.bP ?_ _)|(with_reducible refine Kd.dF ?_)));(case iW=>exact kK.out);rintro e w45 ⟨rfl,hb⟩;have dX:=ae.mk (bg (g:=pV) (o:=.cells #[.slice eu aZ.length ed,.string aV,.string aW,.slice gm aI.length eX] 25 (0,0)) (by (with_reducible repeat (first|refine au ?_ _|refine ay ?_|refine ak ?_ _));exact iO.out) hb);have dW:=ae.mk (bg (g:=qG) (o:=.cells #[.int .u8 bZ,.int .u8 gB,.int .u8 ig,.int .u8 iH,.int .i64 iC] 55 (0,0)) (by (with_reducible repeat (first|refine au ?_ _|refine ay ?_|refine ak ?_ _));exact iM.out) hb);have dU:=ae.mk (bn (by repeat (first|(with_reducible first|exact HB.out|apply ah|apply ag|apply ai|refine aj ?_ mg.out|refine aj ?_ ng.out)|exact HB.out)) hb);clear iO;clear iM;clear HB;have iO:=dX;have iM:=dW;have HB:=dU;clear dX dW dU;(try clear hb);(try clear hb2);(try clear hk);(try clear hi))|(go_at_call 48;(with_reducible refine (dC.calls t170 t177 t178 _ A41.out).mono ?_);rintro e w' ⟨rfl,⟨nd,rfl⟩⟩))
          go_ret
          exact ⟨by first|rfl|(simp [aQ,aN] <;> rfl)|(simp [*,aQ,aN] <;> rfl),by repeat (first|(with_reducible first|exact HB.out|apply ah|apply ag|apply ai|refine aj ?_ mg.out|refine aj ?_ ng.out)|exact HB.out)⟩
         ·
          rw [if_neg c39] at H
          have aff:decide (0≤t171)=false:=decide_eq_false c39
          clear c39
          obtain rfl:=Option.some.inj H
          go_wp2
          go_ret
          exact ⟨by first|rfl|(simp [aQ,aN] <;> rfl)|(simp [*,aQ,aN] <;> rfl),by repeat (first|(with_reducible first|exact HB.out|apply ah|apply ag|apply ai|refine aj ?_ mg.out|refine aj ?_ ng.out)|exact HB.out)⟩
        ·
         rw [if_neg Ns] at H
         have BX:(bZ == 10)=false:=beq_eq_false_iff_ne.mpr Ns
         have afg:(bZ != 10)=true:=bne_iff_ne.mpr Ns
         by_cases c46:bZ=11
         ·
          rw [if_pos c46] at H
          have afe:(bZ == 11)=true:=beq_iff_eq.mpr c46
          have afd:(bZ != 11)=false:=bne_eq_false_iff_eq.mpr c46
          clear c46
          by_cases c47:t170 ≥ 0
          ·
           rw [if_pos c47] at H
           have afc:decide (0≤t170)=true:=decide_eq_true c47
           clear c47
           replace H:=Option.bind_eq_some_iff.mp H
           obtain ⟨t179,agC,H⟩:=H
           replace H:((dC.f t171 t179).bind fun t180=>(some t180))=some r:=H
           have A48:=ae.mk agC
           clear agC
           replace H:=Option.bind_eq_some_iff.mp H
           obtain ⟨t180,agB,H⟩:=H
           replace H:(some t180)=some r:=H
           have A49:=ae.mk agB
           clear agB
           obtain rfl:=Option.some.inj H
           have aph:=o6.out
           have aoQ:=o5.out
           obtain ⟨Xd,Xc,Xb,Xa,Vl,Vk,Vj,Vh⟩:=rW iO.out
           obtain ⟨W9,WZ,WY,WX,alp,Vg,Vf,Ve,Vd,ai9⟩:=kF iM.out
           go_wp2_with (first|(go_at_call 50;(with_reducible refine (gz.calls vZ _ _ aZ aV aW _ _ aI t170 iC t179 _ ?df ?dA ?iY ?iW A48.out).mono ?_);(case df=>repeat (first|exact (Kd.bJ iI.out HB.out)|(with_reducible refine Kd.bQ ?_ _)|(with_reducible refine Kd.bP ?_ _)|(with_reducible refine Kd.dF ?_)));(case dA=>exact iL.out);(case iY=>repeat (first|exact (Kd.bJ jR.out HB.out)|(with_reducible refine Kd.bQ ?_ _)|(with_reducible refine Kd.bP ?_ _)|(with_reducible refine Kd.dF ?_)));(case iW=>exact kK.out);rintro e w53 ⟨rfl,hb⟩;have dX:=ae.mk (bg (g:=pV) (o:=.cells #[.slice eu aZ.length ed,.string aV,.string aW,.slice gm aI.length eX] 25 (0,0)) (by (with_reducible repeat (first|refine au ?_ _|refine ay ?_|refine ak ?_ _));exact iO.out) hb);have dW:=ae.mk (bg (g:=qG) (o:=.cells #[.int .u8 bZ,.int .u8 gB,.int .u8 ig,.int .u8 iH,.int .i64 iC] 55 (0,0)) (by (with_reducible repeat (first|refine au ?_ _|refine ay ?_|refine ak ?_ _));exact iM.out) hb);have dU:=ae.mk (bn (by repeat (first|(with_reducible first|exact HB.out|apply ah|apply ag|apply ai|refine aj ?_ mg.out|refine aj ?_ ng.out)|exact HB.out)) hb);clear iO;clear iM;clear HB;have iO:=dX;have iM:=dW;have HB:=dU;clear dX dW dU;(try clear hb);(try clear hb2);(try clear hk);(try clear hi))|(go_at_call 48;(with_reducible refine (dC.calls t171 t179 t180 _ A49.out).mono ?_);rintro e w' ⟨rfl,⟨nd,rfl⟩⟩))
           go_ret
           exact ⟨by first|rfl|(simp [aQ,aN] <;> rfl)|(simp [*,aQ,aN] <;> rfl),by repeat (first|(with_reducible first|exact HB.out|apply ah|apply ag|apply ai|refine aj ?_ mg.out|refine aj ?_ ng.out)|exact HB.out)⟩
          ·
           rw [if_neg c47] at H
           have afc:decide (0≤t170)=false:=decide_eq_false c47
           clear c47
           obtain rfl:=Option.some.inj H
           go_wp2
           go_ret
           exact ⟨by first|rfl|(simp [aQ,aN] <;> rfl)|(simp [*,aQ,aN] <;> rfl),by repeat (first|(with_reducible first|exact HB.out|apply ah|apply ag|apply ai|refine aj ?_ mg.out|refine aj ?_ ng.out)|exact HB.out)⟩
         ·
          rw [if_neg c46] at H
          have afe:(bZ == 11)=false:=beq_eq_false_iff_ne.mpr c46
          have afd:(bZ != 11)=true:=bne_iff_ne.mpr c46
          by_cases c54:bZ=12
          ·
           rw [if_pos c54] at H
           have ae9:(bZ == 12)=true:=beq_iff_eq.mpr c54
           have ae8:(bZ != 12)=false:=bne_eq_false_iff_eq.mpr c54
           clear c54
           replace H:=Option.bind_eq_some_iff.mp H
           obtain ⟨t181,agy,H⟩:=H
           replace H:((dC.f t170 t181).bind fun t182=>(some t182))=some r:=H
           have A55:=ae.mk agy
           clear agy
           replace H:=Option.bind_eq_some_iff.mp H
           obtain ⟨t182,agx,H⟩:=H
           replace H:(some t182)=some r:=H
           have A56:=ae.mk agx
           clear agx
           obtain rfl:=Option.some.inj H
           have adt:=o6.out
           have adi:=o5.out
           obtain ⟨WR,WQ,WO,WN,U6,U5,U4,U3⟩:=rW iO.out
           obtain ⟨LW,LV,LU,LQ,LP,KN,KL,KJ,KI,KH⟩:=kF iM.out
           go_wp2_with (first|((with_reducible refine bz (f:=20) rfl ?_);refine dV (some 89) rfl rfl Tryd.func20 (by kernel_rfl) rfl #[.agg #[.slice eu aZ.length ed,.string aV,.string aW,.slice gm aI.length eX],.int .u8 ig] rfl (by (try simp only [List.map_toArray,List.map_cons,List.map_nil]);first|done|rfl|(simp only [List.length_drop,List.length_take];rfl)) ?_;(with_reducible refine (fQ.calls vZ _ _ aZ aV aW _ _ aI ig t181 _ ?df ?dA ?iY ?iW A55.out).mono ?_);(case df=>repeat (first|exact (Kd.bJ iI.out HB.out)|(with_reducible refine Kd.bQ ?_ _)|(with_reducible refine Kd.bP ?_ _)|(with_reducible refine Kd.dF ?_)));(case dA=>exact iL.out);(case iY=>repeat (first|exact (Kd.bJ jR.out HB.out)|(with_reducible refine Kd.bQ ?_ _)|(with_reducible refine Kd.bP ?_ _)|(with_reducible refine Kd.dF ?_)));(case iW=>exact kK.out);rintro e w60 ⟨rfl,hb⟩;refine ⟨_,rfl,?_⟩;have dX:=ae.mk (bg (g:=pV) (o:=.cells #[.slice eu aZ.length ed,.string aV,.string aW,.slice gm aI.length eX] 25 (0,0)) (by (with_reducible repeat (first|refine au ?_ _|refine ay ?_|refine ak ?_ _));exact iO.out) hb);have dW:=ae.mk (bg (g:=qG) (o:=.cells #[.int .u8 bZ,.int .u8 gB,.int .u8 ig,.int .u8 iH,.int .i64 iC] 55 (0,0)) (by (with_reducible repeat (first|refine au ?_ _|refine ay ?_|refine ak ?_ _));exact iM.out) hb);have dU:=ae.mk (bn (by repeat (first|(with_reducible first|exact HB.out|apply ah|apply ag|apply ai|refine aj ?_ mg.out|refine aj ?_ ng.out)|exact HB.out)) hb);clear iO;clear iM;clear HB;have iO:=dX;have iM:=dW;have HB:=dU;clear dX dW dU;(try clear hb);(try clear hb2);(try clear hk);(try clear hi))|((with_reducible refine bz (f:=48) rfl ?_);refine dV (some 90) rfl rfl Tryd.func48 (by kernel_rfl) rfl #[.int .i64 t170,.int .i64 t181] rfl (by (try simp only [List.map_toArray,List.map_cons,List.map_nil]);first|done|rfl|(simp only [List.length_drop,List.length_take];rfl)) ?_;(with_reducible refine (dC.calls t170 t181 t182 _ A56.out).mono ?_);rintro e w' ⟨rfl,⟨nd,rfl⟩⟩;refine ⟨_,rfl,?_⟩))
           go_ret
           exact ⟨by first|rfl|(simp [aQ,aN] <;> rfl)|(simp [*,aQ,aN] <;> rfl),by repeat (first|(with_reducible first|exact HB.out|apply ah|apply ag|apply ai|refine aj ?_ mg.out|refine aj ?_ ng.out)|exact HB.out)⟩
          ·
           rw [if_neg c54] at H
           have ae9:(bZ == 12)=false:=beq_eq_false_iff_ne.mpr c54
           have ae8:(bZ != 12)=true:=bne_iff_ne.mpr c54
           by_cases c61:bZ=13
           ·
            rw [if_pos c61] at H
            have ae7:(bZ == 13)=true:=beq_iff_eq.mpr c61
            have ae6:(bZ != 13)=false:=bne_eq_false_iff_eq.mpr c61
            clear c61
            replace H:=Option.bind_eq_some_iff.mp H
            obtain ⟨t183,agw,H⟩:=H
            replace H:((dC.f t171 t183).bind fun t184=>(some t184))=some r:=H
            have A62:=ae.mk agw
            clear agw
            replace H:=Option.bind_eq_some_iff.mp H
            obtain ⟨t184,agv,H⟩:=H
            replace H:(some t184)=some r:=H
            have A63:=ae.mk agv
            clear agv
            obtain rfl:=Option.some.inj H
            have ads:=o6.out
            have adh:=o5.out
            obtain ⟨Wv,Wu,Ws,Wq,UQ,UO,UN,UM⟩:=rW iO.out
            obtain ⟨akY,akX,akW,akV,akU,aiJ,aiI,aiH,aiG,aiF⟩:=kF iM.out
            go_wp2_with (first|((with_reducible refine bz (f:=20) rfl ?_);refine dV (some 97) rfl rfl Tryd.func20 (by kernel_rfl) rfl #[.agg #[.slice eu aZ.length ed,.string aV,.string aW,.slice gm aI.length eX],.int .u8 gB] rfl (by (try simp only [List.map_toArray,List.map_cons,List.map_nil]);first|done|rfl|(simp only [List.length_drop,List.length_take];rfl)) ?_;(with_reducible refine (fQ.calls vZ _ _ aZ aV aW _ _ aI gB t183 _ ?df ?dA ?iY ?iW A62.out).mono ?_);(case df=>repeat (first|exact (Kd.bJ iI.out HB.out)|(with_reducible refine Kd.bQ ?_ _)|(with_reducible refine Kd.bP ?_ _)|(with_reducible refine Kd.dF ?_)));(case dA=>exact iL.out);(case iY=>repeat (first|exact (Kd.bJ jR.out HB.out)|(with_reducible refine Kd.bQ ?_ _)|(with_reducible refine Kd.bP ?_ _)|(with_reducible refine Kd.dF ?_)));(case iW=>exact kK.out);rintro e w67 ⟨rfl,hb⟩;refine ⟨_,rfl,?_⟩;have dX:=ae.mk (bg (g:=pV) (o:=.cells #[.slice eu aZ.length ed,.string aV,.string aW,.slice gm aI.length eX] 25 (0,0)) (by (with_reducible repeat (first|refine au ?_ _|refine ay ?_|refine ak ?_ _));exact iO.out) hb);have dW:=ae.mk (bg (g:=qG) (o:=.cells #[.int .u8 bZ,.int .u8 gB,.int .u8 ig,.int .u8 iH,.int .i64 iC] 55 (0,0)) (by (with_reducible repeat (first|refine au ?_ _|refine ay ?_|refine ak ?_ _));exact iM.out) hb);have dU:=ae.mk (bn (by repeat (first|(with_reducible first|exact HB.out|apply ah|apply ag|apply ai|refine aj ?_ mg.out|refine aj ?_ ng.out)|exact HB.out)) hb);clear iO;clear iM;clear HB;have iO:=dX;have iM:=dW;have HB:=dU;clear dX dW dU;(try clear hb);(try clear hb2);(try clear hk);(try clear hi))|((with_reducible refine bz (f:=48) rfl ?_);refine dV (some 98) rfl rfl Tryd.func48 (by kernel_rfl) rfl #[.int .i64 t171,.int .i64 t183] rfl (by (try simp only [List.map_toArray,List.map_cons,List.map_nil]);first|done|rfl|(simp only [List.length_drop,List.length_take];rfl)) ?_;(with_reducible refine (dC.calls t171 t183 t184 _ A63.out).mono ?_);rintro e w' ⟨rfl,⟨nd,rfl⟩⟩;refine ⟨_,rfl,?_⟩))
            go_ret
            exact ⟨by first|rfl|(simp [aQ,aN] <;> rfl)|(simp [*,aQ,aN] <;> rfl),by repeat (first|(with_reducible first|exact HB.out|apply ah|apply ag|apply ai|refine aj ?_ mg.out|refine aj ?_ ng.out)|exact HB.out)⟩
           ·
            rw [if_neg c61] at H
            have ae7:(bZ == 13)=false:=beq_eq_false_iff_ne.mpr c61
            have ae6:(bZ != 13)=true:=bne_iff_ne.mpr c61
            obtain rfl:=Option.some.inj H
            go_wp2
            go_ret
            exact ⟨by first|rfl|(simp [aQ,aN] <;> rfl)|(simp [*,aQ,aN] <;> rfl),by repeat (first|(with_reducible first|exact HB.out|apply ah|apply ag|apply ai|refine aj ?_ mg.out|refine aj ?_ ng.out)|exact HB.out)⟩
end Go.Proofs.YtlemecdddhdagaaDoor.P
end
section
namespace Go.Proofs.YtlemecdddhdagaaDoor.P
open Go.RowKit Go.Proofs.af.bF Go.Proofs.af.dD Go.Proofs.af.dN
def Tot {α:Type} (P:α→Prop) (g:Nat→Option α):Prop:=∃ r,Ev g r∧P r
abbrev YL {α:Type}:α→Prop:=fun _=>True
theorem Tot.now {α:Type} {P:α→Prop} {r:α} (h:P r):Tot P (fun _=>some r):=⟨r,Ev.now r,h⟩
theorem Tot.bind {α β:Type} {P:α→Prop} {Q:β→Prop} {g:Nat→Option α} {f:Nat→α→Option β} (h:Tot P g) (k:∀ a,P a→Tot Q (fun n=>f n a)):Tot Q (fun n=>(g n).bind (f n)):=by
  obtain ⟨a,ha,hp⟩:=h
  obtain ⟨b,hb,hq⟩:=k a hp
  exact ⟨b,Ev.bind ha hb,hq⟩
theorem Tot.ite {α:Type} {P:α→Prop} {p:Prop} [Decidable p] {f g:Nat→Option α} (h1:p→Tot P f) (h2:¬p→Tot P g):Tot P (fun k=>if p then f k else g k):=by
  by_cases h:p
  · obtain ⟨r,hr,hp⟩:=h1 h
    exact ⟨r,Ev.congr (fun k=>if_pos h) hr,hp⟩
  · obtain ⟨r,hr,hp⟩:=h2 h
    exact ⟨r,Ev.congr (fun k=>if_neg h) hr,hp⟩
theorem Tot.step {α:Type} {P:α→Prop} {g f:Nat→Option α} (h:∀ k,g (k+1)=f k) (k:Tot P f):Tot P g:=by
  obtain ⟨r,hr,hp⟩:=k
  exact ⟨r,Ev.step h hr,hp⟩
theorem Tot.yes {α:Type} {P:α→Prop} {p:Prop} [Decidable p] {f g:Nat→Option α} (h:p) (k:Tot P f):Tot P (fun k=>if p then f k else g k):=Tot.ite (fun _=>k) (fun h'=>absurd h h')
theorem Tot.of {α:Type} {P:α→Prop} {g:Nat→Option α} {r:α} (h:∀ k,g k=some r) (hp:P r):Tot P g:=⟨r,Ev.congr h (Ev.now r),hp⟩
abbrev Mx:Nat:=9223372036854775807
theorem OZ (a b:Int):∃ x,eG.f a b=some x:=by
  unfold eG.f
  split
  · exact ⟨_,rfl⟩
  · split <;> exact ⟨_,rfl⟩
theorem Iw (t:List ByteArray) (ht:t.length≤Mx) (hs:∀ i:Int,(dZ ByteArray.empty t i).size≤Mx):Tot YL (fun k=>aK.f k t):=by
  have l1:∀ (i:Nat) (s:ByteArray),s.size≤Mx→Tot YL (fun k=>aK.l0 k t (wrap64 ((i:Int)+1)))→∀ d j,j+d=s.size→Tot YL (fun k=>aK.l1 k t (i:Nat) s (j:Nat)):=by
    intro i s hsz hn d
    induction d with
    | zero =>
      intro j hj
      refine Tot.step (fun k=>by simp only [aK.l1];rfl) ?_
      exact Tot.ite (fun h=>by omega) fun _=>Tot.ite (fun _=>Tot.now trivial) fun _=>Tot.ite (fun _=>Tot.now trivial) fun _=>hn
    | succ d ih =>
      intro j hj
      refine Tot.step (fun k=>by simp only [aK.l1];rfl) ?_
      have nx:=ih (j+1) (by omega)
      rw [← wrapN (i:=j) (n:=s.size) (by omega) hsz] at nx
      refine Tot.yes (by omega) (Tot.yes (by omega) (Tot.ite (fun _=>nx) fun _=>?_))
      obtain ⟨x,hx⟩:=OZ (bt s j) t.length
      rw [hx]
      exact Tot.ite (fun _=>Tot.now trivial) fun _=>nx
  have l0:∀ d i,i+d=t.length→Tot YL (fun k=>aK.l0 k t (i:Nat)):=by
    intro d
    induction d with
    | zero =>
      intro i hi
      refine Tot.step (fun k=>by simp only [aK.l0];rfl) ?_
      exact Tot.ite (fun h=>by omega) fun _=>Tot.ite (fun _=>Tot.now trivial) fun _=>Tot.now trivial
    | succ d ih =>
      intro i hi
      refine Tot.step (fun k=>by simp only [aK.l0];rfl) ?_
      have nx:=ih (i+1) (by omega)
      rw [← wrapN (i:=i) (n:=t.length) (by omega) ht] at nx
      exact Tot.yes (by omega) (Tot.yes (by omega) (l1 i _ (hs _) nx _ 0 (Nat.zero_add _)))
  exact l0 t.length 0 (by omega)
theorem tu (s:ByteArray) (i n:Int):eG.f (bt s i) n=some (lG (bt s i) n):=by
  have h:=vC s i
  unfold eG.f lG
  by_cases h1:bt s i < 48
  · rw [if_pos h1,if_neg (by omega)]
  · rw [if_neg h1,show (bt s i - 48) % 256=bt s i - 48 from by omega]
    by_cases h2:bt s i - 48 < n
    · rw [if_neg (show ¬ bt s i - 48 ≥ n from by omega),if_pos (show 48≤bt s i from by omega),if_pos h2]
    · rw [if_pos (show bt s i - 48 ≥ n from by omega),if_pos (show 48≤bt s i from by omega),if_neg h2]
theorem Bj (t:List ByteArray) (ht:t.length≤9223372036854775807) (hs:∀ i:Int,(dZ ByteArray.empty t i).size≤9223372036854775807):Ev (fun k=>aK.f k t) (kC t):=by
  have l1:∀ (i:Nat) (s:ByteArray) (r:Bool),s.size≤9223372036854775807→Ev (fun k=>aK.l0 k t (wrap64 ((i:Int)+1))) r →
      Ev (fun k=>aK.l1 k t (i:Nat) s 0) (okB s t.length && (if (s.size:Int) < 1 then false else if (s.size:Int) > 6 then false else r)):=by
    intro i s r hsz hr
    have:=lV (g:=fun k j=>aK.l1 k t (i:Nat) s (j:Nat)) (fun j=>if (bt s j == 105 || decide (0≤lG (bt s j) t.length)) then none else some false) s.size (if (s.size:Int) < 1 then false else if (s.size:Int) > 6 then false else r)
      (fun j hj hb q hq=>?_) (fun j hj b hb=>?_) (fun _=>?_) s.size 0 (by omega) (fun j hj=>by omega)
    · rw [rG s.size (fun j=>bt s j == 105 || decide (0≤lG (bt s j) t.length))] at this
      exact this
    · refine Ev.step (fun k=>?_) hq
      simp only [aK.l1]
      rw [if_pos (by omega),if_pos (by omega),wrapN (i:=j) (n:=s.size) hj hsz]
      by_cases h:bt s j=105
      · rw [if_pos h]
      · rw [if_neg h,tu]
        simp only [Option.bind_some]
        have h2:0≤lG (bt s j) t.length:=by
          have:=hb
          simp [h] at this
          exact this
        rw [if_neg (by omega)]
    · have hb':¬ bt s j=105∧¬ 0≤lG (bt s j) t.length∧b=false:=by
        by_cases h:bt s j=105
        · simp [h] at hb
        · by_cases h2:0≤lG (bt s j) t.length
          · simp [h2] at hb
          · simp [h,h2] at hb
            exact ⟨h,h2,hb⟩
      obtain ⟨h1,h2,rfl⟩:=hb'
      refine Ev.step (f:=fun _=>some false) (fun k=>?_) (Ev.now false)
      simp only [aK.l1]
      rw [if_pos (by omega),if_pos (by omega),if_neg h1,tu]
      simp only [Option.bind_some]
      rw [if_pos (by omega)]
    · refine Ev.step (fun k=>by simp only [aK.l1];rfl) ?_
      refine Ev.congr (fun k=>if_neg (by omega)) ?_
      exact Ev.ite (fun _=>Ev.now _) fun _=>Ev.ite (fun _=>Ev.now _) fun _=>hr
  have:=lV (g:=fun k i=>aK.l0 k t (i:Nat)) (fun i=>if uI (dZ ByteArray.empty t i) t.length then none else some false) t.length (decide (1≤t.length) && decide (t.length≤8))
    (fun i hi hb q hq=>?_) (fun i hi b hb=>?_) (fun _=>?_) t.length 0 (by omega) (fun j hj=>by omega)
  · rw [rG t.length (fun i=>uI (dZ ByteArray.empty t i) t.length)] at this
    exact this
  · have ho:uI (dZ ByteArray.empty t i) t.length=true:=by
      cases h:uI (dZ ByteArray.empty t i) t.length <;> simp [h] at hb ⊢
    unfold uI at ho
    simp only [Bool.and_eq_true,decide_eq_true_eq] at ho
    obtain ⟨⟨h1,h2⟩,h3⟩:=ho
    refine Ev.step (f:=fun k=>aK.l1 k t (i:Nat) (dZ ByteArray.empty t i) 0) (fun k=>?_) ?_
    · simp only [aK.l0]
      rw [if_pos (by omega),if_pos (by omega)]
    · have:=l1 i (dZ ByteArray.empty t i) q (hs _) (by rw [wrapN hi ht];exact hq)
      rw [h3,Bool.true_and,if_neg (by omega),if_neg (by omega)] at this
      exact this
  · have ho:uI (dZ ByteArray.empty t i) t.length=false∧b=false:=by
      cases h:uI (dZ ByteArray.empty t i) t.length <;> simp [h] at hb
      exact ⟨rfl,hb⟩
    obtain ⟨ho,rfl⟩:=ho
    refine Ev.step (f:=fun k=>aK.l1 k t (i:Nat) (dZ ByteArray.empty t i) 0) (fun k=>?_) ?_
    · simp only [aK.l0]
      rw [if_pos (by omega),if_pos (by omega)]
    ·
      have tot:=Iw t ht hs
      have nx:∃ r,Ev (fun k=>aK.l0 k t (wrap64 ((i:Int)+1))) r:=by
        rw [wrapN hi ht]
        have l0:∀ d j,j+d=t.length→∃ r,Ev (fun k=>aK.l0 k t (j:Nat)) r:=by
          intro d
          induction d with
          | zero =>
            intro j hj
            refine ⟨(decide (1≤t.length) && decide (t.length≤8)),Ev.step (f:=fun _=>some _) (fun k=>?_) (Ev.now _)⟩
            simp only [aK.l0]
            rw [if_neg (by omega)]
            by_cases h:1≤t.length
            · rw [if_pos (by omega),decide_eq_true h,Bool.true_and]
              congr 1
              exact decide_eq_decide.2 (by omega)
            · rw [if_neg (by omega),decide_eq_false h,Bool.false_and]
          | succ d ih =>
            intro j hj
            obtain ⟨r,hr⟩:=ih (j+1) (by omega)
            have:=l1 j (dZ ByteArray.empty t j) r (hs _) (by rw [wrapN (i:=j) (n:=t.length) (by omega) ht];exact hr)
            refine ⟨_,Ev.step (fun k=>?_) this⟩
            simp only [aK.l0]
            rw [if_pos (by omega),if_pos (by omega)]
        exact l0 (t.length - (i+1)) (i+1) (by omega)
      obtain ⟨r,hr⟩:=nx
      have:=l1 i (dZ ByteArray.empty t i) r (hs _) hr
      refine Ev.out this ?_
      unfold uI at ho
      by_cases h1:((dZ ByteArray.empty t i).size:Int) < 1
      · rw [if_pos h1,Bool.and_false]
      · by_cases h2:((dZ ByteArray.empty t i).size:Int) > 6
        · rw [if_neg h1,if_pos h2,Bool.and_false]
        · rw [decide_eq_true (by omega),decide_eq_true (by omega)] at ho
          simp at ho
          rw [ho,Bool.false_and]
  · refine Ev.step (f:=fun _=>some (decide (1≤t.length) && decide (t.length≤8))) (fun k=>?_) (Ev.now _)
    simp only [aK.l0]
    rw [if_neg (by omega)]
    by_cases h:1≤t.length
    · rw [if_pos (by omega),decide_eq_true h,Bool.true_and]
      congr 1
      exact decide_eq_decide.2 (by omega)
    · rw [if_neg (by omega),decide_eq_false h,Bool.false_and]
theorem Eu (t:List ByteArray) (s:ByteArray) (ht:t.length≤9223372036854775807) (hts:∀ i:Int,(dZ ByteArray.empty t i).size≤9223372036854775807) (hs:s.size≤9223372036854775807):Ev (fun k=>aX.f k t s) (rJ t s):=by
  have:=lV (g:=fun k i=>aX.l0 k t s (i:Nat)) (fun i=>if decide (0≤lG (bt s i) t.length) then none else some false) s.size (kC t)
    (fun i hi hb q hq=>?_) (fun i hi b hb=>?_) (fun _=>?_) s.size 0 (by omega) (fun j hj=>by omega)
  · rw [rG s.size (fun i=>decide (0≤lG (bt s i) t.length))] at this
    exact this
  · have h2:0≤lG (bt s i) t.length:=by
      by_cases h:0≤lG (bt s i) t.length
      · exact h
      · simp [h] at hb
    refine Ev.step (fun k=>?_) hq
    simp only [aX.l0]
    rw [if_pos (by omega),if_pos (by omega),wrapN hi hs,tu]
    simp only [Option.bind_some]
    rw [if_neg (by omega)]
  · have h2:¬ 0≤lG (bt s i) t.length∧b=false:=by
      by_cases h:0≤lG (bt s i) t.length
      · simp [h] at hb
      · simp [h] at hb
        exact ⟨h,hb⟩
    obtain ⟨h2,rfl⟩:=h2
    refine Ev.step (f:=fun _=>some false) (fun k=>?_) (Ev.now false)
    simp only [aX.l0]
    rw [if_pos (by omega),if_pos (by omega),tu]
    simp only [Option.bind_some]
    rw [if_pos (by omega)]
  · refine Ev.step (f:=fun k=>(aK.f k t).bind fun z=>some z) (fun k=>?_) (Ev.bind (Bj t ht hts) (Ev.now _))
    simp only [aX.l0]
    rw [if_neg (by omega)]
section
variable (t:List ByteArray) (ht:t.length≤9223372036854775807) (hs:∀ i:Int,(dZ ByteArray.empty t i).size≤9223372036854775807)
include ht hs
theorem Zz (s:ByteArray) (a:Int) (h0:0≤a) (h1:a≤255):Ev (fun k=>fP.f k t s a) (dB t s a):=by
  have e1:wrap64 a=a:=by unfold wrap64;omega
  have e2:wrap64 (a+1)=a+1:=by unfold wrap64;omega
  by_cases h:a < s.size
  · obtain ⟨n,rfl⟩:=Int.eq_ofNat_of_zero_le h0
    have hn:n < s.size:=by omega
    have hr:=Eu t (s.extract n (n+1)) ht hs (by rw [oH s n hn];omega)
    have er:rJ t (s.extract n (n+1))=(decide (0≤lG (bt s (n:Int)) t.length) && kC t):=by
      unfold rJ
      rw [oH s n hn]
      congr 1
      show (List.range 1).all _=_
      simp only [List.range_one,List.all_cons,List.all_nil,Bool.and_true]
      rw [show ((0:Nat):Int)=0 from rfl,zD s n hn]
    rw [er] at hr
    refine Ev.congr (f:=fun k=>(aX.f k t (s.extract n (n+1))).bind fun z=>if z=true then some ((bt s n - 48) % 256) else some (-1)) (fun k=>?_) (Ev.bind hr ?_)
    · unfold fP.f
      rw [e1,e2,if_neg (by omega),if_pos (by omega),if_pos (by omega),if_pos (by omega)]
      rw [show ((n:Int)+1).toNat=n+1 from by omega,Int.toNat_natCast]
      congr 1
      funext z
      by_cases hb:z=true
      · rw [if_pos hb,if_pos hb,if_pos (by omega),if_pos (by omega)]
      · rw [if_neg hb,if_neg hb]
    · unfold dB
      rw [if_pos h]
      cases hb:(decide (0≤lG (bt s (n:Int)) t.length) && kC t)
      · rw [if_neg (by decide),if_neg (by decide)]
        exact Ev.now _
      · rw [if_pos rfl,if_pos rfl]
        have:=Hf.1 (of_decide_eq_true (Bool.and_eq_true _ _ ▸ hb).1)
        have hr:=vC s n
        rw [show (bt s (n:Int) - 48) % 256=bt s n - 48 from by omega]
        exact Ev.now _
  · refine Ev.congr (f:=fun _=>some (-1)) (fun k=>?_) (by unfold dB;rw [if_neg h];exact Ev.now _)
    unfold fP.f
    rw [e1,if_pos (by omega)]
theorem xU (lo gl:ByteArray) (code:List iD) (a:Int) (h0:0≤a) (h1:a≤255):Ev (fun k=>dO.f k t lo gl code a) (dB t lo a):=Ev.bind (Zz t ht hs lo a h0 h1) (Ev.now _)
theorem Ko (i:Int):Ev (fun k=>gq.f k t i) (jG t i):=by
  have is:Ev (fun k=>eH.f k t i) (kC t && (decide (0≤i) && decide (i < t.length))):=by
    refine Ev.bind (Bj t ht hs) ?_
    refine Ev.out (Ev.ite (fun _=>Ev.ite (fun _=>Ev.now (decide (i < (t.length:Int)))) fun _=>Ev.now false) fun _=>Ev.now false) ?_
    cases kC t
    · rfl
    · rw [if_pos rfl,Bool.true_and]
      by_cases h:i ≥ 0
      · rw [if_pos h,decide_eq_true (show 0≤i from h),Bool.true_and]
      · rw [if_neg h,decide_eq_false (show ¬ 0≤i from h),Bool.false_and]
  refine Ev.bind is ?_
  unfold jG Pg
  by_cases h:(kC t && (decide (0≤i) && decide (i < t.length)))=true
  · have h':=h
    simp only [Bool.and_eq_true,decide_eq_true_eq] at h'
    rw [if_pos h,if_pos h]
    exact Ev.congr (fun k=>(if_pos h'.2.1).trans (if_pos h'.2.2)) (Ev.now _)
  · rw [if_neg h,if_neg h]
    exact Ev.now _
end
end Go.Proofs.YtlemecdddhdagaaDoor.P
end
section
namespace Go.Proofs.YtlemecdddhdagaaDoor.P
open Go.RowKit Go.Proofs.af.bF Go.Proofs.af.dD Go.Proofs.af.dN
def qE (t:List ByteArray) (a n:Int):Bool:=if n < 0 then false else if n ≥ jG t a then false else decide (FQ t a n < 0)
def FX (t:List ByteArray) (a n:Int):Int:=if n < 0 then -1 else if n > 6 then -1 else FQ t a n
section
variable (t:List ByteArray) (ht:t.length≤9223372036854775807) (hs:∀ i:Int,(dZ ByteArray.empty t i).size≤9223372036854775807)
include ht hs
theorem ac3 (i:Int):Ev (fun k=>eH.f k t i) (kC t && (decide (0≤i) && decide (i < t.length))):=by
  refine Ev.bind (Bj t ht hs) ?_
  refine Ev.out (Ev.ite (fun _=>Ev.ite (fun _=>Ev.now (decide (i < (t.length:Int)))) fun _=>Ev.now false) fun _=>Ev.now false) ?_
  cases kC t
  · rfl
  · rw [if_pos rfl,Bool.true_and]
    by_cases h:i ≥ 0
    · rw [if_pos h,decide_eq_true (show 0≤i from h),Bool.true_and]
    · rw [if_neg h,decide_eq_false (show ¬ 0≤i from h),Bool.false_and]
theorem YP (i f:Int):Ev (fun k=>fZ.f k t i f) (FQ t i f):=by
  refine Ev.bind (ac3 t ht hs i) ?_
  unfold FQ jG Pg
  by_cases h:(kC t && (decide (0≤i) && decide (i < t.length)))=true
  · have h':=h
    simp only [Bool.and_eq_true,decide_eq_true_eq] at h'
    rw [if_pos h,if_pos h]
    by_cases h0:f < 0
    · rw [if_pos h0,if_neg (by omega)]
      exact Ev.now _
    · rw [if_neg h0]
      refine Ev.congr (fun k=>(if_pos h'.2.1).trans (if_pos h'.2.2)) ?_
      by_cases h1:f < (dZ ByteArray.empty t i).size
      · rw [if_neg (by omega),if_pos (by omega),if_pos (by omega),if_pos (by omega)]
        refine Ev.congr (fun k=>by rw [tu];rfl) (Ev.now _)
      · rw [if_pos (by omega),if_neg (by omega)]
        exact Ev.now _
  · rw [if_neg h,if_neg h]
    rw [if_neg (fun h2=>by have h3:f < (0:Int):=h2.2;omega)]
    exact Ev.now _
theorem Nc (lo gl:ByteArray) (code:List iD) (a:Int) (h0:0≤a) (h1:a≤255):Ev (fun k=>fQ.f k t lo gl code a) (dB t gl a):=Ev.bind (Zz t ht hs gl a h0 h1) (Ev.now _)
theorem DK (lo gl:ByteArray) (code:List iD) (a n:Int):Ev (fun k=>fB.f k t lo gl code a n) (qE t a n):=by
  unfold qE
  refine Ev.ite (fun _=>Ev.now _) fun _=>Ev.bind (Ko t ht hs a) ?_
  exact Ev.ite (fun _=>Ev.now _) fun _=>Ev.bind (YP t ht hs a n) (Ev.now _)
theorem YO (lo gl:ByteArray) (code:List iD) (a n:Int):Ev (fun k=>gz.f k t lo gl code a n) (FX t a n):=by
  unfold FX
  exact Ev.ite (fun _=>Ev.now _) fun _=>Ev.ite (fun _=>Ev.now _) fun _=>Ev.bind (YP t ht hs a n) (Ev.now _)
end
theorem yN (a b:Int):dC.f a b=some (pO a b):=by
  unfold dC.f pO
  by_cases h:0≤a
  · rw [if_pos h,decide_eq_true h,Bool.true_and]
  · rw [if_neg h,decide_eq_false h,Bool.false_and]
theorem F5 (t:List ByteArray) (i:Int):0≤jG t i∧jG t i≤6:=by
  by_cases h:(kC t && (decide (0≤i) && decide (i < t.length)))=true
  · simp only [Bool.and_eq_true,decide_eq_true_eq] at h
    obtain ⟨n,rfl⟩:=Int.eq_ofNat_of_zero_le h.2.1
    have:=Bi h.1 n (by omega)
    omega
  · unfold jG Pg
    rw [if_neg h]
    decide
theorem BC (t:List ByteArray) (a n:Int):(if a ≥ 0 then qE t a n else false)=qy t a n:=by
  unfold qE qy nU
  by_cases h:a ≥ 0
  · rw [if_pos h]
    by_cases h0:n < 0
    · rw [if_pos h0,if_neg (by omega)];rfl
    · by_cases h1:n < jG t a
      · rw [if_neg h0,if_neg (by omega),if_pos (by omega),Bool.true_and]
      · rw [if_neg h0,if_pos (by omega),if_neg (by omega)];rfl
  · rw [if_neg h,if_neg (by omega)];rfl
theorem Py (t:List ByteArray) (x a n:Int):(if a ≥ 0 then pO x (FX t a n) else false)=pO x (nU t a n).1:=by
  have z:pO x (-1)=false:=by
    unfold pO
    by_cases h:0≤x
    · have:(x == -1)=false:=by simp;omega
      rw [this,Bool.and_false]
    · rw [decide_eq_false h,Bool.false_and]
  unfold FX nU
  have:=F5 t a
  by_cases h:a ≥ 0
  · rw [if_pos h]
    by_cases h0:n < 0
    · rw [if_pos h0,if_neg (by omega)]
    · rw [if_neg h0]
      by_cases h1:n < jG t a
      · rw [if_neg (by omega),if_pos (by omega)]
      · rw [if_neg (show ¬ (0≤a∧0≤n∧n < jG t a) by omega)]
        by_cases h2:n > 6
        · rw [if_pos h2]
        · rw [if_neg h2]
          unfold FQ
          rw [if_neg (by omega)]
  · rw [if_neg h,if_neg (by omega),z]
def xC (o a b c:Int) (x:Bool):Bool:=if x=true then decide (a < 8) else if o=2 then (if a < 8 then (if b < 8 then decide (c < 8) else false) else false) else if o=9 then decide (b < 8) else true
def EF (o a b c:Int):Bool:=if o=1 then xC o a b c (o == 1) else if o=4 then xC o a b c (o == 4) else if o=8 then xC o a b c (o == 8) else if o=14 then xC o a b c (o == 14) else xC o a b c (o == 15)
theorem UE (o a b c n:Int):Ev (fun k=>bI.f k o a b c n) (EF o a b c):=by
  have j:∀ x,Ev (fun k=>bI.j0 k o x o a b c n) (xC o a b c x):=fun x=>by
    unfold xC
    refine Ev.step (fun k=>by simp only [bI.j0];rfl) ?_
    exact Ev.ite (fun _=>Ev.now _) fun _=>Ev.ite (fun _=>Ev.ite (fun _=>Ev.ite (fun _=>Ev.now _) fun _=>Ev.now _) fun _=>Ev.now _) fun _=>Ev.ite (fun _=>Ev.now _) fun _=>Ev.now _
  unfold EF
  exact Ev.ite (fun _=>j _) fun _=>Ev.ite (fun _=>j _) fun _=>Ev.ite (fun _=>j _) fun _=>Ev.ite (fun _=>j _) fun _=>j _
def zY (t:List ByteArray) (lo gl:ByteArray) (o a b c n:Int) (x:Bool):Bool :=
  if x=true then decide (dB t lo a ≥ 0)
  else if o=7 then pO (dB t lo a) (dB t lo b)
  else if o=15 then pO (dB t lo b) (dB t lo c)
  else if o=8 then (if dB t lo b ≥ 0 then qE t (dB t lo b) n else false)
  else if o=9 then (if dB t lo a ≥ 0 then qE t (dB t lo a) n else false)
  else if o=10 then (if dB t lo b ≥ 0 then pO (dB t lo a) (FX t (dB t lo b) n) else false)
  else if o=11 then (if dB t lo a ≥ 0 then pO (dB t lo b) (FX t (dB t lo a) n) else false)
  else if o=12 then pO (dB t lo a) (dB t gl b)
  else if o=13 then pO (dB t lo b) (dB t gl a)
  else true
def KA (t:List ByteArray) (lo gl:ByteArray) (o a b c n:Int):Bool:=if o=5 then zY t lo gl o a b c n (o == 5) else zY t lo gl o a b c n (o == 6)
theorem Qi (t:List ByteArray) (lo gl:ByteArray) (code:List iD) (o a b c n:Int) (ht:t.length≤9223372036854775807) (hs:∀ i:Int,(dZ ByteArray.empty t i).size≤9223372036854775807)
    (ha:0≤a∧a≤255) (hb:0≤b∧b≤255) (hc:0≤c∧c≤255):Ev (fun k=>aY.f k t lo gl code o a b c n) (KA t lo gl o a b c n):=by
  have j:∀ x,Ev (fun k=>aY.j0 k (dB t lo a) (dB t lo b) o x t lo gl code o a b c n) (zY t lo gl o a b c n x):=fun x=>by
    unfold zY
    refine Ev.step (fun k=>by simp only [aY.j0];rfl) ?_
    refine Ev.ite (fun _=>Ev.now _) fun _=>?_
    refine Ev.ite (fun _=>Ev.congr (fun k=>by rw [yN];rfl) (Ev.now _)) fun _=>?_
    refine Ev.ite (fun _=>Ev.bind (xU t ht hs lo gl code _ hc.1 hc.2) (Ev.congr (fun k=>by rw [yN];rfl) (Ev.now _))) fun _=>?_
    refine Ev.ite (fun _=>Ev.ite (fun _=>Ev.bind (DK t ht hs lo gl code _ _) (Ev.now _)) fun _=>Ev.now _) fun _=>?_
    refine Ev.ite (fun _=>Ev.ite (fun _=>Ev.bind (DK t ht hs lo gl code _ _) (Ev.now _)) fun _=>Ev.now _) fun _=>?_
    refine Ev.ite (fun _=>Ev.ite (fun _=>Ev.bind (YO t ht hs lo gl code _ _) (Ev.congr (fun k=>by rw [yN];rfl) (Ev.now _))) fun _=>Ev.now _) fun _=>?_
    refine Ev.ite (fun _=>Ev.ite (fun _=>Ev.bind (YO t ht hs lo gl code _ _) (Ev.congr (fun k=>by rw [yN];rfl) (Ev.now _))) fun _=>Ev.now _) fun _=>?_
    refine Ev.ite (fun _=>Ev.bind (Nc t ht hs lo gl code _ hb.1 hb.2) (Ev.congr (fun k=>by rw [yN];rfl) (Ev.now _))) fun _=>?_
    exact Ev.ite (fun _=>Ev.bind (Nc t ht hs lo gl code _ ha.1 ha.2) (Ev.congr (fun k=>by rw [yN];rfl) (Ev.now _))) fun _=>Ev.now _
  refine Ev.bind (xU t ht hs lo gl code a ha.1 ha.2) (Ev.bind (xU t ht hs lo gl code b hb.1 hb.2) ?_)
  exact Ev.ite (fun _=>j _) fun _=>j _
theorem yO (a:Int):oZ [a]=decide (a < 8):=by
  show (decide (a < 8) && true)=_
  rw [Bool.and_true]
theorem aaN (a b c:Int):oZ [a,b,c]=(if a < 8 then (if b < 8 then decide (c < 8) else false) else false):=by
  show (decide (a < 8) && (decide (b < 8) && (decide (c < 8) && true)))=_
  by_cases h:a < 8 <;> by_cases h2:b < 8 <;> simp [h,h2]
theorem Ot (t:List ByteArray) (lo gl:ByteArray) (o a b c n:Int) (h:1≤o∧o≤15):(EF o a b c && KA t lo gl o a b c n)=oC t lo gl o a b c n:=by
  have hh:o=1 ∨ o=2 ∨ o=3 ∨ o=4 ∨ o=5 ∨ o=6 ∨ o=7 ∨ o=8 ∨ o=9 ∨ o=10 ∨ o=11 ∨ o=12 ∨ o=13 ∨ o=14 ∨ o=15:=by omega
  rcases hh with rfl|rfl|rfl|rfl|rfl|rfl|rfl|rfl|rfl|rfl|rfl|rfl|rfl|rfl|rfl
  · show (decide (a < 8) && true)=oZ [a]
    rw [yO,Bool.and_true]
  · show ((if a < 8 then (if b < 8 then decide (c < 8) else false) else false) && true)=oZ [a,b,c]
    rw [aaN,Bool.and_true]
  · rfl
  · show (decide (a < 8) && true)=oZ [a]
    rw [yO,Bool.and_true]
  · show (true && _)=_
    rw [Bool.true_and];rfl
  · show (true && _)=_
    rw [Bool.true_and];rfl
  · show (true && _)=_
    rw [Bool.true_and];rfl
  · show (decide (a < 8) && (if dB t lo b ≥ 0 then qE t (dB t lo b) n else false))=(if oZ [a]=true then qy t (dB t lo b) n else false)
    rw [yO,BC]
    cases decide (a < 8) <;> rfl
  · show (decide (b < 8) && (if dB t lo a ≥ 0 then qE t (dB t lo a) n else false))=(if oZ [b]=true then qy t (dB t lo a) n else false)
    rw [yO,BC]
    cases decide (b < 8) <;> rfl
  · show (true && (if dB t lo b ≥ 0 then pO (dB t lo a) (FX t (dB t lo b) n) else false))=pO (dB t lo a) (nU t (dB t lo b) n).1
    rw [Py,Bool.true_and]
  · show (true && (if dB t lo a ≥ 0 then pO (dB t lo b) (FX t (dB t lo a) n) else false))=pO (dB t lo b) (nU t (dB t lo a) n).1
    rw [Py,Bool.true_and]
  · show (true && _)=_
    rw [Bool.true_and];rfl
  · show (true && _)=_
    rw [Bool.true_and];rfl
  · show (decide (a < 8) && true)=oZ [a]
    rw [yO,Bool.and_true]
  · show (decide (a < 8) && pO (dB t lo b) (dB t lo c))=(if oZ [a]=true then pO (dB t lo b) (dB t lo c) else false)
    rw [yO]
    cases decide (a < 8) <;> rfl
end Go.Proofs.YtlemecdddhdagaaDoor.P
end
