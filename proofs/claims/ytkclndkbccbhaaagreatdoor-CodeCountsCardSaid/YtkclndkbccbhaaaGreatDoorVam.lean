/- Parts of the proof of CodeCounts: what the functions that it reaches compute, and plain facts about that. -/
import Derived.Test.YtkclndkbccbhaaaGreatDoorVac
import Derived.Test.YtkclndkbccbhaaaGreatDoorVal
import Derived.Test.YtkclndkbccbhaaaGreatDoorVad
import Derived.Test.YtkclndkbccbhaaaGreatDoorVag
set_option linter.unusedVariables false
set_option linter.unusedSimpArgs false
section
namespace Go.Proofs.YtkclndkbccbhaaaGreatDoor.P
open Go.RowKit Go.Proofs.ae.aX Go.Proofs.ae.dh Go.Proofs.ae.dI
attribute [local go_sem] iY iV jL jK iy iw iW iU
mutual
def ay.j0:Nat→ByteArray→Bool→Option (Int × Int)
  | 0,_,_=>none
  | k+1,x4,x5=>ay.l0 k x4 x5 0 0
def ay.j2:Nat→ByteArray→Bool→Int→Option (Int × Int)
  | 0,_,_,_=>none
  | k+1,x4,x5,x6=>if (x4.size:Int) > 19 then (ay.j3 k x5 x6 (decide ((x4.size:Int) > 19))) else (if x6 > 9223372036854775808 then (ay.j3 k x5 x6 (decide (x6 > 9223372036854775808))) else (if x6=9223372036854775808 then (ay.j3 k x5 x6 (!x5)) else (ay.j3 k x5 x6 false)))
def ay.j3:Nat→Bool→Int→Bool→Option (Int × Int)
  | 0,_,_,_=>none
  | k+1,x5,x6,XY=>if XY=true then (some (0,3)) else (if x5=true then (some (wrap64 (-(wrap64 (x6))),0)) else (some (wrap64 (x6),0)))
def ay.l0:Nat→ByteArray→Bool→Int→Int→Option (Int × Int)
  | 0,_,_,_,_=>none
  | k+1,x4,x5,x6,x7=>if x7 < (x4.size:Int) then (if x7 < 19 then (if 0≤x7 then (ay.l0 k x4 x5 (IntKind.u64.wrap ((IntKind.u64.wrap (x6 * 10))+(((bt x4 x7) - 48) % 256))) (wrap64 (x7+1))) else (none)) else (ay.j2 k x4 x5 x6)) else (ay.j2 k x4 x5 x6)
end
def ay.f (k:Nat) (a0:ByteArray):Option (Int × Int):=(au.f k a0).bind fun t212=>(if t212=true then (if 0 < (a0.size:Int) then (if (bt a0 0)=45 then (if 1≤(a0.size:Int) then (ay.j0 k (a0.extract 1 a0.size) ((bt a0 0) == 45)) else (none)) else (ay.j0 k a0 ((bt a0 0) == 45))) else (none)) else (some (0,4)))
theorem ay.dR:∀ k,(∀ y0 y1,bM (ay.j0 k y0 y1) (ay.j0 (k+1) y0 y1))∧(∀ y0 y1 y2,bM (ay.j2 k y0 y1 y2) (ay.j2 (k+1) y0 y1 y2))∧(∀ y0 y1 y2,bM (ay.j3 k y0 y1 y2) (ay.j3 (k+1) y0 y1 y2))∧(∀ y0 y1 y2 y3,bM (ay.l0 k y0 y1 y2 y3) (ay.l0 (k+1) y0 y1 y2 y3))
  | 0=>⟨fun _ _ r h=>by simp [ay.j0] at h,fun _ _ _ r h=>by simp [ay.j2] at h,fun _ _ _ r h=>by simp [ay.j3] at h,fun _ _ _ _ r h=>by simp [ay.l0] at h⟩
  | k+1=>by
    obtain ⟨gV,ih1,ih2,ih3⟩:=ay.dR k
    refine ⟨?_,?_,?_,?_⟩
    · intro y0 y1
      unfold ay.j0
      repeat' first
      | (with_reducible exact gV _ _)
      | (with_reducible exact ih1 _ _ _)
      | (with_reducible exact ih2 _ _ _)
      | (with_reducible exact ih3 _ _ _ _)
      | (with_reducible exact au.mono _ _)
      | (with_reducible exact bM.refl _)
      | (with_reducible exact bM.none _)
      | (with_reducible refine bM.ite ?_ ?_)
      | (with_reducible refine bM.bind ?_ (fun _=>?_))
      | exact gV _ _
      | exact ih1 _ _ _
      | exact ih2 _ _ _
      | exact ih3 _ _ _ _
      | exact au.mono _ _
      | exact bM.none _
      | refine bM.ite ?_ ?_
      | refine bM.bind ?_ (fun _=>?_)
    · intro y0 y1 y2
      unfold ay.j2
      repeat' first
      | (with_reducible exact gV _ _)
      | (with_reducible exact ih1 _ _ _)
      | (with_reducible exact ih2 _ _ _)
      | (with_reducible exact ih3 _ _ _ _)
      | (with_reducible exact au.mono _ _)
      | (with_reducible exact bM.refl _)
      | (with_reducible exact bM.none _)
      | (with_reducible refine bM.ite ?_ ?_)
      | (with_reducible refine bM.bind ?_ (fun _=>?_))
      | exact gV _ _
      | exact ih1 _ _ _
      | exact ih2 _ _ _
      | exact ih3 _ _ _ _
      | exact au.mono _ _
      | exact bM.none _
      | refine bM.ite ?_ ?_
      | refine bM.bind ?_ (fun _=>?_)
    · intro y0 y1 y2
      unfold ay.j3
      repeat' first
      | (with_reducible exact gV _ _)
      | (with_reducible exact ih1 _ _ _)
      | (with_reducible exact ih2 _ _ _)
      | (with_reducible exact ih3 _ _ _ _)
      | (with_reducible exact au.mono _ _)
      | (with_reducible exact bM.refl _)
      | (with_reducible exact bM.none _)
      | (with_reducible refine bM.ite ?_ ?_)
      | (with_reducible refine bM.bind ?_ (fun _=>?_))
      | exact gV _ _
      | exact ih1 _ _ _
      | exact ih2 _ _ _
      | exact ih3 _ _ _ _
      | exact au.mono _ _
      | exact bM.none _
      | refine bM.ite ?_ ?_
      | refine bM.bind ?_ (fun _=>?_)
    · intro y0 y1 y2 y3
      unfold ay.l0
      repeat' first
      | (with_reducible exact gV _ _)
      | (with_reducible exact ih1 _ _ _)
      | (with_reducible exact ih2 _ _ _)
      | (with_reducible exact ih3 _ _ _ _)
      | (with_reducible exact au.mono _ _)
      | (with_reducible exact bM.refl _)
      | (with_reducible exact bM.none _)
      | (with_reducible refine bM.ite ?_ ?_)
      | (with_reducible refine bM.bind ?_ (fun _=>?_))
      | exact gV _ _
      | exact ih1 _ _ _
      | exact ih2 _ _ _
      | exact ih3 _ _ _ _
      | exact au.mono _ _
      | exact bM.none _
      | refine bM.ite ?_ ?_
      | refine bM.bind ?_ (fun _=>?_)
theorem ay.mono:∀ a0 k,bM (ay.f k a0) (ay.f (k+1) a0):=by
  intro a0 k
  obtain ⟨gV,ih1,ih2,ih3⟩:=ay.dR k
  unfold ay.f
  repeat' first
      | (with_reducible exact gV _ _)
      | (with_reducible exact ih1 _ _ _)
      | (with_reducible exact ih2 _ _ _)
      | (with_reducible exact ih3 _ _ _ _)
      | (with_reducible exact au.mono _ _)
      | (with_reducible exact bM.refl _)
      | (with_reducible exact bM.none _)
      | (with_reducible refine bM.ite ?_ ?_)
      | (with_reducible refine bM.bind ?_ (fun _=>?_))
      | exact gV _ _
      | exact ih1 _ _ _
      | exact ih2 _ _ _
      | exact ih3 _ _ _ _
      | exact au.mono _ _
      | exact bM.none _
      | refine bM.ite ?_ ?_
      | refine bM.bind ?_ (fun _=>?_)
def bF.j0:Nat→Int→Int→Bool→Int→Int→Int→Int→Int→Option (Int × Int × Int × Int × Int × Bool)
  | 0,_,_,_,_,_,_,_,_=>none
  | k+1,x1,x2,x18,uN,yE,yD,yC,uM=>if x18=true then (some (uN,yE,yD,yC,uM,false)) else (if x1=97 then (some (uN,(x2) % 256,yD,yC,uM,true)) else (if x1=98 then (some (uN,yE,(x2) % 256,yC,uM,true)) else (some (uN,yE,yD,(x2) % 256,uM,true))))
def bF.f (k:Nat) (gW:Int) (bD:Int) (bu:Int) (eX:Int) (fF:Int) (a1:Int) (a2:Int):Option (Int × Int × Int × Int × Int × Bool):=if a1=110 then (some (gW,bD,bu,eX,a2,true)) else (if a2 < 0 then (bF.j0 k a1 a2 true gW bD bu eX fF) else (bF.j0 k a1 a2 (decide (a2 > 255)) gW bD bu eX fF))
theorem bF.dR:∀ k,(∀ y0 y1 y2 y3 y4 y5 y6 y7,bM (bF.j0 k y0 y1 y2 y3 y4 y5 y6 y7) (bF.j0 (k+1) y0 y1 y2 y3 y4 y5 y6 y7))
  | 0=>fun _ _ _ _ _ _ _ _ r h=>by simp [bF.j0] at h
  | k+1=>by
    have gV:=bF.dR k
    · intro y0 y1 y2 y3 y4 y5 y6 y7
      unfold bF.j0
      repeat' first
      | (with_reducible exact gV _ _ _ _ _ _ _ _)
      | (with_reducible exact bM.refl _)
      | (with_reducible exact bM.none _)
      | (with_reducible refine bM.ite ?_ ?_)
      | (with_reducible refine bM.bind ?_ (fun _=>?_))
      | exact gV _ _ _ _ _ _ _ _
      | exact bM.none _
      | refine bM.ite ?_ ?_
      | refine bM.bind ?_ (fun _=>?_)
theorem bF.mono:∀ a0 a1 a2 a3 a4 a5 a6 k,bM (bF.f k a0 a1 a2 a3 a4 a5 a6) (bF.f (k+1) a0 a1 a2 a3 a4 a5 a6):=by
  intro a0 a1 a2 a3 a4 a5 a6 k
  have gV:=bF.dR k
  unfold bF.f
  repeat' first
      | (with_reducible exact gV _ _ _ _ _ _ _ _)
      | (with_reducible exact bM.refl _)
      | (with_reducible exact bM.none _)
      | (with_reducible refine bM.ite ?_ ?_)
      | (with_reducible refine bM.bind ?_ (fun _=>?_))
      | exact gV _ _ _ _ _ _ _ _
      | exact bM.none _
      | refine bM.ite ?_ ?_
      | refine bM.bind ?_ (fun _=>?_)
end Go.Proofs.YtkclndkbccbhaaaGreatDoor.P
end
section
namespace Go.Proofs.YtkclndkbccbhaaaGreatDoor.P
open Go.RowKit Go.Proofs.ae.aX Go.Proofs.ae.dh Go.Proofs.ae.dI
attribute [local go_sem] iY iV jL jK iy iw iW iU
mutual
def aZ.l0:Nat→List ByteArray→Int→Option (Int × Int × Int × Int × Int × Bool)
  | 0,_,_=>none
  | k+1,x0,x4=>if x4≤15 then ((jJ.f x4).bind fun Ew=>(if 0 < (x0.length:Int) then (if (dZ ByteArray.empty x0 0).toList=Ew.1.toList then (aZ.j1 k x0 x4 Ew.2 ((x0.length:Int) != (wrap64 ((Ew.2.size:Int)+1)))) else (aZ.j1 k x0 x4 Ew.2 true)) else (none))) else (some (0,0,0,0,0,false))
def aZ.j1:Nat→List ByteArray→Int→ByteArray→Bool→Option (Int × Int × Int × Int × Int × Bool)
  | 0,_,_,_,_=>none
  | k+1,x0,x4,x6,x34=>if x34=true then (aZ.l0 k x0 ((x4+1) % 256)) else (aZ.l1 k x0 x6 0 x4 0 0 0 0)
def aZ.l1:Nat→List ByteArray→ByteArray→Int→Int→Int→Int→Int→Int→Option (Int × Int × Int × Int × Int × Bool)
  | 0,_,_,_,_,_,_,_,_=>none
  | k+1,x0,x6,x8,Dq,Dp,Dn,Dl,Dk=>if x8 < (x6.size:Int) then (if 0≤(wrap64 (x8+1)) then (if (wrap64 (x8+1)) < (x0.length:Int) then ((ay.f k (dZ ByteArray.empty x0 (wrap64 (x8+1)))).bind fun Nz=>(if 0≤x8 then ((bF.f k Dq Dp Dn Dl Dk (bt x6 x8) Nz.1).bind fun yl=>(if Nz.2=0 then (if yl.2.2.2.2.2=true then (aZ.l1 k x0 x6 (wrap64 (x8+1)) yl.1 yl.2.1 yl.2.2.1 yl.2.2.2.1 yl.2.2.2.2.1) else (some (0,0,0,0,0,false))) else (some (0,0,0,0,0,false)))) else (none))) else (none)) else (none)) else (some (Dq,Dp,Dn,Dl,Dk,true))
end
def aZ.f (k:Nat) (l0:List ByteArray):Option (Int × Int × Int × Int × Int × Bool):=aZ.l0 k l0 1
theorem aZ.dR:∀ k,(∀ y0 y1,bM (aZ.l0 k y0 y1) (aZ.l0 (k+1) y0 y1))∧(∀ y0 y1 y2 y3,bM (aZ.j1 k y0 y1 y2 y3) (aZ.j1 (k+1) y0 y1 y2 y3))∧(∀ y0 y1 y2 y3 y4 y5 y6 y7,bM (aZ.l1 k y0 y1 y2 y3 y4 y5 y6 y7) (aZ.l1 (k+1) y0 y1 y2 y3 y4 y5 y6 y7))
  | 0=>⟨fun _ _ r h=>by simp [aZ.l0] at h,fun _ _ _ _ r h=>by simp [aZ.j1] at h,fun _ _ _ _ _ _ _ _ r h=>by simp [aZ.l1] at h⟩
  | k+1=>by
    obtain ⟨gV,ih1,ih2⟩:=aZ.dR k
    refine ⟨?_,?_,?_⟩
    · intro y0 y1
      unfold aZ.l0
      repeat' first
      | (with_reducible exact gV _ _)
      | (with_reducible exact ih1 _ _ _ _)
      | (with_reducible exact ih2 _ _ _ _ _ _ _ _)
      | (with_reducible exact ay.mono _ _)
      | (with_reducible exact bF.mono _ _ _ _ _ _ _ _)
      | (with_reducible exact bM.refl _)
      | (with_reducible exact bM.none _)
      | (with_reducible refine bM.ite ?_ ?_)
      | (with_reducible refine bM.bind ?_ (fun _=>?_))
      | exact gV _ _
      | exact ih1 _ _ _ _
      | exact ih2 _ _ _ _ _ _ _ _
      | exact ay.mono _ _
      | exact bF.mono _ _ _ _ _ _ _ _
      | exact bM.none _
      | refine bM.ite ?_ ?_
      | refine bM.bind ?_ (fun _=>?_)
    · intro y0 y1 y2 y3
      unfold aZ.j1
      repeat' first
      | (with_reducible exact gV _ _)
      | (with_reducible exact ih1 _ _ _ _)
      | (with_reducible exact ih2 _ _ _ _ _ _ _ _)
      | (with_reducible exact ay.mono _ _)
      | (with_reducible exact bF.mono _ _ _ _ _ _ _ _)
      | (with_reducible exact bM.refl _)
      | (with_reducible exact bM.none _)
      | (with_reducible refine bM.ite ?_ ?_)
      | (with_reducible refine bM.bind ?_ (fun _=>?_))
      | exact gV _ _
      | exact ih1 _ _ _ _
      | exact ih2 _ _ _ _ _ _ _ _
      | exact ay.mono _ _
      | exact bF.mono _ _ _ _ _ _ _ _
      | exact bM.none _
      | refine bM.ite ?_ ?_
      | refine bM.bind ?_ (fun _=>?_)
    · intro y0 y1 y2 y3 y4 y5 y6 y7
      unfold aZ.l1
      repeat' first
      | (with_reducible exact gV _ _)
      | (with_reducible exact ih1 _ _ _ _)
      | (with_reducible exact ih2 _ _ _ _ _ _ _ _)
      | (with_reducible exact ay.mono _ _)
      | (with_reducible exact bF.mono _ _ _ _ _ _ _ _)
      | (with_reducible exact bM.refl _)
      | (with_reducible exact bM.none _)
      | (with_reducible refine bM.ite ?_ ?_)
      | (with_reducible refine bM.bind ?_ (fun _=>?_))
      | exact gV _ _
      | exact ih1 _ _ _ _
      | exact ih2 _ _ _ _ _ _ _ _
      | exact ay.mono _ _
      | exact bF.mono _ _ _ _ _ _ _ _
      | exact bM.none _
      | refine bM.ite ?_ ?_
      | refine bM.bind ?_ (fun _=>?_)
theorem aZ.mono:∀ a0 k,bM (aZ.f k a0) (aZ.f (k+1) a0):=by
  intro a0 k
  obtain ⟨gV,ih1,ih2⟩:=aZ.dR k
  unfold aZ.f
  repeat' first
      | (with_reducible exact gV _ _)
      | (with_reducible exact ih1 _ _ _ _)
      | (with_reducible exact ih2 _ _ _ _ _ _ _ _)
      | (with_reducible exact ay.mono _ _)
      | (with_reducible exact bF.mono _ _ _ _ _ _ _ _)
      | (with_reducible exact bM.refl _)
      | (with_reducible exact bM.none _)
      | (with_reducible refine bM.ite ?_ ?_)
      | (with_reducible refine bM.bind ?_ (fun _=>?_))
      | exact gV _ _
      | exact ih1 _ _ _ _
      | exact ih2 _ _ _ _ _ _ _ _
      | exact ay.mono _ _
      | exact bF.mono _ _ _ _ _ _ _ _
      | exact bM.none _
      | refine bM.ite ?_ ?_
      | refine bM.bind ?_ (fun _=>?_)
end Go.Proofs.YtkclndkbccbhaaaGreatDoor.P
end
section
namespace Go.Proofs.YtkclndkbccbhaaaGreatDoor.P
open Go.RowKit Go.Proofs.ae.aX Go.Proofs.ae.dh Go.Proofs.ae.dI
attribute [local go_sem] iY iV jL jK iy iw iW iU
attribute [local go_sem high] IX
def iP.f (k:Nat) (gW:Int) (bD:Int) (bu:Int) (eX:Int) (fF:Int):Option (Bool):=(jJ.f gW).bind fun Qr=>(if Qr.1.toList=([]:List UInt8) then (some false) else ((cO.f k gW bD bu eX fF).bind fun t233=>((aZ.f k t233).bind fun yj=>(if yj.2.2.2.2.2=true then (some (yj.1 == gW && (yj.2.1 == bD && (yj.2.2.1 == bu && (yj.2.2.2.1 == eX && (yj.2.2.2.2.1 == fF)))))) else (some false)))))
theorem iP.mono:∀ a0 a1 a2 a3 a4 k,bM (iP.f k a0 a1 a2 a3 a4) (iP.f (k+1) a0 a1 a2 a3 a4):=by
 intro a0 a1 a2 a3 a4 k
 unfold iP.f
 repeat' with_reducible first|apply cO.mono|apply aZ.mono|exact bM.refl _|exact bM.none _|refine bM.ite ?_ ?_|refine bM.bind ?_ (fun _=>?_)
def aJ.l0:Nat→ByteArray→Int→Option (Bool)
 | 0,_,_=>none
 | k+1,x0,x3=>if x3 < (x0.size:Int) then (if 0≤x3 then (if (bt x0 x3) ≥ 97 then (if (bt x0 x3)≤122 then (aJ.l0 k x0 (wrap64 (x3+1))) else (if (bt x0 x3) ≥ 48 then (if (bt x0 x3)≤57 then (aJ.l0 k x0 (wrap64 (x3+1))) else (if ((bt x0 x3)=45) then (aJ.l0 k x0 (wrap64 (x3+1))) else (some false))) else (if ((bt x0 x3)=45) then (aJ.l0 k x0 (wrap64 (x3+1))) else (some false)))) else (if (bt x0 x3) ≥ 48 then (if (bt x0 x3)≤57 then (aJ.l0 k x0 (wrap64 (x3+1))) else (if ((bt x0 x3)=45) then (aJ.l0 k x0 (wrap64 (x3+1))) else (some false))) else (if ((bt x0 x3)=45) then (aJ.l0 k x0 (wrap64 (x3+1))) else (some false)))) else (none)) else (if (x0.size:Int) ≥ 1 then (some (decide ((x0.size:Int)≤30))) else (some false))
def aJ.f (k:Nat) (a0:ByteArray):Option (Bool):=aJ.l0 k a0 0
theorem aJ.dR:∀ k,(∀ y0 y1,bM (aJ.l0 k y0 y1) (aJ.l0 (k+1) y0 y1))
 | 0=>fun _ _ r h=>by simp [aJ.l0] at h
 | k+1=>by
  have gV:=aJ.dR k
  ·
   intro y0 y1
   unfold aJ.l0
   repeat' with_reducible first|apply gV|exact bM.refl _|exact bM.none _|refine bM.ite ?_ ?_|refine bM.bind ?_ (fun _=>?_)
theorem aJ.mono:∀ a0 k,bM (aJ.f k a0) (aJ.f (k+1) a0):=by
 intro a0 k
 have gV:=aJ.dR k
 unfold aJ.f
 repeat' with_reducible first|apply gV|exact bM.refl _|exact bM.none _|refine bM.ite ?_ ?_|refine bM.bind ?_ (fun _=>?_)
set_option maxHeartbeats 8000000 in
set_option maxRecDepth 100000 in
theorem aJ.calls (k:Nat) (a0:ByteArray) (r:Bool) (w:World) (h:aJ.f k a0=some r) :
  Calls Tryz.prog 36 #[.string a0] w fun e w'=>e=.returned (.bool r)∧dE w w':=by
 have H:(aJ.l0 k a0 0)=some r:=h
 clear h
 have H':=af.mk H
 clear H
 go_enter Tryz.func36,Tryz.ntmps36
 go_wp2
 go_loopg [3] k (fun kq v3 w'=>∃ (dL:Int),v3=.int .i64 dL∧af (aJ.l0 kq a0 dL=some r)∧af (kq≤k)∧dE w w')
 case atStart=>exact ⟨(0),(by first|rfl|(simp;done)|(simp [*];done)),H',⟨Nat.le_refl _⟩,by repeat (first|exact dE.refl _|apply dE.step)⟩
 case round =>
  clear H'
  obtain ⟨dL,rfl,HA,lH,⟨m1,rfl⟩⟩:=hrel
  cases gk with
  | zero=>exact absurd HA.out (by simp [aJ.l0])
  | succ k1 =>
   have H:=HA.out
   clear HA
   simp only [aJ.l0] at H
   by_cases c2:dL < (a0.size:Int)
   ·
    rw [if_pos c2] at H
    have rJ:decide (dL < (a0.size:Int))=true:=decide_eq_true c2
    clear c2
    by_cases c3:0≤dL
    ·
     rw [if_pos c3] at H
     have Jc:decide (0≤dL)=true:=decide_eq_true c3
     clear c3
     by_cases c5:(bt a0 dL) ≥ 97
     ·
      rw [if_pos c5] at H
      have sK:decide (97≤(bt a0 dL))=true:=decide_eq_true c5
      clear c5
      by_cases c6:(bt a0 dL)≤122
      ·
       rw [if_pos c6] at H
       have uh:decide ((bt a0 dL)≤122)=true:=decide_eq_true c6
       clear c6
       have H':=af.mk H
       clear H
       have p4:0≤(dL:Int):=of_decide_eq_true (by first|(with_reducible assumption)|assumption)
       have q4:dL < (a0.size:Int):=of_decide_eq_true (by first|(with_reducible assumption)|assumption)
       have hx4:=jR a0 dL
       replace p4:=eq_true p4
       replace q4:=eq_true q4
       go_wp2
       go_roundg k1
       case measure=>have:=lH.out;omega
       case rel=>exact ⟨(wrap64 (dL+1)),(by first|rfl|(simp;done)|(simp [*];done)),H',⟨by have:=lH.out;omega⟩,by repeat (first|exact dE.refl _|apply dE.step)⟩
      ·
       rw [if_neg c6] at H
       have uh:decide ((bt a0 dL)≤122)=false:=decide_eq_false c6
       clear c6
       by_cases c7:(bt a0 dL) ≥ 48
       ·
        rw [if_pos c7] at H
        have uK:decide (48≤(bt a0 dL))=true:=decide_eq_true c7
        clear c7
        by_cases c8:(bt a0 dL)≤57
        ·
         rw [if_pos c8] at H
         have CW:decide ((bt a0 dL)≤57)=true:=decide_eq_true c8
         clear c8
         have H':=af.mk H
         clear H
         have p4:0≤(dL:Int):=of_decide_eq_true (by first|(with_reducible assumption)|assumption)
         have q4:dL < (a0.size:Int):=of_decide_eq_true (by first|(with_reducible assumption)|assumption)
         have hx4:=jR a0 dL
         replace p4:=eq_true p4
         replace q4:=eq_true q4
         go_wp2
         go_roundg k1
         case measure=>have:=lH.out;omega
         case rel=>exact ⟨(wrap64 (dL+1)),(by first|rfl|(simp;done)|(simp [*];done)),H',⟨by have:=lH.out;omega⟩,by repeat (first|exact dE.refl _|apply dE.step)⟩
        ·
         rw [if_neg c8] at H
         have CW:decide ((bt a0 dL)≤57)=false:=decide_eq_false c8
         clear c8
         by_cases c9:((bt a0 dL)=45)
         ·
          rw [if_pos c9] at H
          have Ja:((bt a0 dL) == 45)=true:=beq_iff_eq.mpr c9
          have OQ:((bt a0 dL) != 45)=false:=bne_eq_false_iff_eq.mpr c9
          clear c9
          have H':=af.mk H
          clear H
          have p4:0≤(dL:Int):=of_decide_eq_true (by first|(with_reducible assumption)|assumption)
          have q4:dL < (a0.size:Int):=of_decide_eq_true (by first|(with_reducible assumption)|assumption)
          have hx4:=jR a0 dL
          replace p4:=eq_true p4
          replace q4:=eq_true q4
          go_wp2
          go_roundg k1
          case measure=>have:=lH.out;omega
          case rel=>exact ⟨(wrap64 (dL+1)),(by first|rfl|(simp;done)|(simp [*];done)),H',⟨by have:=lH.out;omega⟩,by repeat (first|exact dE.refl _|apply dE.step)⟩
         ·
          rw [if_neg c9] at H
          have Ja:((bt a0 dL) == 45)=false:=beq_eq_false_iff_ne.mpr c9
          have OQ:((bt a0 dL) != 45)=true:=bne_iff_ne.mpr c9
          obtain rfl:=Option.some.inj H
          have p4:0≤(dL:Int):=of_decide_eq_true (by first|(with_reducible assumption)|assumption)
          have q4:dL < (a0.size:Int):=of_decide_eq_true (by first|(with_reducible assumption)|assumption)
          have hx4:=jR a0 dL
          replace p4:=eq_true p4
          replace q4:=eq_true q4
          go_wp2
          go_ret
          exact ⟨by first|rfl|(simp;done)|(simp [*];done),by repeat (first|exact dE.refl _|apply dE.step)⟩
       ·
        rw [if_neg c7] at H
        have uK:decide (48≤(bt a0 dL))=false:=decide_eq_false c7
        clear c7
        by_cases c10:((bt a0 dL)=45)
        ·
         rw [if_pos c10] at H
         have wF:((bt a0 dL) == 45)=true:=beq_iff_eq.mpr c10
         have Bi:((bt a0 dL) != 45)=false:=bne_eq_false_iff_eq.mpr c10
         clear c10
         have H':=af.mk H
         clear H
         have p4:0≤(dL:Int):=of_decide_eq_true (by first|(with_reducible assumption)|assumption)
         have q4:dL < (a0.size:Int):=of_decide_eq_true (by first|(with_reducible assumption)|assumption)
         have hx4:=jR a0 dL
         replace p4:=eq_true p4
         replace q4:=eq_true q4
         go_wp2
         go_roundg k1
         case measure=>have:=lH.out;omega
         case rel=>exact ⟨(wrap64 (dL+1)),(by first|rfl|(simp;done)|(simp [*];done)),H',⟨by have:=lH.out;omega⟩,by repeat (first|exact dE.refl _|apply dE.step)⟩
        ·
         rw [if_neg c10] at H
         have wF:((bt a0 dL) == 45)=false:=beq_eq_false_iff_ne.mpr c10
         have Bi:((bt a0 dL) != 45)=true:=bne_iff_ne.mpr c10
         obtain rfl:=Option.some.inj H
         have p4:0≤(dL:Int):=of_decide_eq_true (by first|(with_reducible assumption)|assumption)
         have q4:dL < (a0.size:Int):=of_decide_eq_true (by first|(with_reducible assumption)|assumption)
         have hx4:=jR a0 dL
         replace p4:=eq_true p4
         replace q4:=eq_true q4
         go_wp2
         go_ret
         exact ⟨by first|rfl|(simp;done)|(simp [*];done),by repeat (first|exact dE.refl _|apply dE.step)⟩
     ·
      rw [if_neg c5] at H
      have sK:decide (97≤(bt a0 dL))=false:=decide_eq_false c5
      clear c5
      by_cases c11:(bt a0 dL) ≥ 48
      ·
       rw [if_pos c11] at H
       have Bh:decide (48≤(bt a0 dL))=true:=decide_eq_true c11
       clear c11
       by_cases c12:(bt a0 dL)≤57
       ·
        rw [if_pos c12] at H
        have Nw:decide ((bt a0 dL)≤57)=true:=decide_eq_true c12
        clear c12
        have H':=af.mk H
        clear H
        have p4:0≤(dL:Int):=of_decide_eq_true (by first|(with_reducible assumption)|assumption)
        have q4:dL < (a0.size:Int):=of_decide_eq_true (by first|(with_reducible assumption)|assumption)
        have hx4:=jR a0 dL
        replace p4:=eq_true p4
        replace q4:=eq_true q4
        go_wp2
        go_roundg k1
        case measure=>have:=lH.out;omega
        case rel=>exact ⟨(wrap64 (dL+1)),(by first|rfl|(simp;done)|(simp [*];done)),H',⟨by have:=lH.out;omega⟩,by repeat (first|exact dE.refl _|apply dE.step)⟩
       ·
        rw [if_neg c12] at H
        have Nw:decide ((bt a0 dL)≤57)=false:=decide_eq_false c12
        clear c12
        by_cases c13:((bt a0 dL)=45)
        ·
         rw [if_pos c13] at H
         have Ji:((bt a0 dL) == 45)=true:=beq_iff_eq.mpr c13
         have Qq:((bt a0 dL) != 45)=false:=bne_eq_false_iff_eq.mpr c13
         clear c13
         have H':=af.mk H
         clear H
         have p4:0≤(dL:Int):=of_decide_eq_true (by first|(with_reducible assumption)|assumption)
         have q4:dL < (a0.size:Int):=of_decide_eq_true (by first|(with_reducible assumption)|assumption)
         have hx4:=jR a0 dL
         replace p4:=eq_true p4
         replace q4:=eq_true q4
         go_wp2
         go_roundg k1
         case measure=>have:=lH.out;omega
         case rel=>exact ⟨(wrap64 (dL+1)),(by first|rfl|(simp;done)|(simp [*];done)),H',⟨by have:=lH.out;omega⟩,by repeat (first|exact dE.refl _|apply dE.step)⟩
        ·
         rw [if_neg c13] at H
         have Ji:((bt a0 dL) == 45)=false:=beq_eq_false_iff_ne.mpr c13
         have Qq:((bt a0 dL) != 45)=true:=bne_iff_ne.mpr c13
         obtain rfl:=Option.some.inj H
         have p4:0≤(dL:Int):=of_decide_eq_true (by first|(with_reducible assumption)|assumption)
         have q4:dL < (a0.size:Int):=of_decide_eq_true (by first|(with_reducible assumption)|assumption)
         have hx4:=jR a0 dL
         replace p4:=eq_true p4
         replace q4:=eq_true q4
         go_wp2
         go_ret
         exact ⟨by first|rfl|(simp;done)|(simp [*];done),by repeat (first|exact dE.refl _|apply dE.step)⟩
      ·
       rw [if_neg c11] at H
       have Bh:decide (48≤(bt a0 dL))=false:=decide_eq_false c11
       clear c11
       by_cases c14:((bt a0 dL)=45)
       ·
        rw [if_pos c14] at H
        have sN:((bt a0 dL) == 45)=true:=beq_iff_eq.mpr c14
        have Qp:((bt a0 dL) != 45)=false:=bne_eq_false_iff_eq.mpr c14
        clear c14
        have H':=af.mk H
        clear H
        have p4:0≤(dL:Int):=of_decide_eq_true (by first|(with_reducible assumption)|assumption)
        have q4:dL < (a0.size:Int):=of_decide_eq_true (by first|(with_reducible assumption)|assumption)
        have hx4:=jR a0 dL
        replace p4:=eq_true p4
        replace q4:=eq_true q4
        go_wp2
        go_roundg k1
        case measure=>have:=lH.out;omega
        case rel=>exact ⟨(wrap64 (dL+1)),(by first|rfl|(simp;done)|(simp [*];done)),H',⟨by have:=lH.out;omega⟩,by repeat (first|exact dE.refl _|apply dE.step)⟩
       ·
        rw [if_neg c14] at H
        have sN:((bt a0 dL) == 45)=false:=beq_eq_false_iff_ne.mpr c14
        have Qp:((bt a0 dL) != 45)=true:=bne_iff_ne.mpr c14
        obtain rfl:=Option.some.inj H
        have p4:0≤(dL:Int):=of_decide_eq_true (by first|(with_reducible assumption)|assumption)
        have q4:dL < (a0.size:Int):=of_decide_eq_true (by first|(with_reducible assumption)|assumption)
        have hx4:=jR a0 dL
        replace p4:=eq_true p4
        replace q4:=eq_true q4
        go_wp2
        go_ret
        exact ⟨by first|rfl|(simp;done)|(simp [*];done),by repeat (first|exact dE.refl _|apply dE.step)⟩
    ·
     rw [if_neg c3] at H
     exact absurd H (by simp)
   ·
    rw [if_neg c2] at H
    have rJ:decide (dL < (a0.size:Int))=false:=decide_eq_false c2
    clear c2
    by_cases c15:(a0.size:Int) ≥ 1
    ·
     rw [if_pos c15] at H
     have yh:decide (1≤(a0.size:Int))=true:=decide_eq_true c15
     have Nv:decide (1≤a0.size)=true:=decide_eq_true (by omega)
     clear c15
     obtain rfl:=Option.some.inj H
     go_wp2
     go_ret
     exact ⟨by first|rfl|(simp;done)|(simp [*];done),by repeat (first|exact dE.refl _|apply dE.step)⟩
    ·
     rw [if_neg c15] at H
     have yh:decide (1≤(a0.size:Int))=false:=decide_eq_false c15
     have Nv:decide (1≤a0.size)=false:=decide_eq_false (by omega)
     clear c15
     obtain rfl:=Option.some.inj H
     go_wp2
     go_ret
     exact ⟨by first|rfl|(simp;done)|(simp [*];done),by repeat (first|exact dE.refl _|apply dE.step)⟩
def bI.l0:Nat→ByteArray→Int→Option (Bool)
 | 0,_,_=>none
 | k+1,x0,x3=>if x3 < (x0.size:Int) then (if 0≤x3 then (if (bt x0 x3)=45 then (some false) else (bI.l0 k x0 (wrap64 (x3+1)))) else (none)) else (if x0.toList=([]:List UInt8) then (some true) else ((aJ.f k x0).bind fun t243=>(some t243)))
def bI.f (k:Nat) (a0:ByteArray):Option (Bool):=bI.l0 k a0 0
theorem bI.dR:∀ k,(∀ y0 y1,bM (bI.l0 k y0 y1) (bI.l0 (k+1) y0 y1))
 | 0=>fun _ _ r h=>by simp [bI.l0] at h
 | k+1=>by
  have gV:=bI.dR k
  ·
   intro y0 y1
   unfold bI.l0
   repeat' with_reducible first|apply gV|apply aJ.mono|exact bM.refl _|exact bM.none _|refine bM.ite ?_ ?_|refine bM.bind ?_ (fun _=>?_)
theorem bI.mono:∀ a0 k,bM (bI.f k a0) (bI.f (k+1) a0):=by
 intro a0 k
 have gV:=bI.dR k
 unfold bI.f
 repeat' with_reducible first|apply gV|apply aJ.mono|exact bM.refl _|exact bM.none _|refine bM.ite ?_ ?_|refine bM.bind ?_ (fun _=>?_)
end Go.Proofs.YtkclndkbccbhaaaGreatDoor.P
end
section
namespace Go.Proofs.YtkclndkbccbhaaaGreatDoor.P
open Go.RowKit Go.Proofs.ae.aX Go.Proofs.ae.dh Go.Proofs.ae.dI
attribute [local go_sem] iY iV jL jK iy iw iW iU
def aT.l0:Nat→ByteArray→List ByteArray→ByteArray→Int→Option (List ByteArray)
 | 0,_,_,_,_=>none
 | k+1,x0,x3,x4,x5=>if x5 < (x0.size:Int) then (if 0≤x5 then (if (bt x0 x5)=35 then (if x4.toList=([]:List UInt8) then (some x3) else (if x3.length < 8796093022208 then (some (x3++[x4])) else (none))) else (if (bt x0 x5)=32 then (if x4.toList=([]:List UInt8) then (aT.l0 k x0 x3 (⟨#[]⟩:ByteArray) (wrap64 (x5+1))) else (if x3.length < 8796093022208 then (aT.l0 k x0 (x3++[x4]) (⟨#[]⟩:ByteArray) (wrap64 (x5+1))) else (none))) else (if x5≤(wrap64 (x5+1)) then (if (wrap64 (x5+1))≤(x0.size:Int) then (if x4.size+(x0.extract (x5:Int).toNat ((wrap64 (x5+1)):Int).toNat).size≤9223372036854775807 then (aT.l0 k x0 x3 (x4++(x0.extract (x5:Int).toNat ((wrap64 (x5+1)):Int).toNat)) (wrap64 (x5+1))) else (none)) else (none)) else (none)))) else (none)) else (if x4.toList=([]:List UInt8) then (some x3) else (if x3.length < 8796093022208 then (some (x3++[x4])) else (none)))
def aT.f (k:Nat) (a0:ByteArray):Option (List ByteArray):=aT.l0 k a0 ([]:List ByteArray) (⟨#[]⟩:ByteArray) 0
theorem aT.dR:∀ k,(∀ y0 y1 y2 y3,bM (aT.l0 k y0 y1 y2 y3) (aT.l0 (k+1) y0 y1 y2 y3))
 | 0=>fun _ _ _ _ r h=>by simp [aT.l0] at h
 | k+1=>by
  have gV:=aT.dR k
  ·
   intro y0 y1 y2 y3
   unfold aT.l0
   repeat' with_reducible first|apply gV|exact bM.refl _|exact bM.none _|refine bM.ite ?_ ?_|refine bM.bind ?_ (fun _=>?_)
theorem aT.mono:∀ a0 k,bM (aT.f k a0) (aT.f (k+1) a0):=by
 intro a0 k
 have gV:=aT.dR k
 unfold aT.f
 repeat' with_reducible first|apply gV|exact bM.refl _|exact bM.none _|refine bM.ite ?_ ?_|refine bM.bind ?_ (fun _=>?_)
set_option maxHeartbeats 8000000 in
set_option maxRecDepth 100000 in
theorem aT.calls (k:Nat) (a0:ByteArray) (r:List ByteArray) (w:World) (h:aT.f k a0=some r) :
  Calls Tryz.prog 35 #[.string a0] w fun e w'=>∃ xw:Value,e=.returned (xw)∧Kd.R Kd.string 9 w' w.heap.size (fun _=>True) xw r∧Below w.heap.size w w':=by
 have HB:=af.mk (Below.refl w.heap.size w)
 have H:(aT.l0 k a0 ([]:List ByteArray) (⟨#[]⟩:ByteArray) 0)=some r:=h
 clear h
 have H':=af.mk H
 clear H
 go_enter Tryz.func35,Tryz.ntmps35
 go_wp2
 go_loopg [3,4,5] k (fun kq v3 v4 v5 w'=>∃ (dL:List ByteArray) (fB:ByteArray) (dF:Int),v4=.string fB∧v5=.int .i64 dF∧af (aT.l0 kq a0 dL fB dF=some r)∧af (kq≤k)∧af (Kd.R Kd.string 9 w' w.heap.size (fun _=>True) v3 dL)∧af (Below w.heap.size w w'))
 case atStart=>exact ⟨(([]:List ByteArray)),((⟨#[]⟩:ByteArray)),(0),(by first|rfl|(simp;done)|(simp [*];done)),(by first|rfl|(simp;done)|(simp [*];done)),H',⟨Nat.le_refl _⟩,⟨by first|exact Kd.gU _ _ _ _ _|exact Kd.sV _ _ _ _ _|exact Kd.sQ _ _ _ _ _|exact Kd.sU _ _ _ _ _|exact Kd.sS _ _ _ _ _⟩,⟨by repeat (first|(with_reducible first|exact HB.out|apply ai|apply ag|apply ah)|exact HB.out)⟩⟩
 case round =>
  clear H'
  obtain ⟨dL,fB,dF,rfl,rfl,HA,lH,xn,HB⟩:=hrel
  cases gk with
  | zero=>exact absurd HA.out (by simp [aT.l0])
  | succ k1 =>
   have H:=HA.out
   clear HA
   simp only [aT.l0] at H
   by_cases c2:dF < (a0.size:Int)
   ·
    rw [if_pos c2] at H
    have rJ:decide (dF < (a0.size:Int))=true:=decide_eq_true c2
    clear c2
    by_cases c3:0≤dF
    ·
     rw [if_pos c3] at H
     have Jc:decide (0≤dF)=true:=decide_eq_true c3
     clear c3
     by_cases c5:(bt a0 dF)=35
     ·
      rw [if_pos c5] at H
      have sK:((bt a0 dF) == 35)=true:=beq_iff_eq.mpr c5
      have OT:((bt a0 dF) != 35)=false:=bne_eq_false_iff_eq.mpr c5
      clear c5
      by_cases c6:fB.toList=([]:List UInt8)
      ·
       rw [if_pos c6] at H
       have uh:(fB.toList == ([]:List UInt8))=true:=beq_iff_eq.mpr c6
       have MB:(fB.toList != ([]:List UInt8))=false:=bne_eq_false_iff_eq.mpr c6
       clear c6
       obtain rfl:=Option.some.inj H
       have p4:0≤(dF:Int):=of_decide_eq_true (by first|(with_reducible assumption)|assumption)
       have q4:dF < (a0.size:Int):=of_decide_eq_true (by first|(with_reducible assumption)|assumption)
       have hx4:=jR a0 dF
       replace p4:=eq_true p4
       replace q4:=eq_true q4
       go_wp2
       go_ret
       exact ⟨_,by first|rfl|(simp [bC,bz] <;> rfl)|(simp [*,bC,bz] <;> rfl),by (with_reducible repeat (first|apply Kd.bJ|apply Kd.bK|apply Kd.df));exact xn.out,by repeat (first|(with_reducible first|exact HB.out|apply ai|apply ag|apply ah)|exact HB.out)⟩
      ·
       rw [if_neg c6] at H
       have uh:(fB.toList == ([]:List UInt8))=false:=beq_eq_false_iff_ne.mpr c6
       have MB:(fB.toList != ([]:List UInt8))=true:=bne_iff_ne.mpr c6
       by_cases c7:dL.length < 8796093022208
       ·
        rw [if_pos c7] at H
        have WE:=af.mk c7
        clear c7
        obtain ⟨Vy,Az⟩:∃ y_:List ByteArray,y_=(dL++[fB]):=⟨_,rfl⟩
        replace H:(some Vy)=some r:=by first|(rw [Az];with_reducible exact H)|(have mi:=(Option.bind_some _ _).symm.trans H;rw [Az];with_reducible exact mi)|(have mi:=(Option.bind_some _ _).symm.trans H;with_reducible exact mi)|with_reducible exact H|(rw [Az];exact H)|exact H
        have QF:=af.mk Az
        clear Az
        obtain rfl:=Option.some.inj H
        have p4:0≤(dF:Int):=of_decide_eq_true (by first|(with_reducible assumption)|assumption)
        have q4:dF < (a0.size:Int):=of_decide_eq_true (by first|(with_reducible assumption)|assumption)
        have hx4:=jR a0 dF
        replace p4:=eq_true p4
        replace q4:=eq_true q4
        go_wp2_with (first|((with_reducible refine fH (b:=.append) (xs:=#[.tmp 35,.tmp 37]) rfl ?_);at_builtin;refine Kd.jZ Kd.string (w0:=w) w.heap.size rfl (.tmp 35) (.tmp 37) 22 9 (.string ⟨#[]⟩) 16 rfl Tryz.underlying22 info9 rfl (by decide) (by omega) u3 dL fB [.string fB] (fun _=>True) (fun _=>False) rfl rfl ?aP (fun _ hk=>hk.elim) ?aF ?aO ?aB ?aS ?aL ?_;(case aP=>exact rfl);(case aB=>exact (by repeat (first|(with_reducible first|exact HB.out|apply ai|apply ag|apply ah)|exact HB.out)));(case aF=>exact (fun _ _=>trivial));(case aO=>exact (by (with_reducible repeat (first|apply Kd.bJ|apply Kd.bK|apply Kd.df));exact xn.out));(case aS=>exact (bG (by repeat (first|(with_reducible first|exact HB.out|apply ai|apply ag|apply ah)|exact HB.out))));(case aL=>have:=WE.out;omega);intro X8 w8 ho hb hg hat;rw [← QF.out] at ho;have dM:=af.mk (hb);have dP:=af.mk (ho);clear HB;clear xn;have HB:=dM;have Q7:=dP;clear dM dP;clear ho hb hg hat))
        go_ret
        exact ⟨_,by first|rfl|(simp [bC,bz] <;> rfl)|(simp [*,bC,bz] <;> rfl),by (with_reducible repeat (first|apply Kd.bJ|apply Kd.bK|apply Kd.df));exact Q7.out,by repeat (first|(with_reducible first|exact HB.out|apply ai|apply ag|apply ah)|exact HB.out)⟩
       ·
        rw [if_neg c7] at H
        exact absurd H (by simp)
     ·
      rw [if_neg c5] at H
      have sK:((bt a0 dF) == 35)=false:=beq_eq_false_iff_ne.mpr c5
      have OT:((bt a0 dF) != 35)=true:=bne_iff_ne.mpr c5
      by_cases c10:(bt a0 dF)=32
      ·
       rw [if_pos c10] at H
       have wF:((bt a0 dF) == 32)=true:=beq_iff_eq.mpr c10
       have Bi:((bt a0 dF) != 32)=false:=bne_eq_false_iff_eq.mpr c10
       clear c10
       by_cases c11:fB.toList=([]:List UInt8)
       ·
        rw [if_pos c11] at H
        have Bh:(fB.toList == ([]:List UInt8))=true:=beq_iff_eq.mpr c11
        have Jj:(fB.toList != ([]:List UInt8))=false:=bne_eq_false_iff_eq.mpr c11
        clear c11
        have H':=af.mk H
        clear H
        have p4:0≤(dF:Int):=of_decide_eq_true (by first|(with_reducible assumption)|assumption)
        have q4:dF < (a0.size:Int):=of_decide_eq_true (by first|(with_reducible assumption)|assumption)
        have hx4:=jR a0 dF
        replace p4:=eq_true p4
        replace q4:=eq_true q4
        have p9:0≤(dF:Int):=of_decide_eq_true (by first|(with_reducible assumption)|assumption)
        have q9:dF < (a0.size:Int):=of_decide_eq_true (by first|(with_reducible assumption)|assumption)
        have Xc:=jR a0 dF
        replace p9:=eq_true p9
        replace q9:=eq_true q9
        go_wp2
        go_roundg k1
        case measure=>have:=lH.out;omega
        case rel=>exact ⟨(dL),((⟨#[]⟩:ByteArray)),(wrap64 (dF+1)),(by first|rfl|(simp;done)|(simp [*];done)),(by first|rfl|(simp;done)|(simp [*];done)),H',⟨by have:=lH.out;omega⟩,⟨by (with_reducible repeat (first|apply Kd.bJ|apply Kd.bK|apply Kd.df));exact xn.out⟩,⟨by repeat (first|(with_reducible first|exact HB.out|apply ai|apply ag|apply ah)|exact HB.out)⟩⟩
       ·
        rw [if_neg c11] at H
        have Bh:(fB.toList == ([]:List UInt8))=false:=beq_eq_false_iff_ne.mpr c11
        have Jj:(fB.toList != ([]:List UInt8))=true:=bne_iff_ne.mpr c11
        by_cases c12:dL.length < 8796093022208
        ·
         rw [if_pos c12] at H
         have QT:=af.mk c12
         clear c12
         obtain ⟨Pv,Aw⟩:∃ y_:List ByteArray,y_=(dL++[fB]):=⟨_,rfl⟩
         replace H:(aT.l0 k1 a0 Pv (⟨#[]⟩:ByteArray) (wrap64 (dF+1)))=some r:=by first|(rw [Aw];with_reducible exact H)|(have mi:=(Option.bind_some _ _).symm.trans H;rw [Aw];with_reducible exact mi)|(have mi:=(Option.bind_some _ _).symm.trans H;with_reducible exact mi)|with_reducible exact H|(rw [Aw];exact H)|exact H
         have QE:=af.mk Aw
         clear Aw
         have H':=af.mk H
         clear H
         have p4:0≤(dF:Int):=of_decide_eq_true (by first|(with_reducible assumption)|assumption)
         have q4:dF < (a0.size:Int):=of_decide_eq_true (by first|(with_reducible assumption)|assumption)
         have hx4:=jR a0 dF
         replace p4:=eq_true p4
         replace q4:=eq_true q4
         have p9:0≤(dF:Int):=of_decide_eq_true (by first|(with_reducible assumption)|assumption)
         have q9:dF < (a0.size:Int):=of_decide_eq_true (by first|(with_reducible assumption)|assumption)
         have Xc:=jR a0 dF
         replace p9:=eq_true p9
         replace q9:=eq_true q9
         go_wp2_with (first|((with_reducible refine fH (b:=.append) (xs:=#[.tmp 29,.tmp 31]) rfl ?_);at_builtin;refine Kd.jZ Kd.string (w0:=w) w.heap.size rfl (.tmp 29) (.tmp 31) 22 9 (.string ⟨#[]⟩) 16 rfl Tryz.underlying22 info9 rfl (by decide) (by omega) u3 dL fB [.string fB] (fun _=>True) (fun _=>False) rfl rfl ?aP (fun _ hk=>hk.elim) ?aF ?aO ?aB ?aS ?aL ?_;(case aP=>exact rfl);(case aB=>exact (by repeat (first|(with_reducible first|exact HB.out|apply ai|apply ag|apply ah)|exact HB.out)));(case aF=>exact (fun _ _=>trivial));(case aO=>exact (by (with_reducible repeat (first|apply Kd.bJ|apply Kd.bK|apply Kd.df));exact xn.out));(case aS=>exact (bG (by repeat (first|(with_reducible first|exact HB.out|apply ai|apply ag|apply ah)|exact HB.out))));(case aL=>have:=QT.out;omega);intro X7 WR ho hb hg hat;rw [← QE.out] at ho;have dM:=af.mk (hb);have dP:=af.mk (ho);clear HB;clear xn;have HB:=dM;have Q5:=dP;clear dM dP;clear ho hb hg hat))
         go_roundg k1
         case measure=>have:=lH.out;omega
         case rel=>exact ⟨(Pv),((⟨#[]⟩:ByteArray)),(wrap64 (dF+1)),(by first|rfl|(simp;done)|(simp [*];done)),(by first|rfl|(simp;done)|(simp [*];done)),H',⟨by have:=lH.out;omega⟩,⟨by (with_reducible repeat (first|apply Kd.bJ|apply Kd.bK|apply Kd.df));exact Q5.out⟩,⟨by repeat (first|(with_reducible first|exact HB.out|apply ai|apply ag|apply ah)|exact HB.out)⟩⟩
        ·
         rw [if_neg c12] at H
         exact absurd H (by simp)
      ·
       rw [if_neg c10] at H
       have wF:((bt a0 dF) == 32)=false:=beq_eq_false_iff_ne.mpr c10
       have Bi:((bt a0 dF) != 32)=true:=bne_iff_ne.mpr c10
       have sN:=eq_true (of_decide_eq_true (by first|(with_reducible assumption)|assumption):0≤dF)
       by_cases c15:dF≤(wrap64 (dF+1))
       ·
        rw [if_pos c15] at H
        have yh:=eq_true c15
        have Nv:decide (dF≤(wrap64 (dF+1)))=true:=decide_eq_true c15
        by_cases c16:(wrap64 (dF+1))≤(a0.size:Int)
        ·
         rw [if_pos c16] at H
         have Nu:=eq_true c16
         have Xy:decide ((wrap64 (dF+1))≤(a0.size:Int))=true:=decide_eq_true c16
         by_cases c17:fB.size+(a0.extract (dF:Int).toNat ((wrap64 (dF+1)):Int).toNat).size≤9223372036854775807
         ·
          rw [if_pos c17] at H
          have Ns:=eq_true c17
          have Nr:decide (fB.size+(a0.extract (dF:Int).toNat ((wrap64 (dF+1)):Int).toNat).size≤9223372036854775807)=true:=decide_eq_true c17
          try have Xx:(9223372036854775807 < fB.size+(a0.extract (dF:Int).toNat ((wrap64 (dF+1)):Int).toNat).size)=False:=eq_false (Nat.not_lt.2 c17)
          have H':=af.mk H
          clear H
          have p4:0≤(dF:Int):=of_decide_eq_true (by first|(with_reducible assumption)|assumption)
          have q4:dF < (a0.size:Int):=of_decide_eq_true (by first|(with_reducible assumption)|assumption)
          have hx4:=jR a0 dF
          replace p4:=eq_true p4
          replace q4:=eq_true q4
          have p9:0≤(dF:Int):=of_decide_eq_true (by first|(with_reducible assumption)|assumption)
          have q9:dF < (a0.size:Int):=of_decide_eq_true (by first|(with_reducible assumption)|assumption)
          have Xc:=jR a0 dF
          replace p9:=eq_true p9
          replace q9:=eq_true q9
          go_wp2
          go_roundg k1
          case measure=>have:=lH.out;omega
          case rel=>exact ⟨(dL),(fB++(a0.extract (dF:Int).toNat ((wrap64 (dF+1)):Int).toNat)),(wrap64 (dF+1)),(by first|rfl|(simp;done)|(simp [*];done)),(by first|rfl|(simp;done)|(simp [*];done)),H',⟨by have:=lH.out;omega⟩,⟨by (with_reducible repeat (first|apply Kd.bJ|apply Kd.bK|apply Kd.df));exact xn.out⟩,⟨by repeat (first|(with_reducible first|exact HB.out|apply ai|apply ag|apply ah)|exact HB.out)⟩⟩
         ·
          rw [if_neg c17] at H
          exact absurd H (by simp)
        ·
         rw [if_neg c16] at H
         exact absurd H (by simp)
       ·
        rw [if_neg c15] at H
        exact absurd H (by simp)
    ·
     rw [if_neg c3] at H
     exact absurd H (by simp)
   ·
    rw [if_neg c2] at H
    have rJ:decide (dF < (a0.size:Int))=false:=decide_eq_false c2
    clear c2
    by_cases c18:fB.toList=([]:List UInt8)
    ·
     rw [if_pos c18] at H
     have Jh:(fB.toList == ([]:List UInt8))=true:=beq_iff_eq.mpr c18
     have Jg:(fB.toList != ([]:List UInt8))=false:=bne_eq_false_iff_eq.mpr c18
     clear c18
     obtain rfl:=Option.some.inj H
     go_wp2
     go_ret
     exact ⟨_,by first|rfl|(simp [bC,bz] <;> rfl)|(simp [*,bC,bz] <;> rfl),by (with_reducible repeat (first|apply Kd.bJ|apply Kd.bK|apply Kd.df));exact xn.out,by repeat (first|(with_reducible first|exact HB.out|apply ai|apply ag|apply ah)|exact HB.out)⟩
    ·
     rw [if_neg c18] at H
     have Jh:(fB.toList == ([]:List UInt8))=false:=beq_eq_false_iff_ne.mpr c18
     have Jg:(fB.toList != ([]:List UInt8))=true:=bne_iff_ne.mpr c18
     by_cases c19:dL.length < 8796093022208
     ·
      rw [if_pos c19] at H
      have QR:=af.mk c19
      clear c19
      obtain ⟨Vz,AA⟩:∃ y_:List ByteArray,y_=(dL++[fB]):=⟨_,rfl⟩
      replace H:(some Vz)=some r:=by first|(rw [AA];with_reducible exact H)|(have mi:=(Option.bind_some _ _).symm.trans H;rw [AA];with_reducible exact mi)|(have mi:=(Option.bind_some _ _).symm.trans H;with_reducible exact mi)|with_reducible exact H|(rw [AA];exact H)|exact H
      have QG:=af.mk AA
      clear AA
      obtain rfl:=Option.some.inj H
      go_wp2_with (first|((with_reducible refine fH (b:=.append) (xs:=#[.tmp 35,.tmp 37]) rfl ?_);at_builtin;refine Kd.jZ Kd.string (w0:=w) w.heap.size rfl (.tmp 35) (.tmp 37) 22 9 (.string ⟨#[]⟩) 16 rfl Tryz.underlying22 info9 rfl (by decide) (by omega) u3 dL fB [.string fB] (fun _=>True) (fun _=>False) rfl rfl ?aP (fun _ hk=>hk.elim) ?aF ?aO ?aB ?aS ?aL ?_;(case aP=>exact rfl);(case aB=>exact (by repeat (first|(with_reducible first|exact HB.out|apply ai|apply ag|apply ah)|exact HB.out)));(case aF=>exact (fun _ _=>trivial));(case aO=>exact (by (with_reducible repeat (first|apply Kd.bJ|apply Kd.bK|apply Kd.df));exact xn.out));(case aS=>exact (bG (by repeat (first|(with_reducible first|exact HB.out|apply ai|apply ag|apply ah)|exact HB.out))));(case aL=>have:=QR.out;omega);intro X9 X3 ho hb hg hat;rw [← QG.out] at ho;have dM:=af.mk (hb);have dP:=af.mk (ho);clear HB;clear xn;have HB:=dM;have Q8:=dP;clear dM dP;clear ho hb hg hat))
      go_ret
      exact ⟨_,by first|rfl|(simp [bC,bz] <;> rfl)|(simp [*,bC,bz] <;> rfl),by (with_reducible repeat (first|apply Kd.bJ|apply Kd.bK|apply Kd.df));exact Q8.out,by repeat (first|(with_reducible first|exact HB.out|apply ai|apply ag|apply ah)|exact HB.out)⟩
     ·
      rw [if_neg c19] at H
      exact absurd H (by simp)
end Go.Proofs.YtkclndkbccbhaaaGreatDoor.P
end
section
namespace Go.Proofs.YtkclndkbccbhaaaGreatDoor.P
open Go.RowKit Go.Proofs.ae.aX Go.Proofs.ae.dh Go.Proofs.ae.dI
attribute [local go_sem] iY iV jL jK iy iw iW iU
mutual
def aj.l0:Nat→ByteArray→List (List ByteArray)→Int→Int→Int→Option ((List (List ByteArray)) × Int × Int)
 | 0,_,_,_,_,_=>none
 | k+1,x0,x5,x6,x7,x8=>if x8≤(x0.size:Int) then (if x8 < (x0.size:Int) then (if 0≤x8 then (aj.j1 k x0 x5 x6 x7 x8 ((bt x0 x8) != 10)) else (none)) else (aj.j1 k x0 x5 x6 x7 x8 false)) else (some (x5,0,0))
def aj.j1:Nat→ByteArray→List (List ByteArray)→Int→Int→Int→Bool→Option ((List (List ByteArray)) × Int × Int)
 | 0,_,_,_,_,_,_=>none
 | k+1,x0,x5,x6,x7,x8,x29=>if x29=true then (aj.l0 k x0 x5 x6 x7 (wrap64 (x8+1))) else (if 0≤x6 then (if x6≤x8 then (if x8≤(x0.size:Int) then ((aT.f k (x0.extract (x6:Int).toNat (x8:Int).toNat)).bind fun lJ=>(aj.l1 k x0 x5 x7 x8 lJ 0)) else (none)) else (none)) else (none))
def aj.l1:Nat→ByteArray→List (List ByteArray)→Int→Int→List ByteArray→Int→Option ((List (List ByteArray)) × Int × Int)
 | 0,_,_,_,_,_,_=>none
 | k+1,x0,x5,x7,x8,x9,x10=>if x10 < (x9.length:Int) then (if 0≤x10 then ((aJ.f k (dZ ByteArray.empty x9 x10)).bind fun JO=>(if JO=true then (aj.l1 k x0 x5 x7 x8 x9 (wrap64 (x10+1))) else (some (([]:List (List ByteArray)),x7,4)))) else (none)) else (if (x9.length:Int) > 0 then (if x5.length < 5864062014805 then (aj.l0 k x0 (x5++[x9]) (wrap64 (x8+1)) (wrap64 (x7+1)) (wrap64 (x8+1))) else (none)) else (aj.l0 k x0 x5 (wrap64 (x8+1)) (wrap64 (x7+1)) (wrap64 (x8+1))))
end
def aj.f (k:Nat) (a0:ByteArray):Option ((List (List ByteArray)) × Int × Int):=if (a0.size:Int) > 20000 then (some (([]:List (List ByteArray)),0,3)) else (aj.l0 k a0 ([]:List (List ByteArray)) 0 1 0)
theorem aj.dR:∀ k,(∀ y0 y1 y2 y3 y4,bM (aj.l0 k y0 y1 y2 y3 y4) (aj.l0 (k+1) y0 y1 y2 y3 y4))∧(∀ y0 y1 y2 y3 y4 y5,bM (aj.j1 k y0 y1 y2 y3 y4 y5) (aj.j1 (k+1) y0 y1 y2 y3 y4 y5))∧(∀ y0 y1 y2 y3 y4 y5,bM (aj.l1 k y0 y1 y2 y3 y4 y5) (aj.l1 (k+1) y0 y1 y2 y3 y4 y5))
 | 0=>⟨fun _ _ _ _ _ r h=>by simp [aj.l0] at h,fun _ _ _ _ _ _ r h=>by simp [aj.j1] at h,fun _ _ _ _ _ _ r h=>by simp [aj.l1] at h⟩
 | k+1=>by
  obtain ⟨gV,ih1,ih2⟩:=aj.dR k
  refine ⟨?_,?_,?_⟩
  ·
   intro y0 y1 y2 y3 y4
   unfold aj.l0
   repeat' with_reducible first|apply gV|apply ih1|apply ih2|apply aJ.mono|apply aT.mono|exact bM.refl _|exact bM.none _|refine bM.ite ?_ ?_|refine bM.bind ?_ (fun _=>?_)
  ·
   intro y0 y1 y2 y3 y4 y5
   unfold aj.j1
   repeat' with_reducible first|apply gV|apply ih1|apply ih2|apply aJ.mono|apply aT.mono|exact bM.refl _|exact bM.none _|refine bM.ite ?_ ?_|refine bM.bind ?_ (fun _=>?_)
  ·
   intro y0 y1 y2 y3 y4 y5
   unfold aj.l1
   repeat' with_reducible first|apply gV|apply ih1|apply ih2|apply aJ.mono|apply aT.mono|exact bM.refl _|exact bM.none _|refine bM.ite ?_ ?_|refine bM.bind ?_ (fun _=>?_)
theorem aj.mono:∀ a0 k,bM (aj.f k a0) (aj.f (k+1) a0):=by
 intro a0 k
 obtain ⟨gV,ih1,ih2⟩:=aj.dR k
 unfold aj.f
 repeat' with_reducible first|apply gV|apply ih1|apply ih2|apply aJ.mono|apply aT.mono|exact bM.refl _|exact bM.none _|refine bM.ite ?_ ?_|refine bM.bind ?_ (fun _=>?_)
set_option maxHeartbeats 8000000 in
set_option maxRecDepth 100000 in
theorem aj.calls (k:Nat) (a0:ByteArray) (r1:List (List ByteArray)) (r2:Int) (r3:Int) (w:World) (h:aj.f k a0=some (r1,r2,r3)) :
  Calls Tryz.prog 16 #[.string a0] w fun e w'=>∃ xw:Value,e=.returned (.tuple #[xw,.int .i64 r2,.int .i64 r3])∧Kd.S (Kd.slice 9 Kd.string) 22 w' w.heap.size (fun _=>True) xw r1∧Below w.heap.size w w':=by
 have HB:=af.mk (Below.refl w.heap.size w)
 have H:(if (a0.size:Int) > 20000 then (some (([]:List (List ByteArray)),0,3)) else (aj.l0 k a0 ([]:List (List ByteArray)) 0 1 0))=some (r1,r2,r3):=h
 clear h
 by_cases c2:(a0.size:Int) > 20000
 ·
  rw [if_pos c2] at H
  have rJ:decide (20000 < (a0.size:Int))=true:=decide_eq_true c2
  have wE:decide (20000 < a0.size)=true:=decide_eq_true (by omega)
  clear c2
  simp only [Option.some.injEq,Prod.mk.injEq] at H
  obtain ⟨rfl,rfl,rfl⟩:=H
  go_enter Tryz.func16,Tryz.ntmps16
  go_wp2
  go_ret3
  exact ⟨_,by first|rfl|(simp [bC,bz] <;> rfl)|(simp [*,bC,bz] <;> rfl),by first|exact Kd.sS _ _ _ _ _|exact Kd.sV _ _ _ _ _|exact Kd.sQ _ _ _ _ _|exact Kd.sU _ _ _ _ _|exact Kd.gU _ _ _ _ _,by repeat (first|(with_reducible first|exact HB.out|apply ai|apply ag|apply ah)|exact HB.out)⟩
 ·
  rw [if_neg c2] at H
  have rJ:decide (20000 < (a0.size:Int))=false:=decide_eq_false c2
  have wE:decide (20000 < a0.size)=false:=decide_eq_false (by omega)
  clear c2
  have H':=af.mk H
  clear H
  go_enter Tryz.func16,Tryz.ntmps16
  go_wp2
  go_loopg [5,6,7,8] k (fun kq v5 v6 v7 v8 w'=>∃ (dF:List (List ByteArray)) (ry:Int) (qP:Int) (jF:Int),v6=.int .i64 ry∧v7=.int .i64 qP∧v8=.int .i64 jF∧af (aj.l0 kq a0 dF ry qP jF=some (r1,r2,r3))∧af (kq≤k)∧af (Kd.S (Kd.slice 9 Kd.string) 22 w' w.heap.size (fun _=>True) v5 dF)∧af (Below w.heap.size w w'))
  case atStart=>exact ⟨(([]:List (List ByteArray))),(0),(1),(0),(by first|rfl|(simp;done)|(simp [*];done)),(by first|rfl|(simp;done)|(simp [*];done)),(by first|rfl|(simp;done)|(simp [*];done)),H',⟨Nat.le_refl _⟩,⟨by first|exact Kd.sS _ _ _ _ _|exact Kd.sV _ _ _ _ _|exact Kd.sQ _ _ _ _ _|exact Kd.sU _ _ _ _ _|exact Kd.gU _ _ _ _ _⟩,⟨by repeat (first|(with_reducible first|exact HB.out|apply ai|apply ag|apply ah)|exact HB.out)⟩⟩
  case round =>
   clear H'
   obtain ⟨dF,ry,qP,jF,rfl,rfl,rfl,HA,lH,jc,HB⟩:=hrel
   cases gk with
   | zero=>exact absurd HA.out (by simp [aj.l0])
   | succ k1 =>
    have H:=HA.out
    clear HA
    simp only [aj.l0] at H
    by_cases c3:jF≤(a0.size:Int)
    ·
     rw [if_pos c3] at H
     have Jc:decide (jF≤(a0.size:Int))=true:=decide_eq_true c3
     clear c3
     have WJ:=af.mk H
     clear H
     go_upto_region 9 with (fail)
     go_cut [29] (fun v29 wc=>∃ (kq:Nat) (Dj:Bool),v29=.bool Dj∧af (aj.j1 kq a0 dF ry qP jF Dj=some (r1,r2,r3))∧af (kq≤k1)∧af (Kd.S (Kd.slice 9 Kd.string) 22 wc w.heap.size (fun _=>True) u5 dF)∧af (Below w.heap.size w wc))
     case first =>
      have H:=WJ.out
      clear WJ
      by_cases c5:jF < (a0.size:Int)
      ·
       rw [if_pos c5] at H
       have sK:decide (jF < (a0.size:Int))=true:=decide_eq_true c5
       clear c5
       (first|rw [sK]|(simp only [aH,aI];rw [sK])|skip)
       by_cases c6:0≤jF
       ·
        rw [if_pos c6] at H
        have uh:decide (0≤jF)=true:=decide_eq_true c6
        clear c6
        have H':=af.mk H
        clear H
        have p7:0≤(jF:Int):=of_decide_eq_true (by first|(with_reducible assumption)|assumption)
        have q7:jF < (a0.size:Int):=of_decide_eq_true (by first|(with_reducible assumption)|assumption)
        have hx7:=jR a0 jF
        replace p7:=eq_true p7
        replace q7:=eq_true q7
        go_wp2
        go_meet
        case rel=>exact ⟨_,(((bt a0 jF) != 10)),(by first|rfl|(simp;done)|(simp [*];done)),H',⟨by have:=lH.out;first|omega|exact Nat.le_refl _⟩,⟨by (with_reducible repeat (first|apply Kd.fQ|apply Kd.fP|apply Kd.iF));exact jc.out⟩,⟨by repeat (first|(with_reducible first|exact HB.out|apply ai|apply ag|apply ah)|exact HB.out)⟩⟩
       ·
        rw [if_neg c6] at H
        exact absurd H (by simp)
      ·
       rw [if_neg c5] at H
       have sK:decide (jF < (a0.size:Int))=false:=decide_eq_false c5
       clear c5
       (first|rw [sK]|(simp only [aH,aI];rw [sK])|skip)
       have H':=af.mk H
       clear H
       go_wp2
       go_meet
       case rel=>exact ⟨_,(false),(by first|rfl|(simp;done)|(simp [*];done)),H',⟨by have:=lH.out;first|omega|exact Nat.le_refl _⟩,⟨by (with_reducible repeat (first|apply Kd.fQ|apply Kd.fP|apply Kd.iF));exact jc.out⟩,⟨by repeat (first|(with_reducible first|exact HB.out|apply ai|apply ag|apply ah)|exact HB.out)⟩⟩
     case rest =>
      clear WJ
      obtain ⟨kq,Dj,rfl,HA,NP,jc,HB⟩:=hcut
      cases kq with
      | zero=>exact absurd HA.out (by simp [aj.j1])
      | succ MZ =>
       have H:=HA.out
       clear HA
       simp only [aj.j1] at H
       by_cases c8:Dj=true
       ·
        subst c8
        have H1:(aj.l0 MZ a0 dF ry qP (wrap64 (jF+1)))=some (r1,r2,r3):=by rw [if_pos rfl] at H;exact H
        clear H
        have H:=H1
        clear H1
        have H':=af.mk H
        clear H
        go_wp2
        go_roundg MZ
        case measure=>have:=lH.out;have:=NP.out;omega
        case rel=>exact ⟨(dF),(ry),(qP),(wrap64 (jF+1)),(by first|rfl|(simp;done)|(simp [*];done)),(by first|rfl|(simp;done)|(simp [*];done)),(by first|rfl|(simp;done)|(simp [*];done)),H',⟨by have:=lH.out;have:=NP.out;omega⟩,⟨by (with_reducible repeat (first|apply Kd.fQ|apply Kd.fP|apply Kd.iF));exact jc.out⟩,⟨by repeat (first|(with_reducible first|exact HB.out|apply ai|apply ag|apply ah)|exact HB.out)⟩⟩
       ·
        replace c8:=Bool.eq_false_iff.mpr c8
        subst c8
        have H1:(if 0≤ry then (if ry≤jF then (if jF≤(a0.size:Int) then ((aT.f MZ (a0.extract (ry:Int).toNat (jF:Int).toNat)).bind fun lJ=>(aj.l1 MZ a0 dF qP jF lJ 0)) else (none)) else (none)) else (none))=some (r1,r2,r3):=by rw [if_neg (show ¬ (false=true) by decide)] at H;exact H
        clear H
        have H:=H1
        clear H1
        by_cases c9:0≤ry
        ·
         rw [if_pos c9] at H
         have Ja:=eq_true c9
         have OQ:decide (0≤ry)=true:=decide_eq_true c9
         clear c9
         by_cases c10:ry≤jF
         ·
          rw [if_pos c10] at H
          have wF:=eq_true c10
          have Bi:decide (ry≤jF)=true:=decide_eq_true c10
          clear c10
          by_cases c11:jF≤(a0.size:Int)
          ·
           rw [if_pos c11] at H
           have Bh:=eq_true c11
           have Jj:decide (jF≤(a0.size:Int))=true:=decide_eq_true c11
           clear c11
           replace H:=Option.bind_eq_some_iff.mp H
           obtain ⟨lJ,RX,H⟩:=H
           replace H:(aj.l1 MZ a0 dF qP jF lJ 0)=some (r1,r2,r3):=H
           have YX:=af.mk RX
           clear RX
           have H':=af.mk H
           clear H
           go_wp2_with (first|((with_reducible refine bY (f:=35) rfl ?_);refine eQ (some 34) rfl rfl Tryz.func35 (by kernel_rfl) rfl #[.string (a0.extract (ry:Int).toNat (jF:Int).toNat)] rfl (by (try simp only [List.map_toArray,List.map_cons,List.map_nil]);first|done|rfl|(simp only [List.length_drop,List.length_take];rfl)) ?_;(with_reducible refine (aT.calls MZ (a0.extract (ry:Int).toNat (jF:Int).toNat) lJ _ YX.out).mono ?_);rintro e WR ⟨PL,rfl,ho0,hb⟩;refine ⟨_,rfl,?_⟩;have dM:=af.mk (Kd.Bz (by (with_reducible repeat (first|apply Kd.fQ|apply Kd.fP|apply Kd.iF));exact jc.out) (Kd.jS ho0) hb);have dP:=af.mk (Kd.gz ho0 (bG (by repeat (first|(with_reducible first|exact HB.out|apply ai|apply ag|apply ah)|exact HB.out))));have eY:=af.mk (bf (by repeat (first|(with_reducible first|exact HB.out|apply ai|apply ag|apply ah)|exact HB.out)) hb);clear jc;clear HB;have jc:=dM;have Q4:=dP;have HB:=eY;clear dM dP eY;(try clear hb);(try clear hb2);(try clear hk);(try clear hi);(try clear ho0)))
           go_loopg [10] MZ (fun kq v10 w'=>∃ (jX:Int),v10=.int .i64 jX∧af (aj.l1 kq a0 dF qP jF lJ jX=some (r1,r2,r3))∧af (kq≤MZ)∧af (Kd.S (Kd.slice 9 Kd.string) 22 w' w.heap.size (fun k_=>some k_ ≠ (PL:Value).ownBlock) u5 dF)∧af (Kd.R Kd.string 9 w' w.heap.size (fun _=>True) PL lJ)∧af (Below w.heap.size w w'))
           case atStart=>exact ⟨(0),(by first|rfl|(simp;done)|(simp [*];done)),H',⟨Nat.le_refl _⟩,⟨by (with_reducible repeat (first|apply Kd.fQ|apply Kd.fP|apply Kd.iF));exact Kd.nD jc.out (fun _ hk=>hk.2)⟩,⟨by (with_reducible repeat (first|apply Kd.bJ|apply Kd.bK|apply Kd.df));exact Q4.out⟩,⟨by repeat (first|(with_reducible first|exact HB.out|apply ai|apply ag|apply ah)|exact HB.out)⟩⟩
           case round =>
            clear H'
            obtain ⟨jX,rfl,HA,Po,jc,xm,HB⟩:=hrel
            cases gk with
            | zero=>exact absurd HA.out (by simp [aj.l1])
            | succ k3 =>
             have H:=HA.out
             clear HA
             simp only [aj.l1] at H
             by_cases c14:jX < (lJ.length:Int)
             ·
              rw [if_pos c14] at H
              have sN:decide (jX < (lJ.length:Int))=true:=decide_eq_true c14
              clear c14
              by_cases c15:0≤jX
              ·
               rw [if_pos c15] at H
               have yh:decide (0≤jX)=true:=decide_eq_true c15
               clear c15
               replace H:=Option.bind_eq_some_iff.mp H
               obtain ⟨JO,BJ,H⟩:=H
               replace H:(if JO=true then (aj.l1 k3 a0 dF qP jF lJ (wrap64 (jX+1))) else (some (([]:List (List ByteArray)),qP,4)))=some (r1,r2,r3):=H
               have O9:=af.mk BJ
               clear BJ
               by_cases c17:JO=true
               ·
                subst c17
                have H1:(aj.l1 k3 a0 dF qP jF lJ (wrap64 (jX+1)))=some (r1,r2,r3):=by rw [if_pos rfl] at H;exact H
                clear H
                have H:=H1
                clear H1
                have H':=af.mk H
                clear H
                obtain ⟨ql,pF,OL⟩:=Kd.fJ xm.out
                subst OL
                have BV:0≤(jX:Int):=of_decide_eq_true (by first|(with_reducible assumption)|assumption)
                have BQ:jX < (lJ.length:Int):=of_decide_eq_true (by first|(with_reducible assumption)|assumption)
                obtain ⟨Qw,e305,KH⟩:=Kd.ed (Kd.fZ xm.out).2.2 jX BV BQ
                cases e305
                replace BV:=eq_true BV
                replace BQ:=eq_true BQ
                go_wp2_with (first|((with_reducible refine bY (f:=36) rfl ?_);refine eQ (some 45) rfl rfl Tryz.func36 (by kernel_rfl) rfl #[.string (dZ ByteArray.empty lJ jX)] rfl (by (try simp only [List.map_toArray,List.map_cons,List.map_nil]);first|done|rfl|(simp only [List.length_drop,List.length_take];rfl)) ?_;(with_reducible refine (aJ.calls k3 (dZ ByteArray.empty lJ jX) true _ O9.out).mono ?_);rintro e w' ⟨rfl,⟨nd,rfl⟩⟩;refine ⟨_,rfl,?_⟩))
                go_roundg k3
                case measure=>have:=lH.out;have:=NP.out;have:=Po.out;omega
                case rel=>exact ⟨(wrap64 (jX+1)),(by first|rfl|(simp;done)|(simp [*];done)),H',⟨by have:=lH.out;have:=NP.out;have:=Po.out;omega⟩,⟨by (with_reducible repeat (first|apply Kd.fQ|apply Kd.fP|apply Kd.iF));exact jc.out⟩,⟨by (with_reducible repeat (first|apply Kd.bJ|apply Kd.bK|apply Kd.df));exact xm.out⟩,⟨by repeat (first|(with_reducible first|exact HB.out|apply ai|apply ag|apply ah)|exact HB.out)⟩⟩
               ·
                replace c17:=Bool.eq_false_iff.mpr c17
                subst c17
                have H1:(some (([]:List (List ByteArray)),qP,4))=some (r1,r2,r3):=by rw [if_neg (show ¬ (false=true) by decide)] at H;exact H
                clear H
                have H:=H1
                clear H1
                simp only [Option.some.injEq,Prod.mk.injEq] at H
                obtain ⟨rfl,rfl,rfl⟩:=H
                obtain ⟨uq,ug,OJ⟩:=Kd.fJ xm.out
                subst OJ
                have BV:0≤(jX:Int):=of_decide_eq_true (by first|(with_reducible assumption)|assumption)
                have BQ:jX < (lJ.length:Int):=of_decide_eq_true (by first|(with_reducible assumption)|assumption)
                obtain ⟨Qw,e305,KH⟩:=Kd.ed (Kd.fZ xm.out).2.2 jX BV BQ
                cases e305
                replace BV:=eq_true BV
                replace BQ:=eq_true BQ
                go_wp2_with (first|((with_reducible refine bY (f:=36) rfl ?_);refine eQ (some 45) rfl rfl Tryz.func36 (by kernel_rfl) rfl #[.string (dZ ByteArray.empty lJ jX)] rfl (by (try simp only [List.map_toArray,List.map_cons,List.map_nil]);first|done|rfl|(simp only [List.length_drop,List.length_take];rfl)) ?_;(with_reducible refine (aJ.calls k3 (dZ ByteArray.empty lJ jX) false _ O9.out).mono ?_);rintro e w' ⟨rfl,⟨nd,rfl⟩⟩;refine ⟨_,rfl,?_⟩))
                go_ret3
                exact ⟨_,by first|rfl|(simp [bC,bz] <;> rfl)|(simp [*,bC,bz] <;> rfl),by first|exact Kd.sS _ _ _ _ _|exact Kd.sV _ _ _ _ _|exact Kd.sQ _ _ _ _ _|exact Kd.sU _ _ _ _ _|exact Kd.gU _ _ _ _ _,by repeat (first|(with_reducible first|exact HB.out|apply ai|apply ag|apply ah)|exact HB.out)⟩
              ·
               rw [if_neg c15] at H
               exact absurd H (by simp)
             ·
              rw [if_neg c14] at H
              have sN:decide (jX < (lJ.length:Int))=false:=decide_eq_false c14
              clear c14
              by_cases c20:(lJ.length:Int) > 0
              ·
               rw [if_pos c20] at H
               have Jf:decide (0 < (lJ.length:Int))=true:=decide_eq_true c20
               have Je:decide (0 < lJ.length)=true:=decide_eq_true (by omega)
               clear c20
               by_cases c21:dF.length < 5864062014805
               ·
                rw [if_pos c21] at H
                have QP:=af.mk c21
                clear c21
                obtain ⟨Pq,Au⟩:∃ y_:List (List ByteArray),y_=(dF++[lJ]):=⟨_,rfl⟩
                replace H:(aj.l0 k3 a0 Pq (wrap64 (jF+1)) (wrap64 (qP+1)) (wrap64 (jF+1)))=some (r1,r2,r3):=by first|(rw [Au];with_reducible exact H)|(have mi:=(Option.bind_some _ _).symm.trans H;rw [Au];with_reducible exact mi)|(have mi:=(Option.bind_some _ _).symm.trans H;with_reducible exact mi)|with_reducible exact H|(rw [Au];exact H)|exact H
                have QD:=af.mk Au
                clear Au
                have H':=af.mk H
                clear H
                obtain ⟨RF,Qi,V9⟩:=Kd.fJ xm.out
                subst V9
                go_wp2_with (first|((with_reducible refine fH (b:=.append) (xs:=#[.tmp 51,.tmp 53]) rfl ?_);at_builtin;refine Kd.BA (Kd.slice 9 Kd.string) (w0:=w) w.heap.size rfl (.tmp 51) (.tmp 53) 43 22 (.slice none 0 0) 24 rfl Tryz.underlying43 info22 rfl (by decide) (by omega) u5 dF lJ [.slice RF lJ.length Qi] (fun _=>True) (fun k_=>some k_=(.slice RF lJ.length Qi:Value).ownBlock) rfl rfl ?aP (fun k_ VH=>((Kd.dH (ok':=fun k_=>((fun _=>True)) k_∧some k_ ≠ (u5:Value).ownBlock) (Kd.jG (xm.out) (Kd.qL jc.out) (by decide)) (fun k_ hk=>⟨trivial,hk.2⟩))).1 k_ VH.symm) ?aF ?aO ?aB ?aS ?aL ?_;(case aP=>exact Kd.NJ (Kd.dH (Kd.zy rfl (Kd.dH (ok':=fun k_=>((fun _=>True)) k_∧some k_ ≠ (u5:Value).ownBlock) (Kd.jG (xm.out) (Kd.qL jc.out) (by decide)) (fun k_ hk=>⟨trivial,hk.2⟩))) (fun _ h_=>h_)));(case aB=>exact (by repeat (first|(with_reducible first|exact HB.out|apply ai|apply ag|apply ah)|exact HB.out)));(case aF=>exact (fun _ _=>trivial));(case aO=>exact (by (with_reducible repeat (first|apply Kd.fQ|apply Kd.fP|apply Kd.iF));exact Kd.nD jc.out (fun k_ hk=>⟨trivial,fun e_=>hk e_⟩)));(case aS=>exact (bG (by repeat (first|(with_reducible first|exact HB.out|apply ai|apply ag|apply ah)|exact HB.out))));(case aL=>have:=QP.out;omega);intro X6 EM ho hb hg hat;rw [← QD.out] at ho;have dM:=af.mk (hb);have dP:=af.mk (ho);clear HB;clear jc;clear xm;have HB:=dM;have Q3:=dP;clear dM dP;clear ho hb hg hat))
                go_roundg k3
                case measure=>have:=lH.out;have:=NP.out;have:=Po.out;omega
                case rel=>exact ⟨(Pq),(wrap64 (jF+1)),(wrap64 (qP+1)),(wrap64 (jF+1)),(by first|rfl|(simp;done)|(simp [*];done)),(by first|rfl|(simp;done)|(simp [*];done)),(by first|rfl|(simp;done)|(simp [*];done)),H',⟨by have:=lH.out;have:=NP.out;have:=Po.out;omega⟩,⟨by (with_reducible repeat (first|apply Kd.fQ|apply Kd.fP|apply Kd.iF));exact Q3.out⟩,⟨by repeat (first|(with_reducible first|exact HB.out|apply ai|apply ag|apply ah)|exact HB.out)⟩⟩
               ·
                rw [if_neg c21] at H
                exact absurd H (by simp)
              ·
               rw [if_neg c20] at H
               have Jf:decide (0 < (lJ.length:Int))=false:=decide_eq_false c20
               have Je:decide (0 < lJ.length)=false:=decide_eq_false (by omega)
               clear c20
               have H':=af.mk H
               clear H
               obtain ⟨oI,oD,OI⟩:=Kd.fJ xm.out
               subst OI
               go_wp2
               go_roundg k3
               case measure=>have:=lH.out;have:=NP.out;have:=Po.out;omega
               case rel=>exact ⟨(dF),(wrap64 (jF+1)),(wrap64 (qP+1)),(wrap64 (jF+1)),(by first|rfl|(simp;done)|(simp [*];done)),(by first|rfl|(simp;done)|(simp [*];done)),(by first|rfl|(simp;done)|(simp [*];done)),H',⟨by have:=lH.out;have:=NP.out;have:=Po.out;omega⟩,⟨by (with_reducible repeat (first|apply Kd.fQ|apply Kd.fP|apply Kd.iF));exact Kd.nD jc.out (fun _ hk=>trivial)⟩,⟨by repeat (first|(with_reducible first|exact HB.out|apply ai|apply ag|apply ah)|exact HB.out)⟩⟩
          ·
           rw [if_neg c11] at H
           exact absurd H (by simp)
         ·
          rw [if_neg c10] at H
          exact absurd H (by simp)
        ·
         rw [if_neg c9] at H
         exact absurd H (by simp)
    ·
     rw [if_neg c3] at H
     have Jc:decide (jF≤(a0.size:Int))=false:=decide_eq_false c3
     clear c3
     simp only [Option.some.injEq,Prod.mk.injEq] at H
     obtain ⟨rfl,rfl,rfl⟩:=H
     go_wp2
     go_ret3
     exact ⟨_,by first|rfl|(simp [bC,bz] <;> rfl)|(simp [*,bC,bz] <;> rfl),by (with_reducible repeat (first|apply Kd.fQ|apply Kd.fP|apply Kd.iF));exact jc.out,by repeat (first|(with_reducible first|exact HB.out|apply ai|apply ag|apply ah)|exact HB.out)⟩
def cZ.j0:Nat→List (List ByteArray)→Int→Bool→Bool→Option (ByteArray × Bool)
 | 0,_,_,_,_=>none
 | k+1,x0,x1,x3,x32=>if x32=true then (some ((⟨#[]⟩:ByteArray),false)) else (if 0≤x1 then (if x1 < (x0.length:Int) then (if 1 < ((iq x0 x1).length:Int) then (if x3=true then (if (dZ ByteArray.empty (iq x0 x1) 1).toList=([45]:List UInt8) then (some ((⟨#[]⟩:ByteArray),true)) else ((bI.f k (dZ ByteArray.empty (iq x0 x1) 1)).bind fun VD=>(some (dZ ByteArray.empty (iq x0 x1) 1,VD)))) else ((bI.f k (dZ ByteArray.empty (iq x0 x1) 1)).bind fun VC=>(some (dZ ByteArray.empty (iq x0 x1) 1,VC)))) else (none)) else (none)) else (none))
def cZ.f (k:Nat) (l0:List (List ByteArray)) (a1:Int) (a2:ByteArray) (a3:Bool):Option (ByteArray × Bool):=if a1 ≥ (l0.length:Int) then (cZ.j0 k l0 a1 a3 true) else (if 0≤a1 then (if a1 < (l0.length:Int) then (if ((iq l0 a1).length:Int)=2 then (if 0 < ((iq l0 a1).length:Int) then (cZ.j0 k l0 a1 a3 ((dZ ByteArray.empty (iq l0 a1) 0).toList != a2.toList)) else (none)) else (cZ.j0 k l0 a1 a3 true)) else (none)) else (none))
theorem cZ.dR:∀ k,(∀ y0 y1 y2 y3,bM (cZ.j0 k y0 y1 y2 y3) (cZ.j0 (k+1) y0 y1 y2 y3))
 | 0=>fun _ _ _ _ r h=>by simp [cZ.j0] at h
 | k+1=>by
  have gV:=cZ.dR k
  ·
   intro y0 y1 y2 y3
   unfold cZ.j0
   repeat' with_reducible first|apply gV|apply bI.mono|exact bM.refl _|exact bM.none _|refine bM.ite ?_ ?_|refine bM.bind ?_ (fun _=>?_)
theorem cZ.mono:∀ a0 a1 a2 a3 k,bM (cZ.f k a0 a1 a2 a3) (cZ.f (k+1) a0 a1 a2 a3):=by
 intro a0 a1 a2 a3 k
 have gV:=cZ.dR k
 unfold cZ.f
 repeat' with_reducible first|apply gV|apply bI.mono|exact bM.refl _|exact bM.none _|refine bM.ite ?_ ?_|refine bM.bind ?_ (fun _=>?_)
end Go.Proofs.YtkclndkbccbhaaaGreatDoor.P
end
