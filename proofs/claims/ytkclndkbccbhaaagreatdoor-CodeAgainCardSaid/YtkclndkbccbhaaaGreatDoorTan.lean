/- Parts of the proof of CodeAgain: what the functions that it reaches compute, and plain facts about that. -/
import Derived.Test.YtkclndkbccbhaaaGreatDoorTac
import Derived.Test.YtkclndkbccbhaaaGreatDoorTam
import Derived.Test.YtkclndkbccbhaaaGreatDoorTad
import Derived.Test.YtkclndkbccbhaaaGreatDoorTag
set_option linter.unusedVariables false
set_option linter.unusedSimpArgs false
section
namespace Go.Proofs.YtkclndkbccbhaaaGreatDoor.P
open Go.RowKit Go.Proofs.ae.bg Go.Proofs.ae.dw Go.Proofs.ae.dO
attribute [local go_sem] jv jq jW jV iQ iP jr jo
mutual
def aI.j0:Nat→ByteArray→Bool→Option (Int × Int)
  | 0,_,_=>none
  | k+1,x4,x5=>aI.l0 k x4 x5 0 0
def aI.j2:Nat→ByteArray→Bool→Int→Option (Int × Int)
  | 0,_,_,_=>none
  | k+1,x4,x5,x6=>if (x4.size:Int) > 19 then (aI.j3 k x5 x6 (decide ((x4.size:Int) > 19))) else (if x6 > 9223372036854775808 then (aI.j3 k x5 x6 (decide (x6 > 9223372036854775808))) else (if x6=9223372036854775808 then (aI.j3 k x5 x6 (!x5)) else (aI.j3 k x5 x6 false)))
def aI.j3:Nat→Bool→Int→Bool→Option (Int × Int)
  | 0,_,_,_=>none
  | k+1,x5,x6,x36=>if x36=true then (some (0,3)) else (if x5=true then (some (wrap64 (-(wrap64 (x6))),0)) else (some (wrap64 (x6),0)))
def aI.l0:Nat→ByteArray→Bool→Int→Int→Option (Int × Int)
  | 0,_,_,_,_=>none
  | k+1,x4,x5,x6,x7=>if x7 < (x4.size:Int) then (if x7 < 19 then (if 0≤x7 then (aI.l0 k x4 x5 (IntKind.u64.wrap ((IntKind.u64.wrap (x6 * 10))+(((bt x4 x7) - 48) % 256))) (wrap64 (x7+1))) else (none)) else (aI.j2 k x4 x5 x6)) else (aI.j2 k x4 x5 x6)
end
def aI.f (k:Nat) (a0:ByteArray):Option (Int × Int):=(aG.f k a0).bind fun t212=>(if t212=true then (if 0 < (a0.size:Int) then (if (bt a0 0)=45 then (if 1≤(a0.size:Int) then (aI.j0 k (a0.extract 1 a0.size) ((bt a0 0) == 45)) else (none)) else (aI.j0 k a0 ((bt a0 0) == 45))) else (none)) else (some (0,4)))
theorem aI.fC:∀ k,(∀ y0 y1,bV (aI.j0 k y0 y1) (aI.j0 (k+1) y0 y1))∧(∀ y0 y1 y2,bV (aI.j2 k y0 y1 y2) (aI.j2 (k+1) y0 y1 y2))∧(∀ y0 y1 y2,bV (aI.j3 k y0 y1 y2) (aI.j3 (k+1) y0 y1 y2))∧(∀ y0 y1 y2 y3,bV (aI.l0 k y0 y1 y2 y3) (aI.l0 (k+1) y0 y1 y2 y3))
  | 0=>⟨fun _ _ r h=>by simp [aI.j0] at h,fun _ _ _ r h=>by simp [aI.j2] at h,fun _ _ _ r h=>by simp [aI.j3] at h,fun _ _ _ _ r h=>by simp [aI.l0] at h⟩
  | k+1=>by
    obtain ⟨iU,ih1,ih2,ih3⟩:=aI.fC k
    refine ⟨?_,?_,?_,?_⟩
    · intro y0 y1
      unfold aI.j0
      repeat' first
      | (with_reducible exact iU _ _)
      | (with_reducible exact ih1 _ _ _)
      | (with_reducible exact ih2 _ _ _)
      | (with_reducible exact ih3 _ _ _ _)
      | (with_reducible exact aG.mono _ _)
      | (with_reducible exact bV.refl _)
      | (with_reducible exact bV.none _)
      | (with_reducible refine bV.ite ?_ ?_)
      | (with_reducible refine bV.bind ?_ (fun _=>?_))
      | exact iU _ _
      | exact ih1 _ _ _
      | exact ih2 _ _ _
      | exact ih3 _ _ _ _
      | exact aG.mono _ _
      | exact bV.none _
      | refine bV.ite ?_ ?_
      | refine bV.bind ?_ (fun _=>?_)
    · intro y0 y1 y2
      unfold aI.j2
      repeat' first
      | (with_reducible exact iU _ _)
      | (with_reducible exact ih1 _ _ _)
      | (with_reducible exact ih2 _ _ _)
      | (with_reducible exact ih3 _ _ _ _)
      | (with_reducible exact aG.mono _ _)
      | (with_reducible exact bV.refl _)
      | (with_reducible exact bV.none _)
      | (with_reducible refine bV.ite ?_ ?_)
      | (with_reducible refine bV.bind ?_ (fun _=>?_))
      | exact iU _ _
      | exact ih1 _ _ _
      | exact ih2 _ _ _
      | exact ih3 _ _ _ _
      | exact aG.mono _ _
      | exact bV.none _
      | refine bV.ite ?_ ?_
      | refine bV.bind ?_ (fun _=>?_)
    · intro y0 y1 y2
      unfold aI.j3
      repeat' first
      | (with_reducible exact iU _ _)
      | (with_reducible exact ih1 _ _ _)
      | (with_reducible exact ih2 _ _ _)
      | (with_reducible exact ih3 _ _ _ _)
      | (with_reducible exact aG.mono _ _)
      | (with_reducible exact bV.refl _)
      | (with_reducible exact bV.none _)
      | (with_reducible refine bV.ite ?_ ?_)
      | (with_reducible refine bV.bind ?_ (fun _=>?_))
      | exact iU _ _
      | exact ih1 _ _ _
      | exact ih2 _ _ _
      | exact ih3 _ _ _ _
      | exact aG.mono _ _
      | exact bV.none _
      | refine bV.ite ?_ ?_
      | refine bV.bind ?_ (fun _=>?_)
    · intro y0 y1 y2 y3
      unfold aI.l0
      repeat' first
      | (with_reducible exact iU _ _)
      | (with_reducible exact ih1 _ _ _)
      | (with_reducible exact ih2 _ _ _)
      | (with_reducible exact ih3 _ _ _ _)
      | (with_reducible exact aG.mono _ _)
      | (with_reducible exact bV.refl _)
      | (with_reducible exact bV.none _)
      | (with_reducible refine bV.ite ?_ ?_)
      | (with_reducible refine bV.bind ?_ (fun _=>?_))
      | exact iU _ _
      | exact ih1 _ _ _
      | exact ih2 _ _ _
      | exact ih3 _ _ _ _
      | exact aG.mono _ _
      | exact bV.none _
      | refine bV.ite ?_ ?_
      | refine bV.bind ?_ (fun _=>?_)
theorem aI.mono:∀ a0 k,bV (aI.f k a0) (aI.f (k+1) a0):=by
  intro a0 k
  obtain ⟨iU,ih1,ih2,ih3⟩:=aI.fC k
  unfold aI.f
  repeat' first
      | (with_reducible exact iU _ _)
      | (with_reducible exact ih1 _ _ _)
      | (with_reducible exact ih2 _ _ _)
      | (with_reducible exact ih3 _ _ _ _)
      | (with_reducible exact aG.mono _ _)
      | (with_reducible exact bV.refl _)
      | (with_reducible exact bV.none _)
      | (with_reducible refine bV.ite ?_ ?_)
      | (with_reducible refine bV.bind ?_ (fun _=>?_))
      | exact iU _ _
      | exact ih1 _ _ _
      | exact ih2 _ _ _
      | exact ih3 _ _ _ _
      | exact aG.mono _ _
      | exact bV.none _
      | refine bV.ite ?_ ?_
      | refine bV.bind ?_ (fun _=>?_)
def bM.j0:Nat→Int→Int→Bool→Int→Int→Int→Int→Int→Option (Int × Int × Int × Int × Int × Bool)
  | 0,_,_,_,_,_,_,_,_=>none
  | k+1,x1,x2,x18,yL,Cm,Cj,Ci,yK=>if x18=true then (some (yL,Cm,Cj,Ci,yK,false)) else (if x1=97 then (some (yL,(x2) % 256,Cj,Ci,yK,true)) else (if x1=98 then (some (yL,Cm,(x2) % 256,Ci,yK,true)) else (some (yL,Cm,Cj,(x2) % 256,yK,true))))
def bM.f (k:Nat) (jf:Int) (bU:Int) (bQ:Int) (gQ:Int) (iy:Int) (a1:Int) (a2:Int):Option (Int × Int × Int × Int × Int × Bool):=if a1=110 then (some (jf,bU,bQ,gQ,a2,true)) else (if a2 < 0 then (bM.j0 k a1 a2 true jf bU bQ gQ iy) else (bM.j0 k a1 a2 (decide (a2 > 255)) jf bU bQ gQ iy))
theorem bM.fC:∀ k,(∀ y0 y1 y2 y3 y4 y5 y6 y7,bV (bM.j0 k y0 y1 y2 y3 y4 y5 y6 y7) (bM.j0 (k+1) y0 y1 y2 y3 y4 y5 y6 y7))
  | 0=>fun _ _ _ _ _ _ _ _ r h=>by simp [bM.j0] at h
  | k+1=>by
    have iU:=bM.fC k
    · intro y0 y1 y2 y3 y4 y5 y6 y7
      unfold bM.j0
      repeat' first
      | (with_reducible exact iU _ _ _ _ _ _ _ _)
      | (with_reducible exact bV.refl _)
      | (with_reducible exact bV.none _)
      | (with_reducible refine bV.ite ?_ ?_)
      | (with_reducible refine bV.bind ?_ (fun _=>?_))
      | exact iU _ _ _ _ _ _ _ _
      | exact bV.none _
      | refine bV.ite ?_ ?_
      | refine bV.bind ?_ (fun _=>?_)
theorem bM.mono:∀ a0 a1 a2 a3 a4 a5 a6 k,bV (bM.f k a0 a1 a2 a3 a4 a5 a6) (bM.f (k+1) a0 a1 a2 a3 a4 a5 a6):=by
  intro a0 a1 a2 a3 a4 a5 a6 k
  have iU:=bM.fC k
  unfold bM.f
  repeat' first
      | (with_reducible exact iU _ _ _ _ _ _ _ _)
      | (with_reducible exact bV.refl _)
      | (with_reducible exact bV.none _)
      | (with_reducible refine bV.ite ?_ ?_)
      | (with_reducible refine bV.bind ?_ (fun _=>?_))
      | exact iU _ _ _ _ _ _ _ _
      | exact bV.none _
      | refine bV.ite ?_ ?_
      | refine bV.bind ?_ (fun _=>?_)
end Go.Proofs.YtkclndkbccbhaaaGreatDoor.P
end
section
namespace Go.Proofs.YtkclndkbccbhaaaGreatDoor.P
open Go.RowKit Go.Proofs.ae.bg Go.Proofs.ae.dw Go.Proofs.ae.dO
attribute [local go_sem] jv jq jW jV iQ iP jr jo
mutual
def aZ.l0:Nat→List ByteArray→Int→Option (Int × Int × Int × Int × Int × Bool)
  | 0,_,_=>none
  | k+1,x0,x4=>if x4≤15 then ((lq.f x4).bind fun IJ=>(if 0 < (x0.length:Int) then (if (eX ByteArray.empty x0 0).toList=IJ.1.toList then (aZ.j1 k x0 x4 IJ.2 ((x0.length:Int) != (wrap64 ((IJ.2.size:Int)+1)))) else (aZ.j1 k x0 x4 IJ.2 true)) else (none))) else (some (0,0,0,0,0,false))
def aZ.j1:Nat→List ByteArray→Int→ByteArray→Bool→Option (Int × Int × Int × Int × Int × Bool)
  | 0,_,_,_,_=>none
  | k+1,x0,x4,x6,x34=>if x34=true then (aZ.l0 k x0 ((x4+1) % 256)) else (aZ.l1 k x0 x6 0 x4 0 0 0 0)
def aZ.l1:Nat→List ByteArray→ByteArray→Int→Int→Int→Int→Int→Int→Option (Int × Int × Int × Int × Int × Bool)
  | 0,_,_,_,_,_,_,_,_=>none
  | k+1,x0,x6,x8,G8,G7,G6,G5,GZ=>if x8 < (x6.size:Int) then (if 0≤(wrap64 (x8+1)) then (if (wrap64 (x8+1)) < (x0.length:Int) then ((aI.f k (eX ByteArray.empty x0 (wrap64 (x8+1)))).bind fun SY=>(if 0≤x8 then ((bM.f k G8 G7 G6 G5 GZ (bt x6 x8) SY.1).bind fun BZ=>(if SY.2=0 then (if BZ.2.2.2.2.2=true then (aZ.l1 k x0 x6 (wrap64 (x8+1)) BZ.1 BZ.2.1 BZ.2.2.1 BZ.2.2.2.1 BZ.2.2.2.2.1) else (some (0,0,0,0,0,false))) else (some (0,0,0,0,0,false)))) else (none))) else (none)) else (none)) else (some (G8,G7,G6,G5,GZ,true))
end
def aZ.f (k:Nat) (l0:List ByteArray):Option (Int × Int × Int × Int × Int × Bool):=aZ.l0 k l0 1
theorem aZ.fC:∀ k,(∀ y0 y1,bV (aZ.l0 k y0 y1) (aZ.l0 (k+1) y0 y1))∧(∀ y0 y1 y2 y3,bV (aZ.j1 k y0 y1 y2 y3) (aZ.j1 (k+1) y0 y1 y2 y3))∧(∀ y0 y1 y2 y3 y4 y5 y6 y7,bV (aZ.l1 k y0 y1 y2 y3 y4 y5 y6 y7) (aZ.l1 (k+1) y0 y1 y2 y3 y4 y5 y6 y7))
  | 0=>⟨fun _ _ r h=>by simp [aZ.l0] at h,fun _ _ _ _ r h=>by simp [aZ.j1] at h,fun _ _ _ _ _ _ _ _ r h=>by simp [aZ.l1] at h⟩
  | k+1=>by
    obtain ⟨iU,ih1,ih2⟩:=aZ.fC k
    refine ⟨?_,?_,?_⟩
    · intro y0 y1
      unfold aZ.l0
      repeat' first
      | (with_reducible exact iU _ _)
      | (with_reducible exact ih1 _ _ _ _)
      | (with_reducible exact ih2 _ _ _ _ _ _ _ _)
      | (with_reducible exact aI.mono _ _)
      | (with_reducible exact bM.mono _ _ _ _ _ _ _ _)
      | (with_reducible exact bV.refl _)
      | (with_reducible exact bV.none _)
      | (with_reducible refine bV.ite ?_ ?_)
      | (with_reducible refine bV.bind ?_ (fun _=>?_))
      | exact iU _ _
      | exact ih1 _ _ _ _
      | exact ih2 _ _ _ _ _ _ _ _
      | exact aI.mono _ _
      | exact bM.mono _ _ _ _ _ _ _ _
      | exact bV.none _
      | refine bV.ite ?_ ?_
      | refine bV.bind ?_ (fun _=>?_)
    · intro y0 y1 y2 y3
      unfold aZ.j1
      repeat' first
      | (with_reducible exact iU _ _)
      | (with_reducible exact ih1 _ _ _ _)
      | (with_reducible exact ih2 _ _ _ _ _ _ _ _)
      | (with_reducible exact aI.mono _ _)
      | (with_reducible exact bM.mono _ _ _ _ _ _ _ _)
      | (with_reducible exact bV.refl _)
      | (with_reducible exact bV.none _)
      | (with_reducible refine bV.ite ?_ ?_)
      | (with_reducible refine bV.bind ?_ (fun _=>?_))
      | exact iU _ _
      | exact ih1 _ _ _ _
      | exact ih2 _ _ _ _ _ _ _ _
      | exact aI.mono _ _
      | exact bM.mono _ _ _ _ _ _ _ _
      | exact bV.none _
      | refine bV.ite ?_ ?_
      | refine bV.bind ?_ (fun _=>?_)
    · intro y0 y1 y2 y3 y4 y5 y6 y7
      unfold aZ.l1
      repeat' first
      | (with_reducible exact iU _ _)
      | (with_reducible exact ih1 _ _ _ _)
      | (with_reducible exact ih2 _ _ _ _ _ _ _ _)
      | (with_reducible exact aI.mono _ _)
      | (with_reducible exact bM.mono _ _ _ _ _ _ _ _)
      | (with_reducible exact bV.refl _)
      | (with_reducible exact bV.none _)
      | (with_reducible refine bV.ite ?_ ?_)
      | (with_reducible refine bV.bind ?_ (fun _=>?_))
      | exact iU _ _
      | exact ih1 _ _ _ _
      | exact ih2 _ _ _ _ _ _ _ _
      | exact aI.mono _ _
      | exact bM.mono _ _ _ _ _ _ _ _
      | exact bV.none _
      | refine bV.ite ?_ ?_
      | refine bV.bind ?_ (fun _=>?_)
theorem aZ.mono:∀ a0 k,bV (aZ.f k a0) (aZ.f (k+1) a0):=by
  intro a0 k
  obtain ⟨iU,ih1,ih2⟩:=aZ.fC k
  unfold aZ.f
  repeat' first
      | (with_reducible exact iU _ _)
      | (with_reducible exact ih1 _ _ _ _)
      | (with_reducible exact ih2 _ _ _ _ _ _ _ _)
      | (with_reducible exact aI.mono _ _)
      | (with_reducible exact bM.mono _ _ _ _ _ _ _ _)
      | (with_reducible exact bV.refl _)
      | (with_reducible exact bV.none _)
      | (with_reducible refine bV.ite ?_ ?_)
      | (with_reducible refine bV.bind ?_ (fun _=>?_))
      | exact iU _ _
      | exact ih1 _ _ _ _
      | exact ih2 _ _ _ _ _ _ _ _
      | exact aI.mono _ _
      | exact bM.mono _ _ _ _ _ _ _ _
      | exact bV.none _
      | refine bV.ite ?_ ?_
      | refine bV.bind ?_ (fun _=>?_)
end Go.Proofs.YtkclndkbccbhaaaGreatDoor.P
end
section
namespace Go.Proofs.YtkclndkbccbhaaaGreatDoor.P
open Go.RowKit Go.Proofs.ae.bg Go.Proofs.ae.dw Go.Proofs.ae.dO
attribute [local go_sem] jv jq jW jV iQ iP jr jo
attribute [local go_sem high] IE
def jI.f (k:Nat) (jf:Int) (bU:Int) (bQ:Int) (gQ:Int) (iy:Int):Option (Bool):=(lq.f jf).bind fun We=>(if We.1.toList=([]:List UInt8) then (some false) else ((dA.f k jf bU bQ gQ iy).bind fun t233=>((aZ.f k t233).bind fun BX=>(if BX.2.2.2.2.2=true then (some (BX.1 == jf && (BX.2.1 == bU && (BX.2.2.1 == bQ && (BX.2.2.2.1 == gQ && (BX.2.2.2.2.1 == iy)))))) else (some false)))))
theorem jI.mono:∀ a0 a1 a2 a3 a4 k,bV (jI.f k a0 a1 a2 a3 a4) (jI.f (k+1) a0 a1 a2 a3 a4):=by
 intro a0 a1 a2 a3 a4 k
 unfold jI.f
 repeat' with_reducible first|apply dA.mono|apply aZ.mono|exact bV.refl _|exact bV.none _|refine bV.ite ?_ ?_|refine bV.bind ?_ (fun _=>?_)
def aQ.l0:Nat→ByteArray→Int→Option (Bool)
 | 0,_,_=>none
 | k+1,x0,x3=>if x3 < (x0.size:Int) then (if 0≤x3 then (if (bt x0 x3) ≥ 97 then (if (bt x0 x3)≤122 then (aQ.l0 k x0 (wrap64 (x3+1))) else (if (bt x0 x3) ≥ 48 then (if (bt x0 x3)≤57 then (aQ.l0 k x0 (wrap64 (x3+1))) else (if ((bt x0 x3)=45) then (aQ.l0 k x0 (wrap64 (x3+1))) else (some false))) else (if ((bt x0 x3)=45) then (aQ.l0 k x0 (wrap64 (x3+1))) else (some false)))) else (if (bt x0 x3) ≥ 48 then (if (bt x0 x3)≤57 then (aQ.l0 k x0 (wrap64 (x3+1))) else (if ((bt x0 x3)=45) then (aQ.l0 k x0 (wrap64 (x3+1))) else (some false))) else (if ((bt x0 x3)=45) then (aQ.l0 k x0 (wrap64 (x3+1))) else (some false)))) else (none)) else (if (x0.size:Int) ≥ 1 then (some (decide ((x0.size:Int)≤30))) else (some false))
def aQ.f (k:Nat) (a0:ByteArray):Option (Bool):=aQ.l0 k a0 0
theorem aQ.fC:∀ k,(∀ y0 y1,bV (aQ.l0 k y0 y1) (aQ.l0 (k+1) y0 y1))
 | 0=>fun _ _ r h=>by simp [aQ.l0] at h
 | k+1=>by
  have iU:=aQ.fC k
  ·
   intro y0 y1
   unfold aQ.l0
   repeat' with_reducible first|apply iU|exact bV.refl _|exact bV.none _|refine bV.ite ?_ ?_|refine bV.bind ?_ (fun _=>?_)
theorem aQ.mono:∀ a0 k,bV (aQ.f k a0) (aQ.f (k+1) a0):=by
 intro a0 k
 have iU:=aQ.fC k
 unfold aQ.f
 repeat' with_reducible first|apply iU|exact bV.refl _|exact bV.none _|refine bV.ite ?_ ?_|refine bV.bind ?_ (fun _=>?_)
set_option maxHeartbeats 8000000 in
set_option maxRecDepth 100000 in
theorem aQ.calls (k:Nat) (a0:ByteArray) (r:Bool) (w:World) (h:aQ.f k a0=some r) :
  Calls Tryz.prog 36 #[.string a0] w fun e w'=>e=.returned (.bool r)∧dD w w':=by
 have H:(aQ.l0 k a0 0)=some r:=h
 clear h
 have H':=af.mk H
 clear H
 go_enter Tryz.func36,Tryz.ntmps36
 go_wp2
 go_loopg [3] k (fun kq v3 w'=>∃ (eU:Int),v3=.int .i64 eU∧af (aQ.l0 kq a0 eU=some r)∧af (kq≤k)∧dD w w')
 case atStart=>exact ⟨(0),(by first|rfl|(simp;done)|(simp [*];done)),H',⟨Nat.le_refl _⟩,by repeat (first|exact dD.refl _|apply dD.step)⟩
 case round =>
  clear H'
  obtain ⟨eU,rfl,HA,nV,⟨m1,rfl⟩⟩:=hrel
  cases gk with
  | zero=>exact absurd HA.out (by simp [aQ.l0])
  | succ k1 =>
   have H:=HA.out
   clear HA
   simp only [aQ.l0] at H
   by_cases c2:eU < (a0.size:Int)
   ·
    rw [if_pos c2] at H
    have sV:decide (eU < (a0.size:Int))=true:=decide_eq_true c2
    clear c2
    by_cases c3:0≤eU
    ·
     rw [if_pos c3] at H
     have J9:decide (0≤eU)=true:=decide_eq_true c3
     clear c3
     by_cases c5:(bt a0 eU) ≥ 97
     ·
      rw [if_pos c5] at H
      have vO:decide (97≤(bt a0 eU))=true:=decide_eq_true c5
      clear c5
      by_cases c6:(bt a0 eU)≤122
      ·
       rw [if_pos c6] at H
       have qR:decide ((bt a0 eU)≤122)=true:=decide_eq_true c6
       clear c6
       have H':=af.mk H
       clear H
       have p4:0≤(eU:Int):=of_decide_eq_true (by first|(with_reducible assumption)|assumption)
       have q4:eU < (a0.size:Int):=of_decide_eq_true (by first|(with_reducible assumption)|assumption)
       have hx4:=mW a0 eU
       replace p4:=eq_true p4
       replace q4:=eq_true q4
       go_wp2
       go_roundg k1
       case measure=>have:=nV.out;omega
       case rel=>exact ⟨(wrap64 (eU+1)),(by first|rfl|(simp;done)|(simp [*];done)),H',⟨by have:=nV.out;omega⟩,by repeat (first|exact dD.refl _|apply dD.step)⟩
      ·
       rw [if_neg c6] at H
       have qR:decide ((bt a0 eU)≤122)=false:=decide_eq_false c6
       clear c6
       by_cases c7:(bt a0 eU) ≥ 48
       ·
        rw [if_pos c7] at H
        have xJ:decide (48≤(bt a0 eU))=true:=decide_eq_true c7
        clear c7
        by_cases c8:(bt a0 eU)≤57
        ·
         rw [if_pos c8] at H
         have AA:decide ((bt a0 eU)≤57)=true:=decide_eq_true c8
         clear c8
         have H':=af.mk H
         clear H
         have p4:0≤(eU:Int):=of_decide_eq_true (by first|(with_reducible assumption)|assumption)
         have q4:eU < (a0.size:Int):=of_decide_eq_true (by first|(with_reducible assumption)|assumption)
         have hx4:=mW a0 eU
         replace p4:=eq_true p4
         replace q4:=eq_true q4
         go_wp2
         go_roundg k1
         case measure=>have:=nV.out;omega
         case rel=>exact ⟨(wrap64 (eU+1)),(by first|rfl|(simp;done)|(simp [*];done)),H',⟨by have:=nV.out;omega⟩,by repeat (first|exact dD.refl _|apply dD.step)⟩
        ·
         rw [if_neg c8] at H
         have AA:decide ((bt a0 eU)≤57)=false:=decide_eq_false c8
         clear c8
         by_cases c9:((bt a0 eU)=45)
         ·
          rw [if_pos c9] at H
          have J6:((bt a0 eU) == 45)=true:=beq_iff_eq.mpr c9
          have Rf:((bt a0 eU) != 45)=false:=bne_eq_false_iff_eq.mpr c9
          clear c9
          have H':=af.mk H
          clear H
          have p4:0≤(eU:Int):=of_decide_eq_true (by first|(with_reducible assumption)|assumption)
          have q4:eU < (a0.size:Int):=of_decide_eq_true (by first|(with_reducible assumption)|assumption)
          have hx4:=mW a0 eU
          replace p4:=eq_true p4
          replace q4:=eq_true q4
          go_wp2
          go_roundg k1
          case measure=>have:=nV.out;omega
          case rel=>exact ⟨(wrap64 (eU+1)),(by first|rfl|(simp;done)|(simp [*];done)),H',⟨by have:=nV.out;omega⟩,by repeat (first|exact dD.refl _|apply dD.step)⟩
         ·
          rw [if_neg c9] at H
          have J6:((bt a0 eU) == 45)=false:=beq_eq_false_iff_ne.mpr c9
          have Rf:((bt a0 eU) != 45)=true:=bne_iff_ne.mpr c9
          obtain rfl:=Option.some.inj H
          have p4:0≤(eU:Int):=of_decide_eq_true (by first|(with_reducible assumption)|assumption)
          have q4:eU < (a0.size:Int):=of_decide_eq_true (by first|(with_reducible assumption)|assumption)
          have hx4:=mW a0 eU
          replace p4:=eq_true p4
          replace q4:=eq_true q4
          go_wp2
          go_ret
          exact ⟨by first|rfl|(simp;done)|(simp [*];done),by repeat (first|exact dD.refl _|apply dD.step)⟩
       ·
        rw [if_neg c7] at H
        have xJ:decide (48≤(bt a0 eU))=false:=decide_eq_false c7
        clear c7
        by_cases c10:((bt a0 eU)=45)
        ·
         rw [if_pos c10] at H
         have yx:((bt a0 eU) == 45)=true:=beq_iff_eq.mpr c10
         have Fg:((bt a0 eU) != 45)=false:=bne_eq_false_iff_eq.mpr c10
         clear c10
         have H':=af.mk H
         clear H
         have p4:0≤(eU:Int):=of_decide_eq_true (by first|(with_reducible assumption)|assumption)
         have q4:eU < (a0.size:Int):=of_decide_eq_true (by first|(with_reducible assumption)|assumption)
         have hx4:=mW a0 eU
         replace p4:=eq_true p4
         replace q4:=eq_true q4
         go_wp2
         go_roundg k1
         case measure=>have:=nV.out;omega
         case rel=>exact ⟨(wrap64 (eU+1)),(by first|rfl|(simp;done)|(simp [*];done)),H',⟨by have:=nV.out;omega⟩,by repeat (first|exact dD.refl _|apply dD.step)⟩
        ·
         rw [if_neg c10] at H
         have yx:((bt a0 eU) == 45)=false:=beq_eq_false_iff_ne.mpr c10
         have Fg:((bt a0 eU) != 45)=true:=bne_iff_ne.mpr c10
         obtain rfl:=Option.some.inj H
         have p4:0≤(eU:Int):=of_decide_eq_true (by first|(with_reducible assumption)|assumption)
         have q4:eU < (a0.size:Int):=of_decide_eq_true (by first|(with_reducible assumption)|assumption)
         have hx4:=mW a0 eU
         replace p4:=eq_true p4
         replace q4:=eq_true q4
         go_wp2
         go_ret
         exact ⟨by first|rfl|(simp;done)|(simp [*];done),by repeat (first|exact dD.refl _|apply dD.step)⟩
     ·
      rw [if_neg c5] at H
      have vO:decide (97≤(bt a0 eU))=false:=decide_eq_false c5
      clear c5
      by_cases c11:(bt a0 eU) ≥ 48
      ·
       rw [if_pos c11] at H
       have yw:decide (48≤(bt a0 eU))=true:=decide_eq_true c11
       clear c11
       by_cases c12:(bt a0 eU)≤57
       ·
        rw [if_pos c12] at H
        have N8:decide ((bt a0 eU)≤57)=true:=decide_eq_true c12
        clear c12
        have H':=af.mk H
        clear H
        have p4:0≤(eU:Int):=of_decide_eq_true (by first|(with_reducible assumption)|assumption)
        have q4:eU < (a0.size:Int):=of_decide_eq_true (by first|(with_reducible assumption)|assumption)
        have hx4:=mW a0 eU
        replace p4:=eq_true p4
        replace q4:=eq_true q4
        go_wp2
        go_roundg k1
        case measure=>have:=nV.out;omega
        case rel=>exact ⟨(wrap64 (eU+1)),(by first|rfl|(simp;done)|(simp [*];done)),H',⟨by have:=nV.out;omega⟩,by repeat (first|exact dD.refl _|apply dD.step)⟩
       ·
        rw [if_neg c12] at H
        have N8:decide ((bt a0 eU)≤57)=false:=decide_eq_false c12
        clear c12
        by_cases c13:((bt a0 eU)=45)
        ·
         rw [if_pos c13] at H
         have Ff:((bt a0 eU) == 45)=true:=beq_iff_eq.mpr c13
         have N7:((bt a0 eU) != 45)=false:=bne_eq_false_iff_eq.mpr c13
         clear c13
         have H':=af.mk H
         clear H
         have p4:0≤(eU:Int):=of_decide_eq_true (by first|(with_reducible assumption)|assumption)
         have q4:eU < (a0.size:Int):=of_decide_eq_true (by first|(with_reducible assumption)|assumption)
         have hx4:=mW a0 eU
         replace p4:=eq_true p4
         replace q4:=eq_true q4
         go_wp2
         go_roundg k1
         case measure=>have:=nV.out;omega
         case rel=>exact ⟨(wrap64 (eU+1)),(by first|rfl|(simp;done)|(simp [*];done)),H',⟨by have:=nV.out;omega⟩,by repeat (first|exact dD.refl _|apply dD.step)⟩
        ·
         rw [if_neg c13] at H
         have Ff:((bt a0 eU) == 45)=false:=beq_eq_false_iff_ne.mpr c13
         have N7:((bt a0 eU) != 45)=true:=bne_iff_ne.mpr c13
         obtain rfl:=Option.some.inj H
         have p4:0≤(eU:Int):=of_decide_eq_true (by first|(with_reducible assumption)|assumption)
         have q4:eU < (a0.size:Int):=of_decide_eq_true (by first|(with_reducible assumption)|assumption)
         have hx4:=mW a0 eU
         replace p4:=eq_true p4
         replace q4:=eq_true q4
         go_wp2
         go_ret
         exact ⟨by first|rfl|(simp;done)|(simp [*];done),by repeat (first|exact dD.refl _|apply dD.step)⟩
      ·
       rw [if_neg c11] at H
       have yw:decide (48≤(bt a0 eU))=false:=decide_eq_false c11
       clear c11
       by_cases c14:((bt a0 eU)=45)
       ·
        rw [if_pos c14] at H
        have wU:((bt a0 eU) == 45)=true:=beq_iff_eq.mpr c14
        have NZ:((bt a0 eU) != 45)=false:=bne_eq_false_iff_eq.mpr c14
        clear c14
        have H':=af.mk H
        clear H
        have p4:0≤(eU:Int):=of_decide_eq_true (by first|(with_reducible assumption)|assumption)
        have q4:eU < (a0.size:Int):=of_decide_eq_true (by first|(with_reducible assumption)|assumption)
        have hx4:=mW a0 eU
        replace p4:=eq_true p4
        replace q4:=eq_true q4
        go_wp2
        go_roundg k1
        case measure=>have:=nV.out;omega
        case rel=>exact ⟨(wrap64 (eU+1)),(by first|rfl|(simp;done)|(simp [*];done)),H',⟨by have:=nV.out;omega⟩,by repeat (first|exact dD.refl _|apply dD.step)⟩
       ·
        rw [if_neg c14] at H
        have wU:((bt a0 eU) == 45)=false:=beq_eq_false_iff_ne.mpr c14
        have NZ:((bt a0 eU) != 45)=true:=bne_iff_ne.mpr c14
        obtain rfl:=Option.some.inj H
        have p4:0≤(eU:Int):=of_decide_eq_true (by first|(with_reducible assumption)|assumption)
        have q4:eU < (a0.size:Int):=of_decide_eq_true (by first|(with_reducible assumption)|assumption)
        have hx4:=mW a0 eU
        replace p4:=eq_true p4
        replace q4:=eq_true q4
        go_wp2
        go_ret
        exact ⟨by first|rfl|(simp;done)|(simp [*];done),by repeat (first|exact dD.refl _|apply dD.step)⟩
    ·
     rw [if_neg c3] at H
     exact absurd H (by simp)
   ·
    rw [if_neg c2] at H
    have sV:decide (eU < (a0.size:Int))=false:=decide_eq_false c2
    clear c2
    by_cases c15:(a0.size:Int) ≥ 1
    ·
     rw [if_pos c15] at H
     have Fe:decide (1≤(a0.size:Int))=true:=decide_eq_true c15
     have SQ:decide (1≤a0.size)=true:=decide_eq_true (by omega)
     clear c15
     obtain rfl:=Option.some.inj H
     go_wp2
     go_ret
     exact ⟨by first|rfl|(simp;done)|(simp [*];done),by repeat (first|exact dD.refl _|apply dD.step)⟩
    ·
     rw [if_neg c15] at H
     have Fe:decide (1≤(a0.size:Int))=false:=decide_eq_false c15
     have SQ:decide (1≤a0.size)=false:=decide_eq_false (by omega)
     clear c15
     obtain rfl:=Option.some.inj H
     go_wp2
     go_ret
     exact ⟨by first|rfl|(simp;done)|(simp [*];done),by repeat (first|exact dD.refl _|apply dD.step)⟩
def bW.l0:Nat→ByteArray→Int→Option (Bool)
 | 0,_,_=>none
 | k+1,x0,x3=>if x3 < (x0.size:Int) then (if 0≤x3 then (if (bt x0 x3)=45 then (some false) else (bW.l0 k x0 (wrap64 (x3+1)))) else (none)) else (if x0.toList=([]:List UInt8) then (some true) else ((aQ.f k x0).bind fun t243=>(some t243)))
def bW.f (k:Nat) (a0:ByteArray):Option (Bool):=bW.l0 k a0 0
theorem bW.fC:∀ k,(∀ y0 y1,bV (bW.l0 k y0 y1) (bW.l0 (k+1) y0 y1))
 | 0=>fun _ _ r h=>by simp [bW.l0] at h
 | k+1=>by
  have iU:=bW.fC k
  ·
   intro y0 y1
   unfold bW.l0
   repeat' with_reducible first|apply iU|apply aQ.mono|exact bV.refl _|exact bV.none _|refine bV.ite ?_ ?_|refine bV.bind ?_ (fun _=>?_)
theorem bW.mono:∀ a0 k,bV (bW.f k a0) (bW.f (k+1) a0):=by
 intro a0 k
 have iU:=bW.fC k
 unfold bW.f
 repeat' with_reducible first|apply iU|apply aQ.mono|exact bV.refl _|exact bV.none _|refine bV.ite ?_ ?_|refine bV.bind ?_ (fun _=>?_)
end Go.Proofs.YtkclndkbccbhaaaGreatDoor.P
end
section
namespace Go.Proofs.YtkclndkbccbhaaaGreatDoor.P
open Go.RowKit Go.Proofs.ae.bg Go.Proofs.ae.dw Go.Proofs.ae.dO
attribute [local go_sem] jv jq jW jV iQ iP jr jo
def aW.l0:Nat→ByteArray→List ByteArray→ByteArray→Int→Option (List ByteArray)
 | 0,_,_,_,_=>none
 | k+1,x0,x3,x4,x5=>if x5 < (x0.size:Int) then (if 0≤x5 then (if (bt x0 x5)=35 then (if x4.toList=([]:List UInt8) then (some x3) else (if x3.length < 8796093022208 then (some (x3++[x4])) else (none))) else (if (bt x0 x5)=32 then (if x4.toList=([]:List UInt8) then (aW.l0 k x0 x3 (⟨#[]⟩:ByteArray) (wrap64 (x5+1))) else (if x3.length < 8796093022208 then (aW.l0 k x0 (x3++[x4]) (⟨#[]⟩:ByteArray) (wrap64 (x5+1))) else (none))) else (if x5≤(wrap64 (x5+1)) then (if (wrap64 (x5+1))≤(x0.size:Int) then (if x4.size+(x0.extract (x5:Int).toNat ((wrap64 (x5+1)):Int).toNat).size≤9223372036854775807 then (aW.l0 k x0 x3 (x4++(x0.extract (x5:Int).toNat ((wrap64 (x5+1)):Int).toNat)) (wrap64 (x5+1))) else (none)) else (none)) else (none)))) else (none)) else (if x4.toList=([]:List UInt8) then (some x3) else (if x3.length < 8796093022208 then (some (x3++[x4])) else (none)))
def aW.f (k:Nat) (a0:ByteArray):Option (List ByteArray):=aW.l0 k a0 ([]:List ByteArray) (⟨#[]⟩:ByteArray) 0
theorem aW.fC:∀ k,(∀ y0 y1 y2 y3,bV (aW.l0 k y0 y1 y2 y3) (aW.l0 (k+1) y0 y1 y2 y3))
 | 0=>fun _ _ _ _ r h=>by simp [aW.l0] at h
 | k+1=>by
  have iU:=aW.fC k
  ·
   intro y0 y1 y2 y3
   unfold aW.l0
   repeat' with_reducible first|apply iU|exact bV.refl _|exact bV.none _|refine bV.ite ?_ ?_|refine bV.bind ?_ (fun _=>?_)
theorem aW.mono:∀ a0 k,bV (aW.f k a0) (aW.f (k+1) a0):=by
 intro a0 k
 have iU:=aW.fC k
 unfold aW.f
 repeat' with_reducible first|apply iU|exact bV.refl _|exact bV.none _|refine bV.ite ?_ ?_|refine bV.bind ?_ (fun _=>?_)
set_option maxHeartbeats 8000000 in
set_option maxRecDepth 100000 in
theorem aW.calls (k:Nat) (a0:ByteArray) (r:List ByteArray) (w:World) (h:aW.f k a0=some r) :
  Calls Tryz.prog 35 #[.string a0] w fun e w'=>∃ AZ:Value,e=.returned (AZ)∧Kd.R Kd.string 9 w' w.heap.size (fun _=>True) AZ r∧Below w.heap.size w w':=by
 have HB:=af.mk (Below.refl w.heap.size w)
 have H:(aW.l0 k a0 ([]:List ByteArray) (⟨#[]⟩:ByteArray) 0)=some r:=h
 clear h
 have H':=af.mk H
 clear H
 go_enter Tryz.func35,Tryz.ntmps35
 go_wp2
 go_loopg [3,4,5] k (fun kq v3 v4 v5 w'=>∃ (eU:List ByteArray) (eG:ByteArray) (fE:Int),v4=.string eG∧v5=.int .i64 fE∧af (aW.l0 kq a0 eU eG fE=some r)∧af (kq≤k)∧af (Kd.R Kd.string 9 w' w.heap.size (fun _=>True) v3 eU)∧af (Below w.heap.size w w'))
 case atStart=>exact ⟨(([]:List ByteArray)),((⟨#[]⟩:ByteArray)),(0),(by first|rfl|(simp;done)|(simp [*];done)),(by first|rfl|(simp;done)|(simp [*];done)),H',⟨Nat.le_refl _⟩,⟨by first|exact Kd.je _ _ _ _ _|exact Kd.xe _ _ _ _ _|exact Kd.wX _ _ _ _ _|exact Kd.wZ _ _ _ _ _|exact Kd.wY _ _ _ _ _⟩,⟨by repeat (first|(with_reducible first|exact HB.out|apply ai|apply ag|apply ah)|exact HB.out)⟩⟩
 case round =>
  clear H'
  obtain ⟨eU,eG,fE,rfl,rfl,HA,nV,AP,HB⟩:=hrel
  cases gk with
  | zero=>exact absurd HA.out (by simp [aW.l0])
  | succ k1 =>
   have H:=HA.out
   clear HA
   simp only [aW.l0] at H
   by_cases c2:fE < (a0.size:Int)
   ·
    rw [if_pos c2] at H
    have sV:decide (fE < (a0.size:Int))=true:=decide_eq_true c2
    clear c2
    by_cases c3:0≤fE
    ·
     rw [if_pos c3] at H
     have J9:decide (0≤fE)=true:=decide_eq_true c3
     clear c3
     by_cases c5:(bt a0 fE)=35
     ·
      rw [if_pos c5] at H
      have vO:((bt a0 fE) == 35)=true:=beq_iff_eq.mpr c5
      have UH:((bt a0 fE) != 35)=false:=bne_eq_false_iff_eq.mpr c5
      clear c5
      by_cases c6:eG.toList=([]:List UInt8)
      ·
       rw [if_pos c6] at H
       have qR:(eG.toList == ([]:List UInt8))=true:=beq_iff_eq.mpr c6
       have J7:(eG.toList != ([]:List UInt8))=false:=bne_eq_false_iff_eq.mpr c6
       clear c6
       obtain rfl:=Option.some.inj H
       have p4:0≤(fE:Int):=of_decide_eq_true (by first|(with_reducible assumption)|assumption)
       have q4:fE < (a0.size:Int):=of_decide_eq_true (by first|(with_reducible assumption)|assumption)
       have hx4:=mW a0 fE
       replace p4:=eq_true p4
       replace q4:=eq_true q4
       go_wp2
       go_ret
       exact ⟨_,by first|rfl|(simp [bF,bD] <;> rfl)|(simp [*,bF,bD] <;> rfl),by (with_reducible repeat (first|apply Kd.aT|apply Kd.aV|apply Kd.bu));exact AP.out,by repeat (first|(with_reducible first|exact HB.out|apply ai|apply ag|apply ah)|exact HB.out)⟩
      ·
       rw [if_neg c6] at H
       have qR:(eG.toList == ([]:List UInt8))=false:=beq_eq_false_iff_ne.mpr c6
       have J7:(eG.toList != ([]:List UInt8))=true:=bne_iff_ne.mpr c6
       by_cases c7:eU.length < 8796093022208
       ·
        rw [if_pos c7] at H
        have adN:=af.mk c7
        clear c7
        obtain ⟨acF,EK⟩:∃ y_:List ByteArray,y_=(eU++[eG]):=⟨_,rfl⟩
        replace H:(some acF)=some r:=by first|(rw [EK];with_reducible exact H)|(have oZ:=(Option.bind_some _ _).symm.trans H;rw [EK];with_reducible exact oZ)|(have oZ:=(Option.bind_some _ _).symm.trans H;with_reducible exact oZ)|with_reducible exact H|(rw [EK];exact H)|exact H
        have WL:=af.mk EK
        clear EK
        obtain rfl:=Option.some.inj H
        have p4:0≤(fE:Int):=of_decide_eq_true (by first|(with_reducible assumption)|assumption)
        have q4:fE < (a0.size:Int):=of_decide_eq_true (by first|(with_reducible assumption)|assumption)
        have hx4:=mW a0 fE
        replace p4:=eq_true p4
        replace q4:=eq_true q4
        go_wp2_with (first|((with_reducible refine iD (b:=.append) (xs:=#[.tmp 35,.tmp 37]) rfl ?_);at_builtin;refine Kd.l7 Kd.string (w0:=w) w.heap.size rfl (.tmp 35) (.tmp 37) 22 9 (.string ⟨#[]⟩) 16 rfl Tryz.underlying22 info9 rfl (by decide) (by omega) u3 eU eG [.string eG] (fun _=>True) (fun _=>False) rfl rfl ?aP (fun _ hk=>hk.elim) ?aF ?aO ?aB ?aS ?aL ?_;(case aP=>exact rfl);(case aB=>exact (by repeat (first|(with_reducible first|exact HB.out|apply ai|apply ag|apply ah)|exact HB.out)));(case aF=>exact (fun _ _=>trivial));(case aO=>exact (by (with_reducible repeat (first|apply Kd.aT|apply Kd.aV|apply Kd.bu));exact AP.out));(case aS=>exact (aY (by repeat (first|(with_reducible first|exact HB.out|apply ai|apply ag|apply ah)|exact HB.out))));(case aL=>have:=adN.out;omega);intro afw w8 ho hb hg hat;rw [← WL.out] at ho;have dE:=af.mk (hb);have dL:=af.mk (ho);clear HB;clear AP;have HB:=dE;have Xj:=dL;clear dE dL;clear ho hb hg hat))
        go_ret
        exact ⟨_,by first|rfl|(simp [bF,bD] <;> rfl)|(simp [*,bF,bD] <;> rfl),by (with_reducible repeat (first|apply Kd.aT|apply Kd.aV|apply Kd.bu));exact Xj.out,by repeat (first|(with_reducible first|exact HB.out|apply ai|apply ag|apply ah)|exact HB.out)⟩
       ·
        rw [if_neg c7] at H
        exact absurd H (by simp)
     ·
      rw [if_neg c5] at H
      have vO:((bt a0 fE) == 35)=false:=beq_eq_false_iff_ne.mpr c5
      have UH:((bt a0 fE) != 35)=true:=bne_iff_ne.mpr c5
      by_cases c10:(bt a0 fE)=32
      ·
       rw [if_pos c10] at H
       have yx:((bt a0 fE) == 32)=true:=beq_iff_eq.mpr c10
       have Fg:((bt a0 fE) != 32)=false:=bne_eq_false_iff_eq.mpr c10
       clear c10
       by_cases c11:eG.toList=([]:List UInt8)
       ·
        rw [if_pos c11] at H
        have yw:(eG.toList == ([]:List UInt8))=true:=beq_iff_eq.mpr c11
        have BU:(eG.toList != ([]:List UInt8))=false:=bne_eq_false_iff_eq.mpr c11
        clear c11
        have H':=af.mk H
        clear H
        have p4:0≤(fE:Int):=of_decide_eq_true (by first|(with_reducible assumption)|assumption)
        have q4:fE < (a0.size:Int):=of_decide_eq_true (by first|(with_reducible assumption)|assumption)
        have hx4:=mW a0 fE
        replace p4:=eq_true p4
        replace q4:=eq_true q4
        have p9:0≤(fE:Int):=of_decide_eq_true (by first|(with_reducible assumption)|assumption)
        have q9:fE < (a0.size:Int):=of_decide_eq_true (by first|(with_reducible assumption)|assumption)
        have hx9:=mW a0 fE
        replace p9:=eq_true p9
        replace q9:=eq_true q9
        go_wp2
        go_roundg k1
        case measure=>have:=nV.out;omega
        case rel=>exact ⟨(eU),((⟨#[]⟩:ByteArray)),(wrap64 (fE+1)),(by first|rfl|(simp;done)|(simp [*];done)),(by first|rfl|(simp;done)|(simp [*];done)),H',⟨by have:=nV.out;omega⟩,⟨by (with_reducible repeat (first|apply Kd.aT|apply Kd.aV|apply Kd.bu));exact AP.out⟩,⟨by repeat (first|(with_reducible first|exact HB.out|apply ai|apply ag|apply ah)|exact HB.out)⟩⟩
       ·
        rw [if_neg c11] at H
        have yw:(eG.toList == ([]:List UInt8))=false:=beq_eq_false_iff_ne.mpr c11
        have BU:(eG.toList != ([]:List UInt8))=true:=bne_iff_ne.mpr c11
        by_cases c12:eU.length < 8796093022208
        ·
         rw [if_pos c12] at H
         have W9:=af.mk c12
         clear c12
         obtain ⟨U7,EJ⟩:∃ y_:List ByteArray,y_=(eU++[eG]):=⟨_,rfl⟩
         replace H:(aW.l0 k1 a0 U7 (⟨#[]⟩:ByteArray) (wrap64 (fE+1)))=some r:=by first|(rw [EJ];with_reducible exact H)|(have oZ:=(Option.bind_some _ _).symm.trans H;rw [EJ];with_reducible exact oZ)|(have oZ:=(Option.bind_some _ _).symm.trans H;with_reducible exact oZ)|with_reducible exact H|(rw [EJ];exact H)|exact H
         have WJ:=af.mk EJ
         clear EJ
         have H':=af.mk H
         clear H
         have p4:0≤(fE:Int):=of_decide_eq_true (by first|(with_reducible assumption)|assumption)
         have q4:fE < (a0.size:Int):=of_decide_eq_true (by first|(with_reducible assumption)|assumption)
         have hx4:=mW a0 fE
         replace p4:=eq_true p4
         replace q4:=eq_true q4
         have p9:0≤(fE:Int):=of_decide_eq_true (by first|(with_reducible assumption)|assumption)
         have q9:fE < (a0.size:Int):=of_decide_eq_true (by first|(with_reducible assumption)|assumption)
         have hx9:=mW a0 fE
         replace p9:=eq_true p9
         replace q9:=eq_true q9
         go_wp2_with (first|((with_reducible refine iD (b:=.append) (xs:=#[.tmp 29,.tmp 31]) rfl ?_);at_builtin;refine Kd.l7 Kd.string (w0:=w) w.heap.size rfl (.tmp 29) (.tmp 31) 22 9 (.string ⟨#[]⟩) 16 rfl Tryz.underlying22 info9 rfl (by decide) (by omega) u3 eU eG [.string eG] (fun _=>True) (fun _=>False) rfl rfl ?aP (fun _ hk=>hk.elim) ?aF ?aO ?aB ?aS ?aL ?_;(case aP=>exact rfl);(case aB=>exact (by repeat (first|(with_reducible first|exact HB.out|apply ai|apply ag|apply ah)|exact HB.out)));(case aF=>exact (fun _ _=>trivial));(case aO=>exact (by (with_reducible repeat (first|apply Kd.aT|apply Kd.aV|apply Kd.bu));exact AP.out));(case aS=>exact (aY (by repeat (first|(with_reducible first|exact HB.out|apply ai|apply ag|apply ah)|exact HB.out))));(case aL=>have:=W9.out;omega);intro afv w13 ho hb hg hat;rw [← WJ.out] at ho;have dE:=af.mk (hb);have dL:=af.mk (ho);clear HB;clear AP;have HB:=dE;have Xi:=dL;clear dE dL;clear ho hb hg hat))
         go_roundg k1
         case measure=>have:=nV.out;omega
         case rel=>exact ⟨(U7),((⟨#[]⟩:ByteArray)),(wrap64 (fE+1)),(by first|rfl|(simp;done)|(simp [*];done)),(by first|rfl|(simp;done)|(simp [*];done)),H',⟨by have:=nV.out;omega⟩,⟨by (with_reducible repeat (first|apply Kd.aT|apply Kd.aV|apply Kd.bu));exact Xi.out⟩,⟨by repeat (first|(with_reducible first|exact HB.out|apply ai|apply ag|apply ah)|exact HB.out)⟩⟩
        ·
         rw [if_neg c12] at H
         exact absurd H (by simp)
      ·
       rw [if_neg c10] at H
       have yx:((bt a0 fE) == 32)=false:=beq_eq_false_iff_ne.mpr c10
       have Fg:((bt a0 fE) != 32)=true:=bne_iff_ne.mpr c10
       have wU:=eq_true (of_decide_eq_true (by first|(with_reducible assumption)|assumption):0≤fE)
       by_cases c15:fE≤(wrap64 (fE+1))
       ·
        rw [if_pos c15] at H
        have Fe:=eq_true c15
        have SQ:decide (fE≤(wrap64 (fE+1)))=true:=decide_eq_true c15
        by_cases c16:(wrap64 (fE+1))≤(a0.size:Int)
        ·
         rw [if_pos c16] at H
         have V8:=eq_true c16
         have aeZ:decide ((wrap64 (fE+1))≤(a0.size:Int))=true:=decide_eq_true c16
         by_cases c17:eG.size+(a0.extract (fE:Int).toNat ((wrap64 (fE+1)):Int).toNat).size≤9223372036854775807
         ·
          rw [if_pos c17] at H
          have SN:=eq_true c17
          have SL:decide (eG.size+(a0.extract (fE:Int).toNat ((wrap64 (fE+1)):Int).toNat).size≤9223372036854775807)=true:=decide_eq_true c17
          try have aeY:(9223372036854775807 < eG.size+(a0.extract (fE:Int).toNat ((wrap64 (fE+1)):Int).toNat).size)=False:=eq_false (Nat.not_lt.2 c17)
          have H':=af.mk H
          clear H
          have p4:0≤(fE:Int):=of_decide_eq_true (by first|(with_reducible assumption)|assumption)
          have q4:fE < (a0.size:Int):=of_decide_eq_true (by first|(with_reducible assumption)|assumption)
          have hx4:=mW a0 fE
          replace p4:=eq_true p4
          replace q4:=eq_true q4
          have p9:0≤(fE:Int):=of_decide_eq_true (by first|(with_reducible assumption)|assumption)
          have q9:fE < (a0.size:Int):=of_decide_eq_true (by first|(with_reducible assumption)|assumption)
          have hx9:=mW a0 fE
          replace p9:=eq_true p9
          replace q9:=eq_true q9
          go_wp2
          go_roundg k1
          case measure=>have:=nV.out;omega
          case rel=>exact ⟨(eU),(eG++(a0.extract (fE:Int).toNat ((wrap64 (fE+1)):Int).toNat)),(wrap64 (fE+1)),(by first|rfl|(simp;done)|(simp [*];done)),(by first|rfl|(simp;done)|(simp [*];done)),H',⟨by have:=nV.out;omega⟩,⟨by (with_reducible repeat (first|apply Kd.aT|apply Kd.aV|apply Kd.bu));exact AP.out⟩,⟨by repeat (first|(with_reducible first|exact HB.out|apply ai|apply ag|apply ah)|exact HB.out)⟩⟩
         ·
          rw [if_neg c17] at H
          exact absurd H (by simp)
        ·
         rw [if_neg c16] at H
         exact absurd H (by simp)
       ·
        rw [if_neg c15] at H
        exact absurd H (by simp)
    ·
     rw [if_neg c3] at H
     exact absurd H (by simp)
   ·
    rw [if_neg c2] at H
    have sV:decide (fE < (a0.size:Int))=false:=decide_eq_false c2
    clear c2
    by_cases c18:eG.toList=([]:List UInt8)
    ·
     rw [if_pos c18] at H
     have V7:(eG.toList == ([]:List UInt8))=true:=beq_iff_eq.mpr c18
     have V6:(eG.toList != ([]:List UInt8))=false:=bne_eq_false_iff_eq.mpr c18
     clear c18
     obtain rfl:=Option.some.inj H
     go_wp2
     go_ret
     exact ⟨_,by first|rfl|(simp [bF,bD] <;> rfl)|(simp [*,bF,bD] <;> rfl),by (with_reducible repeat (first|apply Kd.aT|apply Kd.aV|apply Kd.bu));exact AP.out,by repeat (first|(with_reducible first|exact HB.out|apply ai|apply ag|apply ah)|exact HB.out)⟩
    ·
     rw [if_neg c18] at H
     have V7:(eG.toList == ([]:List UInt8))=false:=beq_eq_false_iff_ne.mpr c18
     have V6:(eG.toList != ([]:List UInt8))=true:=bne_iff_ne.mpr c18
     by_cases c19:eU.length < 8796093022208
     ·
      rw [if_pos c19] at H
      have WY:=af.mk c19
      clear c19
      obtain ⟨acG,EL⟩:∃ y_:List ByteArray,y_=(eU++[eG]):=⟨_,rfl⟩
      replace H:(some acG)=some r:=by first|(rw [EL];with_reducible exact H)|(have oZ:=(Option.bind_some _ _).symm.trans H;rw [EL];with_reducible exact oZ)|(have oZ:=(Option.bind_some _ _).symm.trans H;with_reducible exact oZ)|with_reducible exact H|(rw [EL];exact H)|exact H
      have WM:=af.mk EL
      clear EL
      obtain rfl:=Option.some.inj H
      go_wp2_with (first|((with_reducible refine iD (b:=.append) (xs:=#[.tmp 35,.tmp 37]) rfl ?_);at_builtin;refine Kd.l7 Kd.string (w0:=w) w.heap.size rfl (.tmp 35) (.tmp 37) 22 9 (.string ⟨#[]⟩) 16 rfl Tryz.underlying22 info9 rfl (by decide) (by omega) u3 eU eG [.string eG] (fun _=>True) (fun _=>False) rfl rfl ?aP (fun _ hk=>hk.elim) ?aF ?aO ?aB ?aS ?aL ?_;(case aP=>exact rfl);(case aB=>exact (by repeat (first|(with_reducible first|exact HB.out|apply ai|apply ag|apply ah)|exact HB.out)));(case aF=>exact (fun _ _=>trivial));(case aO=>exact (by (with_reducible repeat (first|apply Kd.aT|apply Kd.aV|apply Kd.bu));exact AP.out));(case aS=>exact (aY (by repeat (first|(with_reducible first|exact HB.out|apply ai|apply ag|apply ah)|exact HB.out))));(case aL=>have:=WY.out;omega);intro afx w20 ho hb hg hat;rw [← WM.out] at ho;have dE:=af.mk (hb);have dL:=af.mk (ho);clear HB;clear AP;have HB:=dE;have Xk:=dL;clear dE dL;clear ho hb hg hat))
      go_ret
      exact ⟨_,by first|rfl|(simp [bF,bD] <;> rfl)|(simp [*,bF,bD] <;> rfl),by (with_reducible repeat (first|apply Kd.aT|apply Kd.aV|apply Kd.bu));exact Xk.out,by repeat (first|(with_reducible first|exact HB.out|apply ai|apply ag|apply ah)|exact HB.out)⟩
     ·
      rw [if_neg c19] at H
      exact absurd H (by simp)
end Go.Proofs.YtkclndkbccbhaaaGreatDoor.P
end
section
namespace Go.Proofs.YtkclndkbccbhaaaGreatDoor.P
open Go.RowKit Go.Proofs.ae.bg Go.Proofs.ae.dw Go.Proofs.ae.dO
attribute [local go_sem] jv jq jW jV iQ iP jr jo
mutual
def ak.l0:Nat→ByteArray→List (List ByteArray)→Int→Int→Int→Option ((List (List ByteArray)) × Int × Int)
 | 0,_,_,_,_,_=>none
 | k+1,x0,x5,x6,x7,x8=>if x8≤(x0.size:Int) then (if x8 < (x0.size:Int) then (if 0≤x8 then (ak.j1 k x0 x5 x6 x7 x8 ((bt x0 x8) != 10)) else (none)) else (ak.j1 k x0 x5 x6 x7 x8 false)) else (some (x5,0,0))
def ak.j1:Nat→ByteArray→List (List ByteArray)→Int→Int→Int→Bool→Option ((List (List ByteArray)) × Int × Int)
 | 0,_,_,_,_,_,_=>none
 | k+1,x0,x5,x6,x7,x8,x29=>if x29=true then (ak.l0 k x0 x5 x6 x7 (wrap64 (x8+1))) else (if 0≤x6 then (if x6≤x8 then (if x8≤(x0.size:Int) then ((aW.f k (x0.extract (x6:Int).toNat (x8:Int).toNat)).bind fun nY=>(ak.l1 k x0 x5 x7 x8 nY 0)) else (none)) else (none)) else (none))
def ak.l1:Nat→ByteArray→List (List ByteArray)→Int→Int→List ByteArray→Int→Option ((List (List ByteArray)) × Int × Int)
 | 0,_,_,_,_,_,_=>none
 | k+1,x0,x5,x7,x8,x9,x10=>if x10 < (x9.length:Int) then (if 0≤x10 then ((aQ.f k (eX ByteArray.empty x9 x10)).bind fun OW=>(if OW=true then (ak.l1 k x0 x5 x7 x8 x9 (wrap64 (x10+1))) else (some (([]:List (List ByteArray)),x7,4)))) else (none)) else (if (x9.length:Int) > 0 then (if x5.length < 5864062014805 then (ak.l0 k x0 (x5++[x9]) (wrap64 (x8+1)) (wrap64 (x7+1)) (wrap64 (x8+1))) else (none)) else (ak.l0 k x0 x5 (wrap64 (x8+1)) (wrap64 (x7+1)) (wrap64 (x8+1))))
end
def ak.f (k:Nat) (a0:ByteArray):Option ((List (List ByteArray)) × Int × Int):=if (a0.size:Int) > 20000 then (some (([]:List (List ByteArray)),0,3)) else (ak.l0 k a0 ([]:List (List ByteArray)) 0 1 0)
theorem ak.fC:∀ k,(∀ y0 y1 y2 y3 y4,bV (ak.l0 k y0 y1 y2 y3 y4) (ak.l0 (k+1) y0 y1 y2 y3 y4))∧(∀ y0 y1 y2 y3 y4 y5,bV (ak.j1 k y0 y1 y2 y3 y4 y5) (ak.j1 (k+1) y0 y1 y2 y3 y4 y5))∧(∀ y0 y1 y2 y3 y4 y5,bV (ak.l1 k y0 y1 y2 y3 y4 y5) (ak.l1 (k+1) y0 y1 y2 y3 y4 y5))
 | 0=>⟨fun _ _ _ _ _ r h=>by simp [ak.l0] at h,fun _ _ _ _ _ _ r h=>by simp [ak.j1] at h,fun _ _ _ _ _ _ r h=>by simp [ak.l1] at h⟩
 | k+1=>by
  obtain ⟨iU,ih1,ih2⟩:=ak.fC k
  refine ⟨?_,?_,?_⟩
  ·
   intro y0 y1 y2 y3 y4
   unfold ak.l0
   repeat' with_reducible first|apply iU|apply ih1|apply ih2|apply aQ.mono|apply aW.mono|exact bV.refl _|exact bV.none _|refine bV.ite ?_ ?_|refine bV.bind ?_ (fun _=>?_)
  ·
   intro y0 y1 y2 y3 y4 y5
   unfold ak.j1
   repeat' with_reducible first|apply iU|apply ih1|apply ih2|apply aQ.mono|apply aW.mono|exact bV.refl _|exact bV.none _|refine bV.ite ?_ ?_|refine bV.bind ?_ (fun _=>?_)
  ·
   intro y0 y1 y2 y3 y4 y5
   unfold ak.l1
   repeat' with_reducible first|apply iU|apply ih1|apply ih2|apply aQ.mono|apply aW.mono|exact bV.refl _|exact bV.none _|refine bV.ite ?_ ?_|refine bV.bind ?_ (fun _=>?_)
theorem ak.mono:∀ a0 k,bV (ak.f k a0) (ak.f (k+1) a0):=by
 intro a0 k
 obtain ⟨iU,ih1,ih2⟩:=ak.fC k
 unfold ak.f
 repeat' with_reducible first|apply iU|apply ih1|apply ih2|apply aQ.mono|apply aW.mono|exact bV.refl _|exact bV.none _|refine bV.ite ?_ ?_|refine bV.bind ?_ (fun _=>?_)
set_option maxHeartbeats 8000000 in
set_option maxRecDepth 100000 in
theorem ak.calls (k:Nat) (a0:ByteArray) (r1:List (List ByteArray)) (r2:Int) (r3:Int) (w:World) (h:ak.f k a0=some (r1,r2,r3)) :
  Calls Tryz.prog 16 #[.string a0] w fun e w'=>∃ AZ:Value,e=.returned (.tuple #[AZ,.int .i64 r2,.int .i64 r3])∧Kd.S (Kd.slice 9 Kd.string) 22 w' w.heap.size (fun _=>True) AZ r1∧Below w.heap.size w w':=by
 have HB:=af.mk (Below.refl w.heap.size w)
 have H:(if (a0.size:Int) > 20000 then (some (([]:List (List ByteArray)),0,3)) else (ak.l0 k a0 ([]:List (List ByteArray)) 0 1 0))=some (r1,r2,r3):=h
 clear h
 by_cases c2:(a0.size:Int) > 20000
 ·
  rw [if_pos c2] at H
  have sV:decide (20000 < (a0.size:Int))=true:=decide_eq_true c2
  have zW:decide (20000 < a0.size)=true:=decide_eq_true (by omega)
  clear c2
  simp only [Option.some.injEq,Prod.mk.injEq] at H
  obtain ⟨rfl,rfl,rfl⟩:=H
  go_enter Tryz.func16,Tryz.ntmps16
  go_wp2
  go_ret3
  exact ⟨_,by first|rfl|(simp [bF,bD] <;> rfl)|(simp [*,bF,bD] <;> rfl),by first|exact Kd.wY _ _ _ _ _|exact Kd.xe _ _ _ _ _|exact Kd.wX _ _ _ _ _|exact Kd.wZ _ _ _ _ _|exact Kd.je _ _ _ _ _,by repeat (first|(with_reducible first|exact HB.out|apply ai|apply ag|apply ah)|exact HB.out)⟩
 ·
  rw [if_neg c2] at H
  have sV:decide (20000 < (a0.size:Int))=false:=decide_eq_false c2
  have zW:decide (20000 < a0.size)=false:=decide_eq_false (by omega)
  clear c2
  have H':=af.mk H
  clear H
  go_enter Tryz.func16,Tryz.ntmps16
  go_wp2
  go_loopg [5,6,7,8] k (fun kq v5 v6 v7 v8 w'=>∃ (fE:List (List ByteArray)) (vG:Int) (uO:Int) (kZ:Int),v6=.int .i64 vG∧v7=.int .i64 uO∧v8=.int .i64 kZ∧af (ak.l0 kq a0 fE vG uO kZ=some (r1,r2,r3))∧af (kq≤k)∧af (Kd.S (Kd.slice 9 Kd.string) 22 w' w.heap.size (fun _=>True) v5 fE)∧af (Below w.heap.size w w'))
  case atStart=>exact ⟨(([]:List (List ByteArray))),(0),(1),(0),(by first|rfl|(simp;done)|(simp [*];done)),(by first|rfl|(simp;done)|(simp [*];done)),(by first|rfl|(simp;done)|(simp [*];done)),H',⟨Nat.le_refl _⟩,⟨by first|exact Kd.wY _ _ _ _ _|exact Kd.xe _ _ _ _ _|exact Kd.wX _ _ _ _ _|exact Kd.wZ _ _ _ _ _|exact Kd.je _ _ _ _ _⟩,⟨by repeat (first|(with_reducible first|exact HB.out|apply ai|apply ag|apply ah)|exact HB.out)⟩⟩
  case round =>
   clear H'
   obtain ⟨fE,vG,uO,kZ,rfl,rfl,rfl,HA,nV,jS,HB⟩:=hrel
   cases gk with
   | zero=>exact absurd HA.out (by simp [ak.l0])
   | succ k1 =>
    have H:=HA.out
    clear HA
    simp only [ak.l0] at H
    by_cases c3:kZ≤(a0.size:Int)
    ·
     rw [if_pos c3] at H
     have J9:decide (kZ≤(a0.size:Int))=true:=decide_eq_true c3
     clear c3
     have HC4:=af.mk H
     clear H
     go_upto_region 9 with (fail)
     go_cut [29] (fun v29 wc=>∃ (kq:Nat) (GY:Bool),v29=.bool GY∧af (ak.j1 kq a0 fE vG uO kZ GY=some (r1,r2,r3))∧af (kq≤k1)∧af (Kd.S (Kd.slice 9 Kd.string) 22 wc w.heap.size (fun _=>True) u5 fE)∧af (Below w.heap.size w wc))
     case first =>
      have H:=HC4.out
      clear HC4
      by_cases c5:kZ < (a0.size:Int)
      ·
       rw [if_pos c5] at H
       have vO:decide (kZ < (a0.size:Int))=true:=decide_eq_true c5
       clear c5
       (first|rw [vO]|(simp only [aK,aN];rw [vO])|skip)
       by_cases c6:0≤kZ
       ·
        rw [if_pos c6] at H
        have qR:decide (0≤kZ)=true:=decide_eq_true c6
        clear c6
        have H':=af.mk H
        clear H
        have p7:0≤(kZ:Int):=of_decide_eq_true (by first|(with_reducible assumption)|assumption)
        have q7:kZ < (a0.size:Int):=of_decide_eq_true (by first|(with_reducible assumption)|assumption)
        have hx7:=mW a0 kZ
        replace p7:=eq_true p7
        replace q7:=eq_true q7
        go_wp2
        go_meet
        case rel=>exact ⟨_,(((bt a0 kZ) != 10)),(by first|rfl|(simp;done)|(simp [*];done)),H',⟨by have:=nV.out;first|omega|exact Nat.le_refl _⟩,⟨by (with_reducible repeat (first|apply Kd.fB|apply Kd.fA|apply Kd.gu));exact jS.out⟩,⟨by repeat (first|(with_reducible first|exact HB.out|apply ai|apply ag|apply ah)|exact HB.out)⟩⟩
       ·
        rw [if_neg c6] at H
        exact absurd H (by simp)
      ·
       rw [if_neg c5] at H
       have vO:decide (kZ < (a0.size:Int))=false:=decide_eq_false c5
       clear c5
       (first|rw [vO]|(simp only [aK,aN];rw [vO])|skip)
       have H':=af.mk H
       clear H
       go_wp2
       go_meet
       case rel=>exact ⟨_,(false),(by first|rfl|(simp;done)|(simp [*];done)),H',⟨by have:=nV.out;first|omega|exact Nat.le_refl _⟩,⟨by (with_reducible repeat (first|apply Kd.fB|apply Kd.fA|apply Kd.gu));exact jS.out⟩,⟨by repeat (first|(with_reducible first|exact HB.out|apply ai|apply ag|apply ah)|exact HB.out)⟩⟩
     case rest =>
      clear HC4
      obtain ⟨kq,GY,rfl,HA,Tv,jS,HB⟩:=hcut
      cases kq with
      | zero=>exact absurd HA.out (by simp [ak.j1])
      | succ Sl =>
       have H:=HA.out
       clear HA
       simp only [ak.j1] at H
       by_cases c8:GY=true
       ·
        subst c8
        have H1:(ak.l0 Sl a0 fE vG uO (wrap64 (kZ+1)))=some (r1,r2,r3):=by rw [if_pos rfl] at H;exact H
        clear H
        have H:=H1
        clear H1
        have H':=af.mk H
        clear H
        go_wp2
        go_roundg Sl
        case measure=>have:=nV.out;have:=Tv.out;omega
        case rel=>exact ⟨(fE),(vG),(uO),(wrap64 (kZ+1)),(by first|rfl|(simp;done)|(simp [*];done)),(by first|rfl|(simp;done)|(simp [*];done)),(by first|rfl|(simp;done)|(simp [*];done)),H',⟨by have:=nV.out;have:=Tv.out;omega⟩,⟨by (with_reducible repeat (first|apply Kd.fB|apply Kd.fA|apply Kd.gu));exact jS.out⟩,⟨by repeat (first|(with_reducible first|exact HB.out|apply ai|apply ag|apply ah)|exact HB.out)⟩⟩
       ·
        replace c8:=Bool.eq_false_iff.mpr c8
        subst c8
        have H1:(if 0≤vG then (if vG≤kZ then (if kZ≤(a0.size:Int) then ((aW.f Sl (a0.extract (vG:Int).toNat (kZ:Int).toNat)).bind fun nY=>(ak.l1 Sl a0 fE uO kZ nY 0)) else (none)) else (none)) else (none))=some (r1,r2,r3):=by rw [if_neg (show ¬ (false=true) by decide)] at H;exact H
        clear H
        have H:=H1
        clear H1
        by_cases c9:0≤vG
        ·
         rw [if_pos c9] at H
         have J6:=eq_true c9
         have Rf:decide (0≤vG)=true:=decide_eq_true c9
         clear c9
         by_cases c10:vG≤kZ
         ·
          rw [if_pos c10] at H
          have yx:=eq_true c10
          have Fg:decide (vG≤kZ)=true:=decide_eq_true c10
          clear c10
          by_cases c11:kZ≤(a0.size:Int)
          ·
           rw [if_pos c11] at H
           have yw:=eq_true c11
           have BU:decide (kZ≤(a0.size:Int))=true:=decide_eq_true c11
           clear c11
           replace H:=Option.bind_eq_some_iff.mp H
           obtain ⟨nY,OB,H⟩:=H
           replace H:(ak.l1 Sl a0 fE uO kZ nY 0)=some (r1,r2,r3):=H
           have XN:=af.mk OB
           clear OB
           have H':=af.mk H
           clear H
           go_wp2_with (first|((with_reducible refine bJ (f:=35) rfl ?_);refine fD (some 34) rfl rfl Tryz.func35 (by kernel_rfl) rfl #[.string (a0.extract (vG:Int).toNat (kZ:Int).toNat)] rfl (by (try simp only [List.map_toArray,List.map_cons,List.map_nil]);first|done|rfl|(simp only [List.length_drop,List.length_take];rfl)) ?_;(with_reducible refine (aW.calls Sl (a0.extract (vG:Int).toNat (kZ:Int).toNat) nY _ XN.out).mono ?_);rintro e w13 ⟨Vj,rfl,ho0,hb⟩;refine ⟨_,rfl,?_⟩;have dE:=af.mk (Kd.qU (by (with_reducible repeat (first|apply Kd.fB|apply Kd.fA|apply Kd.gu));exact jS.out) (Kd.iM ho0) hb);have dL:=af.mk (Kd.eQ ho0 (aY (by repeat (first|(with_reducible first|exact HB.out|apply ai|apply ag|apply ah)|exact HB.out))));have eF:=af.mk (aX (by repeat (first|(with_reducible first|exact HB.out|apply ai|apply ag|apply ah)|exact HB.out)) hb);clear jS;clear HB;have jS:=dE;have Xh:=dL;have HB:=eF;clear dE dL eF;(try clear hb);(try clear hb2);(try clear hk);(try clear hi);(try clear ho0)))
           go_loopg [10] Sl (fun kq v10 w'=>∃ (lW:Int),v10=.int .i64 lW∧af (ak.l1 kq a0 fE uO kZ nY lW=some (r1,r2,r3))∧af (kq≤Sl)∧af (Kd.S (Kd.slice 9 Kd.string) 22 w' w.heap.size (fun k_=>some k_ ≠ (Vj:Value).ownBlock) u5 fE)∧af (Kd.R Kd.string 9 w' w.heap.size (fun _=>True) Vj nY)∧af (Below w.heap.size w w'))
           case atStart=>exact ⟨(0),(by first|rfl|(simp;done)|(simp [*];done)),H',⟨Nat.le_refl _⟩,⟨by (with_reducible repeat (first|apply Kd.fB|apply Kd.fA|apply Kd.gu));exact Kd.mG jS.out (fun _ hk=>hk.2)⟩,⟨by (with_reducible repeat (first|apply Kd.aT|apply Kd.aV|apply Kd.bu));exact Xh.out⟩,⟨by repeat (first|(with_reducible first|exact HB.out|apply ai|apply ag|apply ah)|exact HB.out)⟩⟩
           case round =>
            clear H'
            obtain ⟨lW,rfl,HA,RH,jS,AO,HB⟩:=hrel
            cases gk with
            | zero=>exact absurd HA.out (by simp [ak.l1])
            | succ k3 =>
             have H:=HA.out
             clear HA
             simp only [ak.l1] at H
             by_cases c14:lW < (nY.length:Int)
             ·
              rw [if_pos c14] at H
              have wU:decide (lW < (nY.length:Int))=true:=decide_eq_true c14
              clear c14
              by_cases c15:0≤lW
              ·
               rw [if_pos c15] at H
               have Fe:decide (0≤lW)=true:=decide_eq_true c15
               clear c15
               replace H:=Option.bind_eq_some_iff.mp H
               obtain ⟨OW,FO,H⟩:=H
               replace H:(if OW=true then (ak.l1 k3 a0 fE uO kZ nY (wrap64 (lW+1))) else (some (([]:List (List ByteArray)),uO,4)))=some (r1,r2,r3):=H
               have UW:=af.mk FO
               clear FO
               by_cases c17:OW=true
               ·
                subst c17
                have H1:(ak.l1 k3 a0 fE uO kZ nY (wrap64 (lW+1)))=some (r1,r2,r3):=by rw [if_pos rfl] at H;exact H
                clear H
                have H:=H1
                clear H1
                have H':=af.mk H
                clear H
                obtain ⟨uh,sU,Uz⟩:=Kd.dY AO.out
                subst Uz
                have Gn:0≤(lW:Int):=of_decide_eq_true (by first|(with_reducible assumption)|assumption)
                have Gf:lW < (nY.length:Int):=of_decide_eq_true (by first|(with_reducible assumption)|assumption)
                obtain ⟨Wv,e305,PL⟩:=Kd.fG (Kd.dK AO.out).2.2 lW Gn Gf
                cases e305
                replace Gn:=eq_true Gn
                replace Gf:=eq_true Gf
                go_wp2_with (first|((with_reducible refine bJ (f:=36) rfl ?_);refine fD (some 45) rfl rfl Tryz.func36 (by kernel_rfl) rfl #[.string (eX ByteArray.empty nY lW)] rfl (by (try simp only [List.map_toArray,List.map_cons,List.map_nil]);first|done|rfl|(simp only [List.length_drop,List.length_take];rfl)) ?_;(with_reducible refine (aQ.calls k3 (eX ByteArray.empty nY lW) true _ UW.out).mono ?_);rintro e w' ⟨rfl,⟨nd,rfl⟩⟩;refine ⟨_,rfl,?_⟩))
                go_roundg k3
                case measure=>have:=nV.out;have:=Tv.out;have:=RH.out;omega
                case rel=>exact ⟨(wrap64 (lW+1)),(by first|rfl|(simp;done)|(simp [*];done)),H',⟨by have:=nV.out;have:=Tv.out;have:=RH.out;omega⟩,⟨by (with_reducible repeat (first|apply Kd.fB|apply Kd.fA|apply Kd.gu));exact jS.out⟩,⟨by (with_reducible repeat (first|apply Kd.aT|apply Kd.aV|apply Kd.bu));exact AO.out⟩,⟨by repeat (first|(with_reducible first|exact HB.out|apply ai|apply ag|apply ah)|exact HB.out)⟩⟩
               ·
                replace c17:=Bool.eq_false_iff.mpr c17
                subst c17
                have H1:(some (([]:List (List ByteArray)),uO,4))=some (r1,r2,r3):=by rw [if_neg (show ¬ (false=true) by decide)] at H;exact H
                clear H
                have H:=H1
                clear H1
                simp only [Option.some.injEq,Prod.mk.injEq] at H
                obtain ⟨rfl,rfl,rfl⟩:=H
                obtain ⟨mP,lY,NK⟩:=Kd.dY AO.out
                subst NK
                have Gn:0≤(lW:Int):=of_decide_eq_true (by first|(with_reducible assumption)|assumption)
                have Gf:lW < (nY.length:Int):=of_decide_eq_true (by first|(with_reducible assumption)|assumption)
                obtain ⟨Wv,e305,PL⟩:=Kd.fG (Kd.dK AO.out).2.2 lW Gn Gf
                cases e305
                replace Gn:=eq_true Gn
                replace Gf:=eq_true Gf
                go_wp2_with (first|((with_reducible refine bJ (f:=36) rfl ?_);refine fD (some 45) rfl rfl Tryz.func36 (by kernel_rfl) rfl #[.string (eX ByteArray.empty nY lW)] rfl (by (try simp only [List.map_toArray,List.map_cons,List.map_nil]);first|done|rfl|(simp only [List.length_drop,List.length_take];rfl)) ?_;(with_reducible refine (aQ.calls k3 (eX ByteArray.empty nY lW) false _ UW.out).mono ?_);rintro e w' ⟨rfl,⟨nd,rfl⟩⟩;refine ⟨_,rfl,?_⟩))
                go_ret3
                exact ⟨_,by first|rfl|(simp [bF,bD] <;> rfl)|(simp [*,bF,bD] <;> rfl),by first|exact Kd.wY _ _ _ _ _|exact Kd.xe _ _ _ _ _|exact Kd.wX _ _ _ _ _|exact Kd.wZ _ _ _ _ _|exact Kd.je _ _ _ _ _,by repeat (first|(with_reducible first|exact HB.out|apply ai|apply ag|apply ah)|exact HB.out)⟩
              ·
               rw [if_neg c15] at H
               exact absurd H (by simp)
             ·
              rw [if_neg c14] at H
              have wU:decide (lW < (nY.length:Int))=false:=decide_eq_false c14
              clear c14
              by_cases c20:(nY.length:Int) > 0
              ·
               rw [if_pos c20] at H
               have V5:decide (0 < (nY.length:Int))=true:=decide_eq_true c20
               have VZ:decide (0 < nY.length)=true:=decide_eq_true (by omega)
               clear c20
               by_cases c21:fE.length < 5864062014805
               ·
                rw [if_pos c21] at H
                have WW:=af.mk c21
                clear c21
                obtain ⟨U6,EI⟩:∃ y_:List (List ByteArray),y_=(fE++[nY]):=⟨_,rfl⟩
                replace H:(ak.l0 k3 a0 U6 (wrap64 (kZ+1)) (wrap64 (uO+1)) (wrap64 (kZ+1)))=some (r1,r2,r3):=by first|(rw [EI];with_reducible exact H)|(have oZ:=(Option.bind_some _ _).symm.trans H;rw [EI];with_reducible exact oZ)|(have oZ:=(Option.bind_some _ _).symm.trans H;with_reducible exact oZ)|with_reducible exact H|(rw [EI];exact H)|exact H
                have WI:=af.mk EI
                clear EI
                have H':=af.mk H
                clear H
                obtain ⟨XD,VM,adn⟩:=Kd.dY AO.out
                subst adn
                go_wp2_with (first|((with_reducible refine iD (b:=.append) (xs:=#[.tmp 51,.tmp 53]) rfl ?_);at_builtin;refine Kd.Fv (Kd.slice 9 Kd.string) (w0:=w) w.heap.size rfl (.tmp 51) (.tmp 53) 43 22 (.slice none 0 0) 24 rfl Tryz.underlying43 info22 rfl (by decide) (by omega) u5 fE nY [.slice XD nY.length VM] (fun _=>True) (fun k_=>some k_=(.slice XD nY.length VM:Value).ownBlock) rfl rfl ?aP (fun k_ hk_=>((Kd.dB (ok':=fun k_=>((fun _=>True)) k_∧some k_ ≠ (u5:Value).ownBlock) (Kd.lg (AO.out) (Kd.uM jS.out) (by decide)) (fun k_ hk=>⟨trivial,hk.2⟩))).1 k_ hk_.symm) ?aF ?aO ?aB ?aS ?aL ?_;(case aP=>exact Kd.Tj (Kd.dB (Kd.DT rfl (Kd.dB (ok':=fun k_=>((fun _=>True)) k_∧some k_ ≠ (u5:Value).ownBlock) (Kd.lg (AO.out) (Kd.uM jS.out) (by decide)) (fun k_ hk=>⟨trivial,hk.2⟩))) (fun _ h_=>h_)));(case aB=>exact (by repeat (first|(with_reducible first|exact HB.out|apply ai|apply ag|apply ah)|exact HB.out)));(case aF=>exact (fun _ _=>trivial));(case aO=>exact (by (with_reducible repeat (first|apply Kd.fB|apply Kd.fA|apply Kd.gu));exact Kd.mG jS.out (fun k_ hk=>⟨trivial,fun e_=>hk e_⟩)));(case aS=>exact (aY (by repeat (first|(with_reducible first|exact HB.out|apply ai|apply ag|apply ah)|exact HB.out))));(case aL=>have:=WW.out;omega);intro afu Jb ho hb hg hat;rw [← WI.out] at ho;have dE:=af.mk (hb);have dL:=af.mk (ho);clear HB;clear jS;clear AO;have HB:=dE;have Xg:=dL;clear dE dL;clear ho hb hg hat))
                go_roundg k3
                case measure=>have:=nV.out;have:=Tv.out;have:=RH.out;omega
                case rel=>exact ⟨(U6),(wrap64 (kZ+1)),(wrap64 (uO+1)),(wrap64 (kZ+1)),(by first|rfl|(simp;done)|(simp [*];done)),(by first|rfl|(simp;done)|(simp [*];done)),(by first|rfl|(simp;done)|(simp [*];done)),H',⟨by have:=nV.out;have:=Tv.out;have:=RH.out;omega⟩,⟨by (with_reducible repeat (first|apply Kd.fB|apply Kd.fA|apply Kd.gu));exact Xg.out⟩,⟨by repeat (first|(with_reducible first|exact HB.out|apply ai|apply ag|apply ah)|exact HB.out)⟩⟩
               ·
                rw [if_neg c21] at H
                exact absurd H (by simp)
              ·
               rw [if_neg c20] at H
               have V5:decide (0 < (nY.length:Int))=false:=decide_eq_false c20
               have VZ:decide (0 < nY.length)=false:=decide_eq_false (by omega)
               clear c20
               have H':=af.mk H
               clear H
               obtain ⟨qX,qQ,Uy⟩:=Kd.dY AO.out
               subst Uy
               go_wp2
               go_roundg k3
               case measure=>have:=nV.out;have:=Tv.out;have:=RH.out;omega
               case rel=>exact ⟨(fE),(wrap64 (kZ+1)),(wrap64 (uO+1)),(wrap64 (kZ+1)),(by first|rfl|(simp;done)|(simp [*];done)),(by first|rfl|(simp;done)|(simp [*];done)),(by first|rfl|(simp;done)|(simp [*];done)),H',⟨by have:=nV.out;have:=Tv.out;have:=RH.out;omega⟩,⟨by (with_reducible repeat (first|apply Kd.fB|apply Kd.fA|apply Kd.gu));exact Kd.mG jS.out (fun _ hk=>trivial)⟩,⟨by repeat (first|(with_reducible first|exact HB.out|apply ai|apply ag|apply ah)|exact HB.out)⟩⟩
          ·
           rw [if_neg c11] at H
           exact absurd H (by simp)
         ·
          rw [if_neg c10] at H
          exact absurd H (by simp)
        ·
         rw [if_neg c9] at H
         exact absurd H (by simp)
    ·
     rw [if_neg c3] at H
     have J9:decide (kZ≤(a0.size:Int))=false:=decide_eq_false c3
     clear c3
     simp only [Option.some.injEq,Prod.mk.injEq] at H
     obtain ⟨rfl,rfl,rfl⟩:=H
     go_wp2
     go_ret3
     exact ⟨_,by first|rfl|(simp [bF,bD] <;> rfl)|(simp [*,bF,bD] <;> rfl),by (with_reducible repeat (first|apply Kd.fB|apply Kd.fA|apply Kd.gu));exact jS.out,by repeat (first|(with_reducible first|exact HB.out|apply ai|apply ag|apply ah)|exact HB.out)⟩
def bK.j0:Nat→List (List ByteArray)→Int→Bool→Bool→Option (ByteArray × Bool)
 | 0,_,_,_,_=>none
 | k+1,x0,x1,x3,x32=>if x32=true then (some ((⟨#[]⟩:ByteArray),false)) else (if 0≤x1 then (if x1 < (x0.length:Int) then (if 1 < ((fM x0 x1).length:Int) then (if x3=true then (if (eX ByteArray.empty (fM x0 x1) 1).toList=([45]:List UInt8) then (some ((⟨#[]⟩:ByteArray),true)) else ((bW.f k (eX ByteArray.empty (fM x0 x1) 1)).bind fun acL=>(some (eX ByteArray.empty (fM x0 x1) 1,acL)))) else ((bW.f k (eX ByteArray.empty (fM x0 x1) 1)).bind fun acK=>(some (eX ByteArray.empty (fM x0 x1) 1,acK)))) else (none)) else (none)) else (none))
def bK.f (k:Nat) (l0:List (List ByteArray)) (a1:Int) (a2:ByteArray) (a3:Bool):Option (ByteArray × Bool):=if a1 ≥ (l0.length:Int) then (bK.j0 k l0 a1 a3 true) else (if 0≤a1 then (if a1 < (l0.length:Int) then (if ((fM l0 a1).length:Int)=2 then (if 0 < ((fM l0 a1).length:Int) then (bK.j0 k l0 a1 a3 ((eX ByteArray.empty (fM l0 a1) 0).toList != a2.toList)) else (none)) else (bK.j0 k l0 a1 a3 true)) else (none)) else (none))
theorem bK.fC:∀ k,(∀ y0 y1 y2 y3,bV (bK.j0 k y0 y1 y2 y3) (bK.j0 (k+1) y0 y1 y2 y3))
 | 0=>fun _ _ _ _ r h=>by simp [bK.j0] at h
 | k+1=>by
  have iU:=bK.fC k
  ·
   intro y0 y1 y2 y3
   unfold bK.j0
   repeat' with_reducible first|apply iU|apply bW.mono|exact bV.refl _|exact bV.none _|refine bV.ite ?_ ?_|refine bV.bind ?_ (fun _=>?_)
theorem bK.mono:∀ a0 a1 a2 a3 k,bV (bK.f k a0 a1 a2 a3) (bK.f (k+1) a0 a1 a2 a3):=by
 intro a0 a1 a2 a3 k
 have iU:=bK.fC k
 unfold bK.f
 repeat' with_reducible first|apply iU|apply bW.mono|exact bV.refl _|exact bV.none _|refine bV.ite ?_ ?_|refine bV.bind ?_ (fun _=>?_)
end Go.Proofs.YtkclndkbccbhaaaGreatDoor.P
end
