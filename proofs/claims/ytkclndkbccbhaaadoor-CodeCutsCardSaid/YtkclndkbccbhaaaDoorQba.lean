/- Parts of the proof of Both: what the functions that it reaches compute, and plain facts about that. -/
import Derived.Test.YtkclndkbccbhaaaDoorQac
import Derived.Test.YtkclndkbccbhaaaDoorQad
import Derived.Test.YtkclndkbccbhaaaDoorQaf
import Derived.Test.YtkclndkbccbhaaaDoorQag
import Derived.Test.YtkclndkbccbhaaaDoorQaj
import Derived.Test.YtkclndkbccbhaaaDoorQal
import Derived.Test.YtkclndkbccbhaaaDoorQam
set_option linter.unusedVariables false
set_option linter.unusedSimpArgs false
section
namespace Go.Proofs.YtkclndkbccbhaaaDoor.P
open Go.RowKit Go.Proofs.az.dw Go.Proofs.az.gB Go.Proofs.az.gX
attribute [local go_sem] pW pU su rZ oh nZ pV pR
mutual
def aY.j0:Nat→ByteArray→Bool→List ByteArray→ByteArray→ByteArray→List (jo)→Option (Bool)
  | 0,_,_,_,_,_,_=>none
  | k+1,x3,x30,vS,Ag,Af,mi=>if x30=true then (some true) else (aY.l0 k x3 (wrap64 ((x3.size:Int) - 1)) vS Ag Af mi)
def aY.l0:Nat→ByteArray→Int→List ByteArray→ByteArray→ByteArray→List (jo)→Option (Bool)
  | 0,_,_,_,_,_,_=>none
  | k+1,x3,x5,vS,Ag,Af,mi=>if x5 > 0 then (if 0≤(wrap64 (x5 - 1)) then (if (wrap64 (x5 - 1)) < (x3.size:Int) then (if (bt x3 (wrap64 (x5 - 1)))=10 then (if 0≤x5 then (if x5≤(x3.size:Int) then ((cu.f k (x3.extract 0 (x5:Int).toNat)).bind fun yl=>(if 0≤(wrap64 ((mi.length:Int) - 1)) then (if (wrap64 ((mi.length:Int) - 1))≤(mi.length:Int) then (if x3.size+4≤9223372036854775807 then ((cu.f k (x3++(⟨#[119,104,97,116]⟩:ByteArray))).bind fun uP=>(if yl.2.2.2.2.2=0 then ((aH.f k yl.1 yl.2.1 yl.2.2.1 yl.2.2.2.1 vS Ag Af (mi.take ((wrap64 ((mi.length:Int) - 1)):Int).toNat)).bind fun Az=>(if Az=true then (if uP.2.2.2.2.2=4 then (some (uP.2.2.2.2.1 == (wrap64 ((wrap64 ((vS.length:Int)+3))+(mi.length:Int))))) else (some false)) else (some false))) else (some false))) else (none)) else (none)) else (none))) else (none)) else (none)) else (aY.l0 k x3 (wrap64 (x5 - 1)) vS Ag Af mi)) else (none)) else (none)) else (if 0≤x5 then (if x5≤(x3.size:Int) then ((cu.f k (x3.extract 0 (x5:Int).toNat)).bind fun Me=>(if 0≤(wrap64 ((mi.length:Int) - 1)) then (if (wrap64 ((mi.length:Int) - 1))≤(mi.length:Int) then (if x3.size+4≤9223372036854775807 then ((cu.f k (x3++(⟨#[119,104,97,116]⟩:ByteArray))).bind fun yj=>(if Me.2.2.2.2.2=0 then ((aH.f k Me.1 Me.2.1 Me.2.2.1 Me.2.2.2.1 vS Ag Af (mi.take ((wrap64 ((mi.length:Int) - 1)):Int).toNat)).bind fun Dl=>(if Dl=true then (if yj.2.2.2.2.2=4 then (some (yj.2.2.2.2.1 == (wrap64 ((wrap64 ((vS.length:Int)+3))+(mi.length:Int))))) else (some false)) else (some false))) else (some false))) else (none)) else (none)) else (none))) else (none)) else (none))
end
def aY.f (k:Nat) (aU:List ByteArray) (aX:ByteArray) (aZ:ByteArray) (aI:List (jo)):Option (Bool):=(di.f k).bind fun t234=>(if t234=true then ((bK.f k aU aX aZ aI).bind fun t235=>(if t235=true then ((bH.f k aU aX aZ aI).bind fun nV=>(if nV.2=0 then (aY.j0 k nV.1 ((aI.length:Int) == 0) aU aX aZ aI) else (aY.j0 k nV.1 true aU aX aZ aI))) else (some true))) else (some false))
theorem aY.lX:∀ k,(∀ y0 y1 y2 y3 y4 y5,iw (aY.j0 k y0 y1 y2 y3 y4 y5) (aY.j0 (k+1) y0 y1 y2 y3 y4 y5))∧(∀ y0 y1 y2 y3 y4 y5,iw (aY.l0 k y0 y1 y2 y3 y4 y5) (aY.l0 (k+1) y0 y1 y2 y3 y4 y5))
  | 0=>⟨fun _ _ _ _ _ _ r h=>by simp [aY.j0] at h,fun _ _ _ _ _ _ r h=>by simp [aY.l0] at h⟩
  | k+1=>by
    obtain ⟨qW,ih1⟩:=aY.lX k
    refine ⟨?_,?_⟩
    · intro y0 y1 y2 y3 y4 y5
      unfold aY.j0
      repeat' first
      | (with_reducible exact qW _ _ _ _ _ _)
      | (with_reducible exact ih1 _ _ _ _ _ _)
      | (with_reducible exact cu.mono _ _)
      | (with_reducible exact bH.mono _ _ _ _ _)
      | (with_reducible exact bK.mono _ _ _ _ _)
      | (with_reducible exact di.mono _)
      | (with_reducible exact aH.mono _ _ _ _ _ _ _ _ _)
      | (with_reducible exact iw.refl _)
      | (with_reducible exact iw.none _)
      | (with_reducible refine iw.ite ?_ ?_)
      | (with_reducible refine iw.bind ?_ (fun _=>?_))
      | exact qW _ _ _ _ _ _
      | exact ih1 _ _ _ _ _ _
      | exact cu.mono _ _
      | exact bH.mono _ _ _ _ _
      | exact bK.mono _ _ _ _ _
      | exact di.mono _
      | exact aH.mono _ _ _ _ _ _ _ _ _
      | exact iw.none _
      | refine iw.ite ?_ ?_
      | refine iw.bind ?_ (fun _=>?_)
    · intro y0 y1 y2 y3 y4 y5
      unfold aY.l0
      repeat' first
      | (with_reducible exact qW _ _ _ _ _ _)
      | (with_reducible exact ih1 _ _ _ _ _ _)
      | (with_reducible exact cu.mono _ _)
      | (with_reducible exact bH.mono _ _ _ _ _)
      | (with_reducible exact bK.mono _ _ _ _ _)
      | (with_reducible exact di.mono _)
      | (with_reducible exact aH.mono _ _ _ _ _ _ _ _ _)
      | (with_reducible exact iw.refl _)
      | (with_reducible exact iw.none _)
      | (with_reducible refine iw.ite ?_ ?_)
      | (with_reducible refine iw.bind ?_ (fun _=>?_))
      | exact qW _ _ _ _ _ _
      | exact ih1 _ _ _ _ _ _
      | exact cu.mono _ _
      | exact bH.mono _ _ _ _ _
      | exact bK.mono _ _ _ _ _
      | exact di.mono _
      | exact aH.mono _ _ _ _ _ _ _ _ _
      | exact iw.none _
      | refine iw.ite ?_ ?_
      | refine iw.bind ?_ (fun _=>?_)
theorem aY.mono:∀ a0 a1 a2 a3 k,iw (aY.f k a0 a1 a2 a3) (aY.f (k+1) a0 a1 a2 a3):=by
  intro a0 a1 a2 a3 k
  obtain ⟨qW,ih1⟩:=aY.lX k
  unfold aY.f
  repeat' first
      | (with_reducible exact qW _ _ _ _ _ _)
      | (with_reducible exact ih1 _ _ _ _ _ _)
      | (with_reducible exact cu.mono _ _)
      | (with_reducible exact bH.mono _ _ _ _ _)
      | (with_reducible exact bK.mono _ _ _ _ _)
      | (with_reducible exact di.mono _)
      | (with_reducible exact aH.mono _ _ _ _ _ _ _ _ _)
      | (with_reducible exact iw.refl _)
      | (with_reducible exact iw.none _)
      | (with_reducible refine iw.ite ?_ ?_)
      | (with_reducible refine iw.bind ?_ (fun _=>?_))
      | exact qW _ _ _ _ _ _
      | exact ih1 _ _ _ _ _ _
      | exact cu.mono _ _
      | exact bH.mono _ _ _ _ _
      | exact bK.mono _ _ _ _ _
      | exact di.mono _
      | exact aH.mono _ _ _ _ _ _ _ _ _
      | exact iw.none _
      | refine iw.ite ?_ ?_
      | refine iw.bind ?_ (fun _=>?_)
end Go.Proofs.YtkclndkbccbhaaaDoor.P
end
