/- Parts of the proof of CodeBack: what the functions that it reaches compute, and plain facts about that. -/
import Derived.Test.YtkclndkbccbhaaaDoorVam
import Derived.Test.YtkclndkbccbhaaaDoorVan
set_option linter.unusedVariables false
set_option linter.unusedSimpArgs false
section
namespace Go.Proofs.YtkclndkbccbhaaaDoor.P
open Go Go.RowKit Go.Proofs.ay.bY Go.Proofs.ay.fJ Go.Proofs.ay.gG
theorem Ui (t1:List ByteArray) (lo1 qM:ByteArray) (c1:List iZ) (t2:List ByteArray) (lo2 vF:ByteArray) (c2:List iZ) (ht1:t1.length≤140737488355328) (hc1:c1.length≤140737488355328) (hw1:Wf c1) (ht2:t2.length≤140737488355328) (hc2:c2.length≤140737488355328) (hw2:Wf c2) (hf1:H7 t1 lo1 qM c1=true) (hf2:H7 t2 lo2 vF c2=true) :
    Ev (fun k=>aW.j0 k false t1 lo1 qM c1 t2 lo2 vF c2) true:=by
  have p1:=printed ht1 hc1 hw1 fun h=>uF ht1 (sV.1 h) hf1
  have p2:=printed ht2 hc2 hw2 fun h=>uF ht2 (sV.1 h) hf2
  refine Ev.step (fun k=>by simp only [aW.j0];rw [if_neg (by simp)]) ?_
  refine Ev.bind p1 (Ev.bind p2 ?_)
  by_cases m1:wC t1 lo1 qM c1=true
  · have k1:=sV.1 m1
    have q1:=zu k1 hw1 (uF ht1 k1 hf1)
    simp only [m1,if_true]
    refine Ev.bind q1 ?_
    simp only [if_true]
    refine Ev.bind (J4 t1 lo1 qM c1 hc1 ht1) ?_
    simp only [if_true]
    by_cases m2:wC t2 lo2 vF c2=true
    · have k2:=sV.1 m2
      have q2:=zu k2 hw2 (uF ht2 k2 hf2)
      simp only [m2,if_true]
      obtain ⟨b,hb,hbi⟩:=IK t1 lo1 qM c1 t2 lo2 vF c2 hc1 ht1
      refine Ev.bind hb ?_
      have e:((vY t1 lo1 qM c1).toList == (vY t2 lo2 vF c2).toList)=b:=by
        rw [Bool.eq_iff_iff,beq_iff_eq,hbi,toList_inj]
        constructor
        · intro h
          rw [h] at q1
          obtain ⟨K1,q1⟩:=q1
          obtain ⟨K2,q2⟩:=q2
          have:=(q1 (max K1 K2) (Nat.le_max_left _ _)).symm.trans (q2 (max K1 K2) (Nat.le_max_right _ _))
          simp only [Option.some.injEq,Prod.mk.injEq] at this
          exact ⟨this.1,this.2.1,this.2.2.1,this.2.2.2.1⟩
        · rintro ⟨rfl,rfl,rfl,rfl⟩
          rfl
      rw [e]
      simp only [beq_self_eq_true]
      exact Ev.now _
    · simp only [if_neg m2]
      exact Ev.now _
  · simp only [if_neg m1]
    refine Ev.congr (f:=fun _=>some true) (fun k=>?_) (Ev.now _)
    rw [if_neg (by decide),if_pos (by decide +kernel)]
    rfl
theorem O4 (t1:List ByteArray) (lo1 qM:ByteArray) (c1:List iZ) (t2:List ByteArray) (lo2 vF:ByteArray) (c2:List iZ) (ht1:t1.length≤140737488355328) (hc1:c1.length≤140737488355328) (hw1:Wf c1) (ht2:t2.length≤140737488355328) (hc2:c2.length≤140737488355328) (hw2:Wf c2) :
    Ev (fun k=>aW.f k t1 lo1 qM c1 t2 lo2 vF c2) true:=by
  have no:Ev (fun k=>aW.j0 k true t1 lo1 qM c1 t2 lo2 vF c2) true :=
    Ev.step (f:=fun _=>some true) (fun k=>by simp only [aW.j0];rw [if_pos trivial]) (Ev.now _)
  unfold aW.f
  refine Ev.bind O5 (Ev.congr (fun k=>if_pos rfl) ?_)
  refine Ev.bind (Oz t1 lo1 qM c1 ht1) ?_
  cases hf1:H7 t1 lo1 qM c1 with
  | false=>exact no
  | true =>
    refine Ev.congr (fun k=>if_pos rfl) ?_
    refine Ev.bind (Oz t2 lo2 vF c2 ht2) ?_
    cases hf2:H7 t2 lo2 vF c2 with
    | false=>exact no
    | true=>exact Ui t1 lo1 qM c1 t2 lo2 vF c2 ht1 hc1 hw1 ht2 hc2 hw2 hf1 hf2
end Go.Proofs.YtkclndkbccbhaaaDoor.P
end
