/- Parts of the proof of CodePrints: what the functions that it reaches compute, and plain facts about that. -/
import Derived.Test.YtkclndkbccbhaaaGreatDoorUar
import Derived.Test.YtkclndkbccbhaaaGreatDoorUas
set_option linter.unusedVariables false
set_option linter.unusedSimpArgs false
section
namespace Go.Proofs.YtkclndkbccbhaaaGreatDoor.P
open Go Go.RowKit Go.Proofs.ag.bJ Go.Proofs.ag.eX Go.Proofs.ag.gp
def Vf (w:List UInt8):Bool:=if w=[] then true else Oh w
theorem OV (b:UInt8):(b != 45 && IA b)=CY b:=by
  have h:∀ n:Fin 256,((UInt8.ofNat n.val) != 45 && IA (UInt8.ofNat n.val))=CY (UInt8.ofNat n.val):=by decide +kernel
  have:=h ⟨b.toNat,b.toNat_lt⟩
  simpa using this
theorem O4 (w:List UInt8):(w.all (· != 45) && Vf w)=CW w:=by
  have h:∀ l:List UInt8,(l.all (· != 45) && l.all IA)=l.all CY:=by
    intro l
    induction l with
    | nil=>rfl
    | cons b r ih =>
      rw [List.all_cons,List.all_cons,List.all_cons,← ih,← OV]
      cases (b != 45) <;> cases IA b <;> cases r.all (· != 45) <;> cases r.all IA <;> rfl
  unfold Vf CW Oh
  rw [← h]
  by_cases e:w=[]
  · subst e
    rfl
  · rw [if_neg e]
    have:1≤w.length:=by
      cases hq:w with
      | nil=>exact absurd hq e
      | cons a b=>simp
    rw [decide_eq_true this]
    cases w.all (· != 45) <;> cases w.all IA <;> cases decide (w.length≤30) <;> rfl
theorem AB (w:List UInt8) (hw:w.length≤140737488355328):∀ (d i:Nat),i+d=w.length →
    Ev (fun k=>aK.l0 k (Bs w) (i:Int)) ((w.drop i).all (· != 45) && Vf w)
  | 0,i,hi=>by
    rw [List.drop_eq_nil_of_le (by omega),List.all_nil,Bool.true_and]
    unfold Vf
    by_cases e:w=[]
    · rw [if_pos e]
      refine Ev.step (f:=fun _=>some true) (fun k=>?_) (Ev.now _)
      simp only [aK.l0]
      rw [ig,if_neg (by omega),if_pos (by rw [nG];exact e)]
    · rw [if_neg e]
      refine Ev.step (f:=fun k=>(bF.f k (Bs w)).bind fun t=>some t) (fun k=>?_) (Ev.bind (Xn w hw) (Ev.now _))
      simp only [aK.l0]
      rw [ig,if_neg (by omega),if_neg (by rw [nG];exact e)]
  | d+1,i,hi=>by
    have hlt:i < w.length:=by omega
    have ih:=AB w hw d (i+1) (by omega)
    rw [vU _ w i hlt]
    have Jw:∀ k,aK.l0 (k+1) (Bs w) (i:Int)=if (w[i].toNat:Int)=45 then some false else aK.l0 k (Bs w) ((i+1:Nat):Int):=by
      intro k
      conv=>lhs;simp only [aK.l0]
      rw [ig,if_pos (by omega),if_pos (by omega),Bz _ _ _ (List.getElem?_eq_getElem hlt),jA i (by omega)]
    by_cases e:w[i]=45
    · rw [show (w[i] != 45)=false from by rw [e];rfl,Bool.false_and,Bool.false_and]
      exact Ev.step (f:=fun _=>some false) (fun k=>by rw [Jw k,if_pos (by rw [e];rfl)]) (Ev.now _)
    · rw [show (w[i] != 45)=true from bne_iff_ne.2 e,Bool.true_and]
      refine Ev.step (fun k=>?_) ih
      rw [Jw k,if_neg]
      intro q
      apply e
      apply UInt8.toNat_inj.1
      have:(45:UInt8).toNat=45:=rfl
      omega
theorem xJ (s:ByteArray) (hs:s.size≤140737488355328):Ev (fun k=>aK.f k s) (nH s):=by
  have h:=AB s.data.toList (by rw [← size_data];exact hs) s.data.toList.length 0 (Nat.zero_add _)
  rw [List.drop_zero,O4,tq] at h
  exact h
theorem JC (ts:List ByteArray) (lo gl:ByteArray) (cs:List jZ) (hc:cs.length≤140737488355328) (hw:∀ x ∈ cs,I7 x) (hlo:lo.size≤140737488355328) (hgl:gl.size≤140737488355328):∀ (d i:Nat),i+d=cs.length →
    Ev (fun k=>bf.l1 k (i:Int) ts lo gl cs) ((cs.drop i).all jI && (nH lo && (nH gl && decide (cs.length≤200))))
  | 0,i,hi=>by
    rw [List.drop_eq_nil_of_le (by omega),List.all_nil,Bool.true_and]
    refine Ev.step (f:=fun k=>(aK.f k lo).bind fun a=>if a=true then ((aK.f k gl).bind fun b=>if b=true then some (decide ((cs.length:Int)≤200)) else some false) else some false) (fun k=>?_) (Ev.bind (xJ lo hlo) ?_)
    · conv=>lhs;simp only [bf.l1]
      rw [if_neg (by omega)]
    · cases nH lo with
      | false=>exact Ev.now _
      | true =>
        rw [Bool.true_and]
        refine Ev.congr (fun k=>if_pos rfl) (Ev.bind (xJ gl hgl) ?_)
        cases nH gl with
        | false=>exact Ev.now _
        | true =>
          rw [Bool.true_and]
          refine Ev.congr (f:=fun _=>some (decide (cs.length≤200))) (fun k=>(if_pos rfl).trans ?_) (Ev.now _)
          congr 2
          exact propext (by omega)
  | d+1,i,hi=>by
    have hlt:i < cs.length:=by omega
    have ih:=JC ts lo gl cs hc hw hlo hgl d (i+1) (by omega)
    have hr:=CG cs[i] (hw _ (List.getElem_mem hlt))
    rw [vU jI cs i hlt]
    refine Ev.step (f:=fun k=>(bK.f k cs[i].f0 cs[i].f1 cs[i].f2 cs[i].f3 cs[i].f4).bind fun t=>if t=true then bf.l1 k ((i+1:Nat):Int) ts lo gl cs else some false) (fun k=>?_) (Ev.bind hr ?_)
    · conv=>lhs;simp only [bf.l1]
      rw [if_pos (by omega),if_pos (by omega),zJ cs i hlt,jA i (by omega)]
    · cases jI cs[i] with
      | true =>
        rw [Bool.true_and]
        exact Ev.congr (fun k=>if_pos rfl) ih
      | false=>exact Ev.now _
theorem JD (ts:List ByteArray) (lo gl:ByteArray) (cs:List jZ) (ht:ts.length≤140737488355328) (hts:∀ s ∈ ts,s.size≤140737488355328) (hc:cs.length≤140737488355328) (hw:∀ x ∈ cs,I7 x) (hlo:lo.size≤140737488355328) (hgl:gl.size≤140737488355328):∀ (d i:Nat),i+d=ts.length →
    Ev (fun k=>bf.l0 k (i:Int) ts lo gl cs) ((ts.drop i).all Nl && (cs.all jI && (nH lo && (nH gl && decide (cs.length≤200)))))
  | 0,i,hi=>by
    have h:=JC ts lo gl cs hc hw hlo hgl cs.length 0 (Nat.zero_add _)
    rw [List.drop_zero] at h
    rw [List.drop_eq_nil_of_le (by omega),List.all_nil,Bool.true_and]
    refine Ev.step (fun k=>?_) h
    conv=>lhs;simp only [bf.l0]
    rw [if_neg (by omega)]
    rfl
  | d+1,i,hi=>by
    have hlt:i < ts.length:=by omega
    have ih:=JD ts lo gl cs ht hts hc hw hlo hgl d (i+1) (by omega)
    have hr:=xJ ts[i] (hts _ (List.getElem_mem hlt))
    rw [vU Nl ts i hlt]
    have Jw:∀ k,bf.l0 (k+1) (i:Int) ts lo gl cs=if ts[i].toList=[] then some false else (aK.f k ts[i]).bind fun t=>if t=true then bf.l0 k ((i+1:Nat):Int) ts lo gl cs else some false:=by
      intro k
      conv=>lhs;simp only [bf.l0]
      rw [if_pos (by omega),if_pos (by omega),vN ts i hlt,jA i (by omega)]
    unfold Nl
    by_cases e:ts[i].toList=[]
    · rw [decide_eq_false (by simpa using e),Bool.false_and,Bool.false_and]
      exact Ev.step (f:=fun _=>some false) (fun k=>by rw [Jw k,if_pos e]) (Ev.now _)
    · rw [decide_eq_true e,Bool.true_and]
      refine Ev.step (fun k=>by rw [Jw k,if_neg e]) (Ev.bind hr ?_)
      cases nH ts[i] with
      | true =>
        rw [Bool.true_and]
        exact Ev.congr (fun k=>if_pos rfl) ih
      | false=>exact Ev.now _
theorem YG (s:ByteArray):iq.f s=some (uZ s):=by
  unfold iq.f uZ
  split <;> rfl
theorem CJ (acc:List (List ByteArray)) (ts:List ByteArray) (lo gl:ByteArray) (cs:List jZ) (ha:acc.length≤1000002) (hc:cs.length≤1000000) (hr:∀ x ∈ cs,jI x=true) (hw:∀ x ∈ cs,I7 x) (r:ByteArray) (hj:Ev (fun k=>bg.f k (acc++cs.map qx)) r):∀ (d i:Nat),i+d=cs.length →
    Ev (fun k=>aH.l1 k (acc++(cs.take i).map qx) (i:Int) ts lo gl cs) (r,0)
  | 0,i,hi=>by
    rw [List.take_of_length_le (by omega)]
    refine Ev.step (f:=fun k=>(bg.f k (acc++cs.map qx)).bind fun t=>some (t,0)) (fun k=>?_) (Ev.bind hj (Ev.now _))
    conv=>lhs;simp only [aH.l1]
    rw [if_neg (by omega)]
  | d+1,i,hi=>by
    have hlt:i < cs.length:=by omega
    have ih:=CJ acc ts lo gl cs ha hc hr hw r hj d (i+1) (by omega)
    have hm:cs[i] ∈ cs:=List.getElem_mem hlt
    have hl:=Ov (hr _ hm) (hw _ hm)
    refine Ev.step (f:=fun k=>(aT.f k cs[i].f0 cs[i].f1 cs[i].f2 cs[i].f3 cs[i].f4).bind fun t=>aH.l1 k ((acc++(cs.take i).map qx)++[t]) ((i+1:Nat):Int) ts lo gl cs) (fun k=>?_) (Ev.bind hl ?_)
    · conv=>lhs;simp only [aH.l1]
      rw [if_pos (by omega),if_pos (by omega),zJ cs i hlt,jA i (by omega)]
      refine congrArg (Option.bind _) (funext fun t=>?_)
      rw [if_pos (by simp;omega)]
    · rw [wJ cs i hlt,List.map_append,← List.append_assoc] at ih
      exact ih
theorem CO (ts:List ByteArray) (lo gl:ByteArray) (cs:List jZ) (ht:ts.length≤1000000) (hc:cs.length≤1000000) (hr:∀ x ∈ cs,jI x=true) (hw:∀ x ∈ cs,I7 x) (r:ByteArray) (hj:Ev (fun k=>bg.f k (xI ts lo gl cs)) r):∀ (d i:Nat),i+d=ts.length →
    Ev (fun k=>aH.l0 k ((ts.take i).map CB) (i:Int) ts lo gl cs) (r,0)
  | 0,i,hi=>by
    have h:=CJ (ts.map CB++yM lo gl) ts lo gl cs (by simp [yM];omega) hc hr hw r hj cs.length 0 (Nat.zero_add _)
    rw [List.take_zero,List.map_nil,List.append_nil] at h
    refine Ev.step (fun k=>?_) h
    conv=>lhs;simp only [aH.l0]
    rw [if_neg (by omega),YG,YG,Option.bind_some,Option.bind_some,Option.bind_some,if_pos (by simp;omega),List.take_of_length_le (by omega)]
    rfl
  | d+1,i,hi=>by
    have hlt:i < ts.length:=by omega
    have ih:=CO ts lo gl cs ht hc hr hw r hj d (i+1) (by omega)
    refine Ev.step (fun k=>?_) ih
    conv=>lhs;simp only [aH.l0]
    rw [if_pos (by omega),if_pos (by omega),if_pos (by simp;omega),vN ts i hlt,jA i (by omega),wJ ts i hlt,List.map_append]
    rfl
theorem Ou {ts:List ByteArray} {lo gl:ByteArray} {cs:List jZ} (ht:ts.length≤140737488355328) (hts:∀ s ∈ ts,s.size≤140737488355328) (hc:cs.length≤140737488355328) (hw:∀ x ∈ cs,I7 x) (hlo:lo.size≤140737488355328) (hgl:gl.size≤140737488355328) (hs:vP ts lo gl cs=true→sizes ts≤500) :
    Ev (fun k=>aH.f k ts lo gl cs) (if vP ts lo gl cs=true then (zX ts lo gl cs,0) else (⟨#[]⟩,2)):=by
  have hm:=JD ts lo gl cs ht hts hc hw hlo hgl ts.length 0 (Nat.zero_add _)
  rw [List.drop_zero] at hm
  have hm':Ev (fun k=>bf.f k ts lo gl cs) (vP ts lo gl cs):=hm
  unfold aH.f
  refine Ev.bind hm' ?_
  cases h:vP ts lo gl cs with
  | false=>exact Ev.now _
  | true =>
    have hk:=Az.1 h
    have h5:=hs h
    have tl:=wI ts hk.typ
    have tt:=Ol hk hw h5
    have hj:=Ox (LA ts lo gl cs) (by omega)
    rw [EX,← FP] at hj
    have h0:=CO ts lo gl cs (by omega) (by have:=hk.few;omega) hk.ins hw _ hj ts.length 0 (Nat.zero_add _)
    rw [List.take_zero,List.map_nil] at h0
    exact Ev.congr (fun k=>if_pos rfl) h0
end Go.Proofs.YtkclndkbccbhaaaGreatDoor.P
end
