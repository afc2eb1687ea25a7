/- Parts of the proof of CodePrints: what the functions that it reaches compute, and plain facts about that. -/
import Derived.Test.YtkclndkbccbhaaaGreatDoorUad
import Derived.Test.YtkclndkbccbhaaaGreatDoorUae
import Derived.Test.YtkclndkbccbhaaaGreatDoorUaf
import Derived.Test.YtkclndkbccbhaaaGreatDoorUag
import Derived.ChangeMaps4
import Derived.Deep.MidRow
import Derived.Test.YtkclndkbccbhaaaGreatDoorUac
set_option linter.unusedVariables false
set_option linter.unusedSimpArgs false
section
namespace Go.Proofs.YtkclndkbccbhaaaGreatDoor.P
open Go Go.RowKit Go.Proofs.ag.bJ Go.Proofs.ag.eX Go.Proofs.ag.gp
def CY (b:UInt8):Bool:=decide (97≤b.toNat∧b.toNat≤122) || decide (48≤b.toNat∧b.toNat≤57)
def CW (w:List UInt8):Bool:=decide (w.length≤30) && w.all CY
def nH (s:ByteArray):Bool:=CW s.data.toList
theorem CX:∀ b:UInt8,([97,98,99,100,101,102,103,104,105,106,107,108,109,110,111,112,113,114,115,116,117,118,119,120,121,122,48,49,50,51,52,53,54,55,56,57]:List UInt8).contains b=CY b:=by
  intro b
  have h:∀ n:Fin 256,([97,98,99,100,101,102,103,104,105,106,107,108,109,110,111,112,113,114,115,116,117,118,119,120,121,122,48,49,50,51,52,53,54,55,56,57]:List UInt8).contains (UInt8.ofNat n.val)=CY (UInt8.ofNat n.val):=by decide +kernel
  have:=h ⟨b.toNat,b.toNat_lt⟩
  simpa using this
theorem SB (w:List UInt8):gu.f (Bs w)=some (CW w):=by
  unfold gu.f CW
  rw [ig]
  by_cases hl:w.length≤30
  · rw [if_pos (by omega)]
    unfold jc.f
    rw [if_pos ⟨by rw [ig];omega,by decide,by decide +kernel⟩]
    simp only [Option.bind_some]
    congr 1
    rw [decide_eq_true hl,Bool.true_and,Bool.eq_iff_iff,beq_iff_eq,ByteArray.toList_eq,List.all_eq_true]
    show Lib.trimS w [97,98,99,100,101,102,103,104,105,106,107,108,109,110,111,112,113,114,115,116,117,118,119,120,121,122,48,49,50,51,52,53,54,55,56,57]=[] ↔ _
    rw [CE]
    constructor
    · intro h x hx
      rw [← CX]
      exact h x hx
    · intro h x hx
      rw [CX]
      exact h x hx
  · rw [if_neg (by omega),decide_eq_false hl,Bool.false_and]
theorem IB (s:ByteArray):gu.f s=some (nH s):=by
  have h:=SB s.data.toList
  rw [tq] at h
  exact h
def jI (x:jZ):Bool:=(eu.f x.f0 x.f1 x.f2 x.f3 x.f4).getD false
theorem Ie (a b c d e:Int):∃ r,eu.f a b c d e=some r:=by
  unfold eu.f
  split
  · exact ⟨_,rfl⟩
  · split <;> exact ⟨_,rfl⟩
theorem JE (x:jZ):eu.f x.f0 x.f1 x.f2 x.f3 x.f4=some (jI x):=by
  obtain ⟨r,hr⟩:=Ie x.f0 x.f1 x.f2 x.f3 x.f4
  unfold jI
  rw [hr]
  rfl
theorem CP {x:jZ} (h:jI x=true):1≤x.f0∧x.f0≤15:=by
  unfold jI eu.f at h
  split at h
  · cases h
  · split at h
    · cases h
    · omega
def Nl (s:ByteArray):Bool:=decide (s.toList ≠ []) && nH s
def vP (ts:List ByteArray) (lo gl:ByteArray) (cs:List jZ):Bool:=ts.all Nl && (cs.all jI && (nH lo && (nH gl && decide (cs.length≤200))))
theorem vN (a:List ByteArray) (i:Nat) (h:i < a.length):gI ByteArray.empty a (i:Int)=a[i]:=RY a i _ (List.getElem?_eq_getElem h)
theorem zJ (a:List jZ) (i:Nat) (h:i < a.length):aZ a (i:Int)=a[i]:=by
  unfold aZ
  rw [Int.toNat_natCast,List.getD_eq_getElem?_getD,List.getElem?_eq_getElem h]
  rfl
theorem vU {α:Type} (p:α→Bool) (l:List α) (i:Nat) (h:i < l.length):(l.drop i).all p=(p l[i] && (l.drop (i+1)).all p):=by
  rw [List.drop_eq_getElem_cons h,List.all_cons]
theorem O1 (ts:List ByteArray) (lo gl:ByteArray) (cs:List jZ) (hc:cs.length≤140737488355328):∀ (d i:Nat),i+d=cs.length →
    Ev (fun k=>dX.l1 k cs ((cs.length:Nat):Int) (i:Int) ts lo gl cs) ((cs.drop i).all jI && (nH lo && (nH gl && decide (cs.length≤200))))
  | 0,i,hi=>by
    refine Ev.step (f:=fun _=>some _) (fun k=>?_) (Ev.now _)
    simp only [dX.l1]
    rw [if_neg (by omega),IB,IB,Option.bind_some,List.drop_eq_nil_of_le (by omega)]
    cases nH lo with
    | false=>rfl
    | true =>
      rw [if_pos rfl,Option.bind_some]
      cases nH gl with
      | false=>rfl
      | true =>
        rw [if_pos rfl]
        simp
        omega
  | d+1,i,hi=>by
    have hlt:i < cs.length:=by omega
    have ih:=O1 ts lo gl cs hc d (i+1) (by omega)
    rw [vU jI cs i hlt]
    have Jw:∀ k,dX.l1 (k+1) cs ((cs.length:Nat):Int) (i:Int) ts lo gl cs=if jI cs[i]=true then dX.l1 k cs ((cs.length:Nat):Int) ((i+1:Nat):Int) ts lo gl cs else some false:=by
      intro k
      conv=>lhs;simp only [dX.l1]
      rw [if_pos (by omega),if_pos (by omega),if_pos (by omega),zJ cs i hlt,JE,Option.bind_some,jA i (by omega)]
    cases hr:jI cs[i] with
    | true =>
      rw [Bool.true_and]
      exact Ev.step (fun k=>by rw [Jw k,if_pos hr]) ih
    | false =>
      rw [Bool.false_and,Bool.false_and]
      exact Ev.step (f:=fun _=>some _) (fun k=>by rw [Jw k,if_neg (by rw [hr];simp)]) (Ev.now _)
theorem JI (ts:List ByteArray) (lo gl:ByteArray) (cs:List jZ) (ht:ts.length≤140737488355328) (hc:cs.length≤140737488355328):∀ (d i:Nat),i+d=ts.length →
    Ev (fun k=>dX.l0 k ts ((ts.length:Nat):Int) (i:Int) ts lo gl cs) ((ts.drop i).all Nl && (cs.all jI && (nH lo && (nH gl && decide (cs.length≤200)))))
  | 0,i,hi=>by
    have h:=O1 ts lo gl cs hc cs.length 0 (Nat.zero_add _)
    rw [List.drop_zero] at h
    rw [List.drop_eq_nil_of_le (by omega),List.all_nil,Bool.true_and]
    refine Ev.step (fun k=>?_) h
    simp only [dX.l0]
    rw [if_neg (by omega)]
    rfl
  | d+1,i,hi=>by
    have hlt:i < ts.length:=by omega
    have ih:=JI ts lo gl cs ht hc d (i+1) (by omega)
    rw [vU Nl ts i hlt]
    have Jw:∀ k,dX.l0 (k+1) ts ((ts.length:Nat):Int) (i:Int) ts lo gl cs=if Nl ts[i]=true then dX.l0 k ts ((ts.length:Nat):Int) ((i+1:Nat):Int) ts lo gl cs else some false:=by
      intro k
      conv=>lhs;simp only [dX.l0]
      rw [if_pos (by omega),if_pos (by omega),if_pos (by omega),vN ts i hlt,IB,Option.bind_some,jA i (by omega)]
      unfold Nl
      by_cases e:ts[i].toList=[]
      · rw [if_pos e,if_neg (by simp [e])]
      · rw [if_neg e]
        simp [e]
    cases hr:Nl ts[i] with
    | true =>
      rw [Bool.true_and]
      exact Ev.step (fun k=>by rw [Jw k,if_pos hr]) ih
    | false =>
      rw [Bool.false_and,Bool.false_and]
      exact Ev.step (f:=fun _=>some _) (fun k=>by rw [Jw k,if_neg (by rw [hr];simp)]) (Ev.now _)
theorem SA (ts:List ByteArray) (lo gl:ByteArray) (cs:List jZ) (ht:ts.length≤140737488355328) (hc:cs.length≤140737488355328):Ev (fun k=>dX.f k ts lo gl cs) (vP ts lo gl cs):=by
  have h:=JI ts lo gl cs ht hc ts.length 0 (Nat.zero_add _)
  rw [List.drop_zero] at h
  exact h
def uZ (s:ByteArray):ByteArray:=if s.toList=[] then ⟨#[45]⟩ else s
theorem Qw (s:ByteArray):mJ.f s=some (uZ s):=by
  unfold mJ.f uZ
  split <;> rfl
def Wf (cs:List jZ):Prop:=∀ x ∈ cs,(0≤x.f1∧x.f1≤255)∧(0≤x.f2∧x.f2≤255)∧(0≤x.f3∧x.f3≤255)∧(-9223372036854775808≤x.f4∧x.f4≤9223372036854775807)
def qx (x:jZ):List ByteArray:=xE x.f0.toNat x.f1 x.f2 x.f3 x.f4
theorem Rt {x:jZ} (h:jI x=true) (hw:(0≤x.f1∧x.f1≤255)∧(0≤x.f2∧x.f2≤255)∧(0≤x.f3∧x.f3≤255)∧(-9223372036854775808≤x.f4∧x.f4≤9223372036854775807)):oL.f x.f0 x.f1 x.f2 x.f3 x.f4=some (qx x):=by
  unfold oL.f
  rw [if_pos ⟨CP h,hw⟩]
  rfl
def yM (lo gl:ByteArray):List (List ByteArray):=[[⟨#[108,111,99,97,108,115]⟩,uZ lo],[⟨#[103,108,111,98,97,108,115]⟩,uZ gl]]
def CB (s:ByteArray):List ByteArray:=[⟨#[116,121,112,101]⟩,s]
def xI (ts:List ByteArray) (lo gl:ByteArray) (cs:List jZ):List (List ByteArray):=ts.map CB++yM lo gl++cs.map qx
def zX (ts:List ByteArray) (lo gl:ByteArray) (cs:List jZ):ByteArray:=Bs (oM (xI ts lo gl cs))
theorem wJ {α:Type} (l:List α) (i:Nat) (h:i < l.length):l.take (i+1)=l.take i++[l[i]]:=List.take_succ_eq_append_getElem h
theorem F5 (acc:List (List ByteArray)) (ha:acc.length≤1000002) (cs:List jZ) (hc:cs.length≤1000000) (hr:∀ x ∈ cs,jI x=true) (hw:Wf cs) (r:ByteArray) (hj:mi.f (acc++cs.map qx)=some r):∀ (d i:Nat),i+d=cs.length →
    Ev (fun k=>bI.l1 k (acc++(cs.take i).map qx) cs ((cs.length:Nat):Int) (i:Int)) (r,0)
  | 0,i,hi=>by
    refine Ev.step (f:=fun _=>some _) (fun k=>?_) (Ev.now _)
    simp only [bI.l1]
    rw [if_neg (by omega),List.take_of_length_le (by omega),hj,Option.bind_some]
  | d+1,i,hi=>by
    have hlt:i < cs.length:=by omega
    have ih:=F5 acc ha cs hc hr hw r hj d (i+1) (by omega)
    refine Ev.step (fun k=>?_) ih
    have hm:cs[i] ∈ cs:=List.getElem_mem hlt
    conv=>lhs;simp only [bI.l1]
    rw [if_pos (by omega),if_pos (by omega),if_pos (by omega),zJ cs i hlt,Rt (hr _ hm) (hw _ hm),Option.bind_some,if_pos (by simp;omega),jA i (by omega),wJ cs i hlt,List.map_append,List.append_assoc]
    rfl
theorem F6 (ts:List ByteArray) (lo gl:ByteArray) (cs:List jZ) (ht:ts.length≤1000000) (hc:cs.length≤1000000) (hr:∀ x ∈ cs,jI x=true) (hw:Wf cs) (r:ByteArray) (hj:mi.f (xI ts lo gl cs)=some r):∀ (d i:Nat),i+d=ts.length →
    Ev (fun k=>bI.l0 k ((ts.take i).map CB) ts ((ts.length:Nat):Int) (i:Int) ts lo gl cs) (r,0)
  | 0,i,hi=>by
    have h:=F5 (ts.map CB++yM lo gl) (by simp [yM];omega) cs hc hr hw r hj cs.length 0 (Nat.zero_add _)
    rw [List.take_zero,List.map_nil,List.append_nil] at h
    refine Ev.step (fun k=>?_) h
    simp only [bI.l0]
    rw [if_neg (by omega),Qw,Qw,Option.bind_some,Option.bind_some,Option.bind_some,if_pos (by simp;omega),List.take_of_length_le (by omega)]
    rfl
  | d+1,i,hi=>by
    have hlt:i < ts.length:=by omega
    have ih:=F6 ts lo gl cs ht hc hr hw r hj d (i+1) (by omega)
    refine Ev.step (fun k=>?_) ih
    conv=>lhs;simp only [bI.l0]
    rw [if_pos (by omega),if_pos (by omega),if_pos (by omega),if_pos (by simp;omega),vN ts i hlt,jA i (by omega),wJ ts i hlt,List.map_append]
    rfl
theorem OO (ts:List ByteArray) (lo gl:ByteArray) (cs:List jZ) (ht:ts.length≤140737488355328) (hc:cs.length≤140737488355328) (hw:Wf cs) (hj:vP ts lo gl cs=true→ts.length≤1000000∧mi.f (xI ts lo gl cs)=some (zX ts lo gl cs)) :
    Ev (fun k=>bI.f k ts lo gl cs) (if vP ts lo gl cs=true then (zX ts lo gl cs,0) else (⟨#[]⟩,2)):=by
  unfold bI.f
  refine Ev.bind (SA ts lo gl cs ht hc) ?_
  by_cases h:vP ts lo gl cs=true
  · rw [if_pos h]
    have hr:∀ x ∈ cs,jI x=true:=by
      unfold vP at h
      simp only [Bool.and_eq_true,List.all_eq_true] at h
      exact h.2.1
    have hc2:cs.length≤1000000:=by
      unfold vP at h
      simp only [Bool.and_eq_true,decide_eq_true_eq] at h
      omega
    have h0:=F6 ts lo gl cs (hj h).1 hc2 hr hw _ (hj h).2 ts.length 0 (Nat.zero_add _)
    rw [List.take_zero,List.map_nil] at h0
    have hm:vP ts lo gl cs=true:=h
    rw [hm]
    exact h0
  · have hf:vP ts lo gl cs=false:=by simpa using h
    rw [if_neg h,hf]
    exact Ev.now _
end Go.Proofs.YtkclndkbccbhaaaGreatDoor.P
end
section
namespace Go.Proofs.YtkclndkbccbhaaaGreatDoor.P
open Go.RowKit Go.MapKept Go.MapFrom Go.Proofs.ag.bJ Go.Proofs.ag.eX Go.Proofs.ag.gp
def setArg (ch:Nat) (v:Int) (x:Int × Int × Int × Int):Int × Int × Int × Int :=
  if ch=110 then (x.1,x.2.1,x.2.2.1,v) else if ch=97 then (v,x.2.1,x.2.2.1,x.2.2.2) else if ch=98 then (x.1,v,x.2.2.1,x.2.2.2) else (x.1,x.2.1,v,x.2.2.2)
def rQ:List UInt8→List ByteArray→Int × Int × Int × Int→Option (Option (Int × Int × Int × Int))
  | [],_,x=>some (some x)
  | _ :: _,[],_=>none
  | ch :: hs,w :: ws,x=>(qB.f w).bind fun r=>if r.2=0 then (if ch.toNat=110 then rQ hs ws (setArg 110 r.1 x) else if 0≤r.1∧r.1≤255 then rQ hs ws (setArg ch.toNat r.1 x) else some none) else some none
def JF (k:Int):Option (Int × Int × Int × Int)→Int × Int × Int × Int × Int × Bool
  | none=>(0,0,0,0,0,false)
  | some x=>(k,x.1,x.2.1,x.2.2.1,x.2.2.2,true)
def FY:Nat→Nat→List ByteArray→Option (Int × Int × Int × Int × Int × Bool)
  | 0,_,_=>some (0,0,0,0,0,false)
  | d+1,k,l=>if k=0 ∨ (nameOf k).toList ≠ (gI ByteArray.empty l 0).toList ∨ l.length ≠ (uh k).size+1 then FY d (k+1) l else (rQ (uh k).data.toList l.tail (0,0,0,0)).map (JF k)
def rH.f (l:List ByteArray):Option (Int × Int × Int × Int × Int × Bool):=if 0 < l.length then FY 16 0 l else none
def xH (bi:Nat):Nat→Array MapEntry
  | 0=>#[]
  | 1=>#[⟨.int .i32 97,.pointer (some ⟨bi,1,none⟩),0⟩]
  | 2=>#[⟨.int .i32 97,.pointer (some ⟨bi,1,none⟩),0⟩,⟨.int .i32 98,.pointer (some ⟨bi,2,none⟩),1⟩]
  | _=>#[⟨.int .i32 97,.pointer (some ⟨bi,1,none⟩),0⟩,⟨.int .i32 98,.pointer (some ⟨bi,2,none⟩),1⟩,⟨.int .i32 99,.pointer (some ⟨bi,3,none⟩),2⟩]
def o9 (w:World) (b:Nat) (o:Obj):World:={ w with heap:=w.heap.setIfInBounds b o }
theorem Ea (W:World) (bm bi j:Nat) (x:Int) (hx:x=((97+j:Nat):Int)) (hj:j < 3) (hm:W.heap[bm]? = some (.map (xH bi j) j)) :
    (Instr.mapUpdate 92 (.map (some bm)) (.int .i32 x) (.pointer (some ⟨bi,1+j,none⟩))).run Tryz.prog W=.ok () (o9 W bm (.map (xH bi (j+1)) (j+1))):=by
  have hu:Tryz.prog.underlying 92=some (.map 21 91):=by kernel_rfl
  have hk:Tryz.prog.underlying 21=some (.int .i32):=by kernel_rfl
  have hkey:IsKey (.int .i32) (.int .i32 x):=rfl
  have h1:Instr.findNow (.int .i32) (.int .i32 x) (xH bi j).toList 0=some none:=by
    obtain rfl|rfl|rfl:j=0 ∨ j=1 ∨ j=2:=by omega
    all_goals (subst hx;rfl)
  have h2:(xH bi j).push ⟨.int .i32 x,.pointer (some ⟨bi,1+j,none⟩),j⟩=xH bi (j+1):=by
    obtain rfl|rfl|rfl:j=0 ∨ j=1 ∨ j=2:=by omega
    all_goals (subst hx;rfl)
  simp [Instr.mapUpdate,run_underlying hu,MapKept.run_getObj_map hm,run_checkKey hk hkey,run_findKey hk h1,MapKept.run_setObj_map _ hm,Result.andThen,h2,o9]
theorem AA (W:World) (bm bi j:Nat) (x:Int) (hx:x=((97+j:Nat):Int)) (hj:j < 3) (hm:W.heap[bm]? = some (.map (xH bi 3) 3)) :
    (Instr.lookup 92 (.map (some bm)) (.int .i32 x) false).run Tryz.prog W=.ok (.pointer (some ⟨bi,1+j,none⟩)) W:=by
  have hu:Tryz.prog.underlying 92=some (.map 21 91):=by kernel_rfl
  have hk:Tryz.prog.underlying 21=some (.int .i32):=by kernel_rfl
  have hkey:IsKey (.int .i32) (.int .i32 x):=rfl
  have h1:Instr.findNow (.int .i32) (.int .i32 x) (xH bi 3).toList 0=some (some (j,.pointer (some ⟨bi,1+j,none⟩))):=by
    obtain rfl|rfl|rfl:j=0 ∨ j=1 ∨ j=2:=by omega
    all_goals (subst hx;rfl)
  simp [Instr.lookup,run_underlying hu,MapKept.run_getObj_map hm,run_checkKey hk hkey,run_findKey hk h1,Result.andThen]
theorem Nv (k:Nat) (hk:k < 16) (w:World):(Instr.index 52 (.agg (opsL.map Value.string).toArray) (.int .i64 k)).run Tryz.prog w=.ok (.agg #[.string (nameOf k),.string (uh k)]) w:=by
  have hu:Tryz.prog.underlying 52=some (.array 16 51):=by kernel_rfl
  have hs:(sizeOf 51).run Tryz.prog w=.ok 2 w:=by simp [go_sem]
  have ha:(isAgg 51).run Tryz.prog w=.ok true w:=by simp [go_sem]
  have he:(List.take 2 (List.drop (k * 2) (List.map Value.string opsL))).toArray=#[.string (nameOf k),.string (uh k)]:=by
    obtain rfl|rfl|rfl|rfl|rfl|rfl|rfl|rfl|rfl|rfl|rfl|rfl|rfl|rfl|rfl|rfl:k=0 ∨ k=1 ∨ k=2 ∨ k=3 ∨ k=4 ∨ k=5 ∨ k=6 ∨ k=7 ∨ k=8 ∨ k=9 ∨ k=10 ∨ k=11 ∨ k=12 ∨ k=13 ∨ k=14 ∨ k=15:=by omega
    all_goals rfl
  simp [Instr.index,run_underlying hu,asIntOf,Result.andThen,part,hs,ha]
  rw [if_pos hk,he]
theorem IV:∀ o:Nat,1≤o→o≤15→∀ ch ∈ (uh o).data.toList,ch.toNat=97 ∨ ch.toNat=98 ∨ ch.toNat=99 ∨ ch.toNat=110:=by
  intro o h1 h2
  obtain rfl|rfl|rfl|rfl|rfl|rfl|rfl|rfl|rfl|rfl|rfl|rfl|rfl|rfl|rfl:o=1 ∨ o=2 ∨ o=3 ∨ o=4 ∨ o=5 ∨ o=6 ∨ o=7 ∨ o=8 ∨ o=9 ∨ o=10 ∨ o=11 ∨ o=12 ∨ o=13 ∨ o=14 ∨ o=15:=by omega
  all_goals decide
structure V7 (G:Nat) (w0 w:World):Prop where
  bk:w.heap[G]? = some (.cells #[.int .u8 0,.int .u8 0,.int .u8 0,.int .u8 0,.int .i64 0] 27 (0,0))
  bel:Below G w0 w
structure BV (G bi bm it pos:Nat) (hs:ByteArray) (k:Int) (x:Int × Int × Int × Int) (w0 w:World):Prop where
  bk:w.heap[G]? = some (.cells #[.int .u8 0,.int .u8 0,.int .u8 0,.int .u8 0,.int .i64 0] 27 (0,0))
  ins:w.heap[bi]? = some (.cells #[.int .u8 k,.int .u8 x.1,.int .u8 x.2.1,.int .u8 x.2.2.1,.int .i64 x.2.2.2] 27 (0,0))
  map:w.heap[bm]? = some (.map (xH bi 3) 3)
  iter:w.heap[it]? = some (.stringIter hs pos)
  bel:Below G w0 w
  lo:G < bi∧bi < bm∧bm < it
section
variable {G bi bm it pos:Nat} {hs:ByteArray} {k:Int} {x:Int × Int × Int × Int} {w0 w w1:World}
theorem fH {w:World} {j:Nat} {o:Obj} (h:w.heap[j]? = some o):j < w.heap.size:=(Array.getElem?_eq_some_iff.1 h).1
theorem V7.below (h:V7 G w0 w) (hb:Below w.heap.size w w1):V7 G w0 w1:=⟨(hb.block G (fH h.bk)).trans h.bk,h.bel.trans (hb.mono (Nat.le_of_lt (fH h.bk)))⟩
theorem BV.below (h:BV G bi bm it pos hs k x w0 w) (hb:Below w.heap.size w w1):BV G bi bm it pos hs k x w0 w1 :=
  ⟨(hb.block G (fH h.bk)).trans h.bk,(hb.block bi (fH h.ins)).trans h.ins,(hb.block bm (fH h.map)).trans h.map,(hb.block it (fH h.iter)).trans h.iter,h.bel.trans (hb.mono (Nat.le_of_lt (fH h.bk))),h.lo⟩
theorem BV.drewN (h:BV G bi bm it pos hs k x w0 w) (n:Nat):BV G bi bm it pos hs k x w0 (w.drewN n):=h.below (af (Below.refl _ _) n)
theorem BV.next (h:BV G bi bm it pos hs k x w0 w) (pos':Nat):BV G bi bm it pos' hs k x w0 (w.iterAt it hs pos'):=by
  have far:∀ j,j ≠ it→(w.iterAt it hs pos').heap[j]? = w.heap[j]?:=fun j hj=>Lib.iterAt_other w it j hs pos' hj
  have hl:=h.lo
  exact ⟨(far G (by omega)).trans h.bk,(far bi (by omega)).trans h.ins,(far bm (by omega)).trans h.map,Lib.iterAt_heap w it hs pos pos' h.iter,Lib.below_iterAt h.bel (by omega) hs pos',h.lo⟩
theorem BV.cell (h:BV G bi bm it pos hs k x w0 w) (j:Nat):w.cell? ⟨bi,j,none⟩=(#[.int .u8 k,.int .u8 x.1,.int .u8 x.2.1,.int .u8 x.2.2.1,.int .i64 x.2.2.2]:Array Value)[j]?:=by simp [World.cell?,h.ins]
theorem BV.fr (h:BV G bi bm it pos hs k x w0 w) (j:Nat):w.frozen? ⟨bi,j,none⟩=false:=by simp [World.frozen?,h.ins]
theorem BV.zero (h:BV G bi bm it pos hs k x w0 w) (j:Nat):w.cell? ⟨G,j,none⟩=(#[.int .u8 0,.int .u8 0,.int .u8 0,.int .u8 0,.int .i64 0]:Array Value)[j]?:=by simp [World.cell?,h.bk]
theorem BV.set (h:BV G bi bm it pos hs k x w0 w) (j:Nat) (v:Value) (x':Int × Int × Int × Int) (e:(#[.int .u8 k,.int .u8 x.1,.int .u8 x.2.1,.int .u8 x.2.2.1,.int .i64 x.2.2.2]:Array Value).setIfInBounds j v=#[.int .u8 k,.int .u8 x'.1,.int .u8 x'.2.1,.int .u8 x'.2.2.1,.int .i64 x'.2.2.2]):BV G bi bm it pos hs k x' w0 (w.setCell ⟨bi,j,none⟩ v):=by
  have hl:=h.lo
  have far:∀ i,i ≠ bi→(w.setCell ⟨bi,j,none⟩ v).heap[i]? = w.heap[i]?:=fun i hi=>Below.heap_setCell w ⟨bi,j,none⟩ v i hi
  refine ⟨(far G (by omega)).trans h.bk,?_,(far bm (by omega)).trans h.map,(far it (by omega)).trans h.iter,h.bel.setCell (p:=⟨bi,j,none⟩) (by show G≤bi;omega) v,h.lo⟩
  rw [← e]
  exact LU h.ins j v
end
theorem iC {w:World} {g t:Nat} {old:Array Value} (hg:w.heap[g]? = some (.cells old t (0,0))) (cs:Array Value):(w.setRow g cs).heap[g]? = some (.cells cs t (0,0)):=by
  simp [World.setRow,Array.getElem?_modify,hg]
theorem qy {w:World} {g:Nat} (cs:Array Value) (k:Nat) (hk:k ≠ g):(w.setRow g cs).heap[k]? = w.heap[k]?:=by
  simp only [World.setRow,Array.getElem?_modify]
  rw [if_neg (by omega)]
theorem fG {B g:Nat} {w0 w:World} (hb:Below B w0 w) (hBg:B≤g) (cs:Array Value):Below B w0 (w.setRow g cs) :=
  hb.trans ⟨rfl,rfl,rfl,by simp [World.setRow],fun k hk=>qy cs k (by omega)⟩
theorem NU (s:ByteArray) (pos:Nat) (h:pos < s.size):s.data.toList.drop pos=(s[pos]'h) :: s.data.toList.drop (pos+1):=by
  have hl:pos < s.data.toList.length:=by simpa using h
  rw [List.drop_eq_getElem_cons hl]
  rfl
theorem yH {w:World} {b:Nat} {o o':Obj} (h:w.heap[b]? = some o):(o9 w b o').heap[b]? = some o':=by
  simp [o9,(Array.getElem?_eq_some_iff.1 h).1]
theorem uz {w:World} {b:Nat} {o':Obj} (j:Nat) (h:j ≠ b):(o9 w b o').heap[j]? = w.heap[j]?:=by simp [o9,Ne.symm h]
theorem uA {B b:Nat} {w0 w:World} {o':Obj} (hb:Below B w0 w) (hBb:B≤b):Below B w0 (o9 w b o') :=
  ⟨hb.os,hb.tape,hb.output,by simp [o9];exact hb.size,fun k hk=>(uz k (by omega)).trans (hb.block k hk)⟩
set_option maxRecDepth 100000 in
set_option maxHeartbeats 6400000 in
theorem rH.calls (A0:Option Addr) (c0:Nat) (l0:List ByteArray) (r1 r2 r3 r4 r5:Int) (r6:Bool) (w:World) (hr0:Kd.C Kd.string w A0 l0.length l0) (jM:Kd.C tu w tC lJ.length lJ) (h:rH.f l0=some (r1,r2,r3,r4,r5,r6)) :
    Calls Tryz.prog 33 #[.slice A0 l0.length c0] w fun e w'=>e=.returned (.tuple #[.agg #[.int .u8 r1,.int .u8 r2,.int .u8 r3,.int .u8 r4,.int .i64 r5],.bool r6])∧Below w.heap.size w w':=by
  unfold rH.f at h
  by_cases hl0:0 < l0.length
  case neg =>
    rw [if_neg hl0] at h
    cases h
  rw [if_pos hl0] at h
  obtain ⟨ad,e0,hx0⟩:=Kd.gB hr0 0 (by omega) (by omega)
  subst e0
  rw [show (0:Int).toNat=0 from rfl,Addr.add_zero'] at hx0
  obtain ⟨Yl,hl00⟩:∃ x,gI ByteArray.empty l0 0=x:=⟨_,rfl⟩
  rw [hl00] at hx0
  have YV:=World.block_lt_of_cell? w _ hx0
  obtain ⟨arr,harr⟩:∃ arr,(opsL.map Value.string).toArray=arr:=⟨_,rfl⟩
  have HIX:=ae.mk Nv
  rw [harr] at HIX
  have hT:=(vK jM).ops
  have hrange:∀ W:World,Kd.C Kd.string W tJ opsL.length opsL→W.rangeAt 0 0 arr.toList:=by
    intro W hW j v hv
    rw [← harr] at hv
    simp only [List.getElem?_map,List.toList_toArray] at hv
    obtain ⟨x,hx,rfl⟩:=Option.map_eq_some_iff.1 hv
    have hj:=(List.getElem?_eq_some_iff.1 hx).1
    rw [Nat.zero_add,yc hW j (by have:opsL.length=32:=rfl;omega),List.getD_eq_getElem?_getD,hx]
    rfl
  have afi:arr.toList.length=32:=by rw [← harr];rfl
  obtain ⟨G,hG⟩:∃ G,w.heap.size=G:=⟨_,rfl⟩
  obtain ⟨w1,hw1⟩:∃ w1,w.alloc (.cells #[.int .u8 0,.int .u8 0,.int .u8 0,.int .u8 0,.int .i64 0] 27)=w1:=⟨_,rfl⟩
  have hB1:Below G w w1:=by rw [← hw1,← hG];exact (Below.refl _ w).alloc (Nat.le_refl _) _
  have hk1:w1.heap[G]? = some (.cells #[.int .u8 0,.int .u8 0,.int .u8 0,.int .u8 0,.int .i64 0] 27 (0,0)):=by rw [← hw1,← hG];exact heap_alloc_new w _
  have HRG:=Lib.hid (hrange w1 (Kd.dF hT (by rw [hG];exact hB1)))
  have HO:=ae.mk (show V7 G w w1 from ⟨hk1,hB1⟩)
  have HR:=ae.mk hr0
  have HT:=ae.mk jM
  have HH:=ae.mk h
  have HL:=Lib.hid hl0
  have HX0:=Lib.hid hx0
  have Z5:=Lib.hid (show ad.block < G by rw [← hG];exact YV)
  have hlen0:(0 < l0.length)=True:=eq_true hl0
  clear h jM hT hrange hr0 hB1 hk1 hx0 YV hl0
  go_enter Tryz.func33,Tryz.ntmps33
  go_wp2_with (first|((with_reducible refine eQ (N:=12) rfl ?_);refine wpList_load_mid rfl 52 (.global 0) rfl 0 0 rfl arr.toList _ HRG.out Tryz.underlying52 rfl (by rw [afi];kernel_rfl) ?_;rw [Array.toArray_toList]))
  clear hw1
  go_loopg [13] 16 (fun kq v wr=>∃ (k:Nat),kq+k=16∧v=.int .i64 k∧ae (FY kq k l0=some (r1,r2,r3,r4,r5,r6))∧ae (V7 G w wr))
  case atStart=>exact ⟨0,rfl,rfl,HH,HO⟩
  case round =>
  clear HH HO HRG
  obtain ⟨k,hkq,rfl,HH,HX⟩:=hrel
  cases gk with
  | zero =>
    have hd0:decide ((k:Int) < 16)=false:=decide_eq_false (by omega)
    have hH:=HH.out
    rw [FY] at hH
    injection hH with hH
    simp only [Prod.mk.injEq] at hH
    obtain ⟨rfl,rfl,rfl,rfl,rfl,rfl⟩:=hH
    clear HH
    have kG:=HX.out.bk
    have kz:=iC kG #[.int .u8 0,.int .u8 0,.int .u8 0,.int .u8 0,.int .i64 0]
    have xn:=ae.mk (fG HX.out.bel (Nat.le_refl G) #[.int .u8 0,.int .u8 0,.int .u8 0,.int .u8 0,.int .i64 0])
    have KZ:=ae.mk kz
    clear HX kz
    go_wp2_with (skip;refine wpList_store_row rfl 27 (.tmp 2) (.tmp 87) rfl G (#[.int .u8 0,.int .u8 0,.int .u8 0,.int .u8 0,.int .i64 0]) rfl rfl 27 _ kG (by kernel_rfl) rfl (by simp [Value.oneCell']) ?_)
    (try simp only [Exit.inBlock,Exit.then])
    refine bodyPost_ret (jV rfl _ _ G 27 #[.int .u8 0,.int .u8 0,.int .u8 0,.int .u8 0,.int .i64 0] (0,0) _ rfl KZ.out Tryz.underlying27 rfl (by kernel_rfl)) rfl ?_
    exact ⟨rfl,by have q:=xn.out;first|exact q|(rw [hG];exact q)⟩
  | succ ng =>
  have hd0:decide ((k:Int) < 16)=true:=decide_eq_true (by omega)
  have ae7:k < 16:=by omega
  have hix:=HIX.out k ae7
  obtain ⟨nm,hnm⟩:∃ nm,nameOf k=nm:=⟨_,rfl⟩
  obtain ⟨hs,Pm⟩:∃ hs,uh k=hs:=⟨_,rfl⟩
  rw [hnm,Pm] at hix
  obtain ⟨b5,hb5⟩:∃ b,wr.heap.size=b:=⟨_,rfl⟩
  obtain ⟨Wa,hWa⟩:∃ Wa,wr.alloc (.cells #[.string ⟨#[]⟩,.string ⟨#[]⟩] 51)=Wa:=⟨_,rfl⟩
  have hzb:Wa.heap[b5]? = some (.cells #[.string ⟨#[]⟩,.string ⟨#[]⟩] 51 (0,0)):=by rw [← hWa,← hb5];exact heap_alloc_new wr _
  have hGb:G < b5:=by rw [← hb5];exact fH HX.out.bk
  have hBr:Below wr.heap.size wr (Wa.setRow b5 #[.string nm,.string hs]):=fG (by rw [← hWa];exact (Below.refl _ wr).alloc (Nat.le_refl _) _) (by omega) _
  have HY:=ae.mk (HX.out.below hBr)
  have H5:=ae.mk (iC hzb #[.string nm,.string hs])
  clear HX hBr
  go_upto_region 4 with (first|(skip;refine wpList_store_row rfl 51 (.tmp 5) (.tmp 16) rfl b5 (#[.string nm,.string hs]) rfl rfl 51 _ hzb (by kernel_rfl) rfl (by simp [Value.oneCell']) ?_))
  clear hzb hWa hb5 hix
  change Code.wp _ _ _ _ (Wa.setRow b5 #[.string nm,.string hs])
  generalize Wa.setRow b5 #[.string nm,.string hs]=Wm at HY H5 ⊢
  have n0:Wm.cell? ⟨b5,0,none⟩=some (.string nm):=by simp [World.cell?,H5.out]
  have n1:Wm.cell? ⟨b5,1,none⟩=some (.string hs):=by simp [World.cell?,H5.out]
  have m0:Wm.cell? ad=some (.string Yl):=(HY.out.bel.cell Z5.out).trans HX0.out
  have hsz3:hs.size≤3:=by
    by_cases h0:k=0
    · rw [← Pm,h0];decide
    · rw [← Pm];exact (zn k (by omega) (by omega)).1
  obtain ⟨z1,hz1⟩:∃ z:Int,z=(hs.size:Int)+1:=⟨_,rfl⟩
  have hw1:IntKind.i64.wrap ((hs.size:Int)+1)=z1:=by rw [hz1];exact IntWalk.i64_in _ (by omega)
  have hH:=HH.out
  rw [FY,hnm,Pm,hl00] at hH
  clear HH
  by_cases hk0:k=0
  case pos =>
    rw [if_pos (.inl hk0)] at hH
    have g0:((k:Int) == 0)=true:=beq_iff_eq.2 (by omega)
    have HH:=ae.mk hH
    clear hH
    go_quiet (fail)
    rename_i nq
    have HX:=ae.mk (show V7 G w (Wm.drewN nq) from HY.out.below (af (Below.refl _ _) nq))
    clear HY H5 n0 n1 m0
    have e3:=Lib.hid (show wrap64 ((k:Int)+1)=((k+1:Nat):Int) by unfold wrap64;omega)
    go_wp2
    go_roundg ng
    case measure=>omega
    case rel=>exact ⟨k+1,by omega,by first|rfl|rw [e3.out]|(simp;omega),HH,HX⟩
  have g0:((k:Int) == 0)=false:=beq_eq_false_iff_ne.2 (by omega)
  by_cases hnn:nm.toList=Yl.toList
  case neg =>
    rw [if_pos (.inr (.inl hnn))] at hH
    have g1:(nm.toList == Yl.toList)=false:=beq_eq_false_iff_ne.2 hnn
    have g2:(nm.toList != Yl.toList)=true:=by simp [hnn]
    have HH:=ae.mk hH
    clear hH hnn
    go_quiet (fail)
    rename_i nq
    have HX:=ae.mk (show V7 G w (Wm.drewN nq) from HY.out.below (af (Below.refl _ _) nq))
    clear HY H5 n0 n1 m0
    have e3:=Lib.hid (show wrap64 ((k:Int)+1)=((k+1:Nat):Int) by unfold wrap64;omega)
    go_wp2
    go_roundg ng
    case measure=>omega
    case rel=>exact ⟨k+1,by omega,by first|rfl|rw [e3.out]|(simp;omega),HH,HX⟩
  have g1:(nm.toList == Yl.toList)=true:=beq_iff_eq.2 hnn
  have g2:(nm.toList != Yl.toList)=false:=by simp [hnn]
  by_cases hll:l0.length=hs.size+1
  case neg =>
    rw [if_pos (.inr (.inr hll))] at hH
    have g3:((l0.length:Int) == z1)=false:=beq_eq_false_iff_ne.2 (by omega)
    have g4:((l0.length:Int) != z1)=true:=by simp;omega
    have HH:=ae.mk hH
    clear hH hnn hll hz1
    go_quiet (fail)
    rename_i nq
    have HX:=ae.mk (show V7 G w (Wm.drewN nq) from HY.out.below (af (Below.refl _ _) nq))
    clear HY H5 n0 n1 m0
    have e3:=Lib.hid (show wrap64 ((k:Int)+1)=((k+1:Nat):Int) by unfold wrap64;omega)
    go_wp2
    go_roundg ng
    case measure=>omega
    case rel=>exact ⟨k+1,by omega,by first|rfl|rw [e3.out]|(simp;omega),HH,HX⟩
  rw [if_neg (by simp [hk0,hnn,hll])] at hH
  obtain ⟨r0,hra,hrr⟩:=Option.map_eq_some_iff.1 hH
  have g3:((l0.length:Int) == z1)=true:=beq_iff_eq.2 (by omega)
  have g4:((l0.length:Int) != z1)=false:=by simp;omega
  have HRA:=ae.mk hra
  have HRR:=ae.mk hrr
  have Z7:=Lib.hid (show l0.length=hs.size+1∧hs.size≤3∧1≤k∧k≤15 from ⟨hll,hsz3,by omega,by omega⟩)
  have HHS:=Lib.hid Pm
  clear hH hra hrr hnn hk0 hsz3
  go_quiet (fail)
  rename_i nq
  have hbq:Below Wm.heap.size Wm (Wm.drewN nq):=af (Below.refl _ _) nq
  have HX:=ae.mk (HY.out.below hbq)
  have HB6:=ae.mk ((hbq.block b5 (fH H5.out)).trans H5.out)
  clear HY H5 n0 n1 m0 g0 g1 g2 g3 g4 hll hw1 hz1 hbq hnm Pm
  generalize Wm.drewN nq=Wq at HX HB6 ⊢
  obtain ⟨bi,hbi⟩:∃ b,Wq.heap.size=b:=⟨_,rfl⟩
  obtain ⟨Wb,hWb⟩:∃ Wb,Wq.alloc (.cells #[.int .u8 0,.int .u8 0,.int .u8 0,.int .u8 0,.int .i64 0] 27)=Wb:=⟨_,rfl⟩
  have hzi:Wb.heap[bi]? = some (.cells #[.int .u8 0,.int .u8 0,.int .u8 0,.int .u8 0,.int .i64 0] 27 (0,0)):=by rw [← hWb,← hbi];exact heap_alloc_new Wq _
  have hku:IntKind.u8.wrap (k:Int)=k:=IntWalk.u8_in _ (by omega)
  have h5i:b5 < bi:=by rw [← hbi];exact fH HB6.out
  have hBr:Below Wq.heap.size Wq (Wb.setRow bi #[.int .u8 k,.int .u8 0,.int .u8 0,.int .u8 0,.int .i64 0]):=fG (by rw [← hWb];exact (Below.refl _ Wq).alloc (Nat.le_refl _) _) (by omega) _
  have HY:=ae.mk (HX.out.below hBr)
  have H5:=ae.mk ((hBr.block b5 (by omega)).trans HB6.out)
  have HBI:=ae.mk (iC hzi #[.int .u8 k,.int .u8 0,.int .u8 0,.int .u8 0,.int .i64 0])
  clear HX HB6 hBr
  go_upto_region 6 with (first|(skip;refine wpList_store_row rfl 27 (.tmp 6) (.tmp 38) rfl bi (#[.int .u8 k,.int .u8 0,.int .u8 0,.int .u8 0,.int .i64 0]) rfl rfl 27 _ hzi (by kernel_rfl) rfl (by simp [Value.oneCell']) ?_))
  clear hzi hWb hbi
  change Code.wp _ _ _ _ (Wb.setRow bi #[.int .u8 k,.int .u8 0,.int .u8 0,.int .u8 0,.int .i64 0])
  generalize Wb.setRow bi #[.int .u8 k,.int .u8 0,.int .u8 0,.int .u8 0,.int .i64 0]=Wc at HY H5 HBI ⊢
  obtain ⟨bm,hbm⟩:∃ b,Wc.heap.size=b:=⟨_,rfl⟩
  have him:bi < bm:=by rw [← hbm];exact fH HBI.out
  obtain ⟨V0,hV0⟩:∃ V,Wc.alloc (.map #[] 0)=V:=⟨_,rfl⟩
  have hm0:V0.heap[bm]? = some (.map (xH bi 0) 0):=by rw [← hV0,← hbm];exact heap_alloc_new Wc _
  obtain ⟨V1,hV1⟩:∃ V,o9 V0 bm (.map (xH bi (0+1)) (0+1))=V:=⟨_,rfl⟩
  have hi1:=Ea V0 bm bi 0 97 rfl (by decide) hm0
  rw [hV1,Nat.add_zero] at hi1
  have hm1:V1.heap[bm]? = some (.map (xH bi 1) 1):=by rw [← hV1];exact yH hm0
  obtain ⟨V2,hV2⟩:∃ V,o9 V1 bm (.map (xH bi (1+1)) (1+1))=V:=⟨_,rfl⟩
  have hi2:=Ea V1 bm bi 1 98 rfl (by decide) hm1
  rw [hV2,show 1+1=2 from rfl] at hi2
  have hm2:V2.heap[bm]? = some (.map (xH bi 2) 2):=by rw [← hV2];exact yH hm1
  obtain ⟨V3,YY⟩:∃ V,o9 V2 bm (.map (xH bi (2+1)) (2+1))=V:=⟨_,rfl⟩
  have hi3:=Ea V2 bm bi 2 99 rfl (by decide) hm2
  rw [YY,show 1+2=3 from rfl] at hi3
  have hm3:V3.heap[bm]? = some (.map (xH bi 3) 3):=by rw [← YY];exact yH hm2
  have Ue:∀ j,j < bm→V3.heap[j]? = Wc.heap[j]?:=fun j hj=>by
    rw [← YY,uz j (by omega),← hV2,uz j (by omega),← hV1,uz j (by omega),← hV0]
    exact Below.heap_alloc Wc _ j (by omega)
  have VR:Below G w V3:=by
    rw [← YY]
    refine uA ?_ (by omega)
    rw [← hV2]
    refine uA ?_ (by omega)
    rw [← hV1]
    refine uA ?_ (by omega)
    rw [← hV0]
    exact HY.out.bel.alloc (by omega) _
  have hn1:V3.cell? ⟨b5,1,none⟩=some (.string hs):=by simp [World.cell?,(Ue b5 (by omega)).trans H5.out]
  obtain ⟨it,hit⟩:∃ b,V3.heap.size=b:=⟨_,rfl⟩
  obtain ⟨V4,hV4⟩:∃ V,V3.iter hs 0=V:=⟨_,rfl⟩
  have hmt:bm < it:=by rw [← hit];exact fH hm3
  have hup:∀ j,j < it→V4.heap[j]? = V3.heap[j]?:=fun j hj=>by rw [← hV4];exact Below.heap_alloc V3 _ j (by omega)
  have HI:=ae.mk (show BV G bi bm it 0 hs k (0,0,0,0) w V4 from ⟨(hup G (by omega)).trans ((Ue G (by omega)).trans HY.out.bk),(hup bi (by omega)).trans ((Ue bi him).trans HBI.out),(hup bm hmt).trans hm3,by rw [← hV4,← hit];exact World.iter_heap V3 hs 0,by rw [← hV4];exact VR.alloc (by omega) _,by omega,by omega,by omega⟩)
  have hmm:=@run_makeMap Tryz.prog
  clear HY H5 HBI hm0 hm1 hm2 hm3 Ue VR hup him hmt h5i hGb hV1 hV2 YY
  go_wp2
  clear hi1 hi2 hi3 hn1 hbm hV0 hit hV4 hmm
  have HRB:=ae.mk (show rQ (hs.data.toList.drop 0) (l0.drop (0+1)) (0,0,0,0)=some r0 from by rw [List.drop_zero,Nat.zero_add,List.drop_one,← HHS.out];rw [HHS.out];exact HRA.out)
  go_loopg [] hs.size (fun kq wr=>∃ (pos:Nat) (x:Int × Int × Int × Int),kq+pos=hs.size∧ae (rQ (hs.data.toList.drop pos) (l0.drop (pos+1)) x=some r0)∧ae (BV G bi bm it pos hs k x w wr))
  case atStart=>exact ⟨0,(0,0,0,0),Nat.add_zero _,HRB,HI⟩
  case round =>
  clear HRA HRB HI
  obtain ⟨pos,x,hpk,HA,HX⟩:=hrel
  by_cases hp:pos < hs.size
  case neg =>
    have hnx:∀ ty,(Instr.next (.pointer (some ⟨it,0,none⟩)) true ty).run Tryz.prog wr=.ok (.tuple #[.bool false]) wr:=fun ty=>Lib.run_next_end_at wr it hs pos ty HX.out.iter hp
    have hA:=HA.out
    rw [List.drop_eq_nil_of_le (by simp;omega),rQ] at hA
    have hr0:=(Option.some.inj hA).symm
    have hrr:=HRR.out
    rw [hr0] at hrr
    simp only [JF,Prod.mk.injEq] at hrr
    obtain ⟨rfl,rfl,rfl,rfl,rfl,rfl⟩:=hrr
    have kI:=HX.out.ins
    have kG:=HX.out.bk
    have KZ:=ae.mk (iC kG #[.int .u8 k,.int .u8 x.1,.int .u8 x.2.1,.int .u8 x.2.2.1,.int .i64 x.2.2.2])
    have xn:=ae.mk (fG HX.out.bel (Nat.le_refl G) #[.int .u8 k,.int .u8 x.1,.int .u8 x.2.1,.int .u8 x.2.2.1,.int .i64 x.2.2.2])
    clear HX HA HRR hA hr0 hp hpk
    go_wp2_with (first|((with_reducible refine eQ (N:=85) rfl ?_);refine wpList_load_row rfl 27 (.tmp 6) rfl bi rfl 27 (#[.int .u8 k,.int .u8 x.1,.int .u8 x.2.1,.int .u8 x.2.2.1,.int .i64 x.2.2.2]) (0,0) _ kI Tryz.underlying27 rfl (by kernel_rfl) ?_)|(skip;refine wpList_store_row rfl 27 (.tmp 2) (.tmp 85) rfl G (#[.int .u8 k,.int .u8 x.1,.int .u8 x.2.1,.int .u8 x.2.2.1,.int .i64 x.2.2.2]) rfl rfl 27 _ kG (by kernel_rfl) rfl (by simp [Value.oneCell']) ?_))
    (try simp only [Exit.inBlock,Exit.then])
    refine bodyPost_ret (jV rfl _ _ G 27 #[.int .u8 k,.int .u8 x.1,.int .u8 x.2.1,.int .u8 x.2.2.1,.int .i64 x.2.2.2] (0,0) _ rfl KZ.out Tryz.underlying27 rfl (by kernel_rfl)) rfl ?_
    exact ⟨rfl,by have q:=xn.out;first|exact q|(rw [hG];exact q)⟩
  have PW:=IV k Z7.out.2.2.1 Z7.out.2.2.2 (hs[pos]'hp) (by rw [HHS.out];simp [ByteArray.getElem_eq_getElem_data])
  obtain ⟨ch,hch⟩:∃ c:Nat,(hs[pos]'hp).toNat=c:=⟨_,rfl⟩
  rw [hch] at PW
  obtain ⟨Wn,XM⟩:∃ Wn,wr.iterAt it hs (pos+1)=Wn:=⟨_,rfl⟩
  have hnx:∀ ty,(Instr.next (.pointer (some ⟨it,0,none⟩)) true ty).run Tryz.prog wr=.ok (.tuple #[.bool true,.int .i64 pos,.int .i32 ch]) Wn:=fun ty=>by rw [← XM,← hch];exact Lib.run_next_ascii_at wr it hs pos ty HX.out.iter hp (by omega)
  replace HX:=ae.mk (show BV G bi bm it (pos+1) hs k x w Wn from by rw [← XM];exact HX.out.next (pos+1))
  obtain ⟨z,hz⟩:∃ z:Int,z=(pos:Int)+1:=⟨_,rfl⟩
  have hpl:pos+1 < l0.length:=by have:=Z7.out;omega
  have hzw:IntKind.i64.wrap ((pos:Int)+1)=z:=by rw [hz];exact IntWalk.i64_in _ (by have:=Z7.out;omega)
  have hz0:0≤z:=by omega
  have hz1:z < (l0.length:Int):=by omega
  obtain ⟨ad',e,hx⟩:=Kd.gB (Kd.dF HR.out (by rw [hG];exact HX.out.bel)) z hz0 hz1
  injection e with e
  subst e
  obtain ⟨wd,hwd⟩:∃ wd,gI ByteArray.empty l0 z=wd:=⟨_,rfl⟩
  rw [hwd] at hx
  have hdl:l0.drop (pos+1)=wd :: l0.drop (pos+1+1):=by
    rw [List.drop_eq_getElem_cons hpl,← hwd,gI,hz,List.getD_eq_getElem?_getD,show ((pos:Int)+1).toNat=pos+1 by omega,List.getElem?_eq_getElem hpl]
    rfl
  have hA:=HA.out
  rw [NU hs pos hp,hdl,rQ,hch] at hA
  obtain ⟨⟨nv,ev⟩,hN,hA⟩:=Option.bind_eq_some_iff.1 hA
  have HN:=Lib.hid hN
  have HA2:=ae.mk hA
  have Q3:=Lib.hid (show gk+pos=hs.size∧pos < hs.size from ⟨hpk,hp⟩)
  clear hA hN HA hdl hpk hwd hz hpl XM hch
  have hz2:(z < (hs.size:Int)+1)=True:=eq_true (by have:=Z7.out;omega)
  replace hz0:=eq_true hz0
  replace hz1:=eq_true hz1
  go_upto_region 11 with (go_at_call 53;refine (qB.calls wd nv ev _ (Kd.dF HT.out (by rw [hG];exact HX.out.bel)) HN.out).mono ?_;rintro e w4 ⟨rfl,hb4⟩;replace HX:=ae.mk (HX.out.below hb4);clear hb4)
  clear hx hnx hzw hz0 hz1 hz2 HN
  have hA:=HA2.out
  by_cases hev:ev=0
  case neg =>
    rw [if_neg hev] at hA
    have hr0:=(Option.some.inj hA).symm
    have hrr:=HRR.out
    rw [hr0] at hrr
    simp only [JF,Prod.mk.injEq] at hrr
    obtain ⟨rfl,rfl,rfl,rfl,rfl,rfl⟩:=hrr
    have b1:(ev != 0)=true:=by simp [hev]
    clear hA HA2 HRR hr0 hev PW hp
    have kG:=HX.out.bk
    have kz:=iC kG #[.int .u8 0,.int .u8 0,.int .u8 0,.int .u8 0,.int .i64 0]
    have xn:=ae.mk (fG HX.out.bel (Nat.le_refl G) #[.int .u8 0,.int .u8 0,.int .u8 0,.int .u8 0,.int .i64 0])
    have KZ:=ae.mk kz
    clear HX kz
    go_wp2_with (skip;refine wpList_store_row rfl 27 (.tmp 2) (.tmp 74) rfl G (#[.int .u8 0,.int .u8 0,.int .u8 0,.int .u8 0,.int .i64 0]) rfl rfl 27 _ kG (by kernel_rfl) rfl (by simp [Value.oneCell']) ?_)
    (try simp only [Exit.inBlock,Exit.then])
    refine bodyPost_ret (jV rfl _ _ G 27 #[.int .u8 0,.int .u8 0,.int .u8 0,.int .u8 0,.int .i64 0] (0,0) _ rfl KZ.out Tryz.underlying27 rfl (by kernel_rfl)) rfl ?_
    exact ⟨rfl,by have q:=xn.out;first|exact q|(rw [hG];exact q)⟩
  subst hev
  rw [if_pos rfl] at hA
  by_cases hc:ch=110
  case pos =>
    subst hc
    rw [if_pos rfl] at hA
    have HA3:=ae.mk hA
    have c4:w4.cell? ⟨bi,4,none⟩=some (.int .i64 x.2.2.2):=HX.out.cell 4
    have f4:=HX.out.fr 4
    have yX:=ae.mk (HX.out.set 4 (.int .i64 nv) (setArg 110 nv x) rfl)
    clear hA HA2 PW HX
    go_wp2
    go_roundg (gk - 1)
    case measure=>have:=Q3.out;omega
    case rel=>exact ⟨pos+1,setArg 110 nv x,by have:=Q3.out;omega,HA3,yX⟩
  rw [if_neg hc] at hA
  have b2:((ch:Int) != 110)=true:=by simp;omega
  have b3:((ch:Int) == 110)=false:=beq_eq_false_iff_ne.2 (by omega)
  by_cases hr:0≤nv∧nv≤255
  case neg =>
    rw [if_neg hr] at hA
    have hr0:=(Option.some.inj hA).symm
    have hrr:=HRR.out
    rw [hr0] at hrr
    simp only [JF,Prod.mk.injEq] at hrr
    obtain ⟨rfl,rfl,rfl,rfl,rfl,rfl⟩:=hrr
    by_cases hn0:nv < 0
    case' pos =>
      have d1:decide (nv < 0)=true:=decide_eq_true hn0
    case' neg =>
      have d1:decide (nv < 0)=false:=decide_eq_false hn0
      have d2:decide (255 < nv)=true:=decide_eq_true (by omega)
    all_goals
      clear hA HA2 HRR hr0 PW hr hn0 hc hp
      have kG:=HX.out.bk
      have kz:=iC kG #[.int .u8 0,.int .u8 0,.int .u8 0,.int .u8 0,.int .i64 0]
      have xn:=ae.mk (fG HX.out.bel (Nat.le_refl G) #[.int .u8 0,.int .u8 0,.int .u8 0,.int .u8 0,.int .i64 0])
      have KZ:=ae.mk kz
      clear HX kz
      go_wp2_with (skip;refine wpList_store_row rfl 27 (.tmp 2) (.tmp 74) rfl G (#[.int .u8 0,.int .u8 0,.int .u8 0,.int .u8 0,.int .i64 0]) rfl rfl 27 _ kG (by kernel_rfl) rfl (by simp [Value.oneCell']) ?_)
      (try simp only [Exit.inBlock,Exit.then])
      refine bodyPost_ret (jV rfl _ _ G 27 #[.int .u8 0,.int .u8 0,.int .u8 0,.int .u8 0,.int .i64 0] (0,0) _ rfl KZ.out Tryz.underlying27 rfl (by kernel_rfl)) rfl ?_
      exact ⟨rfl,by have q:=xn.out;first|exact q|(rw [hG];exact q)⟩
  rw [if_pos hr] at hA
  have HA3:=ae.mk hA
  have d1:decide (nv < 0)=false:=decide_eq_false (by omega)
  have d2:decide (255 < nv)=false:=decide_eq_false (by omega)
  have hnu:IntKind.u8.wrap nv=nv:=IntWalk.u8_in _ (by omega)
  clear hA HA2 hr
  rcases PW with rfl|rfl|rfl|afm
  · have hlk:=AA w4 bm bi 0 97 rfl (by decide) HX.out.map
    have c4:w4.cell? ⟨bi,1,none⟩=some (.int .u8 x.1):=HX.out.cell 1
    have f4:=HX.out.fr 1
    have yX:=ae.mk (HX.out.set 1 (.int .u8 nv) (setArg 97 nv x) rfl)
    clear HX
    go_wp2
    go_roundg (gk - 1)
    case measure=>have:=Q3.out;omega
    case rel=>exact ⟨pos+1,setArg 97 nv x,by have:=Q3.out;omega,HA3,yX⟩
  · have hlk:=AA w4 bm bi 1 98 rfl (by decide) HX.out.map
    have c4:w4.cell? ⟨bi,2,none⟩=some (.int .u8 x.2.1):=HX.out.cell 2
    have f4:=HX.out.fr 2
    have yX:=ae.mk (HX.out.set 2 (.int .u8 nv) (setArg 98 nv x) rfl)
    clear HX
    go_wp2
    go_roundg (gk - 1)
    case measure=>have:=Q3.out;omega
    case rel=>exact ⟨pos+1,setArg 98 nv x,by have:=Q3.out;omega,HA3,yX⟩
  · have hlk:=AA w4 bm bi 2 99 rfl (by decide) HX.out.map
    have c4:w4.cell? ⟨bi,3,none⟩=some (.int .u8 x.2.2.1):=HX.out.cell 3
    have f4:=HX.out.fr 3
    have yX:=ae.mk (HX.out.set 3 (.int .u8 nv) (setArg 99 nv x) rfl)
    clear HX
    go_wp2
    go_roundg (gk - 1)
    case measure=>have:=Q3.out;omega
    case rel=>exact ⟨pos+1,setArg 99 nv x,by have:=Q3.out;omega,HA3,yX⟩
  · exact absurd afm hc
end Go.Proofs.YtkclndkbccbhaaaGreatDoor.P
end
