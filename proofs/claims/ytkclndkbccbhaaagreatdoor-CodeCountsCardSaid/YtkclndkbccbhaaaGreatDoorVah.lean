/- Parts of the proof of CodeCounts: what the functions that it reaches compute, and plain facts about that. -/
import Derived.Test.YtkclndkbccbhaaaGreatDoorVad
import Derived.Test.YtkclndkbccbhaaaGreatDoorVae
import Derived.Test.YtkclndkbccbhaaaGreatDoorVaf
import Derived.Test.YtkclndkbccbhaaaGreatDoorVag
import Derived.ChangeMaps4
import Derived.Deep.MidRow
import Derived.Test.YtkclndkbccbhaaaGreatDoorVac
set_option linter.unusedVariables false
set_option linter.unusedSimpArgs false
section
namespace Go.Proofs.YtkclndkbccbhaaaGreatDoor.P
open Go Go.RowKit Go.Proofs.ae.aX Go.Proofs.ae.dh Go.Proofs.ae.dI
def xK (b:UInt8):Bool:=decide (97≤b.toNat∧b.toNat≤122) || decide (48≤b.toNat∧b.toNat≤57)
def Am (w:List UInt8):Bool:=decide (w.length≤30) && w.all xK
def kM (s:ByteArray):Bool:=Am s.data.toList
theorem xJ:∀ b:UInt8,([97,98,99,100,101,102,103,104,105,106,107,108,109,110,111,112,113,114,115,116,117,118,119,120,121,122,48,49,50,51,52,53,54,55,56,57]:List UInt8).contains b=xK b:=by
  intro b
  have h:∀ n:Fin 256,([97,98,99,100,101,102,103,104,105,106,107,108,109,110,111,112,113,114,115,116,117,118,119,120,121,122,48,49,50,51,52,53,54,55,56,57]:List UInt8).contains (UInt8.ofNat n.val)=xK (UInt8.ofNat n.val):=by decide +kernel
  have:=h ⟨b.toNat,b.toNat_lt⟩
  simpa using this
theorem KA (w:List UInt8):dC.f (Bs w)=some (Am w):=by
  unfold dC.f Am
  rw [gY]
  by_cases hl:w.length≤30
  · rw [if_pos (by omega)]
    unfold fG.f
    rw [if_pos ⟨by rw [gY];omega,by decide,by decide +kernel⟩]
    simp only [Option.bind_some]
    congr 1
    rw [decide_eq_true hl,Bool.true_and,Bool.eq_iff_iff,beq_iff_eq,ByteArray.toList_eq,List.all_eq_true]
    show Lib.trimS w [97,98,99,100,101,102,103,104,105,106,107,108,109,110,111,112,113,114,115,116,117,118,119,120,121,122,48,49,50,51,52,53,54,55,56,57]=[] ↔ _
    rw [xx]
    constructor
    · intro h x hx
      rw [← xJ]
      exact h x hx
    · intro h x hx
      rw [xJ]
      exact h x hx
  · rw [if_neg (by omega),decide_eq_false hl,Bool.false_and]
theorem Ci (s:ByteArray):dC.f s=some (kM s):=by
  have h:=KA s.data.toList
  rw [mJ] at h
  exact h
def jI (x:iQ):Bool:=(dD.f x.f0 x.f1 x.f2 x.f3 x.f4).getD false
theorem BN (a b c d e:Int):∃ r,dD.f a b c d e=some r:=by
  unfold dD.f
  split
  · exact ⟨_,rfl⟩
  · split <;> exact ⟨_,rfl⟩
theorem JU (x:iQ):dD.f x.f0 x.f1 x.f2 x.f3 x.f4=some (jI x):=by
  obtain ⟨r,hr⟩:=BN x.f0 x.f1 x.f2 x.f3 x.f4
  unfold jI
  rw [hr]
  rfl
theorem xB {x:iQ} (h:jI x=true):1≤x.f0∧x.f0≤15:=by
  unfold jI dD.f at h
  split at h
  · cases h
  · split at h
    · cases h
    · omega
def G7 (s:ByteArray):Bool:=decide (s.toList ≠ []) && kM s
def tK (ts:List ByteArray) (lo gl:ByteArray) (cs:List iQ):Bool:=ts.all G7 && (cs.all jI && (kM lo && (kM gl && decide (cs.length≤200))))
theorem vI (a:List ByteArray) (i:Nat) (h:i < a.length):dZ ByteArray.empty a (i:Int)=a[i]:=J7 a i _ (List.getElem?_eq_getElem h)
theorem DR (a:List iQ) (i:Nat) (h:i < a.length):aQ a (i:Int)=a[i]:=by
  unfold aQ
  rw [Int.toNat_natCast,List.getD_eq_getElem?_getD,List.getElem?_eq_getElem h]
  rfl
theorem Bc {α:Type} (p:α→Bool) (l:List α) (i:Nat) (h:i < l.length):(l.drop i).all p=(p l[i] && (l.drop (i+1)).all p):=by
  rw [List.drop_eq_getElem_cons h,List.all_cons]
theorem He (ts:List ByteArray) (lo gl:ByteArray) (cs:List iQ) (hc:cs.length≤140737488355328):∀ (d i:Nat),i+d=cs.length →
    Ev (fun k=>bV.l1 k cs ((cs.length:Nat):Int) (i:Int) ts lo gl cs) ((cs.drop i).all jI && (kM lo && (kM gl && decide (cs.length≤200))))
  | 0,i,hi=>by
    refine Ev.step (f:=fun _=>some _) (fun k=>?_) (Ev.now _)
    simp only [bV.l1]
    rw [if_neg (by omega),Ci,Ci,Option.bind_some,List.drop_eq_nil_of_le (by omega)]
    cases kM lo with
    | false=>rfl
    | true =>
      rw [if_pos rfl,Option.bind_some]
      cases kM gl with
      | false=>rfl
      | true =>
        rw [if_pos rfl]
        simp
        omega
  | d+1,i,hi=>by
    have hlt:i < cs.length:=by omega
    have ih:=He ts lo gl cs hc d (i+1) (by omega)
    rw [Bc jI cs i hlt]
    have zM:∀ k,bV.l1 (k+1) cs ((cs.length:Nat):Int) (i:Int) ts lo gl cs=if jI cs[i]=true then bV.l1 k cs ((cs.length:Nat):Int) ((i+1:Nat):Int) ts lo gl cs else some false:=by
      intro k
      conv=>lhs;simp only [bV.l1]
      rw [if_pos (by omega),if_pos (by omega),if_pos (by omega),DR cs i hlt,JU,Option.bind_some,iM i (by omega)]
    cases hr:jI cs[i] with
    | true =>
      rw [Bool.true_and]
      exact Ev.step (fun k=>by rw [zM k,if_pos hr]) ih
    | false =>
      rw [Bool.false_and,Bool.false_and]
      exact Ev.step (f:=fun _=>some _) (fun k=>by rw [zM k,if_neg (by rw [hr];simp)]) (Ev.now _)
theorem DU (ts:List ByteArray) (lo gl:ByteArray) (cs:List iQ) (ht:ts.length≤140737488355328) (hc:cs.length≤140737488355328):∀ (d i:Nat),i+d=ts.length →
    Ev (fun k=>bV.l0 k ts ((ts.length:Nat):Int) (i:Int) ts lo gl cs) ((ts.drop i).all G7 && (cs.all jI && (kM lo && (kM gl && decide (cs.length≤200)))))
  | 0,i,hi=>by
    have h:=He ts lo gl cs hc cs.length 0 (Nat.zero_add _)
    rw [List.drop_zero] at h
    rw [List.drop_eq_nil_of_le (by omega),List.all_nil,Bool.true_and]
    refine Ev.step (fun k=>?_) h
    simp only [bV.l0]
    rw [if_neg (by omega)]
    rfl
  | d+1,i,hi=>by
    have hlt:i < ts.length:=by omega
    have ih:=DU ts lo gl cs ht hc d (i+1) (by omega)
    rw [Bc G7 ts i hlt]
    have zM:∀ k,bV.l0 (k+1) ts ((ts.length:Nat):Int) (i:Int) ts lo gl cs=if G7 ts[i]=true then bV.l0 k ts ((ts.length:Nat):Int) ((i+1:Nat):Int) ts lo gl cs else some false:=by
      intro k
      conv=>lhs;simp only [bV.l0]
      rw [if_pos (by omega),if_pos (by omega),if_pos (by omega),vI ts i hlt,Ci,Option.bind_some,iM i (by omega)]
      unfold G7
      by_cases e:ts[i].toList=[]
      · rw [if_pos e,if_neg (by simp [e])]
      · rw [if_neg e]
        simp [e]
    cases hr:G7 ts[i] with
    | true =>
      rw [Bool.true_and]
      exact Ev.step (fun k=>by rw [zM k,if_pos hr]) ih
    | false =>
      rw [Bool.false_and,Bool.false_and]
      exact Ev.step (f:=fun _=>some _) (fun k=>by rw [zM k,if_neg (by rw [hr];simp)]) (Ev.now _)
theorem Kw (ts:List ByteArray) (lo gl:ByteArray) (cs:List iQ) (ht:ts.length≤140737488355328) (hc:cs.length≤140737488355328):Ev (fun k=>bV.f k ts lo gl cs) (tK ts lo gl cs):=by
  have h:=DU ts lo gl cs ht hc ts.length 0 (Nat.zero_add _)
  rw [List.drop_zero] at h
  exact h
def oC (s:ByteArray):ByteArray:=if s.toList=[] then ⟨#[45]⟩ else s
theorem I4 (s:ByteArray):jv.f s=some (oC s):=by
  unfold jv.f oC
  split <;> rfl
def Wf (cs:List iQ):Prop:=∀ x ∈ cs,(0≤x.f1∧x.f1≤255)∧(0≤x.f2∧x.f2≤255)∧(0≤x.f3∧x.f3≤255)∧(-9223372036854775808≤x.f4∧x.f4≤9223372036854775807)
def rC (x:iQ):List ByteArray:=rD x.f0.toNat x.f1 x.f2 x.f3 x.f4
theorem JI {x:iQ} (h:jI x=true) (hw:(0≤x.f1∧x.f1≤255)∧(0≤x.f2∧x.f2≤255)∧(0≤x.f3∧x.f3≤255)∧(-9223372036854775808≤x.f4∧x.f4≤9223372036854775807)):kJ.f x.f0 x.f1 x.f2 x.f3 x.f4=some (rC x):=by
  unfold kJ.f
  rw [if_pos ⟨xB h,hw⟩]
  rfl
def yM (lo gl:ByteArray):List (List ByteArray):=[[⟨#[108,111,99,97,108,115]⟩,oC lo],[⟨#[103,108,111,98,97,108,115]⟩,oC gl]]
def DF (s:ByteArray):List ByteArray:=[⟨#[116,121,112,101]⟩,s]
def tN (ts:List ByteArray) (lo gl:ByteArray) (cs:List iQ):List (List ByteArray):=ts.map DF++yM lo gl++cs.map rC
def xy (ts:List ByteArray) (lo gl:ByteArray) (cs:List iQ):ByteArray:=Bs (kN (tN ts lo gl cs))
theorem qp {α:Type} (l:List α) (i:Nat) (h:i < l.length):l.take (i+1)=l.take i++[l[i]]:=List.take_succ_eq_append_getElem h
theorem Aa (acc:List (List ByteArray)) (ha:acc.length≤1000002) (cs:List iQ) (hc:cs.length≤1000000) (hr:∀ x ∈ cs,jI x=true) (hw:Wf cs) (r:ByteArray) (hj:jr.f (acc++cs.map rC)=some r):∀ (d i:Nat),i+d=cs.length →
    Ev (fun k=>aU.l1 k (acc++(cs.take i).map rC) cs ((cs.length:Nat):Int) (i:Int)) (r,0)
  | 0,i,hi=>by
    refine Ev.step (f:=fun _=>some _) (fun k=>?_) (Ev.now _)
    simp only [aU.l1]
    rw [if_neg (by omega),List.take_of_length_le (by omega),hj,Option.bind_some]
  | d+1,i,hi=>by
    have hlt:i < cs.length:=by omega
    have ih:=Aa acc ha cs hc hr hw r hj d (i+1) (by omega)
    refine Ev.step (fun k=>?_) ih
    have hm:cs[i] ∈ cs:=List.getElem_mem hlt
    conv=>lhs;simp only [aU.l1]
    rw [if_pos (by omega),if_pos (by omega),if_pos (by omega),DR cs i hlt,JI (hr _ hm) (hw _ hm),Option.bind_some,if_pos (by simp;omega),iM i (by omega),qp cs i hlt,List.map_append,List.append_assoc]
    rfl
theorem Ad (ts:List ByteArray) (lo gl:ByteArray) (cs:List iQ) (ht:ts.length≤1000000) (hc:cs.length≤1000000) (hr:∀ x ∈ cs,jI x=true) (hw:Wf cs) (r:ByteArray) (hj:jr.f (tN ts lo gl cs)=some r):∀ (d i:Nat),i+d=ts.length →
    Ev (fun k=>aU.l0 k ((ts.take i).map DF) ts ((ts.length:Nat):Int) (i:Int) ts lo gl cs) (r,0)
  | 0,i,hi=>by
    have h:=Aa (ts.map DF++yM lo gl) (by simp [yM];omega) cs hc hr hw r hj cs.length 0 (Nat.zero_add _)
    rw [List.take_zero,List.map_nil,List.append_nil] at h
    refine Ev.step (fun k=>?_) h
    simp only [aU.l0]
    rw [if_neg (by omega),I4,I4,Option.bind_some,Option.bind_some,Option.bind_some,if_pos (by simp;omega),List.take_of_length_le (by omega)]
    rfl
  | d+1,i,hi=>by
    have hlt:i < ts.length:=by omega
    have ih:=Ad ts lo gl cs ht hc hr hw r hj d (i+1) (by omega)
    refine Ev.step (fun k=>?_) ih
    conv=>lhs;simp only [aU.l0]
    rw [if_pos (by omega),if_pos (by omega),if_pos (by omega),if_pos (by simp;omega),vI ts i hlt,iM i (by omega),qp ts i hlt,List.map_append]
    rfl
theorem GZ (ts:List ByteArray) (lo gl:ByteArray) (cs:List iQ) (ht:ts.length≤140737488355328) (hc:cs.length≤140737488355328) (hw:Wf cs) (hj:tK ts lo gl cs=true→ts.length≤1000000∧jr.f (tN ts lo gl cs)=some (xy ts lo gl cs)) :
    Ev (fun k=>aU.f k ts lo gl cs) (if tK ts lo gl cs=true then (xy ts lo gl cs,0) else (⟨#[]⟩,2)):=by
  unfold aU.f
  refine Ev.bind (Kw ts lo gl cs ht hc) ?_
  by_cases h:tK ts lo gl cs=true
  · rw [if_pos h]
    have hr:∀ x ∈ cs,jI x=true:=by
      unfold tK at h
      simp only [Bool.and_eq_true,List.all_eq_true] at h
      exact h.2.1
    have hc2:cs.length≤1000000:=by
      unfold tK at h
      simp only [Bool.and_eq_true,decide_eq_true_eq] at h
      omega
    have h0:=Ad ts lo gl cs (hj h).1 hc2 hr hw _ (hj h).2 ts.length 0 (Nat.zero_add _)
    rw [List.take_zero,List.map_nil] at h0
    have hm:tK ts lo gl cs=true:=h
    rw [hm]
    exact h0
  · have hf:tK ts lo gl cs=false:=by simpa using h
    rw [if_neg h,hf]
    exact Ev.now _
end Go.Proofs.YtkclndkbccbhaaaGreatDoor.P
end
section
namespace Go.Proofs.YtkclndkbccbhaaaGreatDoor.P
open Go.RowKit Go.MapKept Go.MapFrom Go.Proofs.ae.aX Go.Proofs.ae.dh Go.Proofs.ae.dI
def setArg (ch:Nat) (v:Int) (x:Int × Int × Int × Int):Int × Int × Int × Int :=
  if ch=110 then (x.1,x.2.1,x.2.2.1,v) else if ch=97 then (v,x.2.1,x.2.2.1,x.2.2.2) else if ch=98 then (x.1,v,x.2.2.1,x.2.2.2) else (x.1,x.2.1,v,x.2.2.2)
def mX:List UInt8→List ByteArray→Int × Int × Int × Int→Option (Option (Int × Int × Int × Int))
  | [],_,x=>some (some x)
  | _ :: _,[],_=>none
  | ch :: hs,w :: ws,x=>(lN.f w).bind fun r=>if r.2=0 then (if ch.toNat=110 then mX hs ws (setArg 110 r.1 x) else if 0≤r.1∧r.1≤255 then mX hs ws (setArg ch.toNat r.1 x) else some none) else some none
def DN (k:Int):Option (Int × Int × Int × Int)→Int × Int × Int × Int × Int × Bool
  | none=>(0,0,0,0,0,false)
  | some x=>(k,x.1,x.2.1,x.2.2.1,x.2.2.2,true)
def zZ:Nat→Nat→List ByteArray→Option (Int × Int × Int × Int × Int × Bool)
  | 0,_,_=>some (0,0,0,0,0,false)
  | d+1,k,l=>if k=0 ∨ (nameOf k).toList ≠ (dZ ByteArray.empty l 0).toList ∨ l.length ≠ (oq k).size+1 then zZ d (k+1) l else (mX (oq k).data.toList l.tail (0,0,0,0)).map (DN k)
def mM.f (l:List ByteArray):Option (Int × Int × Int × Int × Int × Bool):=if 0 < l.length then zZ 16 0 l else none
def rG (bi:Nat):Nat→Array MapEntry
  | 0=>#[]
  | 1=>#[⟨.int .i32 97,.pointer (some ⟨bi,1,none⟩),0⟩]
  | 2=>#[⟨.int .i32 97,.pointer (some ⟨bi,1,none⟩),0⟩,⟨.int .i32 98,.pointer (some ⟨bi,2,none⟩),1⟩]
  | _=>#[⟨.int .i32 97,.pointer (some ⟨bi,1,none⟩),0⟩,⟨.int .i32 98,.pointer (some ⟨bi,2,none⟩),1⟩,⟨.int .i32 99,.pointer (some ⟨bi,3,none⟩),2⟩]
def kR (w:World) (b:Nat) (o:Obj):World:={ w with heap:=w.heap.setIfInBounds b o }
theorem yP (W:World) (bm bi j:Nat) (x:Int) (hx:x=((97+j:Nat):Int)) (hj:j < 3) (hm:W.heap[bm]? = some (.map (rG bi j) j)) :
    (Instr.mapUpdate 92 (.map (some bm)) (.int .i32 x) (.pointer (some ⟨bi,1+j,none⟩))).run Tryz.prog W=.ok () (kR W bm (.map (rG bi (j+1)) (j+1))):=by
  have hu:Tryz.prog.underlying 92=some (.map 21 91):=by kernel_rfl
  have hk:Tryz.prog.underlying 21=some (.int .i32):=by kernel_rfl
  have hkey:IsKey (.int .i32) (.int .i32 x):=rfl
  have h1:Instr.findNow (.int .i32) (.int .i32 x) (rG bi j).toList 0=some none:=by
    obtain rfl|rfl|rfl:j=0 ∨ j=1 ∨ j=2:=by omega
    all_goals (subst hx;rfl)
  have h2:(rG bi j).push ⟨.int .i32 x,.pointer (some ⟨bi,1+j,none⟩),j⟩=rG bi (j+1):=by
    obtain rfl|rfl|rfl:j=0 ∨ j=1 ∨ j=2:=by omega
    all_goals (subst hx;rfl)
  simp [Instr.mapUpdate,run_underlying hu,MapKept.run_getObj_map hm,run_checkKey hk hkey,run_findKey hk h1,MapKept.run_setObj_map _ hm,Result.andThen,h2,kR]
theorem vU (W:World) (bm bi j:Nat) (x:Int) (hx:x=((97+j:Nat):Int)) (hj:j < 3) (hm:W.heap[bm]? = some (.map (rG bi 3) 3)) :
    (Instr.lookup 92 (.map (some bm)) (.int .i32 x) false).run Tryz.prog W=.ok (.pointer (some ⟨bi,1+j,none⟩)) W:=by
  have hu:Tryz.prog.underlying 92=some (.map 21 91):=by kernel_rfl
  have hk:Tryz.prog.underlying 21=some (.int .i32):=by kernel_rfl
  have hkey:IsKey (.int .i32) (.int .i32 x):=rfl
  have h1:Instr.findNow (.int .i32) (.int .i32 x) (rG bi 3).toList 0=some (some (j,.pointer (some ⟨bi,1+j,none⟩))):=by
    obtain rfl|rfl|rfl:j=0 ∨ j=1 ∨ j=2:=by omega
    all_goals (subst hx;rfl)
  simp [Instr.lookup,run_underlying hu,MapKept.run_getObj_map hm,run_checkKey hk hkey,run_findKey hk h1,Result.andThen]
theorem Fp (k:Nat) (hk:k < 16) (w:World):(Instr.index 52 (.agg (opsL.map Value.string).toArray) (.int .i64 k)).run Tryz.prog w=.ok (.agg #[.string (nameOf k),.string (oq k)]) w:=by
  have hu:Tryz.prog.underlying 52=some (.array 16 51):=by kernel_rfl
  have hs:(sizeOf 51).run Tryz.prog w=.ok 2 w:=by simp [go_sem]
  have ha:(isAgg 51).run Tryz.prog w=.ok true w:=by simp [go_sem]
  have he:(List.take 2 (List.drop (k * 2) (List.map Value.string opsL))).toArray=#[.string (nameOf k),.string (oq k)]:=by
    obtain rfl|rfl|rfl|rfl|rfl|rfl|rfl|rfl|rfl|rfl|rfl|rfl|rfl|rfl|rfl|rfl:k=0 ∨ k=1 ∨ k=2 ∨ k=3 ∨ k=4 ∨ k=5 ∨ k=6 ∨ k=7 ∨ k=8 ∨ k=9 ∨ k=10 ∨ k=11 ∨ k=12 ∨ k=13 ∨ k=14 ∨ k=15:=by omega
    all_goals rfl
  simp [Instr.index,run_underlying hu,asIntOf,Result.andThen,part,hs,ha]
  rw [if_pos hk,he]
theorem CP:∀ o:Nat,1≤o→o≤15→∀ ch ∈ (oq o).data.toList,ch.toNat=97 ∨ ch.toNat=98 ∨ ch.toNat=99 ∨ ch.toNat=110:=by
  intro o h1 h2
  obtain rfl|rfl|rfl|rfl|rfl|rfl|rfl|rfl|rfl|rfl|rfl|rfl|rfl|rfl|rfl:o=1 ∨ o=2 ∨ o=3 ∨ o=4 ∨ o=5 ∨ o=6 ∨ o=7 ∨ o=8 ∨ o=9 ∨ o=10 ∨ o=11 ∨ o=12 ∨ o=13 ∨ o=14 ∨ o=15:=by omega
  all_goals decide
structure NF (G:Nat) (w0 w:World):Prop where
  bk:w.heap[G]? = some (.cells #[.int .u8 0,.int .u8 0,.int .u8 0,.int .u8 0,.int .i64 0] 27 (0,0))
  bel:Below G w0 w
structure xh (G bi bm it pos:Nat) (hs:ByteArray) (k:Int) (x:Int × Int × Int × Int) (w0 w:World):Prop where
  bk:w.heap[G]? = some (.cells #[.int .u8 0,.int .u8 0,.int .u8 0,.int .u8 0,.int .i64 0] 27 (0,0))
  ins:w.heap[bi]? = some (.cells #[.int .u8 k,.int .u8 x.1,.int .u8 x.2.1,.int .u8 x.2.2.1,.int .i64 x.2.2.2] 27 (0,0))
  map:w.heap[bm]? = some (.map (rG bi 3) 3)
  iter:w.heap[it]? = some (.stringIter hs pos)
  bel:Below G w0 w
  lo:G < bi∧bi < bm∧bm < it
section
variable {G bi bm it pos:Nat} {hs:ByteArray} {k:Int} {x:Int × Int × Int × Int} {w0 w w1:World}
theorem dn {w:World} {j:Nat} {o:Obj} (h:w.heap[j]? = some o):j < w.heap.size:=(Array.getElem?_eq_some_iff.1 h).1
theorem NF.below (h:NF G w0 w) (hb:Below w.heap.size w w1):NF G w0 w1:=⟨(hb.block G (dn h.bk)).trans h.bk,h.bel.trans (hb.mono (Nat.le_of_lt (dn h.bk)))⟩
theorem xh.below (h:xh G bi bm it pos hs k x w0 w) (hb:Below w.heap.size w w1):xh G bi bm it pos hs k x w0 w1 :=
  ⟨(hb.block G (dn h.bk)).trans h.bk,(hb.block bi (dn h.ins)).trans h.ins,(hb.block bm (dn h.map)).trans h.map,(hb.block it (dn h.iter)).trans h.iter,h.bel.trans (hb.mono (Nat.le_of_lt (dn h.bk))),h.lo⟩
theorem xh.drewN (h:xh G bi bm it pos hs k x w0 w) (n:Nat):xh G bi bm it pos hs k x w0 (w.drewN n):=h.below (ag (Below.refl _ _) n)
theorem xh.next (h:xh G bi bm it pos hs k x w0 w) (pos':Nat):xh G bi bm it pos' hs k x w0 (w.iterAt it hs pos'):=by
  have far:∀ j,j ≠ it→(w.iterAt it hs pos').heap[j]? = w.heap[j]?:=fun j hj=>Lib.iterAt_other w it j hs pos' hj
  have hl:=h.lo
  exact ⟨(far G (by omega)).trans h.bk,(far bi (by omega)).trans h.ins,(far bm (by omega)).trans h.map,Lib.iterAt_heap w it hs pos pos' h.iter,Lib.below_iterAt h.bel (by omega) hs pos',h.lo⟩
theorem xh.cell (h:xh G bi bm it pos hs k x w0 w) (j:Nat):w.cell? ⟨bi,j,none⟩=(#[.int .u8 k,.int .u8 x.1,.int .u8 x.2.1,.int .u8 x.2.2.1,.int .i64 x.2.2.2]:Array Value)[j]?:=by simp [World.cell?,h.ins]
theorem xh.fr (h:xh G bi bm it pos hs k x w0 w) (j:Nat):w.frozen? ⟨bi,j,none⟩=false:=by simp [World.frozen?,h.ins]
theorem xh.zero (h:xh G bi bm it pos hs k x w0 w) (j:Nat):w.cell? ⟨G,j,none⟩=(#[.int .u8 0,.int .u8 0,.int .u8 0,.int .u8 0,.int .i64 0]:Array Value)[j]?:=by simp [World.cell?,h.bk]
theorem xh.set (h:xh G bi bm it pos hs k x w0 w) (j:Nat) (v:Value) (x':Int × Int × Int × Int) (e:(#[.int .u8 k,.int .u8 x.1,.int .u8 x.2.1,.int .u8 x.2.2.1,.int .i64 x.2.2.2]:Array Value).setIfInBounds j v=#[.int .u8 k,.int .u8 x'.1,.int .u8 x'.2.1,.int .u8 x'.2.2.1,.int .i64 x'.2.2.2]):xh G bi bm it pos hs k x' w0 (w.setCell ⟨bi,j,none⟩ v):=by
  have hl:=h.lo
  have far:∀ i,i ≠ bi→(w.setCell ⟨bi,j,none⟩ v).heap[i]? = w.heap[i]?:=fun i hi=>Below.heap_setCell w ⟨bi,j,none⟩ v i hi
  refine ⟨(far G (by omega)).trans h.bk,?_,(far bm (by omega)).trans h.map,(far it (by omega)).trans h.iter,h.bel.setCell (p:=⟨bi,j,none⟩) (by show G≤bi;omega) v,h.lo⟩
  rw [← e]
  exact Ey h.ins j v
end
theorem dU {w:World} {g t:Nat} {old:Array Value} (hg:w.heap[g]? = some (.cells old t (0,0))) (cs:Array Value):(w.setRow g cs).heap[g]? = some (.cells cs t (0,0)):=by
  simp [World.setRow,Array.getElem?_modify,hg]
theorem lL {w:World} {g:Nat} (cs:Array Value) (k:Nat) (hk:k ≠ g):(w.setRow g cs).heap[k]? = w.heap[k]?:=by
  simp only [World.setRow,Array.getElem?_modify]
  rw [if_neg (by omega)]
theorem dm {B g:Nat} {w0 w:World} (hb:Below B w0 w) (hBg:B≤g) (cs:Array Value):Below B w0 (w.setRow g cs) :=
  hb.trans ⟨rfl,rfl,rfl,by simp [World.setRow],fun k hk=>lL cs k (by omega)⟩
theorem FX (s:ByteArray) (pos:Nat) (h:pos < s.size):s.data.toList.drop pos=(s[pos]'h) :: s.data.toList.drop (pos+1):=by
  have hl:pos < s.data.toList.length:=by simpa using h
  rw [List.drop_eq_getElem_cons hl]
  rfl
theorem tq {w:World} {b:Nat} {o o':Obj} (h:w.heap[b]? = some o):(kR w b o').heap[b]? = some o':=by
  simp [kR,(Array.getElem?_eq_some_iff.1 h).1]
theorem oN {w:World} {b:Nat} {o':Obj} (j:Nat) (h:j ≠ b):(kR w b o').heap[j]? = w.heap[j]?:=by simp [kR,Ne.symm h]
theorem oO {B b:Nat} {w0 w:World} {o':Obj} (hb:Below B w0 w) (hBb:B≤b):Below B w0 (kR w b o') :=
  ⟨hb.os,hb.tape,hb.output,by simp [kR];exact hb.size,fun k hk=>(oN k (by omega)).trans (hb.block k hk)⟩
set_option maxRecDepth 100000 in
set_option maxHeartbeats 6400000 in
theorem mM.calls (A0:Option Addr) (c0:Nat) (l0:List ByteArray) (r1 r2 r3 r4 r5:Int) (r6:Bool) (w:World) (hr0:Kd.C Kd.string w A0 l0.length l0) (iC:Kd.C pK w pM jO.length jO) (h:mM.f l0=some (r1,r2,r3,r4,r5,r6)) :
    Calls Tryz.prog 33 #[.slice A0 l0.length c0] w fun e w'=>e=.returned (.tuple #[.agg #[.int .u8 r1,.int .u8 r2,.int .u8 r3,.int .u8 r4,.int .i64 r5],.bool r6])∧Below w.heap.size w w':=by
  unfold mM.f at h
  by_cases hl0:0 < l0.length
  case neg =>
    rw [if_neg hl0] at h
    cases h
  rw [if_pos hl0] at h
  obtain ⟨ad,e0,hx0⟩:=Kd.ed hr0 0 (by omega) (by omega)
  subst e0
  rw [show (0:Int).toNat=0 from rfl,Addr.add_zero'] at hx0
  obtain ⟨Pj,hl00⟩:∃ x,dZ ByteArray.empty l0 0=x:=⟨_,rfl⟩
  rw [hl00] at hx0
  have P5:=World.block_lt_of_cell? w _ hx0
  obtain ⟨arr,harr⟩:∃ arr,(opsL.map Value.string).toArray=arr:=⟨_,rfl⟩
  have XI:=af.mk Fp
  rw [harr] at XI
  have hT:=(pJ iC).ops
  have hrange:∀ W:World,Kd.C Kd.string W nT opsL.length opsL→W.rangeAt 0 0 arr.toList:=by
    intro W hW j v hv
    rw [← harr] at hv
    simp only [List.getElem?_map,List.toList_toArray] at hv
    obtain ⟨x,hx,rfl⟩:=Option.map_eq_some_iff.1 hv
    have hj:=(List.getElem?_eq_some_iff.1 hx).1
    rw [Nat.zero_add,rX hW j (by have:opsL.length=32:=rfl;omega),List.getD_eq_getElem?_getD,hx]
    rfl
  have VS:arr.toList.length=32:=by rw [← harr];rfl
  obtain ⟨G,hG⟩:∃ G,w.heap.size=G:=⟨_,rfl⟩
  obtain ⟨w1,hw1⟩:∃ w1,w.alloc (.cells #[.int .u8 0,.int .u8 0,.int .u8 0,.int .u8 0,.int .i64 0] 27)=w1:=⟨_,rfl⟩
  have hB1:Below G w w1:=by rw [← hw1,← hG];exact (Below.refl _ w).alloc (Nat.le_refl _) _
  have hk1:w1.heap[G]? = some (.cells #[.int .u8 0,.int .u8 0,.int .u8 0,.int .u8 0,.int .i64 0] 27 (0,0)):=by rw [← hw1,← hG];exact heap_alloc_new w _
  have XE:=Lib.hid (hrange w1 (Kd.dB hT (by rw [hG];exact hB1)))
  have HO:=af.mk (show NF G w w1 from ⟨hk1,hB1⟩)
  have HR:=af.mk hr0
  have HT:=af.mk iC
  have HH:=af.mk h
  have HL:=Lib.hid hl0
  have HX0:=Lib.hid hx0
  have Rk:=Lib.hid (show ad.block < G by rw [← hG];exact P5)
  have hlen0:(0 < l0.length)=True:=eq_true hl0
  clear h iC hT hrange hr0 hB1 hk1 hx0 P5 hl0
  go_enter Tryz.func33,Tryz.ntmps33
  go_wp2_with (first|((with_reducible refine eu (N:=12) rfl ?_);refine wpList_load_mid rfl 52 (.global 0) rfl 0 0 rfl arr.toList _ XE.out Tryz.underlying52 rfl (by rw [VS];kernel_rfl) ?_;rw [Array.toArray_toList]))
  clear hw1
  go_loopg [13] 16 (fun kq v wr=>∃ (k:Nat),kq+k=16∧v=.int .i64 k∧af (zZ kq k l0=some (r1,r2,r3,r4,r5,r6))∧af (NF G w wr))
  case atStart=>exact ⟨0,rfl,rfl,HH,HO⟩
  case round =>
  clear HH HO XE
  obtain ⟨k,hkq,rfl,HH,HX⟩:=hrel
  cases gk with
  | zero =>
    have hd0:decide ((k:Int) < 16)=false:=decide_eq_false (by omega)
    have hH:=HH.out
    rw [zZ] at hH
    injection hH with hH
    simp only [Prod.mk.injEq] at hH
    obtain ⟨rfl,rfl,rfl,rfl,rfl,rfl⟩:=hH
    clear HH
    have kG:=HX.out.bk
    have kz:=dU kG #[.int .u8 0,.int .u8 0,.int .u8 0,.int .u8 0,.int .i64 0]
    have qR:=af.mk (dm HX.out.bel (Nat.le_refl G) #[.int .u8 0,.int .u8 0,.int .u8 0,.int .u8 0,.int .i64 0])
    have KZ:=af.mk kz
    clear HX kz
    go_wp2_with (skip;refine wpList_store_row rfl 27 (.tmp 2) (.tmp 87) rfl G (#[.int .u8 0,.int .u8 0,.int .u8 0,.int .u8 0,.int .i64 0]) rfl rfl 27 _ kG (by kernel_rfl) rfl (by simp [Value.oneCell']) ?_)
    (try simp only [Exit.inBlock,Exit.then])
    refine bodyPost_ret (oP rfl _ _ G 27 #[.int .u8 0,.int .u8 0,.int .u8 0,.int .u8 0,.int .i64 0] (0,0) _ rfl KZ.out Tryz.underlying27 rfl (by kernel_rfl)) rfl ?_
    exact ⟨rfl,by have q:=qR.out;first|exact q|(rw [hG];exact q)⟩
  | succ ng =>
  have hd0:decide ((k:Int) < 16)=true:=decide_eq_true (by omega)
  have VI:k < 16:=by omega
  have hix:=XI.out k VI
  obtain ⟨nm,hnm⟩:∃ nm,nameOf k=nm:=⟨_,rfl⟩
  obtain ⟨hs,H5⟩:∃ hs,oq k=hs:=⟨_,rfl⟩
  rw [hnm,H5] at hix
  obtain ⟨b5,hb5⟩:∃ b,wr.heap.size=b:=⟨_,rfl⟩
  obtain ⟨Wa,hWa⟩:∃ Wa,wr.alloc (.cells #[.string ⟨#[]⟩,.string ⟨#[]⟩] 51)=Wa:=⟨_,rfl⟩
  have hzb:Wa.heap[b5]? = some (.cells #[.string ⟨#[]⟩,.string ⟨#[]⟩] 51 (0,0)):=by rw [← hWa,← hb5];exact heap_alloc_new wr _
  have hGb:G < b5:=by rw [← hb5];exact dn HX.out.bk
  have hBr:Below wr.heap.size wr (Wa.setRow b5 #[.string nm,.string hs]):=dm (by rw [← hWa];exact (Below.refl _ wr).alloc (Nat.le_refl _) _) (by omega) _
  have HY:=af.mk (HX.out.below hBr)
  have BG:=af.mk (dU hzb #[.string nm,.string hs])
  clear HX hBr
  go_upto_region 4 with (first|(skip;refine wpList_store_row rfl 51 (.tmp 5) (.tmp 16) rfl b5 (#[.string nm,.string hs]) rfl rfl 51 _ hzb (by kernel_rfl) rfl (by simp [Value.oneCell']) ?_))
  clear hzb hWa hb5 hix
  change Code.wp _ _ _ _ (Wa.setRow b5 #[.string nm,.string hs])
  generalize Wa.setRow b5 #[.string nm,.string hs]=Wm at HY BG ⊢
  have n0:Wm.cell? ⟨b5,0,none⟩=some (.string nm):=by simp [World.cell?,BG.out]
  have n1:Wm.cell? ⟨b5,1,none⟩=some (.string hs):=by simp [World.cell?,BG.out]
  have m0:Wm.cell? ad=some (.string Pj):=(HY.out.bel.cell Rk.out).trans HX0.out
  have hsz3:hs.size≤3:=by
    by_cases h0:k=0
    · rw [← H5,h0];decide
    · rw [← H5];exact (uC k (by omega) (by omega)).1
  obtain ⟨z1,hz1⟩:∃ z:Int,z=(hs.size:Int)+1:=⟨_,rfl⟩
  have hw1:IntKind.i64.wrap ((hs.size:Int)+1)=z1:=by rw [hz1];exact IntWalk.i64_in _ (by omega)
  have hH:=HH.out
  rw [zZ,hnm,H5,hl00] at hH
  clear HH
  by_cases hk0:k=0
  case pos =>
    rw [if_pos (.inl hk0)] at hH
    have g0:((k:Int) == 0)=true:=beq_iff_eq.2 (by omega)
    have HH:=af.mk hH
    clear hH
    go_quiet (fail)
    rename_i nq
    have HX:=af.mk (show NF G w (Wm.drewN nq) from HY.out.below (ag (Below.refl _ _) nq))
    clear HY BG n0 n1 m0
    have e3:=Lib.hid (show wrap64 ((k:Int)+1)=((k+1:Nat):Int) by unfold wrap64;omega)
    go_wp2
    go_roundg ng
    case measure=>omega
    case rel=>exact ⟨k+1,by omega,by first|rfl|rw [e3.out]|(simp;omega),HH,HX⟩
  have g0:((k:Int) == 0)=false:=beq_eq_false_iff_ne.2 (by omega)
  by_cases hnn:nm.toList=Pj.toList
  case neg =>
    rw [if_pos (.inr (.inl hnn))] at hH
    have g1:(nm.toList == Pj.toList)=false:=beq_eq_false_iff_ne.2 hnn
    have g2:(nm.toList != Pj.toList)=true:=by simp [hnn]
    have HH:=af.mk hH
    clear hH hnn
    go_quiet (fail)
    rename_i nq
    have HX:=af.mk (show NF G w (Wm.drewN nq) from HY.out.below (ag (Below.refl _ _) nq))
    clear HY BG n0 n1 m0
    have e3:=Lib.hid (show wrap64 ((k:Int)+1)=((k+1:Nat):Int) by unfold wrap64;omega)
    go_wp2
    go_roundg ng
    case measure=>omega
    case rel=>exact ⟨k+1,by omega,by first|rfl|rw [e3.out]|(simp;omega),HH,HX⟩
  have g1:(nm.toList == Pj.toList)=true:=beq_iff_eq.2 hnn
  have g2:(nm.toList != Pj.toList)=false:=by simp [hnn]
  by_cases hll:l0.length=hs.size+1
  case neg =>
    rw [if_pos (.inr (.inr hll))] at hH
    have g3:((l0.length:Int) == z1)=false:=beq_eq_false_iff_ne.2 (by omega)
    have g4:((l0.length:Int) != z1)=true:=by simp;omega
    have HH:=af.mk hH
    clear hH hnn hll hz1
    go_quiet (fail)
    rename_i nq
    have HX:=af.mk (show NF G w (Wm.drewN nq) from HY.out.below (ag (Below.refl _ _) nq))
    clear HY BG n0 n1 m0
    have e3:=Lib.hid (show wrap64 ((k:Int)+1)=((k+1:Nat):Int) by unfold wrap64;omega)
    go_wp2
    go_roundg ng
    case measure=>omega
    case rel=>exact ⟨k+1,by omega,by first|rfl|rw [e3.out]|(simp;omega),HH,HX⟩
  rw [if_neg (by simp [hk0,hnn,hll])] at hH
  obtain ⟨r0,hra,hrr⟩:=Option.map_eq_some_iff.1 hH
  have g3:((l0.length:Int) == z1)=true:=beq_iff_eq.2 (by omega)
  have g4:((l0.length:Int) != z1)=false:=by simp;omega
  have XG:=af.mk hra
  have HRR:=af.mk hrr
  have Rl:=Lib.hid (show l0.length=hs.size+1∧hs.size≤3∧1≤k∧k≤15 from ⟨hll,hsz3,by omega,by omega⟩)
  have WI:=Lib.hid H5
  clear hH hra hrr hnn hk0 hsz3
  go_quiet (fail)
  rename_i nq
  have hbq:Below Wm.heap.size Wm (Wm.drewN nq):=ag (Below.refl _ _) nq
  have HX:=af.mk (HY.out.below hbq)
  have Vw:=af.mk ((hbq.block b5 (dn BG.out)).trans BG.out)
  clear HY BG n0 n1 m0 g0 g1 g2 g3 g4 hll hw1 hz1 hbq hnm H5
  generalize Wm.drewN nq=Wq at HX Vw ⊢
  obtain ⟨bi,hbi⟩:∃ b,Wq.heap.size=b:=⟨_,rfl⟩
  obtain ⟨Wb,VT⟩:∃ Wb,Wq.alloc (.cells #[.int .u8 0,.int .u8 0,.int .u8 0,.int .u8 0,.int .i64 0] 27)=Wb:=⟨_,rfl⟩
  have hzi:Wb.heap[bi]? = some (.cells #[.int .u8 0,.int .u8 0,.int .u8 0,.int .u8 0,.int .i64 0] 27 (0,0)):=by rw [← VT,← hbi];exact heap_alloc_new Wq _
  have Y8:IntKind.u8.wrap (k:Int)=k:=IntWalk.u8_in _ (by omega)
  have Yv:b5 < bi:=by rw [← hbi];exact dn Vw.out
  have hBr:Below Wq.heap.size Wq (Wb.setRow bi #[.int .u8 k,.int .u8 0,.int .u8 0,.int .u8 0,.int .i64 0]):=dm (by rw [← VT];exact (Below.refl _ Wq).alloc (Nat.le_refl _) _) (by omega) _
  have HY:=af.mk (HX.out.below hBr)
  have BG:=af.mk ((hBr.block b5 (by omega)).trans Vw.out)
  have Vu:=af.mk (dU hzi #[.int .u8 k,.int .u8 0,.int .u8 0,.int .u8 0,.int .i64 0])
  clear HX Vw hBr
  go_upto_region 6 with (first|(skip;refine wpList_store_row rfl 27 (.tmp 6) (.tmp 38) rfl bi (#[.int .u8 k,.int .u8 0,.int .u8 0,.int .u8 0,.int .i64 0]) rfl rfl 27 _ hzi (by kernel_rfl) rfl (by simp [Value.oneCell']) ?_))
  clear hzi VT hbi
  change Code.wp _ _ _ _ (Wb.setRow bi #[.int .u8 k,.int .u8 0,.int .u8 0,.int .u8 0,.int .i64 0])
  generalize Wb.setRow bi #[.int .u8 k,.int .u8 0,.int .u8 0,.int .u8 0,.int .i64 0]=Wc at HY BG Vu ⊢
  obtain ⟨bm,hbm⟩:∃ b,Wc.heap.size=b:=⟨_,rfl⟩
  have him:bi < bm:=by rw [← hbm];exact dn Vu.out
  obtain ⟨V0,hV0⟩:∃ V,Wc.alloc (.map #[] 0)=V:=⟨_,rfl⟩
  have hm0:V0.heap[bm]? = some (.map (rG bi 0) 0):=by rw [← hV0,← hbm];exact heap_alloc_new Wc _
  obtain ⟨V1,hV1⟩:∃ V,kR V0 bm (.map (rG bi (0+1)) (0+1))=V:=⟨_,rfl⟩
  have hi1:=yP V0 bm bi 0 97 rfl (by decide) hm0
  rw [hV1,Nat.add_zero] at hi1
  have hm1:V1.heap[bm]? = some (.map (rG bi 1) 1):=by rw [← hV1];exact tq hm0
  obtain ⟨V2,hV2⟩:∃ V,kR V1 bm (.map (rG bi (1+1)) (1+1))=V:=⟨_,rfl⟩
  have hi2:=yP V1 bm bi 1 98 rfl (by decide) hm1
  rw [hV2,show 1+1=2 from rfl] at hi2
  have hm2:V2.heap[bm]? = some (.map (rG bi 2) 2):=by rw [← hV2];exact tq hm1
  obtain ⟨V3,P7⟩:∃ V,kR V2 bm (.map (rG bi (2+1)) (2+1))=V:=⟨_,rfl⟩
  have hi3:=yP V2 bm bi 2 99 rfl (by decide) hm2
  rw [P7,show 1+2=3 from rfl] at hi3
  have VG:V3.heap[bm]? = some (.map (rG bi 3) 3):=by rw [← P7];exact tq hm2
  have Ld:∀ j,j < bm→V3.heap[j]? = Wc.heap[j]?:=fun j hj=>by
    rw [← P7,oN j (by omega),← hV2,oN j (by omega),← hV1,oN j (by omega),← hV0]
    exact Below.heap_alloc Wc _ j (by omega)
  have Nc:Below G w V3:=by
    rw [← P7]
    refine oO ?_ (by omega)
    rw [← hV2]
    refine oO ?_ (by omega)
    rw [← hV1]
    refine oO ?_ (by omega)
    rw [← hV0]
    exact HY.out.bel.alloc (by omega) _
  have hn1:V3.cell? ⟨b5,1,none⟩=some (.string hs):=by simp [World.cell?,(Ld b5 (by omega)).trans BG.out]
  obtain ⟨it,hit⟩:∃ b,V3.heap.size=b:=⟨_,rfl⟩
  obtain ⟨V4,Vm⟩:∃ V,V3.iter hs 0=V:=⟨_,rfl⟩
  have hmt:bm < it:=by rw [← hit];exact dn VG
  have hup:∀ j,j < it→V4.heap[j]? = V3.heap[j]?:=fun j hj=>by rw [← Vm];exact Below.heap_alloc V3 _ j (by omega)
  have HI:=af.mk (show xh G bi bm it 0 hs k (0,0,0,0) w V4 from ⟨(hup G (by omega)).trans ((Ld G (by omega)).trans HY.out.bk),(hup bi (by omega)).trans ((Ld bi him).trans Vu.out),(hup bm hmt).trans VG,by rw [← Vm,← hit];exact World.iter_heap V3 hs 0,by rw [← Vm];exact Nc.alloc (by omega) _,by omega,by omega,by omega⟩)
  have hmm:=@run_makeMap Tryz.prog
  clear HY BG Vu hm0 hm1 hm2 VG Ld Nc hup him hmt Yv hGb hV1 hV2 P7
  go_wp2
  clear hi1 hi2 hi3 hn1 hbm hV0 hit Vm hmm
  have XF:=af.mk (show mX (hs.data.toList.drop 0) (l0.drop (0+1)) (0,0,0,0)=some r0 from by rw [List.drop_zero,Nat.zero_add,List.drop_one,← WI.out];rw [WI.out];exact XG.out)
  go_loopg [] hs.size (fun kq wr=>∃ (pos:Nat) (x:Int × Int × Int × Int),kq+pos=hs.size∧af (mX (hs.data.toList.drop pos) (l0.drop (pos+1)) x=some r0)∧af (xh G bi bm it pos hs k x w wr))
  case atStart=>exact ⟨0,(0,0,0,0),Nat.add_zero _,XF,HI⟩
  case round =>
  clear XG XF HI
  obtain ⟨pos,x,hpk,HA,HX⟩:=hrel
  by_cases hp:pos < hs.size
  case neg =>
    have hnx:∀ ty,(Instr.next (.pointer (some ⟨it,0,none⟩)) true ty).run Tryz.prog wr=.ok (.tuple #[.bool false]) wr:=fun ty=>Lib.run_next_end_at wr it hs pos ty HX.out.iter hp
    have hA:=HA.out
    rw [List.drop_eq_nil_of_le (by simp;omega),mX] at hA
    have hr0:=(Option.some.inj hA).symm
    have hrr:=HRR.out
    rw [hr0] at hrr
    simp only [DN,Prod.mk.injEq] at hrr
    obtain ⟨rfl,rfl,rfl,rfl,rfl,rfl⟩:=hrr
    have kI:=HX.out.ins
    have kG:=HX.out.bk
    have KZ:=af.mk (dU kG #[.int .u8 k,.int .u8 x.1,.int .u8 x.2.1,.int .u8 x.2.2.1,.int .i64 x.2.2.2])
    have qR:=af.mk (dm HX.out.bel (Nat.le_refl G) #[.int .u8 k,.int .u8 x.1,.int .u8 x.2.1,.int .u8 x.2.2.1,.int .i64 x.2.2.2])
    clear HX HA HRR hA hr0 hp hpk
    go_wp2_with (first|((with_reducible refine eu (N:=85) rfl ?_);refine wpList_load_row rfl 27 (.tmp 6) rfl bi rfl 27 (#[.int .u8 k,.int .u8 x.1,.int .u8 x.2.1,.int .u8 x.2.2.1,.int .i64 x.2.2.2]) (0,0) _ kI Tryz.underlying27 rfl (by kernel_rfl) ?_)|(skip;refine wpList_store_row rfl 27 (.tmp 2) (.tmp 85) rfl G (#[.int .u8 k,.int .u8 x.1,.int .u8 x.2.1,.int .u8 x.2.2.1,.int .i64 x.2.2.2]) rfl rfl 27 _ kG (by kernel_rfl) rfl (by simp [Value.oneCell']) ?_))
    (try simp only [Exit.inBlock,Exit.then])
    refine bodyPost_ret (oP rfl _ _ G 27 #[.int .u8 k,.int .u8 x.1,.int .u8 x.2.1,.int .u8 x.2.2.1,.int .i64 x.2.2.2] (0,0) _ rfl KZ.out Tryz.underlying27 rfl (by kernel_rfl)) rfl ?_
    exact ⟨rfl,by have q:=qR.out;first|exact q|(rw [hG];exact q)⟩
  have Iq:=CP k Rl.out.2.2.1 Rl.out.2.2.2 (hs[pos]'hp) (by rw [WI.out];simp [ByteArray.getElem_eq_getElem_data])
  obtain ⟨ch,hch⟩:∃ c:Nat,(hs[pos]'hp).toNat=c:=⟨_,rfl⟩
  rw [hch] at Iq
  obtain ⟨Wn,OD⟩:∃ Wn,wr.iterAt it hs (pos+1)=Wn:=⟨_,rfl⟩
  have hnx:∀ ty,(Instr.next (.pointer (some ⟨it,0,none⟩)) true ty).run Tryz.prog wr=.ok (.tuple #[.bool true,.int .i64 pos,.int .i32 ch]) Wn:=fun ty=>by rw [← OD,← hch];exact Lib.run_next_ascii_at wr it hs pos ty HX.out.iter hp (by omega)
  replace HX:=af.mk (show xh G bi bm it (pos+1) hs k x w Wn from by rw [← OD];exact HX.out.next (pos+1))
  obtain ⟨z,hz⟩:∃ z:Int,z=(pos:Int)+1:=⟨_,rfl⟩
  have hpl:pos+1 < l0.length:=by have:=Rl.out;omega
  have hzw:IntKind.i64.wrap ((pos:Int)+1)=z:=by rw [hz];exact IntWalk.i64_in _ (by have:=Rl.out;omega)
  have hz0:0≤z:=by omega
  have hz1:z < (l0.length:Int):=by omega
  obtain ⟨ad',e,hx⟩:=Kd.ed (Kd.dB HR.out (by rw [hG];exact HX.out.bel)) z hz0 hz1
  injection e with e
  subst e
  obtain ⟨wd,hwd⟩:∃ wd,dZ ByteArray.empty l0 z=wd:=⟨_,rfl⟩
  rw [hwd] at hx
  have hdl:l0.drop (pos+1)=wd :: l0.drop (pos+1+1):=by
    rw [List.drop_eq_getElem_cons hpl,← hwd,dZ,hz,List.getD_eq_getElem?_getD,show ((pos:Int)+1).toNat=pos+1 by omega,List.getElem?_eq_getElem hpl]
    rfl
  have hA:=HA.out
  rw [FX hs pos hp,hdl,mX,hch] at hA
  obtain ⟨⟨nv,ev⟩,hN,hA⟩:=Option.bind_eq_some_iff.1 hA
  have HN:=Lib.hid hN
  have HA2:=af.mk hA
  have Jz:=Lib.hid (show gk+pos=hs.size∧pos < hs.size from ⟨hpk,hp⟩)
  clear hA hN HA hdl hpk hwd hz hpl OD hch
  have hz2:(z < (hs.size:Int)+1)=True:=eq_true (by have:=Rl.out;omega)
  replace hz0:=eq_true hz0
  replace hz1:=eq_true hz1
  go_upto_region 11 with (go_at_call 53;refine (lN.calls wd nv ev _ (Kd.dB HT.out (by rw [hG];exact HX.out.bel)) HN.out).mono ?_;rintro e w4 ⟨rfl,hb4⟩;replace HX:=af.mk (HX.out.below hb4);clear hb4)
  clear hx hnx hzw hz0 hz1 hz2 HN
  have hA:=HA2.out
  by_cases hev:ev=0
  case neg =>
    rw [if_neg hev] at hA
    have hr0:=(Option.some.inj hA).symm
    have hrr:=HRR.out
    rw [hr0] at hrr
    simp only [DN,Prod.mk.injEq] at hrr
    obtain ⟨rfl,rfl,rfl,rfl,rfl,rfl⟩:=hrr
    have b1:(ev != 0)=true:=by simp [hev]
    clear hA HA2 HRR hr0 hev Iq hp
    have kG:=HX.out.bk
    have kz:=dU kG #[.int .u8 0,.int .u8 0,.int .u8 0,.int .u8 0,.int .i64 0]
    have qR:=af.mk (dm HX.out.bel (Nat.le_refl G) #[.int .u8 0,.int .u8 0,.int .u8 0,.int .u8 0,.int .i64 0])
    have KZ:=af.mk kz
    clear HX kz
    go_wp2_with (skip;refine wpList_store_row rfl 27 (.tmp 2) (.tmp 74) rfl G (#[.int .u8 0,.int .u8 0,.int .u8 0,.int .u8 0,.int .i64 0]) rfl rfl 27 _ kG (by kernel_rfl) rfl (by simp [Value.oneCell']) ?_)
    (try simp only [Exit.inBlock,Exit.then])
    refine bodyPost_ret (oP rfl _ _ G 27 #[.int .u8 0,.int .u8 0,.int .u8 0,.int .u8 0,.int .i64 0] (0,0) _ rfl KZ.out Tryz.underlying27 rfl (by kernel_rfl)) rfl ?_
    exact ⟨rfl,by have q:=qR.out;first|exact q|(rw [hG];exact q)⟩
  subst hev
  rw [if_pos rfl] at hA
  by_cases hc:ch=110
  case pos =>
    subst hc
    rw [if_pos rfl] at hA
    have Ru:=af.mk hA
    have c4:w4.cell? ⟨bi,4,none⟩=some (.int .i64 x.2.2.2):=HX.out.cell 4
    have f4:=HX.out.fr 4
    have um:=af.mk (HX.out.set 4 (.int .i64 nv) (setArg 110 nv x) rfl)
    clear hA HA2 Iq HX
    go_wp2
    go_roundg (gk - 1)
    case measure=>have:=Jz.out;omega
    case rel=>exact ⟨pos+1,setArg 110 nv x,by have:=Jz.out;omega,Ru,um⟩
  rw [if_neg hc] at hA
  have b2:((ch:Int) != 110)=true:=by simp;omega
  have b3:((ch:Int) == 110)=false:=beq_eq_false_iff_ne.2 (by omega)
  by_cases hr:0≤nv∧nv≤255
  case neg =>
    rw [if_neg hr] at hA
    have hr0:=(Option.some.inj hA).symm
    have hrr:=HRR.out
    rw [hr0] at hrr
    simp only [DN,Prod.mk.injEq] at hrr
    obtain ⟨rfl,rfl,rfl,rfl,rfl,rfl⟩:=hrr
    by_cases hn0:nv < 0
    case' pos =>
      have d1:decide (nv < 0)=true:=decide_eq_true hn0
    case' neg =>
      have d1:decide (nv < 0)=false:=decide_eq_false hn0
      have d2:decide (255 < nv)=true:=decide_eq_true (by omega)
    all_goals
      clear hA HA2 HRR hr0 Iq hr hn0 hc hp
      have kG:=HX.out.bk
      have kz:=dU kG #[.int .u8 0,.int .u8 0,.int .u8 0,.int .u8 0,.int .i64 0]
      have qR:=af.mk (dm HX.out.bel (Nat.le_refl G) #[.int .u8 0,.int .u8 0,.int .u8 0,.int .u8 0,.int .i64 0])
      have KZ:=af.mk kz
      clear HX kz
      go_wp2_with (skip;refine wpList_store_row rfl 27 (.tmp 2) (.tmp 74) rfl G (#[.int .u8 0,.int .u8 0,.int .u8 0,.int .u8 0,.int .i64 0]) rfl rfl 27 _ kG (by kernel_rfl) rfl (by simp [Value.oneCell']) ?_)
      (try simp only [Exit.inBlock,Exit.then])
      refine bodyPost_ret (oP rfl _ _ G 27 #[.int .u8 0,.int .u8 0,.int .u8 0,.int .u8 0,.int .i64 0] (0,0) _ rfl KZ.out Tryz.underlying27 rfl (by kernel_rfl)) rfl ?_
      exact ⟨rfl,by have q:=qR.out;first|exact q|(rw [hG];exact q)⟩
  rw [if_pos hr] at hA
  have Ru:=af.mk hA
  have d1:decide (nv < 0)=false:=decide_eq_false (by omega)
  have d2:decide (255 < nv)=false:=decide_eq_false (by omega)
  have hnu:IntKind.u8.wrap nv=nv:=IntWalk.u8_in _ (by omega)
  clear hA HA2 hr
  rcases Iq with rfl|rfl|rfl|VW
  · have hlk:=vU w4 bm bi 0 97 rfl (by decide) HX.out.map
    have c4:w4.cell? ⟨bi,1,none⟩=some (.int .u8 x.1):=HX.out.cell 1
    have f4:=HX.out.fr 1
    have um:=af.mk (HX.out.set 1 (.int .u8 nv) (setArg 97 nv x) rfl)
    clear HX
    go_wp2
    go_roundg (gk - 1)
    case measure=>have:=Jz.out;omega
    case rel=>exact ⟨pos+1,setArg 97 nv x,by have:=Jz.out;omega,Ru,um⟩
  · have hlk:=vU w4 bm bi 1 98 rfl (by decide) HX.out.map
    have c4:w4.cell? ⟨bi,2,none⟩=some (.int .u8 x.2.1):=HX.out.cell 2
    have f4:=HX.out.fr 2
    have um:=af.mk (HX.out.set 2 (.int .u8 nv) (setArg 98 nv x) rfl)
    clear HX
    go_wp2
    go_roundg (gk - 1)
    case measure=>have:=Jz.out;omega
    case rel=>exact ⟨pos+1,setArg 98 nv x,by have:=Jz.out;omega,Ru,um⟩
  · have hlk:=vU w4 bm bi 2 99 rfl (by decide) HX.out.map
    have c4:w4.cell? ⟨bi,3,none⟩=some (.int .u8 x.2.2.1):=HX.out.cell 3
    have f4:=HX.out.fr 3
    have um:=af.mk (HX.out.set 3 (.int .u8 nv) (setArg 99 nv x) rfl)
    clear HX
    go_wp2
    go_roundg (gk - 1)
    case measure=>have:=Jz.out;omega
    case rel=>exact ⟨pos+1,setArg 99 nv x,by have:=Jz.out;omega,Ru,um⟩
  · exact absurd VW hc
end Go.Proofs.YtkclndkbccbhaaaGreatDoor.P
end
