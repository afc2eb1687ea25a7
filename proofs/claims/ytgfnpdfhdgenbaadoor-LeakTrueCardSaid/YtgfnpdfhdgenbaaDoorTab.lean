/- Parts of the proof of LeakTrue: what the functions that it reaches compute, and plain facts about that. -/
import Derived.OrdersHeld
import Derived.Deep.RegionHeld3
import Derived.Laws.BitsLemmas
import Derived.RowKit
import Derived.Test.YtgfnpdfhdgenbaaDoorTaa
import Derived.Test.YtgfnpdfhdgenbaaDoorProg
import Derived.Below
import Derived.Deep.Draws
import Derived.Deep.AppendLies
import Derived.Maps.AppendAt
import Derived.OwnWalk
import Derived.Laws.BytesArg
import Derived.Laws.MakeOwn
import Derived.Laws.OwnMore
import Derived.Deep.OwnRows
import Derived.Tactics
import Derived.Lib.ConvBytes
import Derived.Laws.Slices
import Derived.WalkKit
import Derived.KernelRfl
import Derived.RowKit3
import Derived.Deep.LoopGhost
import Derived.Deep.QuietTactic
import Derived.BigQuiet
import Derived.WideLaws
import Derived.Deep.DeepCutAuto
import Derived.Deep.CutBlock
import Derived.Laws.Rows
import Derived.Lib.AppendStr
import Derived.ArgAppend
import Derived.Laws.IdiomCopy
import Derived.Shelf.Lay
import Derived.Shelf.Strconv.Itoa3
import Derived.Lib.LaidTab
import Derived.Test.YtgfnpdfhdgenbaaDoorTie
import Derived.ProofKit
import Derived.OpenShut
import Derived.ShutString
import Derived.ChangeOld
import Derived.SliceStrings
import Derived.Deep.DeepHandedRow
import Derived.Lib.SmallJoins
set_option linter.unusedVariables false
set_option linter.unusedSimpArgs false
section
namespace Go.Proofs.ae.bY
section
variable {P:Program} {ops:Array Oper} {Q:Exit→Act→World→Prop} {md:Region.Mode} {S:World→Prop} {ds:List Nat}
def Region.pR (md:Region.Mode) (ops:Array Oper) (i:Nat):Nat→Nat→Bool
  | 0,_=>false
  | fuel+1,d=>match ops[d]? with
    | some o=>o.after.any fun e=>Region.binds md e && (e.on == i || Region.pR md ops i fuel e.on)
    | none=>false
def Region.vX (md:Region.Mode) (ops:Array Oper) (listed:Array Bool):Bool :=
  (List.range ops.size).all fun j=>!listed.getD j false || match ops[j]? with
    | some o=>o.after.all fun e=>!Region.binds md e || listed.getD e.on false
    | none=>true
def Region.lastB (md:Region.Mode) (ops:Array Oper) (listed:Array Bool) (ds:List Nat) (i:Nat):Bool :=
  ds.all fun d=>listed.getD d true || Region.pR md ops i ops.size d
def lF (md:Region.Mode) (ops:Array Oper) (listed:Array Bool):Prop :=
  ∀ j oj,ops[j]? = some oj→listed.getD j false=true→∀ e ∈ oj.after,Region.binds md e=true→listed.getD e.on false=true
theorem Region.DT {listed:Array Bool} (h:Region.vX md ops listed=true):lF md ops listed:=by
  intro j oj hj hl e he hb
  have hlt:j < ops.size:=(Array.getElem?_eq_some_iff.1 hj).1
  have h1:=List.all_eq_true.1 h j (List.mem_range.2 hlt)
  simp only [hl,hj,Bool.not_true,Bool.false_or] at h1
  have h2:=Array.all_eq_true_iff_forall_mem.1 h1 e he
  simpa [hb] using h2
theorem lF.set {listed:Array Bool} {i:Nat} (h:lF md ops listed) (hi:i ∈ Region.ready md ops listed):lF md ops (listed.setIfInBounds i true):=by
  obtain ⟨_,oi,hoi,hall⟩:=mem_ready.1 hi
  intro j oj hj hl e he hb
  by_cases hij:i=j
  · subst hij
    have:oj=oi:=Option.some.inj (hj.symm.trans hoi)
    subst this
    exact getD_set_true (hall e he hb)
  · rw [getD_set_ne false hij] at hl
    exact getD_set_true (h j oj hj hl e he hb)
theorem Region.uY {listed:Array Bool} {i:Nat} (hc:lF md ops listed):∀ (fuel d:Nat),Region.pR md ops i fuel d=true→listed.getD d false=true→listed.getD i false=true
  | 0,_,h,_=>by simp [Region.pR] at h
  | fuel+1,d,h,hl=>by
    unfold Region.pR at h
    cases ho:ops[d]? with
    | none=>rw [ho] at h;simp at h
    | some o =>
      rw [ho] at h
      obtain ⟨e,he,h1⟩:=Array.any_eq_true'.1 h
      simp only [Bool.and_eq_true,Bool.or_eq_true,beq_iff_eq] at h1
      have hle:=hc d o ho hl e he h1.1
      rcases h1.2 with h2|h2
      · rw [← h2];exact hle
      · exact Region.uY hc fuel e.on h2 hle
theorem Region.xI {listed:Array Bool} {i d fuel:Nat} (hc:lF md ops listed) (hr:Region.pR md ops i fuel d=true) (hun:listed.getD i true=false):d ∉ Region.ready md ops listed:=by
  intro hd
  obtain ⟨_,o,ho,hall⟩:=mem_ready.1 hd
  have hi:listed.getD i false=true:=by
    cases fuel with
    | zero=>simp [Region.pR] at hr
    | succ n =>
      unfold Region.pR at hr
      rw [ho] at hr
      obtain ⟨e,he,h1⟩:=Array.any_eq_true'.1 hr
      simp only [Bool.and_eq_true,Bool.or_eq_true,beq_iff_eq] at h1
      have hle:=hall e he h1.1
      rcases h1.2 with h2|h2
      · rw [← h2];exact hle
      · exact Region.uY hc n e.on h2 hle
  rcases Nat.lt_or_ge i listed.size with h'|h'
  · simp [h'] at hun hi
    rw [hun] at hi
    cases hi
  · simp [Array.getElem?_eq_none h'] at hun
def fE (P:Program) (md:Region.Mode) (ops:Array Oper) (Q:Exit→Act→World→Prop) (S:World→Prop) (ds:List Nat):Nat→Array Bool→Act→World→Prop
  | 0,listed,a,w=>Region.ready md ops listed=[]∧Q .normal a w
  | fuel+1,listed,a,w =>
    (Region.ready md ops listed=[]→Q .normal a w) ∧
    ∀ i ∈ Region.ready md ops listed,wpOp P ops Q i (fun a' w'=>(i ∉ ds→S w→S w')∧fE P md ops Q S ds fuel (listed.setIfInBounds i true) a' w') a w
theorem uu:∀ (fuel:Nat) (listed:Array Bool) (a:Act) (w:World),fE P md ops Q S ds fuel listed a w→wpAny P md ops Q fuel listed a w
  | 0,_,_,_,h=>h
  | fuel+1,_,_,_,h=>⟨h.1,fun i hi=>wpOp_mono (fun a' w' h'=>uu fuel _ a' w' h'.2) (h.2 i hi)⟩
theorem xH {i:Nat} {oi:Oper} {v:Value} (hi:ops[i]? = some oi) (hsel:∀ (j:Nat) (o:Oper) cs b,ops[j]? = some o→o.op ≠ .select cs b)
    (hQ:∀ c a w,Q (.panic c) (a.put oi.dst v) w→Q (.panic c) a w) (n:Nat) :
    ∀ (fuel:Nat) (listed:Array Bool) (a:Act) (w:World),
      (∀ j oj,ops[j]? = some oj→j ≠ i→listed.getD j true=false→(∀ e ∈ oj.after,Region.binds md e=true→e.on ≠ i)→oi.apart ops oj=true) →
      lF md ops listed→(∀ d ∈ ds,listed.getD d true=false→Region.pR md ops i n d=true) →
      i ∈ Region.ready md ops listed→YieldsIf P ops S oi v a→S w →
      fE P md ops Q S ds fuel (listed.setIfInBounds i true) (a.put oi.dst v) w→fE P md ops Q S ds (fuel+1) listed a w:=by
  intro fuel
  induction fuel with
  | zero =>
    intro listed a w _ _ _ hr hy hS H
    refine ⟨fun h=>(by rw [h] at hr;cases hr),fun j hj=>?_⟩
    by_cases hji:j=i
    · subst hji;exact hy.wpOp hi hS ⟨fun _ h=>h,H⟩
    · have:=ready_mono hj hji
      rw [H.1] at this
      cases this
  | succ fuel ih =>
    intro listed a w hfree hc hd hr hy hS H
    refine ⟨fun h=>(by rw [h] at hr;cases hr),fun j hj=>?_⟩
    by_cases hji:j=i
    · subst hji;exact hy.wpOp hi hS ⟨fun _ h=>h,H⟩
    · have h1:=H.2 j (ready_mono hj hji)
      obtain ⟨hjun,oj,hoj,hall⟩:=mem_ready.1 hj
      have LM:=(mem_ready.1 hr).1
      have hnot:∀ e ∈ oj.after,Region.binds md e=true→e.on ≠ i:=fun e he hb heq=>by
        have h1:=hall e he hb
        rw [heq] at h1
        rcases Nat.lt_or_ge i listed.size with h'|h'
        · simp [h'] at LM h1;rw [LM] at h1;cases h1
        · simp [Array.getElem?_eq_none h'] at h1
      have hjd:j ∉ ds:=fun hm=>Region.xI hc (hd j hm hjun) LM hj
      have h2:=wpOp_putIf hoj (hfree j oj hoj hji hjun hnot) (fun cs b=>hsel i oi cs b hi) (fun cs b=>hsel j oj cs b hoj) hQ hy h1
      have hfree':∀ k ok,ops[k]? = some ok→k ≠ i→(listed.setIfInBounds j true).getD k true=false →
          (∀ e ∈ ok.after,Region.binds md e=true→e.on ≠ i)→oi.apart ops ok=true:=fun k ok hk hki hun hno=>by
        refine hfree k ok hk hki ?_ hno
        by_cases hjk:j=k
        · subst hjk;exact hjun
        · rw [getD_set_ne true hjk] at hun;exact hun
      have hd':∀ d ∈ ds,(listed.setIfInBounds j true).getD d true=false→Region.pR md ops i n d=true:=fun d hm hun=>by
        refine hd d hm ?_
        by_cases hjk:j=d
        · subst hjk;exact hjun
        · rw [getD_set_ne true hjk] at hun;exact hun
      refine wpOp_mono (fun a' w' h3=>⟨h3.2.1,ih (listed.setIfInBounds j true) a' w' hfree' (hc.set hj) hd' (ready_mono hr (Ne.symm hji)) h3.1 (h3.2.1 hjd hS) ?_⟩) h2
      rw [Array.setIfInBounds_comm _ _ hji]
      exact h3.2.2
theorem zT {i:Nat} {oi:Oper} {v:Value} (hi:ops[i]? = some oi) (hsel:∀ (j:Nat) (o:Oper) cs b,ops[j]? = some o→o.op ≠ .select cs b)
    (hQ:∀ c a w,Q (.panic c) (a.put oi.dst v) w→Q (.panic c) a w) :
    ∀ (fuel:Nat) (listed:Array Bool) (a:Act) (w:World),
      (∀ j oj,ops[j]? = some oj→j ≠ i→listed.getD j true=false→(∀ e ∈ oj.after,Region.binds md e=true→e.on ≠ i)→oi.apart ops oj=true) →
      i ∈ Region.ready md ops listed→Yields P ops oi v a →
      fE P md ops Q S ds fuel (listed.setIfInBounds i true) (a.put oi.dst v) w→fE P md ops Q S ds (fuel+1) listed a w:=by
  intro fuel
  induction fuel with
  | zero =>
    intro listed a w _ hr hy H
    refine ⟨fun h=>(by rw [h] at hr;cases hr),fun j hj=>?_⟩
    by_cases hji:j=i
    · subst hji;exact (hy.yieldsIf (S:=fun _=>True)).wpOp hi trivial ⟨fun _ h=>h,H⟩
    · have:=ready_mono hj hji
      rw [H.1] at this
      cases this
  | succ fuel ih =>
    intro listed a w hfree hr hy H
    refine ⟨fun h=>(by rw [h] at hr;cases hr),fun j hj=>?_⟩
    by_cases hji:j=i
    · subst hji;exact (hy.yieldsIf (S:=fun _=>True)).wpOp hi trivial ⟨fun _ h=>h,H⟩
    · have h1:=H.2 j (ready_mono hj hji)
      obtain ⟨hjun,oj,hoj,hall⟩:=mem_ready.1 hj
      have LM:=(mem_ready.1 hr).1
      have hnot:∀ e ∈ oj.after,Region.binds md e=true→e.on ≠ i:=fun e he hb heq=>by
        have h1:=hall e he hb
        rw [heq] at h1
        rcases Nat.lt_or_ge i listed.size with h'|h'
        · simp [h'] at LM h1;rw [LM] at h1;cases h1
        · simp [Array.getElem?_eq_none h'] at h1
      have h2:=wpOp_put hoj (hfree j oj hoj hji hjun hnot) (fun cs b=>hsel i oi cs b hi) (fun cs b=>hsel j oj cs b hoj) hQ hy h1
      have hfree':∀ k ok,ops[k]? = some ok→k ≠ i→(listed.setIfInBounds j true).getD k true=false →
          (∀ e ∈ ok.after,Region.binds md e=true→e.on ≠ i)→oi.apart ops ok=true:=fun k ok hk hki hun hno=>by
        refine hfree k ok hk hki ?_ hno
        by_cases hjk:j=k
        · subst hjk;exact hjun
        · rw [getD_set_ne true hjk] at hun;exact hun
      refine wpOp_mono (fun a' w' h3=>⟨h3.2.1,ih (listed.setIfInBounds j true) a' w' hfree' (ready_mono hr (Ne.symm hji)) h3.1 ?_⟩) h2
      rw [Array.setIfInBounds_comm _ _ hji]
      exact h3.2.2
theorem yK {i:Nat} {oi:Oper} {v:Value} {fuel:Nat} {listed:Array Bool} {a:Act} {w:World} (hi:ops[i]? = some oi)
    (hs:Region.noSelect ops=true) (hf:Region.free md ops listed i=true) (hr:(Region.ready md ops listed).contains i=true)
    (hc:Region.vX md ops listed=true) (hl:Region.lastB md ops listed ds i=true)
    (hQ:∀ c a w,Q (.panic c) (a.put oi.dst v) w→Q (.panic c) a w) (hy:YieldsIf P ops S oi v a) (hS:S w)
    (h:fE P md ops Q S ds fuel (listed.setIfInBounds i true) (a.put oi.dst v) w):fE P md ops Q S ds (fuel+1) listed a w :=
  xH hi (Region.noSelect_spec hs) hQ ops.size fuel listed a w (Region.free_spec hi hf) (Region.DT hc)
    (fun d hm hun=>by have:=List.all_eq_true.1 hl d hm;rw [hun] at this;simpa using this) (by simpa using hr) hy hS h
theorem zU {rs:List Nat} {fuel:Nat} {listed:Array Bool} {a:Act} {w:World} (hr:Region.ready md ops listed=rs) (hne:rs ≠ [])
    (h:∀ i ∈ rs,wpOp P ops Q i (fun a' w'=>(i ∉ ds→S w→S w')∧fE P md ops Q S ds fuel (listed.setIfInBounds i true) a' w') a w):fE P md ops Q S ds (fuel+1) listed a w :=
  ⟨fun h0=>absurd (hr ▸ h0) hne,hr ▸ h⟩
theorem yL {listed:Array Bool} {a:Act} {w:World} (hr:Region.ready md ops listed=[]) (h:Q .normal a w) :
    ∀ fuel,fE P md ops Q S ds fuel listed a w
  | 0=>⟨hr,h⟩
  | _+1=>⟨fun _=>h,by rw [hr];simp⟩
theorem yJ {id:Nat} {a:Act} {w:World} (hm:P.follows .mixedOrders=true)
    (h:fE P .any ops Q S ds ops.size (Array.replicate ops.size false) a { w with drawn:=w.drawn+1 }):(Code.region id ops true).wp P Q a w :=
  wp_region_any hm (uu _ _ _ _ h)
end
section
variable {P:Program} {ops:Array Oper} {Q:Exit→Act→World→Prop} {md:Region.Mode} {S:World→Prop} {ds:List Nat}
def ji (P:Program) (md:Region.Mode) (ops:Array Oper) (Q:Exit→Act→World→Prop) (S:World→Prop) (ds:List Nat) (fuel:Nat) (listed:Array Bool) (a:Act) (w:World) (rs:List Nat):Prop :=
  ∀ i ∈ rs,wpOp P ops Q i (fun a' w'=>(i ∉ ds→S w→S w')∧fE P md ops Q S ds fuel (listed.setIfInBounds i true) a' w') a w
theorem ji.nil {fuel:Nat} {listed:Array Bool} {a:Act} {w:World}:ji P md ops Q S ds fuel listed a w []:=fun _ h=>by cases h
theorem ji.cons {fuel:Nat} {listed:Array Bool} {a:Act} {w:World} {i:Nat} {o:Oper} {rs:List Nat} (ho:ops[i]? = some o) (hd:i ∉ ds)
    (h:∀ K':Act→World→Prop,Shut (∀ a w,S w→(S w→fE P md ops Q S ds fuel (listed.setIfInBounds i true) a w)→K' a w)→if Region.wanted o (yielded ops a.tmps)=true then Oper.wp P o a w K' Q else K' (a.put o.dst undef) w)
    (hs:ji P md ops Q S ds fuel listed a w rs):ji P md ops Q S ds fuel listed a w (i :: rs):=fun j hj=>by
  rcases List.mem_cons.1 hj with rfl|hj
  · exact wpOp_step ho (fun K' hK=>h K' (fun a w hS hW=>hK a w ⟨fun _ _=>hS,hW hS⟩))
  · exact hs j hj
theorem ji.LW {fuel:Nat} {listed:Array Bool} {a:Act} {w:World} {i:Nat} {o:Oper} {rs:List Nat} (ho:ops[i]? = some o) (hd:i ∈ ds)
    (h:∀ K':Act→World→Prop,Shut (∀ a w,fE P md ops Q S ds fuel (listed.setIfInBounds i true) a w→K' a w)→if Region.wanted o (yielded ops a.tmps)=true then Oper.wp P o a w K' Q else K' (a.put o.dst undef) w)
    (hs:ji P md ops Q S ds fuel listed a w rs):ji P md ops Q S ds fuel listed a w (i :: rs):=fun j hj=>by
  rcases List.mem_cons.1 hj with rfl|hj
  · exact wpOp_step ho (fun K' hK=>h K' (fun a w hW=>hK a w ⟨fun hn=>absurd hd hn,hW⟩))
  · exact hs j hj
theorem pO {rs:List Nat} {fuel:Nat} {listed:Array Bool} {a:Act} {w:World} (hr:Region.ready md ops listed=rs) (hne:rs ≠ [])
    (h:ji P md ops Q S ds fuel listed a w rs):fE P md ops Q S ds (fuel+1) listed a w:=zU hr hne h
theorem oJ {id n:Nat} {a:Act} {w:World} (l:Array Bool) (hm:P.follows .mixedOrders=true) (hn:ops.size=n) (hl:Array.replicate n false=l) (hS:S w.drew)
    (h:S w.drew→fE P .any ops Q S ds n l a w.drew):(Code.region id ops true).wp P Q a w:=by
  subst hn
  subst hl
  exact yJ hm (h hS)
def takeB (md:Region.Mode) (ops:Array Oper) (ds:List Nat) (l l':Array Bool) (i:Nat):Bool :=
  Region.noSelect ops && Region.free md ops l i && (Region.ready md ops l).contains i && Region.vX md ops l && Region.lastB md ops l ds i && (l.setIfInBounds i true == l')
theorem jf {i:Nat} {N:Option Tmp} {oi:Oper} {v:Value} {fuel:Nat} {l:Array Bool} {a:Act} {w:World} (l':Array Bool) (hi:ops[i]? = some oi) (hN:oi.dst=N) (hc:takeB md ops ds l l' i=true)
    (hQ:∀ c a w,Q (.panic c) (a.put oi.dst v) w→Q (.panic c) a w) (hy:YieldsIf P ops S oi v a) (hS:S w) {a':Act} (ha:a.put N v=a')
    (h:fE P md ops Q S ds fuel l' a' w):fE P md ops Q S ds (fuel+1) l a w:=by
  subst ha
  subst hN
  simp only [takeB,Bool.and_eq_true,beq_iff_eq] at hc
  obtain ⟨⟨⟨⟨⟨h1,h2⟩,h3⟩,h4⟩,h5⟩,h6⟩:=hc
  subst h6
  exact yK hi h1 h2 h3 h4 h5 hQ hy hS h
def Ud (md:Region.Mode) (ops:Array Oper) (l l':Array Bool) (i:Nat):Bool :=
  Region.noSelect ops && Region.free md ops l i && (Region.ready md ops l).contains i && (l.setIfInBounds i true == l')
theorem bW {i:Nat} {N:Option Tmp} {oi:Oper} {v:Value} {fuel:Nat} {l:Array Bool} {a:Act} {w:World} (l':Array Bool) (hi:ops[i]? = some oi) (hN:oi.dst=N) (hc:Ud md ops l l' i=true)
    (hQ:∀ c a w,Q (.panic c) (a.put oi.dst v) w→Q (.panic c) a w) (hy:Yields P ops oi v a) {a':Act} (ha:a.put N v=a')
    (h:fE P md ops Q S ds fuel l' a' w):fE P md ops Q S ds (fuel+1) l a w:=by
  subst ha
  subst hN
  simp only [Ud,Bool.and_eq_true,beq_iff_eq] at hc
  obtain ⟨⟨⟨h1,h2⟩,h3⟩,h6⟩:=hc
  subst h6
  exact zT hi (Region.noSelect_spec h1) hQ fuel l a w (Region.free_spec hi h2) (by simpa using h3) hy h
def wM (md:Region.Mode) (ops:Array Oper) (l l':Array Bool) (i:Nat):Bool:=(Region.ready md ops l == [i]) && (l.setIfInBounds i true == l')
theorem nN {i:Nat} {N:Option Tmp} {oi:Oper} {fuel:Nat} {l:Array Bool} {a:Act} {w:World} (l':Array Bool) (hi:ops[i]? = some oi) (hN:oi.dst=N) (hc:wM md ops l l' i=true) (hd:i ∉ ds)
    (h:∀ K:Act→World→Prop,Shut (∀ a' w',S w'→(S w'→fE P md ops Q S ds fuel l' a' w')→K a' w')→if Region.wanted oi (yielded ops a.tmps)=true then Oper.wp P oi a w K Q else K (a.put N undef) w) :
    fE P md ops Q S ds (fuel+1) l a w:=by
  subst hN
  simp only [wM,Bool.and_eq_true,beq_iff_eq] at hc
  obtain ⟨h1,h2⟩:=hc
  subst h2
  exact pO h1 (by simp) (ji.cons hi hd (fun K hK=>h K hK) ji.nil)
theorem UK {i:Nat} {N:Option Tmp} {oi:Oper} {fuel:Nat} {l:Array Bool} {a:Act} {w:World} (l':Array Bool) (hi:ops[i]? = some oi) (hN:oi.dst=N) (hc:wM md ops l l' i=true) (hd:i ∈ ds)
    (h:∀ K:Act→World→Prop,Shut (∀ a' w',fE P md ops Q S ds fuel l' a' w'→K a' w')→if Region.wanted oi (yielded ops a.tmps)=true then Oper.wp P oi a w K Q else K (a.put N undef) w) :
    fE P md ops Q S ds (fuel+1) l a w:=by
  subst hN
  simp only [wM,Bool.and_eq_true,beq_iff_eq] at hc
  obtain ⟨h1,h2⟩:=hc
  subst h2
  exact pO h1 (by simp) (ji.LW hi hd (fun K hK=>h K hK) ji.nil)
theorem qW {l:Array Bool} {a:Act} {w:World} {n:Nat} (hr:(Region.ready md ops l == [])=true) (h:Q .normal a w):fE P md ops Q S ds n l a w:=yL (by simpa using hr) h n
theorem P7 {i j:Nat} {Ni Nj:Option Tmp} {oi oj:Oper} {fuel:Nat} {l:Array Bool} {a:Act} {w:World} (li lj:Array Bool) (hi:ops[i]? = some oi) (hj:ops[j]? = some oj) (hNi:oi.dst=Ni) (hNj:oj.dst=Nj)
    (hc:(Region.ready md ops l == [i,j] && l.setIfInBounds i true == li && l.setIfInBounds j true == lj)=true) (hdi:i ∉ ds) (hdj:j ∉ ds)
    (h1:∀ K:Act→World→Prop,Shut (∀ a' w',S w'→(S w'→fE P md ops Q S ds fuel li a' w')→K a' w')→if Region.wanted oi (yielded ops a.tmps)=true then Oper.wp P oi a w K Q else K (a.put Ni undef) w)
    (h2:∀ K:Act→World→Prop,Shut (∀ a' w',S w'→(S w'→fE P md ops Q S ds fuel lj a' w')→K a' w')→if Region.wanted oj (yielded ops a.tmps)=true then Oper.wp P oj a w K Q else K (a.put Nj undef) w) :
    fE P md ops Q S ds (fuel+1) l a w:=by
  subst hNi
  subst hNj
  simp only [Bool.and_eq_true,beq_iff_eq] at hc
  obtain ⟨⟨h3,h4⟩,h5⟩:=hc
  subst h4
  subst h5
  exact pO h3 (by simp) (ji.cons hi hdi (fun K hK=>h1 K hK) (ji.cons hj hdj (fun K hK=>h2 K hK) ji.nil))
def jm:Act→List (Tmp × Value)→Act
  | a,[]=>a
  | a,(n,v) :: r=>jm (a.put (some n) v) r
theorem Jc {σ:Type} {fuel:Nat} {l:Array Bool} {a:Act} {w:World} (fuel':Nat) (l':Array Bool) (ns:σ→List (Tmp × Value)) (F:σ→World→Prop)
    (hcont:∀ s w',F s w'→fE P md ops Q S ds fuel' l' (jm a (ns s)) w')
    (h:(∀ s w',F s w'→fE P md ops Q S ds fuel' l' (jm a (ns s)) w')→fE P md ops Q S ds fuel l a w):fE P md ops Q S ds fuel l a w:=h hcont
theorem iT {fuel:Nat} {l:Array Bool} {a a':Act} {w:World} (ha:a=a') (h:fE P md ops Q S ds fuel l a' w):fE P md ops Q S ds fuel l a w:=by
  subst ha
  exact h
theorem call_ {oi:Oper} {N:Option Tmp} {a:Act} {w:World} {K:Act→World→Prop} (f:FuncId) (args:Array Value) (hw:Region.wanted oi (yielded ops a.tmps)=true) (hN:oi.dst=N) (hrun:(execOp a.eval oi).run P w=.ok (.enter f args) w)
    (h:Calls P f args w fun e w'=>∃ v,e=.returned v∧K (a.put N v) w'):if Region.wanted oi (yielded ops a.tmps)=true then Oper.wp P oi a w K Q else K (a.put N undef) w:=by
  rw [if_pos hw]
  subst hN
  unfold Oper.wp
  rw [hrun,Oper.upon_enter]
  refine h.mono fun e w'' hh=>?_
  obtain ⟨v,rfl,hk⟩:=hh
  exact hk
theorem DN {f:FuncId} {fn:Func} (hf:P.funcs[f]? = some fn) (hname:(fn.name == "runtime.NumGoroutine")=false) (hb:fn.body.isSome=true) (args:Array Value) (w:World):(callFunc f args).run P w=.ok (.enter f args) w:=by
  have h1:fn.name ≠ "runtime.NumGoroutine":=by simpa using hname
  obtain ⟨c,hc⟩:=Option.isSome_iff_exists.1 hb
  simp [callFunc,hf,h1,hc]
theorem qm {oi:Oper} {N:Option Tmp} {a:Act} {w:World} {K:Act→World→Prop} {f:FuncId} {fn:Func} {aS:Array Operand} {ts:Array TypeId} (hf:P.funcs[f]? = some fn) (hname:(fn.name == "runtime.NumGoroutine")=false) (hb:fn.body.isSome=true) (args:Array Value)
    (hw:Region.wanted oi (yielded ops a.tmps)=true) (hN:oi.dst=N) (hop:oi.op=.call { callee:=.value (.func f),args:=aS,argTypes:=ts }) (hargs:aS.map a.eval=args)
    (h:Calls P f args w fun e w'=>∃ v,e=.returned v∧K (a.put N v) w'):if Region.wanted oi (yielded ops a.tmps)=true then Oper.wp P oi a w K Q else K (a.put N undef) w:=by
  refine call_ f args hw hN ?_ h
  have he:=DN hf hname hb args w
  unfold execOp
  simp [hop,resolve,Deferred.ofValue,invoke,Act.eval,hargs,he]
theorem fU {rest:List Oper} {oi:Oper} {a:Act} {w:World} (N:Option Tmp) (hd:oi.dst=N) (hg:oi.guard=none) {f:FuncId} {fn:Func} {aS:Array Operand} {ts:Array TypeId} (hf:P.funcs[f]? = some fn) (hname:(fn.name == "runtime.NumGoroutine")=false) (hb:fn.body.isSome=true) (args:Array Value)
    (hop:oi.op=.call { callee:=.value (.func f),args:=aS,argTypes:=ts }) (hargs:aS.map a.eval=args)
    (h:Calls P f args w fun e w'=>∃ v,e=.returned v∧wpList P ops Q rest (a.put N v) w'):wpList P ops Q (oi :: rest) a w:=by
  refine wpList_plain hg fun K hK=>?_
  have he:=DN hf hname hb args w
  have hrun:(execOp a.eval oi).run P w=.ok (.enter f args) w:=by
    unfold execOp
    simp [hop,resolve,Deferred.ofValue,invoke,Act.eval,hargs,he]
  unfold Oper.wp
  rw [hrun,Oper.upon_enter]
  refine h.mono fun e w'' hh=>?_
  obtain ⟨v,rfl,hk⟩:=hh
  subst hd
  exact hK _ _ hk
theorem uJ {oi:Oper} {N:Option Tmp} {a:Act} {w w1:World} {v:Value} {K:Act→World→Prop} (hw:Region.wanted oi (yielded ops a.tmps)=true) (hN:oi.dst=N) (hrun:(execOp a.eval oi).run P w=.ok (.value v) w1)
    (h:K (a.put N v) w1):if Region.wanted oi (yielded ops a.tmps)=true then Oper.wp P oi a w K Q else K (a.put N undef) w:=by
  rw [if_pos hw]
  subst hN
  unfold Oper.wp
  rw [hrun]
  exact h
theorem MW {oi:Oper} {a:Act} {w w1:World} {K:Act→World→Prop} (hw:Region.wanted oi (yielded ops a.tmps)=true) (hN:oi.dst=none) (hrun:(execOp a.eval oi).run P w=.ok .skip w1)
    (h:K a w1):if Region.wanted oi (yielded ops a.tmps)=true then Oper.wp P oi a w K Q else K (a.put none undef) w:=by
  rw [if_pos hw]
  unfold Oper.wp
  rw [hrun]
  show K (a.put oi.dst undef) w1
  rw [hN]
  exact h
theorem aX (n:Int):IntKind.i64.wrap n=Go.RowKit.wrap64 n:=by unfold Go.RowKit.wrap64;exact IntKind.wrap_i64 n
theorem aY (n:Int):IntKind.i32.wrap n=Go.RowKit.wrap32 n:=by unfold Go.RowKit.wrap32;exact IntKind.wrap_i32 n
end
end Go.Proofs.ae.bY
end
section
namespace Go.Proofs.ae.bY
open Go.Proofs.ae.bf (af)
def uk (md:Region.Mode) (o:Oper):List Nat:=(o.after.toList.filter (fun e=>Region.binds md e)).map (fun e=>e.on)
def DU (md:Region.Mode) (ops:Array Oper) (i:Nat) (oi:Oper):List Nat:=(List.range ops.size).filter fun j=>!(j == i) && match ops[j]? with
  | some oj=>!(oj.after.any (fun e=>Region.binds md e && e.on == i) || oi.apart ops oj)
  | none=>false
def oz (md:Region.Mode) (ops:Array Oper):Bool × List (List Nat × List Nat):=(Region.noSelect ops,(List.range ops.size).map fun i=>match ops[i]? with
  | some o=>(uk md o,DU md ops i o)
  | none=>([],[]))
def qC (T:List (List Nat × List Nat)) (l:List Bool) (i:Nat):Bool:=!l.getD i true && match T[i]? with
  | some r=>r.1.all (fun j=>l.getD j false)
  | none=>false
def wL (T:List (List Nat × List Nat)) (l:List Bool):List Nat:=(List.range T.length).filter (qC T l)
def EN (T:List (List Nat × List Nat)) (l:List Bool) (i:Nat):Bool:=match T[i]? with
  | some r=>r.2.all (fun j=>l.getD j true)
  | none=>false
def yF (T:List (List Nat × List Nat)) (l:List Bool):Bool:=(List.range T.length).all fun j=>!l.getD j false || match T[j]? with
  | some r=>r.1.all (fun k=>l.getD k false)
  | none=>true
def wO (T:List (List Nat × List Nat)) (i:Nat):Nat→Nat→Bool
  | 0,_=>false
  | fuel+1,d=>match T[d]? with
    | some r=>r.1.any fun j=>j == i || wO T i fuel j
    | none=>false
def lastT (T:List (List Nat × List Nat)) (l:List Bool) (ds:List Nat) (i:Nat):Bool:=ds.all fun d=>l.getD d true || wO T i T.length d
section
variable {md:Region.Mode} {ops:Array Oper} {T:Bool × List (List Nat × List Nat)} {l l' li lj lk:Array Bool} {ds:List Nat} {i j k:Nat}
theorem gd (l:Array Bool) (j:Nat) (b:Bool):l.getD j b=l.toList.getD j b:=by simp [Array.getD_eq_getD_getElem?,List.getD_eq_getElem?_getD]
theorem Bf (o:Oper) (p:Nat→Bool):o.after.all (fun e=>!Region.binds md e || p e.on)=(uk md o).all p:=by
  unfold uk
  rw [← Array.all_toList]
  induction o.after.toList with
  | nil=>rfl
  | cons e r ih =>
    rw [List.all_cons,ih,List.filter_cons]
    cases h:Region.binds md e <;> simp
theorem Lt (o:Oper) (p:Nat→Bool):o.after.any (fun e=>Region.binds md e && p e.on)=(uk md o).any p:=by
  unfold uk
  rw [← Array.any_toList]
  induction o.after.toList with
  | nil=>rfl
  | cons e r ih =>
    rw [List.any_cons,ih,List.filter_cons]
    cases h:Region.binds md e <;> simp
theorem qB:(oz md ops).2.length=ops.size:=by simp [oz]
theorem uh {o:Oper} (h:ops[i]? = some o):(oz md ops).2[i]? = some (uk md o,DU md ops i o):=by
  have hi:=(Array.getElem?_eq_some_iff.1 h).1
  unfold oz
  rw [List.getElem?_map,List.getElem?_range hi,Option.map_some,h]
theorem ui (h:ops[i]? = none):(oz md ops).2[i]? = none:=by
  have hi:ops.size≤i:=Array.getElem?_eq_none_iff.1 h
  exact List.getElem?_eq_none (by rw [qB];exact hi)
theorem F7:qC (oz md ops).2 l.toList i=(!l.getD i true && ((ops[i]?).map (·.after.all fun e=>!Region.binds md e || l.getD e.on false)).getD false):=by
  unfold qC
  rw [gd]
  cases h:ops[i]? with
  | none=>rw [ui h];rfl
  | some o =>
    rw [uh h]
    simp only [Option.map_some,Option.getD_some]
    rw [← Bf]
    simp only [gd]
theorem ready_eq:Region.ready md ops l=wL (oz md ops).2 l.toList:=by
  unfold Region.ready wL
  rw [qB]
  refine List.filter_congr (fun i _=>?_)
  rw [F7]
theorem free_eq:Region.free md ops l i=EN (oz md ops).2 l.toList i:=by
  unfold Region.free EN
  cases h:ops[i]? with
  | none=>rw [ui h]
  | some oi =>
    rw [uh h]
    simp only [DU]
    rw [List.all_filter]
    congr 1
    funext j
    rw [gd]
    cases hj:ops[j]? with
    | none=>cases (j == i) <;> cases (l.toList.getD j true) <;> simp
    | some oj =>
      cases (j == i) <;> cases (l.toList.getD j true) <;> cases (oj.after.any (fun e=>Region.binds md e && e.on == i) || oi.apart ops oj) <;> simp_all
theorem LX:Region.vX md ops l=yF (oz md ops).2 l.toList:=by
  unfold Region.vX yF
  rw [qB]
  congr 1
  funext j
  rw [gd]
  cases h:ops[j]? with
  | none=>rw [ui h]
  | some o =>
    rw [uh h]
    simp only
    rw [← Bf]
    simp only [gd]
theorem reach_eq:∀ (fuel d:Nat),Region.pR md ops i fuel d=wO (oz md ops).2 i fuel d
  | 0,_=>rfl
  | fuel+1,d=>by
    unfold Region.pR wO
    cases h:ops[d]? with
    | none=>rw [ui h]
    | some o =>
      rw [uh h]
      simp only
      rw [← Lt]
      congr 1
      funext e
      rw [reach_eq fuel]
theorem Qv:Region.lastB md ops l ds i=lastT (oz md ops).2 l.toList ds i:=by
  unfold Region.lastB lastT
  rw [qB]
  congr 1
  funext d
  rw [gd,reach_eq]
theorem xk (h:qC T.2 l.toList i=true) (hT:oz md ops=T):(Region.ready md ops l).contains i=true:=by
  subst hT
  rw [ready_eq]
  unfold wL
  rw [List.contains_iff_mem,List.mem_filter,List.mem_range]
  refine ⟨?_,h⟩
  unfold qC at h
  rw [Bool.and_eq_true] at h
  cases hq:(oz md ops).2[i]? with
  | none=>rw [hq] at h;simp at h
  | some r=>exact (List.getElem?_eq_some_iff.1 hq).1
theorem yN (h:(l.toList.set i true == l'.toList)=true):(l.setIfInBounds i true == l')=true:=by
  rw [beq_iff_eq] at h ⊢
  apply Array.ext'
  rw [Array.toList_setIfInBounds]
  exact h
def ZT (T:Bool × List (List Nat × List Nat)) (l l':List Bool) (i:Nat):Bool:=T.1 && EN T.2 l i && qC T.2 l i && (l.set i true == l')
theorem bG (hT:oz md ops=T) (h:ZT T l.toList l'.toList i=true):Ud md ops l l' i=true:=by
  simp only [ZT,Bool.and_eq_true] at h
  obtain ⟨⟨⟨h1,h2⟩,h3⟩,h4⟩:=h
  have h5:=xk h3 hT
  have h6:=yN h4
  subst hT
  simp only [Ud,Bool.and_eq_true]
  exact ⟨⟨⟨h1,by rw [free_eq];exact h2⟩,h5⟩,h6⟩
def MP (T:Bool × List (List Nat × List Nat)) (ds:List Nat) (l l':List Bool) (i:Nat):Bool:=T.1 && EN T.2 l i && qC T.2 l i && yF T.2 l && lastT T.2 l ds i && (l.set i true == l')
theorem P8 (hT:oz md ops=T) (h:MP T ds l.toList l'.toList i=true):takeB md ops ds l l' i=true:=by
  simp only [MP,Bool.and_eq_true] at h
  obtain ⟨⟨⟨⟨⟨h1,h2⟩,h3⟩,h4⟩,h5⟩,h6⟩:=h
  have h7:=xk h3 hT
  have h8:=yN h6
  subst hT
  simp only [takeB,Bool.and_eq_true]
  exact ⟨⟨⟨⟨⟨h1,by rw [free_eq];exact h2⟩,h7⟩,by rw [LX];exact h4⟩,by rw [Qv];exact h5⟩,h8⟩
theorem jU (hT:oz md ops=T) (h:(wL T.2 l.toList == [i] && l.toList.set i true == l'.toList)=true):wM md ops l l' i=true:=by
  simp only [Bool.and_eq_true] at h
  obtain ⟨h1,h2⟩:=h
  subst hT
  simp only [wM,Bool.and_eq_true]
  exact ⟨by rw [ready_eq];exact h1,yN h2⟩
theorem FU (hT:oz md ops=T) (h:(wL T.2 l.toList == [i,j] && l.toList.set i true == li.toList && l.toList.set j true == lj.toList)=true):(Region.ready md ops l == [i,j] && l.setIfInBounds i true == li && l.setIfInBounds j true == lj)=true:=by
  simp only [Bool.and_eq_true] at h ⊢
  obtain ⟨⟨h1,h2⟩,h3⟩:=h
  subst hT
  exact ⟨⟨by rw [ready_eq];exact h1,yN h2⟩,yN h3⟩
theorem nV (hT:oz md ops=T) (h:(wL T.2 l.toList == [])=true):(Region.ready md ops l == [])=true:=by
  subst hT
  rw [ready_eq]
  exact h
def VT (B:List Nat) (d:Nat):List Nat→Nat
  | []=>0
  | n :: r=>(2 ^ n ||| (if n < d then B.getD n 0 else 0)) ||| VT B d r
def nM (T:List (List Nat × List Nat)) (B:List Nat):Bool:=(List.range T.length).all fun d=>match T[d]? with
  | some r=>(B.getD d 0 ||| VT B d r.1) == VT B d r.1
  | none=>false
theorem IY {B:List Nat} {d i:Nat}:∀ {ns:List Nat},(VT B d ns).testBit i=true→∃ n ∈ ns,n=i ∨ (n < d∧(B.getD n 0).testBit i=true)
  | [],h=>by simp [VT] at h
  | n :: r,h=>by
    unfold VT at h
    rw [Nat.testBit_or,Nat.testBit_or,Bool.or_eq_true,Bool.or_eq_true] at h
    rcases h with (h|h)|h
    · rw [Nat.testBit_two_pow] at h
      exact ⟨n,List.mem_cons_self,.inl (by simpa using h)⟩
    · by_cases hn:n < d
      · rw [if_pos hn] at h
        exact ⟨n,List.mem_cons_self,.inr ⟨hn,h⟩⟩
      · rw [if_neg hn] at h
        simp at h
    · obtain ⟨m,hm,h2⟩:=IY h
      exact ⟨m,List.mem_cons_of_mem _ hm,h2⟩
theorem AZ {T:List (List Nat × List Nat)} {B:List Nat} (hB:nM T B=true):∀ (fuel d:Nat),d < fuel→d < T.length→(B.getD d 0).testBit i=true→wO T i fuel d=true
  | 0,d,h,_,_=>by omega
  | fuel+1,d,h,hd,hb=>by
    have h1:=List.all_eq_true.1 hB d (List.mem_range.2 hd)
    cases hr:T[d]? with
    | none=>rw [hr] at h1;simp at h1
    | some r =>
      rw [hr] at h1
      simp only [beq_iff_eq] at h1
      have h2:(VT B d r.1).testBit i=true:=by rw [← h1,Nat.testBit_or,hb,Bool.true_or]
      obtain ⟨n,hn,h3⟩:=IY h2
      unfold wO
      rw [hr]
      simp only
      rw [List.any_eq_true]
      refine ⟨n,hn,?_⟩
      rcases h3 with rfl|⟨h4,h5⟩
      · simp
      · rw [AZ hB fuel n (by omega) (by omega) h5,Bool.or_true]
def UL (T:List (List Nat × List Nat)) (B:List Nat) (l:List Bool) (ds:List Nat) (i:Nat):Bool:=ds.all fun d=>l.getD d true || (decide (d < T.length) && (B.getD d 0).testBit i)
def UC (T:Bool × List (List Nat × List Nat)) (B:List Nat) (ds:List Nat) (l l':List Bool) (i:Nat):Bool:=T.1 && EN T.2 l i && qC T.2 l i && yF T.2 l && UL T.2 B l ds i && (l.set i true == l')
theorem gm {B:List Nat} (hT:oz md ops=T) (hB:nM T.2 B=true) (h:UC T B ds l.toList l'.toList i=true):takeB md ops ds l l' i=true:=by
  refine P8 hT ?_
  simp only [UC,MP,Bool.and_eq_true] at h ⊢
  obtain ⟨⟨⟨⟨⟨h1,h2⟩,h3⟩,h4⟩,h5⟩,h6⟩:=h
  refine ⟨⟨⟨⟨⟨h1,h2⟩,h3⟩,h4⟩,?_⟩,h6⟩
  unfold UL at h5
  unfold lastT
  rw [List.all_eq_true] at h5 ⊢
  intro d hd
  have h7:=h5 d hd
  rw [Bool.or_eq_true,Bool.and_eq_true,decide_eq_true_eq] at h7
  rcases h7 with h7|⟨h8,h9⟩
  · rw [h7,Bool.true_or]
  · rw [AZ hB _ d h8 h8 h9,Bool.or_true]
theorem kP {P:Program} {Q:Exit→Act→World→Prop} {S:World→Prop} {n:Nat} {a:Act} {w:World} {B:List Nat} (hT:oz md ops=T) (hB:nM T.2 B=true) (h:af (oz md ops=T)→af (nM T.2 B=true)→fE P md ops Q S ds n l a w):fE P md ops Q S ds n l a w:=h ⟨hT⟩ ⟨hB⟩
end
def uz:Code→Nat→Option (Array Oper)
  | .region id ops _,k=>if id == k then some ops else none
  | .seq a b,k=>match uz a k with
    | some o=>some o
    | none=>uz b k
  | .cond _ a b,k=>match uz a k with
    | some o=>some o
    | none=>uz b k
  | .block _ c,k=>uz c k
  | .loop c,k=>uz c k
  | .scope c,k=>uz c k
  | .rangeFunc _ _ a b,k=>match uz a k with
    | some o=>some o
    | none=>uz b k
  | _,_=>none
def opsOf (f:Func) (k:Nat):Array Oper:=((f.body.bind fun c=>uz c k)).getD #[]
end Go.Proofs.ae.bY
end
section
namespace Go.Proofs.ae.bf
open Go.RowKit
namespace Kd
def tag {α:Type} (f:Nat→Nat) (d:Kd α):Kd (α × Nat) where
  sz:=d.sz
  E:=d.E
  K:=fun w x cs=>d.K w x.1 cs
  M:=fun w base ok x cs=>d.M w base (fun k=>ok k∧f k=x.2) x.1 cs
  pG:=fun h=>d.pG h
  pF:=fun h=>d.pF h
  lG:=fun hb h=>d.lG hb h
  kL:=fun h=>d.kL h
  jo:=fun hok h=>d.jo (fun k hk=>⟨hok k hk.1,hk.2⟩) h
  jG:=fun h=>d.jo (fun _ hk=>⟨⟨hk.1.1,hk.2⟩,hk.1.2⟩) (d.jG h)
  lQ:=fun hm h=>d.lQ (fun k hk=>hm k hk.1) h
  lD:=fun hb h=>d.lD hb h
def raw (sz:Nat):Kd (List Value) where
  sz:=sz
  E:=[]
  K:=fun _ x cs=>cs=x∧cs.length=sz∧∀ u ∈ cs,u.oneCell'=true
  M:=fun _ _ _ x cs=>cs=x∧cs.length=sz∧∀ u ∈ cs,u.oneCell'=true
  pG:=fun h=>h.2.1
  pF:=fun h=>h.2.2
  lG:=fun _ h=>h
  kL:=fun h=>h
  jo:=fun _ h=>h
  jG:=fun h=>h
  lQ:=fun _ h=>h
  lD:=fun _ h=>h
def S {α:Type} (d:Kd α) (e:Nat) (w:World) (base:Nat) (ok:Nat→Prop) (v:Value) (xs:List α):Prop:=∃ f,(tag f d).R e w base ok v xs.zipIdx
section
variable {α β:Type} {d:Kd α} {d':Kd β} {e e':Nat} {w w1 W:World} {base b:Nat} {ok ok' okv oku:Nat→Prop} {u v:Value} {xs:List α} {ys:List β}
theorem MK {xs:List α} {j:Nat} {p:α} (h:xs[j]? = some p):xs.zipIdx[j]? = some (p,j):=by rw [List.getElem?_zipIdx,h,Nat.zero_add];rfl
theorem S_R (h:S d e w base ok v xs):d.R e w base ok v xs:=by
  obtain ⟨f,h0,inner,ho,hr⟩:=h
  rw [List.length_zipIdx] at ho
  exact ⟨h0,inner,ho,by have:=hr.1;rw [List.length_zipIdx] at this;exact this,fun j p hj=>d.jo (fun _ hk=>hk.1) (hr.2 j (p,j) (MK hj))⟩
theorem XM {ad:Addr} {n cap:Nat} (h:d.R e w base ok (.slice (some ad) n cap) xs):∃ g,ad=⟨g,0,none⟩:=by
  obtain ⟨_,inner,ho,hr⟩:=h
  rcases ho.2 with ⟨hv,_⟩|⟨g,cap',cur,hv,_⟩
  · cases hv
  · injection hv with ha _ _
    injection ha with ha
    exact ⟨g,ha⟩
theorem XN {ad:Addr} {n cap:Nat} (h:d.R e W base ok (.slice (some ad) n cap) xs) (z:α) (i:Int) (h0:0≤i) (h1:i < n) :
    ∃ c,c.length=d.sz∧d.M W base (fun k=>ok k∧some k ≠ (Value.slice (some ad) n cap).ownBlock) (xs.getD i.toNat z) c∧∀ j u,c[j]? = some u→W.cell? (ad.add (i.toNat * d.sz+j))=some u:=by
  obtain ⟨g,rfl⟩:=XM h
  obtain ⟨c,hcl,hM,hcc,_⟩:=XO h z i h0 h1
  refine ⟨c,hcl,d.jo (fun k hk=>⟨hk.1,fun he=>hk.2 (by simpa [Value.ownBlock] using he)⟩) hM,fun j u hu=>?_⟩
  rw [XJ,Nat.zero_add]
  exact hcc j u hu
theorem Uh (hE:d.E=[]) (h:d.R e w base ok v xs):d.R e w base (fun k=>some k=v.ownBlock) v xs:=by
  obtain ⟨h0,inner,ho,hr⟩:=h
  refine ⟨fun k hk=>hk.symm,inner,ho,hr.uS (fun p c hp=>d.jo (fun k hk=>?_) (d.jG hp))⟩
  obtain ⟨_,_,_,q,hq,_⟩:=hk
  rw [hE] at hq
  cases hq
theorem tX (h:S d e w base ok v xs) (hok:∀ k,ok k→ok' k):S d e w base ok' v xs:=by
  obtain ⟨f,h⟩:=h
  exact ⟨f,mg h hok⟩
theorem Uf (h:S d e w base ok v xs):S d e w base (fun k=>ok k∧base≤k∧k < w.heap.size∧∃ q,q ∈ e :: d.E∧∃ cells,w.heap[k]? = some (.cells cells q (0,0))) v xs:=by
  obtain ⟨f,h⟩:=h
  exact ⟨f,mG h⟩
theorem XK (h:S d e w base ok v xs) (hm:∀ k,ok k→w1.heap[k]? = w.heap[k]?):S d e w1 base ok v xs:=by
  obtain ⟨f,h⟩:=h
  exact ⟨f,DZ h hm⟩
theorem KG {base':Nat} (h:S d e w base ok v xs) (hb:base'≤base):S d e w base' ok v xs:=by
  obtain ⟨f,h⟩:=h
  exact ⟨f,qG h hb⟩
theorem OQ (h:S d e w base ok v xs) (hm:∀ k,ok k→k < w.heap.size→w1.heap[k]? = w.heap[k]?):S d e w1 base ok v xs :=
  tX (XK (Uf h) (fun k hk=>hm k hk.1 hk.2.2.1)) (fun _ hk=>hk.1)
theorem mX (h:S d e w base ok v xs) (hb:Below w.heap.size w w1):S d e w1 base ok v xs:=OQ h (fun k _ hk=>hb.block k hk)
theorem jJ (h:S d e w base ok v xs) (o:Obj):S d e (w.alloc o) base ok v xs:=mX h (aj (Below.refl _ _) o)
theorem lC (h:S d e w base ok v xs):S d e w.drew base ok v xs:=mX h (oO (Below.refl _ _))
theorem jI (h:S d e w base ok v xs) (m:Nat):S d e (w.drewN m) base ok v xs:=mX h (ag (Below.refl _ _) m)
theorem jE (h:S d e w base ok v xs) {p:Addr} (hok:∀ k,ok k→k ≠ p.block) (u:Value):S d e (w.setCell p u) base ok v xs:=OQ h (fun k ho _=>Below.heap_setCell w p u k (hok k ho))
theorem rX (h:S d e w base ok v xs) {g t:Nat} {cells:Array Value} (hb:w.heap[g]? = some (.cells cells t (0,0))) (ht:∀ q,q ∈ e :: d.E→q ≠ t):S d e w base (fun k=>ok k∧k ≠ g) v xs:=by
  obtain ⟨f,h⟩:=h
  exact ⟨f,oU h hb ht⟩
end
section
variable {α β:Type} {d:Kd α} {d':Kd β} {e e' g:Nat} {w w1 W:World} {base b:Nat} {ok ok' okv oku:Nat→Prop} {u v:Value} {xs:List α} {ys:List β}
theorem rY (h:S d e w base ok v xs):∃ A c,v=.slice A xs.length c:=oV (S_R h)
theorem kE {A:Option Addr} {n c:Nat} (h:S d e w base ok (.slice A n c) xs):n=xs.length∧n≤c∧d.C w A xs.length xs:=gp (S_R h)
theorem zK {ad:Addr} {n cap:Nat} (h:S d e W base ok (.slice (some ad) n cap) xs) (z:α) (i:Int) (h0:0≤i) (h1:i < n) :
    ∃ c,c.length=d.sz∧d.M W base (fun k=>ok k∧some k ≠ (Value.slice (some ad) n cap).ownBlock) (xs.getD i.toNat z) c∧∀ j u,c[j]? = some u→W.cell? (ad.add (i.toNat * d.sz+j))=some u:=XN (S_R h) z i h0 h1
end
section
variable {P:Program} {ops:Array Oper} {rest:List Oper} {o:Oper} {a:Act} {Q:Exit→Act→World→Prop} {Kc:Act→World→Prop} {α:Type}
end
def gap {α:Type} (f:Nat→Nat) (d:Kd α) (i:Nat) (c:List Value):Kd (α × Nat) where
  sz:=d.sz
  E:=d.E
  K:=fun w x cs=>(x.2=i→cs=c∧cs.length=d.sz∧∀ u ∈ cs,u.oneCell'=true)∧(x.2 ≠ i→d.K w x.1 cs)
  M:=fun w base ok x cs=>(x.2=i→cs=c∧cs.length=d.sz∧∀ u ∈ cs,u.oneCell'=true)∧(x.2 ≠ i→d.M w base (fun k=>ok k∧f k=x.2) x.1 cs)
  pG:=fun {w x cs} h=>by
    by_cases hx:x.2=i
    · exact (h.1 hx).2.1
    · exact d.pG (h.2 hx)
  pF:=fun {w x cs} h=>by
    by_cases hx:x.2=i
    · exact (h.1 hx).2.2
    · exact d.pF (h.2 hx)
  lG:=fun hb h=>⟨h.1,fun hx=>d.lG hb (h.2 hx)⟩
  kL:=fun h=>⟨h.1,fun hx=>d.kL (h.2 hx)⟩
  jo:=fun hok h=>⟨h.1,fun hx=>d.jo (fun k hk=>⟨hok k hk.1,hk.2⟩) (h.2 hx)⟩
  jG:=fun h=>⟨h.1,fun hx=>d.jo (fun _ hk=>⟨⟨hk.1.1,hk.2⟩,hk.1.2⟩) (d.jG (h.2 hx))⟩
  lQ:=fun hm h=>⟨h.1,fun hx=>d.lQ (fun k hk=>hm k hk.1) (h.2 hx)⟩
  lD:=fun hb h=>⟨h.1,fun hx=>d.lD hb (h.2 hx)⟩
def H {α:Type} (d:Kd α) (e:Nat) (w:World) (base:Nat) (ok:Nat→Prop) (v:Value) (xs:List α) (i:Int) (YG:Nat→Prop) (c:List Value):Prop :=
  (∀ k,YG k→ok k)∧∃ f,(gap f d i.toNat c).R e w base (fun k=>ok k∧¬ YG k) v xs.zipIdx
section
variable {α β:Type} {d:Kd α} {e e' g n cap:Nat} {w w1 W:World} {base:Nat} {ok ok' YG uN:Nat→Prop} {u v:Value} {xs:List α} {i:Int} {c:List Value}
end
section
variable {P:Program} {ops:Array Oper} {rest:List Oper} {o:Oper} {a:Act} {Q:Exit→Act→World→Prop} {α:Type}
end
end Kd
end Go.Proofs.ae.bf
end
section
namespace Go.Proofs.ae.bf
open Go.RowKit
namespace Kd
structure Heap {α:Type} (d:Kd α):Prop where
  K:∀ {w w1:World} {x:α} {cs:List Value},(∀ k,k < w.heap.size→w1.heap[k]? = w.heap[k]?)→d.K w x cs→d.K w1 x cs
theorem L6 {w w1:World} (hb:∀ k,k < w.heap.size→w1.heap[k]? = w.heap[k]?) {a:Addr} {v:Value} (h:w.cell? a=some v):w1.cell? a=some v:=by
  have:=hb a.block (World.block_lt_of_cell? w a h)
  simpa [World.cell?,this] using h
theorem Heap.C {α:Type} {d:Kd α} (hd:Heap d) {w w1:World} {A:Option Addr} {n:Nat} {xs:List α} (hb:∀ k,k < w.heap.size→w1.heap[k]? = w.heap[k]?) (h:d.C w A n xs):d.C w1 A n xs :=
  ⟨h.1,h.2.1,fun hn=>by
    obtain ⟨ad,e,hc⟩:=h.2.2 hn
    refine ⟨ad,e,fun j p hj=>?_⟩
    obtain ⟨c,hs,hr,hcell⟩:=hc j p hj
    exact ⟨c,hs,hd.K hb hr,fun i u hu=>L6 hb (hcell i u hu)⟩⟩
section
variable {α:Type} {d:Kd α} {e base g n c:Nat} {ok:Nat→Prop} {w w0 W:World} {A:Option Addr} {xs:List α}
end
end Kd
end Go.Proofs.ae.bf
end
section
namespace Go.Proofs.ae.bf
open Go.RowKit
def Kept (w W:World) (S:Nat→Prop):Prop:=w.heap.size≤W.heap.size∧∀ i,i < w.heap.size→¬ S i→W.heap[i]? = w.heap[i]?
section
variable {w W W2:World} {S S2 S':Nat→Prop}
theorem Kept.refl (w:World) (S:Nat→Prop):Kept w w S:=⟨Nat.le_refl _,fun _ _ _=>rfl⟩
theorem Kept.of_below (h:Below w.heap.size w W) (S:Nat→Prop):Kept w W S:=⟨h.size,fun i hi _=>h.block i hi⟩
theorem Kept.mono (h:Kept w W S) (hs:∀ k,S k→S' k):Kept w W S':=⟨h.1,fun i hi hn=>h.2 i hi (fun hk=>hn (hs i hk))⟩
theorem Kept.UB (h:Kept w W S) (k:Kept W W2 S2) (hs:∀ k,S2 k→S k ∨ w.heap.size≤k):Kept w W2 S :=
  ⟨Nat.le_trans h.1 k.1,fun i hi hn=>(k.2 i (Nat.lt_of_lt_of_le hi h.1) (fun h2=>(hs i h2).elim hn (fun h3=>by omega))).trans (h.2 i hi hn)⟩
theorem Kept.below (h:Kept w W S) (hb:Below W.heap.size W W2):Kept w W2 S:=h.UB (Kept.of_below hb (fun _=>False)) (fun _ hk=>hk.elim)
theorem Kept.alloc (h:Kept w W S) (o:Obj):Kept w (W.alloc o) S:=h.below (aj (Below.refl _ _) o)
theorem Kept.drew (h:Kept w W S):Kept w W.drew S:=h
theorem Kept.drewN (h:Kept w W S) (m:Nat):Kept w (W.drewN m) S:=h
theorem Kept.setCell (h:Kept w W S) {p:Addr} (hp:S p.block ∨ w.heap.size≤p.block) (u:Value):Kept w (W.setCell p u) S :=
  h.UB (S2:=fun k=>k=p.block) ⟨by simp [World.setCell],fun i _ hn=>Below.heap_setCell W p u i hn⟩ (fun k hk=>by rw [hk];exact hp)
theorem Kept.keep {g:Nat} (h:kJ w W g none) (k:Kept W W2 S2) (hs:∀ k,S2 k→w.heap.size≤k):kJ w W2 g none :=
  ⟨Nat.le_trans h.1 k.1,fun i hi hg hr=>(k.2 i (Nat.lt_of_lt_of_le hi h.1) (fun h2=>by have:=hs i h2;omega)).trans (h.2 i hi hg hr)⟩
end
namespace Kd
section
variable {α:Type} {d:Kd α} {e base n c:Nat} {ok YG S S2:Nat→Prop} {w w0 W W1 W2:World} {v:Value} {A:Option Addr} {xs:List α} {i:Int} {cs:List Value}
end
end Kd
end Go.Proofs.ae.bf
end
section
namespace Go.Proofs.ae.bf
open Go.RowKit
def xK (P:World→Prop) (W:World) (ok:Nat→Prop):Prop:=∀ W':World,(∀ k,ok k→k < W.heap.size→W'.heap[k]? = W.heap[k]?)→P W'
theorem RN {W W1:World} {k:Nat} (h:W1.heap[k]? = W.heap[k]?) (hlt:k < W.heap.size):k < W1.heap.size:=by
  rw [Array.getElem?_eq_getElem hlt] at h
  exact (Array.getElem?_eq_some_iff.1 h).1
namespace xK
variable {P Q:World→Prop} {W W1:World} {ok ok':Nat→Prop}
theorem mono (h:xK P W ok) (hok:∀ k,ok k→ok' k):xK P W ok':=fun W' hW=>h W' (fun k hk hlt=>hW k (hok k hk) hlt)
theorem bound (h:xK P W ok):xK P W (fun k=>ok k∧k < W.heap.size):=fun W' hW=>h W' (fun k hk hlt=>hW k ⟨hk,hlt⟩ hlt)
theorem step (h:xK P W ok) (hm:∀ k,ok k→k < W.heap.size→W1.heap[k]? = W.heap[k]?):xK P W1 ok:=fun W' hW=>h W' (fun k hk hlt=>(hW k hk (RN (hm k hk hlt) hlt)).trans (hm k hk hlt))
theorem old (h:xK P W ok) (hb:Below W.heap.size W W1):xK P W1 (fun k=>ok k∧k < W.heap.size):=(h.bound).step (fun k _ hlt=>hb.block k hlt)
end xK
namespace Kd
def F {α:Type} (d:Kd α) (W:World) (ok:Nat→Prop) (A:Option Addr) (n:Nat) (xs:List α):Prop:=xK (fun W=>d.C W A n xs) W ok
def FK {α:Type} (d:Kd α) (W:World) (ok:Nat→Prop) (x:α) (c:List Value):Prop:=xK (fun W=>d.K W x c) W ok
section
variable {α β:Type} {d:Kd α} {e base n n' cc g N:Nat} {ok ok' uN S:Nat→Prop} {w w0 w1 W W1:World} {A A':Option Addr} {u v v1:Value} {xs:List α} {xs':List β} {d':Kd β} {x:α} {c:List Value}
end
end Kd
end Go.Proofs.ae.bf
end
section
namespace Go.Proofs.ae.bf
open Go.RowKit
namespace Kd
section
variable {α:Type} {d:Kd α} {e base n cc g:Nat} {ok ok' uN S:Nat→Prop} {w w1 W W1:World} {A:Option Addr} {u v v1:Value} {xs:List α} {x:α} {c:List Value}
def N {α:Type} (d:Kd α) (e:Nat) (w:World) (base:Nat) (ok:Nat→Prop) (v:Value) (xs:List α):Prop :=
  (∀ k,v.ownBlock=some k→ok k)∧∃ rows:List (List Value),rows.length=xs.length∧(raw d.sz).R e w base (fun k=>some k=v.ownBlock) v rows∧∀ (j:Nat) (x:α) (c:List Value),xs[j]? = some x→rows[j]? = some c→FK d w (fun k=>ok k∧some k ≠ v.ownBlock) x c
end
end Kd
end Go.Proofs.ae.bf
end
section
namespace Go.Proofs.ae.bf
theorem kK.one {α:Type} {R:α→List Value→Prop} {ps:List α} {cs:List Value} {p:α} {v:Value} (hp:R p [v]) (h:kK R 1 ps cs):kK R 1 (p :: ps) (v :: cs):=by
  refine ⟨by simp [h.1],fun j q hq=>?_⟩
  cases j with
  | zero =>
    simp only [List.getElem?_cons_zero,Option.some.injEq] at hq
    subst hq
    simpa using hp
  | succ j =>
    simp only [List.getElem?_cons_succ] at hq
    have h1:=h.2 j q hq
    simpa [Nat.mul_one] using h1
theorem kK.front {α:Type} {R:α→List Value→Prop} {size:Nat} {ps:List α} {cs c all:List Value} {p:α} (hp:R p c) (hc:c.length=size) (h:kK R size ps cs) (ha:c++cs=all):kK R size (p :: ps) all:=by
  subst ha
  refine ⟨by rw [List.length_append,hc,h.1,List.length_cons,Nat.succ_mul,Nat.add_comm],fun j q hq=>?_⟩
  cases j with
  | zero =>
    simp only [List.getElem?_cons_zero,Option.some.injEq] at hq
    subst hq
    rw [Nat.zero_mul,List.drop_zero,List.take_append_of_le_length (by omega),List.take_of_length_le (by omega)]
    exact hp
  | succ j =>
    simp only [List.getElem?_cons_succ] at hq
    have h1:=h.2 j q hq
    rw [Nat.succ_mul,List.drop_append,List.drop_of_length_le (by rw [hc];exact Nat.le_add_left _ _),List.nil_append,hc,Nat.add_sub_cancel]
    exact h1
theorem kK.c5 {α:Type} {R:α→List Value→Prop} {ps:List α} {cs:List Value} {p:α} {va vb vc vd ve:Value} (hp:R p [va,vb,vc,vd,ve]) (h:kK R 5 ps cs):kK R 5 (p :: ps) (va :: vb :: vc :: vd :: ve :: cs):=kK.front hp rfl h rfl
end Go.Proofs.ae.bf
end
section
namespace Go.Proofs.ae.bf
open Go.RowKit
section
variable {P:Program} {ops:Array Oper} {rest:List Oper} {o:Oper} {a:Act} {Q:Exit→Act→World→Prop} {W:World}
theorem iw (hw:Region.wanted o (yielded ops a.tmps)=true) (h:wpList P ops Q ({ o with guard:=none } :: rest) a W):wpList P ops Q (o :: rest) a W:=by
  have h1:Region.wanted { o with guard:=none } (yielded ops a.tmps)=true:=rfl
  unfold wpList at h ⊢
  rw [if_pos h1] at h
  rw [if_pos hw]
  exact h
end
end Go.Proofs.ae.bf
end
section
namespace Go.Proofs.ae.cZ
open Go.RowKit Go.Proofs.ae.bf
namespace Kd
open Go.Proofs.ae.bf.Kd
end Kd
namespace Kd
open Go.Proofs.ae.bf.Kd
section
variable {α:Type} {d:Kd α} {e base g N:Nat} {ok:Nat→Prop} {W w1:World} {u v:Value} {xs:List α}
end
end Kd
theorem kU (k k':IntKind) (x y:Int):Builtin.max2 (.int k x) (.int k' y)=pure (.int k (if x < y then y else x)):=by simp only [Builtin.max2,gt_iff_lt]
theorem kS (k k':IntKind) (x y:Int):Builtin.min2 (.int k x) (.int k' y)=pure (.int k (if y < x then y else x)):=by simp only [Builtin.min2]
theorem mF (ats:Array TypeId) (ty:TypeId) (a b:Value):Builtin.max_ ats ty #[a,b]=(Builtin.max2 a b >>= fun s=>pure s):=by simp only [Builtin.max_,List.foldlM_cons,List.foldlM_nil]
theorem mD (ats:Array TypeId) (ty:TypeId) (a b:Value):Builtin.min_ ats ty #[a,b]=(Builtin.min2 a b >>= fun s=>pure s):=by simp only [Builtin.min_,List.foldlM_cons,List.foldlM_nil]
theorem jR (ats:Array TypeId) (ty:TypeId) (a b c:Value):Builtin.max_ ats ty #[a,b,c]=(Builtin.max2 a b >>= fun s=>Builtin.max2 s c >>= fun s=>pure s):=by simp only [Builtin.max_,List.foldlM_cons,List.foldlM_nil]
theorem jQ (ats:Array TypeId) (ty:TypeId) (a b c:Value):Builtin.min_ ats ty #[a,b,c]=(Builtin.min2 a b >>= fun s=>Builtin.min2 s c >>= fun s=>pure s):=by simp only [Builtin.min_,List.foldlM_cons,List.foldlM_nil]
theorem kT (ats:Array TypeId) (ty:TypeId) (a b c d:Value):Builtin.max_ ats ty #[a,b,c,d]=(Builtin.max2 a b >>= fun s=>Builtin.max2 s c >>= fun s=>Builtin.max2 s d >>= fun s=>pure s):=by simp only [Builtin.max_,List.foldlM_cons,List.foldlM_nil]
theorem kR (ats:Array TypeId) (ty:TypeId) (a b c d:Value):Builtin.min_ ats ty #[a,b,c,d]=(Builtin.min2 a b >>= fun s=>Builtin.min2 s c >>= fun s=>Builtin.min2 s d >>= fun s=>pure s):=by simp only [Builtin.min_,List.foldlM_cons,List.foldlM_nil]
end Go.Proofs.ae.cZ
namespace Go.Proofs.ae.bf
open Go.RowKit
section
variable {P:Program} {ops:Array Oper} {rest:List Oper} {o:Oper} {a:Act} {Q:Exit→Act→World→Prop} {W:World}
theorem bV {f:FuncId} {aS:Array Operand} {ts:Array TypeId} (_ho:o.op=.call { callee:=.value (.func f),args:=aS,argTypes:=ts }) (h:wpList P ops Q (o :: rest) a W):wpList P ops Q (o :: rest) a W:=h
theorem lu {b:Builtin} {xs:Array Operand} {ts:Array TypeId} (_ho:o.op=.call { callee:=.builtin b,args:=xs,argTypes:=ts }) (h:wpList P ops Q (o :: rest) a W):wpList P ops Q (o :: rest) a W:=h
end
theorem qo (w:World) (n:Nat):w.drewN n=w.drewN n:=rfl
namespace Kd
section
variable {α:Type} {d:Kd α} {e base:Nat} {ok:Nat→Prop} {W w1:World} {v:Value} {xs:List α}
theorem OW (h:d.R e W base ok v xs) (hE:d.E=[]) {row:Option Nat} (hg:W.grownBy w1 row) (hne:∀ k,row=some k→some k ≠ v.ownBlock):d.R e w1 base ok v xs :=
  mg (Ui (Uh hE h) hg (fun k hk e_=>hne k e_.symm hk)) (fun k hk=>h.1 k hk.symm)
end
section
variable {α:Type} {d:Kd α} {e base g n cap:Nat} {ok YG uN:Nat→Prop} {W:World} {xs:List α} {i:Int} {c:List Value}
end
section
variable {α:Type} {d:Kd α} {e base b b' g N:Nat} {ok ok1:Nat→Prop} {W W2 w1:World} {u v:Value} {xs ys:List α} {S:Nat→Prop}
end
end Kd
end Go.Proofs.ae.bf
namespace Go.Proofs.ae.bf
open Go.RowKit
namespace Kd
def V {α:Type} (d:Kd α) (_e:Nat) (W:World) (akE:Nat) (ok:Nat→Prop) (v:Value) (xs:List α):Prop:=∃ A c,v=.slice A xs.length c∧xs.length≤c∧F d W ok A xs.length xs
section
variable {α β:Type} {d:Kd α} {e base base' n m c g N' lo hi:Nat} {ok ok' S:Nat→Prop} {w W w1:World} {A:Option Addr} {ad:Addr} {u v v1:Value} {xs:List α}
end
end Kd
end Go.Proofs.ae.bf
end
section
namespace Go.Proofs.YtgfnpdfhdgenbaaDoor.P
open Go.RowKit Go.Proofs.ae.bf Go.Proofs.ae.bY Go.Proofs.ae.cZ
attribute [local go_sem] kU kS mF mD jR jQ kT kR
def Zl:Option Int→Value
 | none=>.nilIface
 | some c=>.iface 0 (.int .i64 c)
theorem aU:Zl none=.nilIface:=rfl
theorem aT (c:Int):Zl (some c)=.iface 0 (.int .i64 c):=rfl
theorem info9:(Tryd.prog.info? 9).map (fun i=>(i.zero,i.size,i.bytes))=some (some (.string ⟨#[]⟩),1,16):=by kernel_rfl
structure gY where
 f0:Int
 f1:Int
 f2:Int
 f3:Int
 f4:Int
def z45:gY:=⟨(0:Int),(0:Int),(0:Int),(0:Int),(0:Int)⟩
def uU:Kd gY:=Kd.iso (Kd.pair (Kd.int .u8) (Kd.pair (Kd.int .u8) (Kd.pair (Kd.int .u8) (Kd.pair (Kd.int .u8) (Kd.int .i64))))) (fun x:gY=>(x.f0,x.f1,x.f2,x.f3,x.f4))
theorem NF {w:World} {x:gY} {cs:List Value} (h:uU.K w x cs):cs=[.int .u8 x.f0,.int .u8 x.f1,.int .u8 x.f2,.int .u8 x.f3,.int .i64 x.f4]:=by
 obtain ⟨_,_,rfl,rfl,⟨_,_,rfl,rfl,⟨_,_,rfl,rfl,⟨_,_,rfl,rfl,rfl⟩⟩⟩⟩:=h
 exact rfl
theorem WE (w:World) (x:gY) :uU.K w x [.int .u8 x.f0,.int .u8 x.f1,.int .u8 x.f2,.int .u8 x.f3,.int .i64 x.f4]:=⟨[.int .u8 x.f0],[.int .u8 x.f1,.int .u8 x.f2,.int .u8 x.f3,.int .i64 x.f4],rfl,rfl,⟨[.int .u8 x.f1],[.int .u8 x.f2,.int .u8 x.f3,.int .i64 x.f4],rfl,rfl,⟨[.int .u8 x.f2],[.int .u8 x.f3,.int .i64 x.f4],rfl,rfl,⟨[.int .u8 x.f3],[.int .i64 x.f4],rfl,rfl,rfl⟩⟩⟩⟩
theorem xY (w:World) (base:Nat) (ok:Nat→Prop) (x:gY) :uU.M w base ok x [.int .u8 x.f0,.int .u8 x.f1,.int .u8 x.f2,.int .u8 x.f3,.int .i64 x.f4]:=⟨[.int .u8 x.f0],[.int .u8 x.f1,.int .u8 x.f2,.int .u8 x.f3,.int .i64 x.f4],rfl,rfl,⟨[.int .u8 x.f1],[.int .u8 x.f2,.int .u8 x.f3,.int .i64 x.f4],rfl,rfl,⟨[.int .u8 x.f2],[.int .u8 x.f3,.int .i64 x.f4],rfl,rfl,⟨[.int .u8 x.f3],[.int .i64 x.f4],rfl,rfl,rfl⟩⟩⟩⟩
def aC (xs:List gY) (i:Int):gY:=xs.getD i.toNat z45
theorem oP {w:World} {A:Option Addr} {n:Nat} {xs:List gY} (h:Kd.C uU w A n xs) (i:Int) (h0:0≤i) (h1:i < n):∃ ad ,A=some ad∧w.cell? (ad.add (i.toNat * 5))=some (.int .u8 (aC xs i).f0)∧w.cell? ⟨(ad.add (i.toNat * 5)).block,(ad.add (i.toNat * 5)).off+1,none⟩=some (.int .u8 (aC xs i).f1)∧w.cell? ⟨(ad.add (i.toNat * 5)).block,(ad.add (i.toNat * 5)).off+2,none⟩=some (.int .u8 (aC xs i).f2)∧w.cell? ⟨(ad.add (i.toNat * 5)).block,(ad.add (i.toNat * 5)).off+3,none⟩=some (.int .u8 (aC xs i).f3)∧w.cell? ⟨(ad.add (i.toNat * 5)).block,(ad.add (i.toNat * 5)).off+4,none⟩=some (.int .i64 (aC xs i).f4):=by
 obtain ⟨ad,c,e,_,hK,hc0⟩:=Kd.Pg h z45 i h0 h1
 have hc:∀ j u,c[j]? = some u→w.cell? (ad.add (i.toNat * 5+j))=some u:=hc0
 obtain rfl:=NF hK
 exact ⟨ad,e,hc 0 _ rfl,by rw [← uo _ _ 1 (by omega)];exact hc 1 _ rfl,by rw [← uo _ _ 2 (by omega)];exact hc 2 _ rfl,by rw [← uo _ _ 3 (by omega)];exact hc 3 _ rfl,by rw [← uo _ _ 4 (by omega)];exact hc 4 _ rfl⟩
structure S25 where
 f0:(List ByteArray)
 f1:ByteArray
 f2:ByteArray
 f3:(List gY)
def eQ (xs:List (List Bool)) (i:Int):(List Bool):=xs.getD i.toNat ([]:List Bool)
theorem zJ {w:World} {A:Option Addr} {n:Nat} {xs:List (List Bool)} (h:Kd.C (Kd.slice 4 Kd.bool) w A n xs) (i:Int) (h0:0≤i) (h1:i < n):∃ ad A0 c0,A=some ad∧w.cell? (ad.add i.toNat)=some (.slice A0 (eQ xs i).length c0)∧(eQ xs i).length≤c0∧Kd.bool.C w A0 (eQ xs i).length (eQ xs i):=by
 obtain ⟨ad,c,e,_,hK,hc0⟩:=Kd.Pg h ([]:List Bool) i h0 h1
 have hc:∀ j u,c[j]? = some u→w.cell? (ad.add (i.toNat * 1+j))=some u:=hc0
 obtain ⟨A0,c0,rfl,l0,g0⟩:=hK
 exact ⟨ad,A0,c0,e,by have hq:=hc 0 _ rfl;rwa [Nat.mul_one,Nat.add_zero] at hq,l0,g0⟩
theorem lZ {w:World} {g:Nat} {a0 a1 a2 a3:Value} {t:TypeId} (h:w.heap[g]? = some (.cells #[a0,a1,a2,a3] t (0,0))):w.cell? ⟨g,0,none⟩=some a0∧w.cell? ⟨g,1,none⟩=some a1∧w.cell? ⟨g,2,none⟩=some a2∧w.cell? ⟨g,3,none⟩=some a3∧w.frozen? ⟨g,0,none⟩=false∧w.frozen? ⟨g,1,none⟩=false∧w.frozen? ⟨g,2,none⟩=false∧w.frozen? ⟨g,3,none⟩=false:=⟨(aJ h 0).trans rfl,(aJ h 1).trans rfl,(aJ h 2).trans rfl,(aJ h 3).trans rfl,gu h 0,gu h 1,gu h 2,gu h 3⟩
theorem iV {w:World} {g:Nat} {a0 a1 a2 a3 a4:Value} {t:TypeId} (h:w.heap[g]? = some (.cells #[a0,a1,a2,a3,a4] t (0,0))):w.cell? ⟨g,0,none⟩=some a0∧w.cell? ⟨g,1,none⟩=some a1∧w.cell? ⟨g,2,none⟩=some a2∧w.cell? ⟨g,3,none⟩=some a3∧w.cell? ⟨g,4,none⟩=some a4∧w.frozen? ⟨g,0,none⟩=false∧w.frozen? ⟨g,1,none⟩=false∧w.frozen? ⟨g,2,none⟩=false∧w.frozen? ⟨g,3,none⟩=false∧w.frozen? ⟨g,4,none⟩=false:=⟨(aJ h 0).trans rfl,(aJ h 1).trans rfl,(aJ h 2).trans rfl,(aJ h 3).trans rfl,(aJ h 4).trans rfl,gu h 0,gu h 1,gu h 2,gu h 3,gu h 4⟩
end Go.Proofs.YtgfnpdfhdgenbaaDoor.P
end
section
namespace Go.Proofs
open Go.Shelf
shelf_lay LaysM.n246 Nm 246 at Tryd as Tryd.laysM246
end Go.Proofs
namespace Go.Proofs.YtgfnpdfhdgenbaaDoor.P
open Go.RowKit Go.Sort Go.Lib Go.Proofs.ae.bf Go.Proofs.ae.bY Go.Proofs.ae.cZ
theorem gTab:Tryd.prog.globalNamed "internal/strconv.uint64pow10"=some 0:=by kernel_rfl
def Fj (w:World):Prop:=Lib.TabIs Tryd.prog w "internal/strconv.uint64pow10" .u64 Lib.pow10Tab
theorem Ii {w w1:World} (hb:Below w.heap.size w w1) (h:Fj w):Fj w1:=by
  unfold Fj Lib.TabIs World.var? at h ⊢
  rw [gTab] at h ⊢
  simp only [Option.bind_some] at h ⊢
  have hg:0 < w.heap.size:=by
    rcases Nat.lt_or_ge 0 w.heap.size with h1|h1
    · exact h1
    · rw [Array.getElem?_eq_none h1] at h
      cases h
  rw [hb.block 0 hg]
  exact h
abbrev zV:Kd Unit where
  sz:=1
  E:=[]
  K:=fun w _ cs=>cs=[.int .u64 1]∧Fj w
  M:=fun _ _ _ _ _=>False
  pG:=fun h=>by rw [h.1];rfl
  pF:=fun h u hu=>by
    rw [h.1] at hu
    rw [List.mem_singleton.1 hu]
    rfl
  lG:=fun hb h=>⟨h.1,Ii hb h.2⟩
  kL:=fun h=>h.elim
  jo:=fun _ h=>h
  jG:=fun h=>h
  lQ:=fun _ h=>h
  lD:=fun _ h=>h
def zW:Option Addr:=some ⟨0,0,none⟩
def qJ:List Unit:=[()]
theorem VU {w:World} (h:Fj w):Kd.C zV w zW qJ.length qJ:=by
  refine ⟨rfl,by decide,fun _=>⟨_,rfl,fun j p hj=>⟨[.int .u64 1],rfl,⟨rfl,h⟩,fun i u hu=>?_⟩⟩⟩
  have hj0:j=0:=by
    have:=(List.getElem?_eq_some_iff.1 hj).1
    have h1:qJ.length=1:=rfl
    omega
  have hi:i=0:=by
    have:=(List.getElem?_eq_some_iff.1 hu).1
    simp at this
    exact this
  subst hj0 hi
  simp at hu
  subst hu
  exact h.cell gTab 0 (by decide)
theorem VV {w:World} (h:Kd.C zV w zW qJ.length qJ):Fj w:=by
  obtain ⟨_,_,hc⟩:=h
  obtain ⟨_,_,hc⟩:=hc (by decide)
  obtain ⟨_,_,hk,_⟩:=hc 0 () rfl
  exact hk.2
def iE.f (n b:Int):Option ByteArray :=
  if b=10 then (if -9223372036854775808≤n∧n≤9223372036854775807 then some ⟨(Lib.itoa n).toArray⟩ else none) else none
theorem LU (n:Int) (h0:-9223372036854775808≤n) (h1:n≤9223372036854775807) (w:World) (h:Fj w) :
    Calls Tryd.prog 44 #[.int .i64 n,.int .i64 10] w fun e w'=>e=.returned (.string ⟨(Lib.itoa n).toArray⟩)∧Below w.heap.size w w':=by
  refine (Any.internal_strconv_FormatInt_10 Tryd.laysM246 n h0 h1 w h).mono ?_
  rintro e w' ⟨rfl,k,os,rfl⟩
  refine ⟨rfl,?_⟩
  have h1:Below w.heap.size w (w.drewN k):=by
    exact ag (Below.refl _ _) k
  refine ⟨h1.os,h1.tape,h1.output,?_,fun i hi=>?_⟩
  · have:=h1.size
    unfold grow
    simp only [Array.size_append]
    omega
  · have:=h1.block i hi
    have hs:=h1.size
    rw [← this]
    unfold grow
    exact Array.getElem?_append_left (by omega)
set_option maxRecDepth 100000 in
set_option maxHeartbeats 3200000 in
theorem iE.calls (a0 a1:Int) (r:ByteArray) (w:World) (EG:Kd.C zV w zW qJ.length qJ) (h:iE.f a0 a1=some r) :
    Calls Tryd.prog 41 #[.int .i64 a0,.int .i64 a1] w fun e w'=>e=.returned (.string r)∧Below w.heap.size w w':=by
  unfold iE.f at h
  by_cases hb:a1=10
  · rw [if_pos hb] at h
    by_cases hn:-9223372036854775808≤a0∧a0≤9223372036854775807
    · rw [if_pos hn] at h
      obtain rfl:=Option.some.inj h
      subst hb
      have ht:=VV EG
      clear EG h
      go_enter Tryd.func41,Tryd.ntmps41
      go_wp2_with (go_at_call 44;refine (LU a0 hn.1 hn.2 _ ht).mono ?_;rintro e w' ⟨rfl,bel⟩)
      all_goals go_ret
      all_goals exact ⟨rfl,bel⟩
    · rw [if_neg hn] at h
      cases h
  · rw [if_neg hb] at h
    cases h
end Go.Proofs.YtgfnpdfhdgenbaaDoor.P
end
section
namespace Go.Proofs.YtgfnpdfhdgenbaaDoor.P
open Go.ChangeShapes Go.WideShapes Go.ChangeAt Go.RowKit Go.Joins Go.Proofs.ae.bf Go.Proofs.ae.bY Go.Proofs.ae.cZ
theorem own:ownKnob Tryd.prog.godebug=none:=by kernel_rfl
theorem TW:Tryd.prog.cellsOf 90=20:=by kernel_rfl
theorem Xz:Tryd.prog.cellsOf 80=1:=by kernel_rfl
theorem N9:(Tryd.prog.globals[0]?).map (·.type)=some 90:=by kernel_rfl
theorem cells9:Tryd.prog.cellsOf 9=1:=by kernel_rfl
theorem cells5:Tryd.prog.cellsOf 5=1:=by kernel_rfl
theorem cells2:Tryd.prog.cellsOf 2=1:=by kernel_rfl
theorem cells22:Tryd.prog.cellsOf 22=1:=by kernel_rfl
theorem cells23:Tryd.prog.cellsOf 23=1:=by kernel_rfl
theorem cells25:Tryd.prog.cellsOf 25=4:=by kernel_rfl
theorem TY:Tryd.prog.cellsOf 45=5:=by kernel_rfl
theorem Nb:(Rows.laid_internal_strconv_uint64pow10:DataW Unit)=Lib.tabData .u64 Lib.pow10Tab:=by kernel_rfl
theorem table {W:World} (h:laidMetH Tryd.prog [("math/bits.deBruijn32tab",Rows.laid_math_bits_deBruijn32tab),("math/bits.deBruijn64tab",Rows.laid_math_bits_deBruijn64tab),("internal/strconv.uint64pow10",Rows.laid_internal_strconv_uint64pow10)] W):Kd.C zV W zW qJ.length qJ:=by
  have h1:laidMet Tryd.prog [("math/bits.deBruijn32tab",Rows.laid_math_bits_deBruijn32tab),("math/bits.deBruijn64tab",Rows.laid_math_bits_deBruijn64tab),("internal/strconv.uint64pow10",Rows.laid_internal_strconv_uint64pow10)] W:=h
  obtain ⟨ps,⟨_,_,_,_,_,_,_,_,_,_,h2,_⟩,_⟩:=h1
  obtain ⟨_,_,_,_,_,_,_,_,_,_,h3,_⟩:=h2
  obtain ⟨g',t',cs,fuel,p,q,hg',ht',hvar,hd,_,_⟩:=h3
  obtain rfl:=Option.some.inj (gTab.symm.trans hg')
  obtain rfl:=Option.some.inj (N9.symm.trans ht')
  rw [Nb] at hd
  refine VU ?_
  unfold Fj Lib.TabIs
  rw [hvar,← Lib.cells_of_tab Tryd.underlying90 Tryd.underlying80 Xz TW hd]
section
variable {H:Type} {enc:TypeId × Value→H} {w:World} {base:Nat} {sp:Nat→Bool} {held:Bool}
theorem Gu {fuel:Nat} {v:Value} {x:DataW H × List MemPlace} (h:DataW.trod enc Tryd.prog w base sp held fuel 22 [v]=some x) :
    ∃ (A:Option Addr) (c:Nat) (t:List ByteArray),v=.slice A t.length c∧t.length≤c∧Kd.C Kd.string w A t.length t∧∀ i:Int,(eG ByteArray.empty t i).size≤9223372036854775807:=by
  rcases open_strings Tryd.underlying22 Tryd.underlying9 cells9 h with ⟨hcs,_⟩|⟨a,len,cap,ss,hcs,_,hl,hm,hss,_,hcell,hsz⟩
  · injection hcs with hcs
    subst hcs
    exact ⟨none,0,[],rfl,Nat.le_refl _,⟨rfl,by decide,fun h=>absurd h (Nat.lt_irrefl _)⟩,fun i=>by unfold eG;simp⟩
  · injection hcs with hcs
    subst hcs
    have hle:len≤ss.length:=by rw [hss];split <;> omega
    have hlen:(ss.take len).length=len:=by rw [List.length_take];omega
    refine ⟨some a,cap,ss.take len,by rw [hlen],by rw [hlen];exact hl,⟨rfl,by rw [hlen];unfold maxLen at hm;omega,fun _=>⟨a,rfl,fun j p hj=>⟨[.string p],rfl,rfl,fun i u hu=>?_⟩⟩⟩,fun i=>?_⟩
    rotate_left
    · unfold eG
      rw [List.getD_eq_getElem?_getD]
      cases hx:(ss.take len)[i.toNat]? with
      | none=>decide
      | some x =>
        have:=hsz x (List.mem_of_mem_take (List.mem_of_getElem? hx))
        unfold maxLen at this
        exact this
    have hjl:j < len:=by
      have:=(List.getElem?_eq_some_iff.1 hj).1
      omega
    have hi:i=0:=by
      have:=(List.getElem?_eq_some_iff.1 hu).1
      simp at this
      exact this
    subst hi
    simp at hu
    subst hu
    show w.cell? (a.add (j * 1+0))=_
    rw [show j * 1+0=j from by omega,hcell j (by omega),List.getD_eq_getElem?_getD]
    rw [List.getElem?_take,if_pos hjl] at hj
    rw [hj]
    rfl
def OY (w:World) (a:Addr) (i:Nat) (x:gY):Prop :=
  (∀ q u,([.int .u8 x.f0,.int .u8 x.f1,.int .u8 x.f2,.int .u8 x.f3,.int .i64 x.f4]:List Value)[q]? = some u→w.cell? (a.add (i * 5+q))=some u) ∧
  (0≤x.f0∧x.f0≤255)∧(0≤x.f1∧x.f1≤255)∧(0≤x.f2∧x.f2≤255)∧(0≤x.f3∧x.f3≤255)∧(-9223372036854775808≤x.f4∧x.f4≤9223372036854775807)
theorem Ef {n:Int} (h:(Lit.int .u8 n).wf=true):0≤n∧n≤255:=by
  simp only [Lit.wf,Bool.and_eq_true,decide_eq_true_eq] at h
  exact h
theorem WN {n:Int} (h:(Lit.int .i64 n).wf=true):-9223372036854775808≤n∧n≤9223372036854775807:=by
  simp only [Lit.wf,Bool.and_eq_true,decide_eq_true_eq] at h
  exact h
theorem LZ {w:World} {base:Nat} {a:Addr} {n:Nat} {cs:List Value} (h:w.cells? base a n=some cs):cs.length=n∧∀ q,q < n→w.cell? (a.add q)=cs[q]?:=by
  unfold World.cells? at h
  split at h
  · exact ⟨by simpa using mapM_some_length h,fun q hq=>mapM_some_get h q q (by simp [hq])⟩
  · cases h
theorem zf {cs:List Value} {k:Nat} {v:Value} (h:(cs.drop k).take 1=[v]):cs[k]? = some v:=by
  have:=congrArg (·[0]?) h
  simpa [List.getElem?_take,List.getElem?_drop] using this
theorem Nl {fuel:Nat} {a:Addr} {i:Nat} {y:DataW H × List MemPlace} (h:(w.cells? base (a.add (i * 5)) 5).bind (DataW.trod enc Tryd.prog w base sp held fuel 45)=some y):∃ x,OY w a i x:=by
  rw [Option.bind_eq_some_iff] at h
  obtain ⟨cs,hc,h⟩:=h
  obtain ⟨hl,hcell⟩:=LZ hc
  obtain ⟨xs,n,_,_,_,hxl,hf⟩:=DataW.trod_struct Tryd.underlying45 h
  match xs,hxl with
  | [y0,y1,y2,y3,y4],_ =>
    have f0:DataW.trod enc Tryd.prog w base sp held n 5 ((cs.drop 0).take (Tryd.prog.cellsOf 5))=some y0:=hf 0 _ rfl
    have f1:DataW.trod enc Tryd.prog w base sp held n 5 ((cs.drop 1).take (Tryd.prog.cellsOf 5))=some y1:=hf 1 _ rfl
    have f2:DataW.trod enc Tryd.prog w base sp held n 5 ((cs.drop 2).take (Tryd.prog.cellsOf 5))=some y2:=hf 2 _ rfl
    have f3:DataW.trod enc Tryd.prog w base sp held n 5 ((cs.drop 3).take (Tryd.prog.cellsOf 5))=some y3:=hf 3 _ rfl
    have f4:DataW.trod enc Tryd.prog w base sp held n 2 ((cs.drop 4).take (Tryd.prog.cellsOf 2))=some y4:=hf 4 _ rfl
    rw [cells5] at f0 f1 f2 f3
    rw [cells2] at f4
    obtain ⟨n0,e0,_,w0⟩:=DataW.trod_int Tryd.underlying5 f0
    obtain ⟨n1,e1,_,w1⟩:=DataW.trod_int Tryd.underlying5 f1
    obtain ⟨n2,e2,_,w2⟩:=DataW.trod_int Tryd.underlying5 f2
    obtain ⟨n3,e3,_,w3⟩:=DataW.trod_int Tryd.underlying5 f3
    obtain ⟨n4,e4,_,w4⟩:=DataW.trod_int Tryd.underlying2 f4
    refine ⟨⟨n0,n1,n2,n3,n4⟩,fun q u hu=>?_,Ef w0,Ef w1,Ef w2,Ef w3,WN w4⟩
    rw [← Addr.add_add]
    match q,hu with
    | 0,hu=>rw [hcell 0 (by omega),zf e0];exact hu
    | 1,hu=>rw [hcell 1 (by omega),zf e1];exact hu
    | 2,hu=>rw [hcell 2 (by omega),zf e2];exact hu
    | 3,hu=>rw [hcell 3 (by omega),zf e3];exact hu
    | 4,hu=>rw [hcell 4 (by omega),zf e4];exact hu
    | q+5,hu=>simp at hu
end
def WfX (x:gY):Prop:=(0≤x.f0∧x.f0≤255)∧(0≤x.f1∧x.f1≤255)∧(0≤x.f2∧x.f2≤255)∧(0≤x.f3∧x.f3≤255)∧(-9223372036854775808≤x.f4∧x.f4≤9223372036854775807)
def WfC (code:List gY):Prop:=∀ i:Nat,WfX (code.getD i z45)
section
variable {H:Type} {enc:TypeId × Value→H} {w:World} {base:Nat} {sp:Nat→Bool} {held:Bool}
theorem Lp {fuel:Nat} {v:Value} {x:DataW H × List MemPlace} (h:DataW.trod enc Tryd.prog w base sp held fuel 23 [v]=some x) :
    ∃ (A:Option Addr) (c:Nat) (code:List gY),v=.slice A code.length c∧code.length≤c∧Kd.C uU w A code.length code∧WfC code:=by
  have z:WfX z45:=by unfold WfX;decide
  rcases DataW.trod_slice Tryd.underlying23 h with ⟨hcs,_⟩|⟨a,len,cap,elems,rest,n,_,hcs,_,_,hl,hm,hlen,hel,_⟩
  · injection hcs with hcs
    subst hcs
    exact ⟨none,0,[],rfl,Nat.le_refl _,⟨rfl,by decide,fun h=>absurd h (Nat.lt_irrefl _)⟩,fun i=>z⟩
  · injection hcs with hcs
    subst hcs
    have each:∀ i,∃ x:gY,i < len→OY w a i x:=fun i=>by
      by_cases hi:i < len
      · have:=hel i hi
        rw [TY,List.getElem?_eq_getElem (by omega)] at this
        obtain ⟨x,hx⟩:=Nl this
        exact ⟨x,fun _=>hx⟩
      · exact ⟨z45,fun h=>absurd h hi⟩
    let f:=fun i=>Classical.choose (each i)
    have hf:∀ i,i < len→OY w a i (f i):=fun i=>Classical.choose_spec (each i)
    have hlen:((List.range len).map f).length=len:=by simp
    have get:∀ j p,((List.range len).map f)[j]? = some p→j < len∧p=f j:=fun j p hj=>by
      have:=(List.getElem?_eq_some_iff.1 hj).1
      rw [hlen] at this
      rw [List.getElem?_map,List.getElem?_range this] at hj
      exact ⟨this,(Option.some.inj hj).symm⟩
    refine ⟨some a,cap,(List.range len).map f,by rw [hlen],by rw [hlen];exact hl,⟨rfl,by rw [hlen];unfold maxLen at hm;omega,fun _=>⟨a,rfl,fun j p hj=>?_⟩⟩,fun i=>?_⟩
    · obtain ⟨hjl,rfl⟩:=get j p hj
      exact ⟨_,rfl,WE w (f j),(hf j hjl).1⟩
    · by_cases hi:i < len
      · rw [List.getD_eq_getElem?_getD,List.getElem?_map,List.getElem?_range hi]
        exact (hf i hi).2
      · rw [List.getD_eq_getElem?_getD,List.getElem?_eq_none (by omega)]
        exact z
theorem Lm {r:Reach} {b0:Nat} {v:Value} {d:DataW H} {p:List MemPlace} (hv:Value.okWide Tryd.prog w r b0 25 v) (h:DataW.Trod enc Tryd.prog w base sp held 25 v d p) :
    ∃ (A0:Option Addr) (c0:Nat) (t:List ByteArray) (lo gl:ByteArray) (A3:Option Addr) (c3:Nat) (code:List gY) (d0 d3:DataW H),
      v=.agg #[.slice A0 t.length c0,.string lo,.string gl,.slice A3 code.length c3]∧d=.agg [d0,.lit (.string lo.data.toList),.lit (.string gl.data.toList),d3] ∧
      Kd.C Kd.string w A0 t.length t∧t.length≤c0∧Kd.C uU w A3 code.length code∧code.length≤c3∧WfC code∧∀ i:Int,(eG ByteArray.empty t i).size≤9223372036854775807:=by
  obtain ⟨cs,rfl,hsz⟩:=okWide_struct Tryd.underlying25 hv
  rw [cells25] at hsz
  obtain ⟨v0,v1,v2,v3,rfl⟩:=array4 hsz
  obtain ⟨fuel,h⟩:=h
  obtain ⟨y0,y1,y2,y3,n,he,_,f0,f1,f2,f3⟩:=trod_struct4 Tryd.underlying25 h
  injection he with he _
  subst he
  dsimp only at f0 f1 f2 f3
  rw [cells22] at f0
  rw [cells9] at f1 f2
  rw [cells23] at f3
  obtain ⟨A0,c0,t,rfl,ht,hT,hts⟩:=Gu f0
  obtain ⟨lo,e1,rfl,_⟩:=DataW.trod_string Tryd.underlying9 f1
  obtain ⟨gl,e2,rfl,_⟩:=DataW.trod_string Tryd.underlying9 f2
  obtain ⟨A3,c3,code,rfl,hc,hC,hw⟩:=Lp f3
  have e1':v1=.string lo:=by
    have:[v1]=[Value.string lo]:=e1
    injection this
  have e2':v2=.string gl:=by
    have:[v2]=[Value.string gl]:=e2
    injection this
  subst e1' e2'
  exact ⟨A0,c0,t,lo,gl,A3,c3,code,_,_,rfl,rfl,hT,ht,hC,hc,hw,hts⟩
end
theorem Lh {H:Type} {lo gl:ByteArray} {d0 d3:DataW H} {ts:List TypeId} {ds:List (DataW H)}
    (h:(DataW.weightsEach Tryd.prog (25 :: ts) (.agg [d0,.lit (.string lo.data.toList),.lit (.string gl.data.toList),d3] :: ds)).all (·≤reachBytes)=true):lo.size≤reachBytes∧gl.size≤reachBytes:=by
  simp only [DataW.weightsEach,DataW.weights,Tryd.underlying25,List.all_append,Bool.and_eq_true,List.map,List.all_cons,List.all_nil,decide_eq_true_eq] at h
  obtain ⟨⟨_,h1,h2,_⟩,_⟩:=h
  exact ⟨h1.1,h2.1⟩
end Go.Proofs.YtgfnpdfhdgenbaaDoor.P
end
