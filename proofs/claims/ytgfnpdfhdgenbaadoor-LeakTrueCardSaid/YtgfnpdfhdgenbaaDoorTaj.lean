/- Parts of the proof of LeakTrue: what the functions that it reaches compute, and plain facts about that. -/
import Derived.Lib.ItoaNum
import Derived.Test.YtgfnpdfhdgenbaaDoorTai
import Derived.Below
import Derived.Deep.Draws
import Derived.Deep.AppendLies
import Derived.Maps.AppendAt
import Derived.OwnWalk
import Derived.Laws.BytesArg
import Derived.Laws.MakeOwn
import Derived.Laws.OwnMore
import Derived.Deep.OwnRows
import Derived.Tactics
import Derived.Lib.ConvBytes
import Derived.Laws.Slices
import Derived.WalkKit
import Derived.KernelRfl
import Derived.RowKit3
import Derived.Deep.LoopGhost
import Derived.Deep.QuietTactic
import Derived.BigQuiet
import Derived.WideLaws
import Derived.Deep.DeepCutAuto
import Derived.Deep.CutBlock
import Derived.Deep.RegionHeld3
import Derived.Laws.Rows
import Derived.Lib.AppendStr
import Derived.ArgAppend
import Derived.Laws.IdiomCopy
import Derived.OrdersHeld
import Derived.Laws.BitsLemmas
import Derived.RowKit
import Derived.Laws.Externs
import Derived.Lib.Bytealg
import Derived.Laws.NewBlocks
import Derived.Lib.Hide
import Derived.Deep.DrawnRows
import Derived.LoopTactic
import Derived.RegionTactic
import Derived.StillTailTactics
import Derived.Lib.SliceRun
import Derived.Shelf.Lay
import Derived.Shelf.Strconv.Itoa3
import Derived.Lib.LaidTab
import Derived.Deep.MidRow
import Derived.ChangeKeysEq
import Derived.ProofKit
import Derived.OpenShut
import Derived.ShutString
import Derived.ChangeOld
import Derived.SliceStrings
import Derived.Deep.DeepHandedRow
import Derived.Lib.SmallJoins
import Derived.LaidLaws
import Derived.Lay
set_option linter.unusedVariables false
set_option linter.unusedSimpArgs false
section
namespace Go.Proofs.YtgfnpdfhdgenbaaDoor.P
open Go.RowKit Go.Proofs.ae.bf Go.Proofs.ae.bY Go.Proofs.ae.cZ
def Tot {α:Type} (P:α→Prop) (g:Nat→Option α):Prop:=∃ r,Ev g r∧P r
abbrev MC {α:Type}:α→Prop:=fun _=>True
theorem Tot.now {α:Type} {P:α→Prop} {r:α} (h:P r):Tot P (fun _=>some r):=⟨r,Ev.now r,h⟩
theorem Tot.bind {α β:Type} {P:α→Prop} {Q:β→Prop} {g:Nat→Option α} {f:Nat→α→Option β} (h:Tot P g) (k:∀ a,P a→Tot Q (fun n=>f n a)):Tot Q (fun n=>(g n).bind (f n)):=by
  obtain ⟨a,ha,hp⟩:=h
  obtain ⟨b,hb,hq⟩:=k a hp
  exact ⟨b,Ev.bind ha hb,hq⟩
theorem Tot.ite {α:Type} {P:α→Prop} {p:Prop} [Decidable p] {f g:Nat→Option α} (h1:p→Tot P f) (h2:¬p→Tot P g):Tot P (fun k=>if p then f k else g k):=by
  by_cases h:p
  · obtain ⟨r,hr,hp⟩:=h1 h
    exact ⟨r,Ev.congr (fun k=>if_pos h) hr,hp⟩
  · obtain ⟨r,hr,hp⟩:=h2 h
    exact ⟨r,Ev.congr (fun k=>if_neg h) hr,hp⟩
theorem Tot.step {α:Type} {P:α→Prop} {g f:Nat→Option α} (h:∀ k,g (k+1)=f k) (k:Tot P f):Tot P g:=by
  obtain ⟨r,hr,hp⟩:=k
  exact ⟨r,Ev.step h hr,hp⟩
theorem Tot.congr {α:Type} {P:α→Prop} {g f:Nat→Option α} (h:∀ k,g k=f k) (k:Tot P f):Tot P g:=by
  obtain ⟨r,hr,hp⟩:=k
  exact ⟨r,Ev.congr h hr,hp⟩
theorem Tot.yes {α:Type} {P:α→Prop} {p:Prop} [Decidable p] {f g:Nat→Option α} (h:p) (k:Tot P f):Tot P (fun k=>if p then f k else g k):=Tot.ite (fun _=>k) (fun h'=>absurd h h')
theorem Tot.of {α:Type} {P:α→Prop} {g:Nat→Option α} {r:α} (h:∀ k,g k=some r) (hp:P r):Tot P g:=⟨r,Ev.congr h (Ev.now r),hp⟩
abbrev Mx:Nat:=9223372036854775807
theorem TT (t:List ByteArray) (lo gl:ByteArray) (code:List gY) (ht:t.length≤Mx):Tot MC (fun k=>bM.f k t lo gl code):=by
  have:∀ d i x3,i+d=t.length→Tot MC (fun k=>bM.l0 k x3 t t.length (i:Nat) t lo gl code):=by
    intro d
    induction d with
    | zero =>
      intro i x3 hi
      refine Tot.step (fun k=>by simp only [bM.l0];rfl) ?_
      exact Tot.ite (fun h=>by omega) fun _=>Tot.ite (fun _=>Tot.now trivial) fun _=>Tot.now trivial
    | succ d ih =>
      intro i x3 hi
      refine Tot.step (fun k=>by simp only [bM.l0];rfl) ?_
      refine Tot.yes (by omega) (Tot.yes (by omega) (Tot.yes (by omega) ?_))
      rw [wrapN (i:=i) (n:=t.length) (by omega) ht]
      exact ih (i+1) _ (by omega)
  exact this t.length 0 _ (by omega)
theorem LV (a b:Int):∃ x,dM.f a b=some x:=by
  unfold dM.f
  split
  · exact ⟨_,rfl⟩
  · split <;> exact ⟨_,rfl⟩
theorem F6 (t:List ByteArray) (ht:t.length≤Mx) (hs:∀ i:Int,(eG ByteArray.empty t i).size≤Mx):Tot MC (fun k=>aI.f k t):=by
  have l1:∀ (i:Nat) (s:ByteArray),s.size≤Mx→Tot MC (fun k=>aI.l0 k t (wrap64 ((i:Int)+1)))→∀ d j,j+d=s.size→Tot MC (fun k=>aI.l1 k t (i:Nat) s (j:Nat)):=by
    intro i s hsz hn d
    induction d with
    | zero =>
      intro j hj
      refine Tot.step (fun k=>by simp only [aI.l1];rfl) ?_
      exact Tot.ite (fun h=>by omega) fun _=>Tot.ite (fun _=>Tot.now trivial) fun _=>Tot.ite (fun _=>Tot.now trivial) fun _=>hn
    | succ d ih =>
      intro j hj
      refine Tot.step (fun k=>by simp only [aI.l1];rfl) ?_
      have nx:=ih (j+1) (by omega)
      rw [← wrapN (i:=j) (n:=s.size) (by omega) hsz] at nx
      refine Tot.yes (by omega) (Tot.yes (by omega) (Tot.ite (fun _=>nx) fun _=>?_))
      obtain ⟨x,hx⟩:=LV (bt s j) t.length
      rw [hx]
      exact Tot.ite (fun _=>Tot.now trivial) fun _=>nx
  have l0:∀ d i,i+d=t.length→Tot MC (fun k=>aI.l0 k t (i:Nat)):=by
    intro d
    induction d with
    | zero =>
      intro i hi
      refine Tot.step (fun k=>by simp only [aI.l0];rfl) ?_
      exact Tot.ite (fun h=>by omega) fun _=>Tot.ite (fun _=>Tot.now trivial) fun _=>Tot.now trivial
    | succ d ih =>
      intro i hi
      refine Tot.step (fun k=>by simp only [aI.l0];rfl) ?_
      have nx:=ih (i+1) (by omega)
      rw [← wrapN (i:=i) (n:=t.length) (by omega) ht] at nx
      exact Tot.yes (by omega) (Tot.yes (by omega) (l1 i _ (hs _) nx _ 0 (Nat.zero_add _)))
  exact l0 t.length 0 (by omega)
section
variable (t:List ByteArray) (lo gl:ByteArray) (code:List gY) (ht:t.length≤Mx) (hs:∀ i:Int,(eG ByteArray.empty t i).size≤Mx)
include ht hs
end
end Go.Proofs.YtgfnpdfhdgenbaaDoor.P
end
section
namespace Go.Proofs.YtgfnpdfhdgenbaaDoor.P
open Go.RowKit Go.Proofs.ae.bf Go.Proofs.ae.bY Go.Proofs.ae.cZ
theorem qX (s:ByteArray) (i n:Int):dM.f (bt s i) n=some (nJ (bt s i) n):=by
  have h:=zH s i
  unfold dM.f nJ
  by_cases h1:bt s i < 48
  · rw [if_pos h1,if_neg (by omega)]
  · rw [if_neg h1,show (bt s i - 48) % 256=bt s i - 48 from by omega]
    by_cases h2:bt s i - 48 < n
    · rw [if_neg (show ¬ bt s i - 48 ≥ n from by omega),if_pos (show 48≤bt s i from by omega),if_pos h2]
    · rw [if_pos (show bt s i - 48 ≥ n from by omega),if_pos (show 48≤bt s i from by omega),if_neg h2]
theorem yV (t:List ByteArray) (ht:t.length≤9223372036854775807) (hs:∀ i:Int,(eG ByteArray.empty t i).size≤9223372036854775807):Ev (fun k=>aI.f k t) (jH t):=by
  have l1:∀ (i:Nat) (s:ByteArray) (r:Bool),s.size≤9223372036854775807→Ev (fun k=>aI.l0 k t (wrap64 ((i:Int)+1))) r →
      Ev (fun k=>aI.l1 k t (i:Nat) s 0) (okB s t.length && (if (s.size:Int) < 1 then false else if (s.size:Int) > 6 then false else r)):=by
    intro i s r hsz hr
    have:=oM (g:=fun k j=>aI.l1 k t (i:Nat) s (j:Nat)) (fun j=>if (bt s j == 105 || decide (0≤nJ (bt s j) t.length)) then none else some false) s.size (if (s.size:Int) < 1 then false else if (s.size:Int) > 6 then false else r)
      (fun j hj hb q hq=>?_) (fun j hj b hb=>?_) (fun _=>?_) s.size 0 (by omega) (fun j hj=>by omega)
    · rw [yS s.size (fun j=>bt s j == 105 || decide (0≤nJ (bt s j) t.length))] at this
      exact this
    · refine Ev.step (fun k=>?_) hq
      simp only [aI.l1]
      rw [if_pos (by omega),if_pos (by omega),wrapN (i:=j) (n:=s.size) hj hsz]
      by_cases h:bt s j=105
      · rw [if_pos h]
      · rw [if_neg h,qX]
        simp only [Option.bind_some]
        have h2:0≤nJ (bt s j) t.length:=by
          have:=hb
          simp [h] at this
          exact this
        rw [if_neg (by omega)]
    · have hb':¬ bt s j=105∧¬ 0≤nJ (bt s j) t.length∧b=false:=by
        by_cases h:bt s j=105
        · simp [h] at hb
        · by_cases h2:0≤nJ (bt s j) t.length
          · simp [h2] at hb
          · simp [h,h2] at hb
            exact ⟨h,h2,hb⟩
      obtain ⟨h1,h2,rfl⟩:=hb'
      refine Ev.step (f:=fun _=>some false) (fun k=>?_) (Ev.now false)
      simp only [aI.l1]
      rw [if_pos (by omega),if_pos (by omega),if_neg h1,qX]
      simp only [Option.bind_some]
      rw [if_pos (by omega)]
    · refine Ev.step (fun k=>by simp only [aI.l1];rfl) ?_
      refine Ev.congr (fun k=>if_neg (by omega)) ?_
      exact Ev.ite (fun _=>Ev.now _) fun _=>Ev.ite (fun _=>Ev.now _) fun _=>hr
  have:=oM (g:=fun k i=>aI.l0 k t (i:Nat)) (fun i=>if zZ (eG ByteArray.empty t i) t.length then none else some false) t.length (decide (1≤t.length) && decide (t.length≤8))
    (fun i hi hb q hq=>?_) (fun i hi b hb=>?_) (fun _=>?_) t.length 0 (by omega) (fun j hj=>by omega)
  · rw [yS t.length (fun i=>zZ (eG ByteArray.empty t i) t.length)] at this
    exact this
  · have ho:zZ (eG ByteArray.empty t i) t.length=true:=by
      cases h:zZ (eG ByteArray.empty t i) t.length <;> simp [h] at hb ⊢
    unfold zZ at ho
    simp only [Bool.and_eq_true,decide_eq_true_eq] at ho
    obtain ⟨⟨h1,h2⟩,h3⟩:=ho
    refine Ev.step (f:=fun k=>aI.l1 k t (i:Nat) (eG ByteArray.empty t i) 0) (fun k=>?_) ?_
    · simp only [aI.l0]
      rw [if_pos (by omega),if_pos (by omega)]
    · have:=l1 i (eG ByteArray.empty t i) q (hs _) (by rw [wrapN hi ht];exact hq)
      rw [h3,Bool.true_and,if_neg (by omega),if_neg (by omega)] at this
      exact this
  · have ho:zZ (eG ByteArray.empty t i) t.length=false∧b=false:=by
      cases h:zZ (eG ByteArray.empty t i) t.length <;> simp [h] at hb
      exact ⟨rfl,hb⟩
    obtain ⟨ho,rfl⟩:=ho
    refine Ev.step (f:=fun k=>aI.l1 k t (i:Nat) (eG ByteArray.empty t i) 0) (fun k=>?_) ?_
    · simp only [aI.l0]
      rw [if_pos (by omega),if_pos (by omega)]
    ·
      have tot:=F6 t ht hs
      have nx:∃ r,Ev (fun k=>aI.l0 k t (wrap64 ((i:Int)+1))) r:=by
        rw [wrapN hi ht]
        have l0:∀ d j,j+d=t.length→∃ r,Ev (fun k=>aI.l0 k t (j:Nat)) r:=by
          intro d
          induction d with
          | zero =>
            intro j hj
            refine ⟨(decide (1≤t.length) && decide (t.length≤8)),Ev.step (f:=fun _=>some _) (fun k=>?_) (Ev.now _)⟩
            simp only [aI.l0]
            rw [if_neg (by omega)]
            by_cases h:1≤t.length
            · rw [if_pos (by omega),decide_eq_true h,Bool.true_and]
              congr 1
              exact decide_eq_decide.2 (by omega)
            · rw [if_neg (by omega),decide_eq_false h,Bool.false_and]
          | succ d ih =>
            intro j hj
            obtain ⟨r,hr⟩:=ih (j+1) (by omega)
            have:=l1 j (eG ByteArray.empty t j) r (hs _) (by rw [wrapN (i:=j) (n:=t.length) (by omega) ht];exact hr)
            refine ⟨_,Ev.step (fun k=>?_) this⟩
            simp only [aI.l0]
            rw [if_pos (by omega),if_pos (by omega)]
        exact l0 (t.length - (i+1)) (i+1) (by omega)
      obtain ⟨r,hr⟩:=nx
      have:=l1 i (eG ByteArray.empty t i) r (hs _) hr
      refine Ev.out this ?_
      unfold zZ at ho
      by_cases h1:((eG ByteArray.empty t i).size:Int) < 1
      · rw [if_pos h1,Bool.and_false]
      · by_cases h2:((eG ByteArray.empty t i).size:Int) > 6
        · rw [if_neg h1,if_pos h2,Bool.and_false]
        · rw [decide_eq_true (by omega),decide_eq_true (by omega)] at ho
          simp at ho
          rw [ho,Bool.false_and]
  · refine Ev.step (f:=fun _=>some (decide (1≤t.length) && decide (t.length≤8))) (fun k=>?_) (Ev.now _)
    simp only [aI.l0]
    rw [if_neg (by omega)]
    by_cases h:1≤t.length
    · rw [if_pos (by omega),decide_eq_true h,Bool.true_and]
      congr 1
      exact decide_eq_decide.2 (by omega)
    · rw [if_neg (by omega),decide_eq_false h,Bool.false_and]
theorem BL (t:List ByteArray) (s:ByteArray) (ht:t.length≤9223372036854775807) (hts:∀ i:Int,(eG ByteArray.empty t i).size≤9223372036854775807) (hs:s.size≤9223372036854775807):Ev (fun k=>aN.f k t s) (sU t s):=by
  have:=oM (g:=fun k i=>aN.l0 k t s (i:Nat)) (fun i=>if decide (0≤nJ (bt s i) t.length) then none else some false) s.size (jH t)
    (fun i hi hb q hq=>?_) (fun i hi b hb=>?_) (fun _=>?_) s.size 0 (by omega) (fun j hj=>by omega)
  · rw [yS s.size (fun i=>decide (0≤nJ (bt s i) t.length))] at this
    exact this
  · have h2:0≤nJ (bt s i) t.length:=by
      by_cases h:0≤nJ (bt s i) t.length
      · exact h
      · simp [h] at hb
    refine Ev.step (fun k=>?_) hq
    simp only [aN.l0]
    rw [if_pos (by omega),if_pos (by omega),wrapN hi hs,qX]
    simp only [Option.bind_some]
    rw [if_neg (by omega)]
  · have h2:¬ 0≤nJ (bt s i) t.length∧b=false:=by
      by_cases h:0≤nJ (bt s i) t.length
      · simp [h] at hb
      · simp [h] at hb
        exact ⟨h,hb⟩
    obtain ⟨h2,rfl⟩:=h2
    refine Ev.step (f:=fun _=>some false) (fun k=>?_) (Ev.now false)
    simp only [aN.l0]
    rw [if_pos (by omega),if_pos (by omega),qX]
    simp only [Option.bind_some]
    rw [if_pos (by omega)]
  · refine Ev.step (f:=fun k=>(aI.f k t).bind fun z=>some z) (fun k=>?_) (Ev.bind (yV t ht hts) (Ev.now _))
    simp only [aN.l0]
    rw [if_neg (by omega)]
section
variable (t:List ByteArray) (ht:t.length≤9223372036854775807) (hs:∀ i:Int,(eG ByteArray.empty t i).size≤9223372036854775807)
include ht hs
theorem Vr (s:ByteArray) (a:Int) (h0:0≤a) (h1:a≤255):Ev (fun k=>eH.f k t s a) (bP t s a):=by
  have e1:wrap64 a=a:=by unfold wrap64;omega
  have e2:wrap64 (a+1)=a+1:=by unfold wrap64;omega
  by_cases h:a < s.size
  · obtain ⟨n,rfl⟩:=Int.eq_ofNat_of_zero_le h0
    have hn:n < s.size:=by omega
    have hr:=BL t (s.extract n (n+1)) ht hs (by rw [qK s n hn];omega)
    have er:sU t (s.extract n (n+1))=(decide (0≤nJ (bt s (n:Int)) t.length) && jH t):=by
      unfold sU
      rw [qK s n hn]
      congr 1
      show (List.range 1).all _=_
      simp only [List.range_one,List.all_cons,List.all_nil,Bool.and_true]
      rw [show ((0:Nat):Int)=0 from rfl,Fa s n hn]
    rw [er] at hr
    refine Ev.congr (f:=fun k=>(aN.f k t (s.extract n (n+1))).bind fun z=>if z=true then some ((bt s n - 48) % 256) else some (-1)) (fun k=>?_) (Ev.bind hr ?_)
    · unfold eH.f
      rw [e1,e2,if_neg (by omega),if_pos (by omega),if_pos (by omega),if_pos (by omega)]
      rw [show ((n:Int)+1).toNat=n+1 from by omega,Int.toNat_natCast]
      congr 1
      funext z
      by_cases hb:z=true
      · rw [if_pos hb,if_pos hb,if_pos (by omega),if_pos (by omega)]
      · rw [if_neg hb,if_neg hb]
    · unfold bP
      rw [if_pos h]
      cases hb:(decide (0≤nJ (bt s (n:Int)) t.length) && jH t)
      · rw [if_neg (by decide),if_neg (by decide)]
        exact Ev.now _
      · rw [if_pos rfl,if_pos rfl]
        have:=Oz.1 (of_decide_eq_true (Bool.and_eq_true _ _ ▸ hb).1)
        have hr:=zH s n
        rw [show (bt s (n:Int) - 48) % 256=bt s n - 48 from by omega]
        exact Ev.now _
  · refine Ev.congr (f:=fun _=>some (-1)) (fun k=>?_) (by unfold bP;rw [if_neg h];exact Ev.now _)
    unfold eH.f
    rw [e1,if_pos (by omega)]
theorem vg (lo gl:ByteArray) (code:List gY) (a:Int) (h0:0≤a) (h1:a≤255):Ev (fun k=>dE.f k t lo gl code a) (bP t lo a):=Ev.bind (Vr t ht hs lo a h0 h1) (Ev.now _)
theorem I4 (i:Int):Ev (fun k=>fD.f k t i) (iH t i):=by
  have is:Ev (fun k=>dN.f k t i) (jH t && (decide (0≤i) && decide (i < t.length))):=by
    refine Ev.bind (yV t ht hs) ?_
    refine Ev.out (Ev.ite (fun _=>Ev.ite (fun _=>Ev.now (decide (i < (t.length:Int)))) fun _=>Ev.now false) fun _=>Ev.now false) ?_
    cases jH t
    · rfl
    · rw [if_pos rfl,Bool.true_and]
      by_cases h:i ≥ 0
      · rw [if_pos h,decide_eq_true (show 0≤i from h),Bool.true_and]
      · rw [if_neg h,decide_eq_false (show ¬ 0≤i from h),Bool.false_and]
  refine Ev.bind is ?_
  unfold iH Py
  by_cases h:(jH t && (decide (0≤i) && decide (i < t.length)))=true
  · have h':=h
    simp only [Bool.and_eq_true,decide_eq_true_eq] at h'
    rw [if_pos h,if_pos h]
    exact Ev.congr (fun k=>(if_pos h'.2.1).trans (if_pos h'.2.2)) (Ev.now _)
  · rw [if_neg h,if_neg h]
    exact Ev.now _
end
end Go.Proofs.YtgfnpdfhdgenbaaDoor.P
end
section
section
namespace Go.Proofs.YtgfnpdfhdgenbaaDoor.P
open Go.RowKit Go.Proofs.ae.bf Go.Proofs.ae.bY Go.Proofs.ae.cZ
def letters (o:Int):List UInt8 :=
  if o=1 then [97,110]
  else if o=2 then [97,98,99]
  else if o=3 then [110]
  else if o=4 then [97,110]
  else if o=5 then [97]
  else if o=6 then [97]
  else if o=7 then [97,98]
  else if o=8 then [97,98,110]
  else if o=9 then [97,110,98]
  else if o=10 then [97,98,110]
  else if o=11 then [97,110,98]
  else if o=12 then [97,98]
  else if o=13 then [97,98]
  else if o=14 then [97]
  else if o=15 then [97,98,99]
  else []
def hasB (o:Int) (c:UInt8):Bool:=(letters o).contains c
end Go.Proofs.YtgfnpdfhdgenbaaDoor.P
end
section
namespace Go.Proofs.YtgfnpdfhdgenbaaDoor.P
open Go.RowKit Go.Proofs.ae.bf Go.Proofs.ae.bY Go.Proofs.ae.cZ
def AQ (t:List ByteArray) (i f:Int):Int:=if 0≤f∧f < iH t i then nJ (bt (Py t i) f) t.length else -1
def oN (t:List ByteArray) (a n:Int):Int × Bool:=if 0≤a∧0≤n∧n < iH t a then (AQ t a n,true) else (-1,false)
def qF (t:List ByteArray) (a n:Int):Bool:=(oN t a n).2 && decide ((oN t a n).1 < 0)
def oD (l:List Int):Bool:=allB l.length fun i=>decide (rd l i < 8)
def o7 (a b:Int):Bool:=decide (0≤a) && a == b
def qh (t:List ByteArray) (lo gl:ByteArray) (o a b c n:Int):Bool :=
  if o=7 then o7 (bP t lo a) (bP t lo b)
  else if o=8 then (if oD [a]=true then qF t (bP t lo b) n else false)
  else if o=9 then (if oD [b]=true then qF t (bP t lo a) n else false)
  else if o=10 then o7 (bP t lo a) (oN t (bP t lo b) n).1
  else if o=11 then o7 (bP t lo b) (oN t (bP t lo a) n).1
  else if o=12 then o7 (bP t lo a) (bP t gl b)
  else if o=13 then o7 (bP t lo b) (bP t gl a)
  else if o=15 then (if oD [a]=true then o7 (bP t lo b) (bP t lo c) else false)
  else true
def nP (t:List ByteArray) (lo gl:ByteArray) (o a b c n:Int) (x:Bool):Bool :=
  if x=true then decide (bP t lo a ≥ 0) else qh t lo gl o a b c n
def lV (t:List ByteArray) (lo gl:ByteArray) (o a b c n:Int) (x:Bool):Bool :=
  if x=true then oD [a] else if o=2 then oD [a,b,c]
  else if o=5 then nP t lo gl o a b c n (o == 5) else nP t lo gl o a b c n (o == 6)
def mY (t:List ByteArray) (lo gl:ByteArray) (o a b c n:Int):Bool :=
  if o=1 then lV t lo gl o a b c n (o == 1) else if o=4 then lV t lo gl o a b c n (o == 4) else lV t lo gl o a b c n (o == 14)
end Go.Proofs.YtgfnpdfhdgenbaaDoor.P
end
section
namespace Go.Proofs.YtgfnpdfhdgenbaaDoor.P
open Go.RowKit Go.Proofs.ae.bf Go.Proofs.ae.bY Go.Proofs.ae.cZ
def sS (x:gY):Bool:=if x.f0 < 1 then false else if x.f0 > 15 then false else
  ((hasB x.f0 98 || x.f2 == 0) && (hasB x.f0 99 || x.f3 == 0) && (hasB x.f0 110 || x.f4 == 0) && (hasB x.f0 97 || x.f1 == 0))
def vk (x:gY):Bool:=x.f0 == 3 || x.f0 == 4
def uP (t:List ByteArray) (lo gl:ByteArray) (x:gY):Bool:=mY t lo gl x.f0 x.f1 x.f2 x.f3 x.f4
def qM (t:List ByteArray) (lo gl:ByteArray) (n:Nat) (x:gY):Option Int :=
  if sS x=true then (if (vk x && (decide (x.f4 < 0) || decide (x.f4 > n)))=true then some 12 else if uP t lo gl x=true then none else some 5) else some 4
def headB (t:List ByteArray) (lo gl:ByteArray):Bool:=sU t (lo++gl) && (decide (lo.size≤8) && decide (gl.size≤4))
def xg (t:List ByteArray) (lo gl:ByteArray) (code:List gY):Int × Int :=
  scan (fun i=>(qM t lo gl code.length (code.getD i z45)).map fun e=>((i:Int),e)) (-1,0) code.length 0
def nX (t:List ByteArray) (lo gl:ByteArray) (code:List gY):Int × Int :=
  if headB t lo gl=true then (if 1≤code.length∧code.length≤200 then xg t lo gl code else (-1,3)) else (-1,5)
def Z7 (code:List gY):Prop:=∀ i:Nat,(0≤(code.getD i z45).f1∧(code.getD i z45).f1≤255)∧(0≤(code.getD i z45).f2∧(code.getD i z45).f2≤255)∧(0≤(code.getD i z45).f3∧(code.getD i z45).f3≤255)
theorem Ei (t:List ByteArray) (lo gl:ByteArray) (code:List gY) :
    (xg t lo gl code=(-1,0)∧∀ j,j < code.length→qM t lo gl code.length (code.getD j z45)=none) ∨
    ∃ j e,j < code.length∧qM t lo gl code.length (code.getD j z45)=some e∧xg t lo gl code=((j:Int),e)∧∀ q,q < j→qM t lo gl code.length (code.getD q z45)=none:=by
  unfold xg
  rcases rJ (bad:=fun i=>(qM t lo gl code.length (code.getD i z45)).map fun e=>((i:Int),e)) (fin:=((-1,0):Int × Int)) code.length 0 with ⟨h1,h2⟩|⟨j,b,_,h2,h3,h4,h5⟩
  · refine .inl ⟨h1,fun j hj=>?_⟩
    have:=h2 j (Nat.zero_le _) (by omega)
    rwa [Option.map_eq_none_iff] at this
  · rw [Option.map_eq_some_iff] at h3
    obtain ⟨e,h3,rfl⟩:=h3
    refine .inr ⟨j,e,by omega,h3,h4,fun q hq=>?_⟩
    have:=h5 q (Nat.zero_le _) hq
    rwa [Option.map_eq_none_iff] at this
theorem L9 {t:List ByteArray} {lo gl:ByteArray} {n:Nat} {x:gY} {e:Int} (h:qM t lo gl n x=some e):e ≠ 0:=by
  unfold qM at h
  split at h
  · split at h
    · injection h;omega
    · split at h
      · cases h
      · injection h;omega
  · injection h;omega
theorem LY (t:List ByteArray) (lo gl:ByteArray) (code:List gY):(nX t lo gl code).2=0 ↔ headB t lo gl=true∧(1≤code.length∧code.length≤200)∧∀ j,j < code.length→qM t lo gl code.length (code.getD j z45)=none:=by
  unfold nX
  by_cases h1:headB t lo gl=true
  · rw [if_pos h1]
    by_cases h2:1≤code.length∧code.length≤200
    · rw [if_pos h2]
      rcases Ei t lo gl code with ⟨h3,h4⟩|⟨j,e,h3,h4,h5,_⟩
      · rw [h3]
        exact ⟨fun _=>⟨h1,h2,h4⟩,fun _=>rfl⟩
      · rw [h5]
        refine ⟨fun h=>absurd h (L9 h4),fun h=>?_⟩
        rw [h.2.2 j h3] at h4
        cases h4
    · rw [if_neg h2]
      exact ⟨fun h=>by simp at h,fun h=>absurd h.2.1 h2⟩
  · rw [if_neg h1]
    exact ⟨fun h=>by simp at h,fun h=>absurd h.1 h1⟩
end Go.Proofs.YtgfnpdfhdgenbaaDoor.P
end
section
namespace Go.Proofs.YtgfnpdfhdgenbaaDoor.P
open Go.RowKit Go.Proofs.ae.bf Go.Proofs.ae.bY Go.Proofs.ae.cZ
theorem uX {t:List ByteArray} (h:jH t=true) (i:Nat):iH t i≤6:=by
  by_cases hi:i < t.length
  · exact (yU h i hi).2
  · unfold iH Py
    rw [if_neg (by simp;omega)]
    decide
theorem EI {t:List ByteArray} {lo gl:ByteArray} (h:headB t lo gl=true):jH t=true∧(∀ j,j < lo.size→0≤nJ (bt lo j) t.length)∧(∀ j,j < gl.size→0≤nJ (bt gl j) t.length)∧lo.size≤8∧gl.size≤4:=by
  unfold headB sU at h
  simp only [Bool.and_eq_true,decide_eq_true_eq] at h
  obtain ⟨⟨h1,h2⟩,h3,h4⟩:=h
  have hj:∀ j,j < (lo++gl).size→0≤nJ (bt (lo++gl) j) t.length:=fun j hj=>of_decide_eq_true (nZ.1 h1 j hj)
  have sz:(lo++gl).size=lo.size+gl.size:=by simp
  refine ⟨h2,fun j h=>?_,fun j h=>?_,h3,h4⟩
  · have:=hj j (by omega)
    rw [show bt (lo++gl) (j:Int)=bt lo j from ?_] at this
    · exact this
    · unfold bt
      rw [dif_pos (by rw [Int.toNat_natCast];omega),dif_pos (by rw [Int.toNat_natCast];omega)]
      congr 2
      exact ByteArray.getElem_append_left _
  · have:=hj (lo.size+j) (by omega)
    rw [show bt (lo++gl) ((lo.size+j:Nat):Int)=bt gl j from ?_] at this
    · exact this
    · unfold bt
      rw [dif_pos (by rw [Int.toNat_natCast];omega),dif_pos (by rw [Int.toNat_natCast];omega)]
      congr 2
      have:(lo++gl)[lo.size+j]'(by omega)=gl[lo.size+j - lo.size]'(by omega):=ByteArray.getElem_append_right (by omega)
      show (lo++gl)[lo.size+j]'(by omega)=gl[j]'(by omega)
      rw [this]
      congr 1
      omega
end Go.Proofs.YtgfnpdfhdgenbaaDoor.P
end
section
namespace Go.Proofs.YtgfnpdfhdgenbaaDoor.P
open Go.RowKit Go.Proofs.ae.bf Go.Proofs.ae.bY Go.Proofs.ae.cZ
structure St where
  x:Nat→Int
  p:Nat→Int
  g:Nat→Int
  aK:List (List Int)
  out:List Int
  pc:Int
  steps:Int
def upd (f:Nat→Int) (j:Nat) (v:Int):Nat→Int:=fun i=>if i=j then v else f i
def cellsS (s:St) (vO vU:Value):Array Value:=#[.int .i64 (s.x 0),.int .i64 (s.x 1),.int .i64 (s.x 2),.int .i64 (s.x 3),.int .i64 (s.x 4),.int .i64 (s.x 5),.int .i64 (s.x 6),.int .i64 (s.x 7),.int .i64 (s.p 0),.int .i64 (s.p 1),.int .i64 (s.p 2),.int .i64 (s.p 3),.int .i64 (s.p 4),.int .i64 (s.p 5),.int .i64 (s.p 6),.int .i64 (s.p 7),.int .i64 (s.g 0),.int .i64 (s.g 1),.int .i64 (s.g 2),.int .i64 (s.g 3),vO,vU,.int .i64 s.pc,.int .i64 s.steps]
section
variable {b:Nat} {s:St} {vO vU:Value} {w:World}
end
def bump (s:St):St:={ s with pc:=wrap64 (s.pc+1),steps:=wrap64 (s.steps+1) }
section
variable {b:Nat} {s:St} {vO vU:Value} {P I:Array Value} {w W:World}
end
end Go.Proofs.YtgfnpdfhdgenbaaDoor.P
end
section
namespace Go.Proofs.YtgfnpdfhdgenbaaDoor.P
open Go.RowKit Go.Proofs.ae.bf Go.Proofs.ae.bY Go.Proofs.ae.cZ
abbrev wR:Kd (List Int):=Kd.slice 2 (Kd.int .i64)
section
variable {b:Nat} {s:St} {vO vU:Value} {I:Array Value} {w W:World}
end
end Go.Proofs.YtgfnpdfhdgenbaaDoor.P
end
section
namespace Go.Proofs.YtgfnpdfhdgenbaaDoor.P
open Go.RowKit Go.Proofs.ae.bf Go.Proofs.ae.bY Go.Proofs.ae.cZ
def rowOf (s:St) (o:Int):List Int:=s.aK.getD (o - 1).toNat []
def D9 (s:St) (o n:Int):Prop:=1≤o∧o≤s.aK.length∧0≤n∧n < (rowOf s o).length
instance (s:St) (o n:Int):Decidable (D9 s o n):=inferInstanceAs (Decidable (1≤o∧o≤s.aK.length∧0≤n∧n < (rowOf s o).length))
def qw (sz:Int→Option Int) (s:St) (op:Int) (a bb cc:Nat) (n:Int):Option (St × Int) :=
    if op=1 then if a < 8 then some ({ bump s with x:=upd s.x a n },0) else none
    else if op=2 then if a < 8∧bb < 8∧cc < 8 then some ({ bump s with x:=upd s.x a (wrap64 (s.x bb+s.x cc)) },0) else none
    else if op=3 then some ({ bump s with pc:=n },0)
    else if op=4 then if a < 8 then if s.x a=0 then some ({ bump s with pc:=n },0) else some (bump s,0) else none
    else if op=5 then if a < 8 then (sz a).bind fun z=>if 0≤z∧z≤1000000 then some ({ bump s with aK:=s.aK++[List.replicate z.toNat 0],p:=upd s.p a ((s.aK.length:Int)+1) },0) else none else none
    else if op=6 then if a < 8 then some ({ bump s with p:=upd s.p a 0 },0) else none
    else if op=7 then if a < 8∧bb < 8 then some ({ bump s with p:=upd s.p a (s.p bb) },0) else none
    else if op=8 then if a < 8∧bb < 8 then if s.p bb=0 then some (bump s,9) else if D9 s (s.p bb) n then some ({ bump s with x:=upd s.x a (rd (rowOf s (s.p bb)) n) },0) else none else none
    else if op=9 then if a < 8∧bb < 8 then if s.p a=0 then some (bump s,9) else if D9 s (s.p a) n then some ({ bump s with aK:=s.aK.set (s.p a - 1).toNat ((rowOf s (s.p a)).set n.toNat (s.x bb)) },0) else none else none
    else if op=10 then if a < 8∧bb < 8 then if s.p bb=0 then some (bump s,9) else if D9 s (s.p bb) n then some ({ bump s with p:=upd s.p a (rd (rowOf s (s.p bb)) n) },0) else none else none
    else if op=11 then if a < 8∧bb < 8 then if s.p a=0 then some (bump s,9) else if D9 s (s.p a) n then some ({ bump s with aK:=s.aK.set (s.p a - 1).toNat ((rowOf s (s.p a)).set n.toNat (s.p bb)) },0) else none else none
    else if op=12 then if a < 8∧bb < 4 then some ({ bump s with p:=upd s.p a (s.g bb) },0) else none
    else if op=13 then if a < 4∧bb < 8 then some ({ bump s with g:=upd s.g a (s.p bb) },0) else none
    else if op=14 then if a < 8 then some ({ bump s with out:=s.out++[s.x a] },0) else none
    else if op=15 then if a < 8∧bb < 8∧cc < 8 then some ({ bump s with x:=upd s.x a (if s.p bb=s.p cc then 1 else 0) },0) else none
    else none
def PD (sz:Int→Option Int) (s:St) (i:gY):Option (St × Int) :=
  if 0≤i.f1∧0≤i.f2∧0≤i.f3∧s.aK.length≤1000000∧s.out.length≤1000000 then qw sz s i.f0 i.f1.toNat i.f2.toNat i.f3.toNat i.f4 else none
section
variable {k b:Nat} {s s':St} {e:Int} {A0 A3:Option Addr} {c0 c3:Nat} {l0:List ByteArray} {a1 a2:ByteArray} {l3:List gY} {W0 w:World}
end
end Go.Proofs.YtgfnpdfhdgenbaaDoor.P
end
section
namespace Go.Proofs.YtgfnpdfhdgenbaaDoor.P
open Go.RowKit Go.Proofs.ae.bf Go.Proofs.ae.bY Go.Proofs.ae.cZ
def Vw:St:=⟨fun _=>0,fun _=>0,fun _=>0,[],[],0,0⟩
theorem Ox {sz sz':Int→Option Int} (h:∀ a,eu (sz a) (sz' a)) (s:St) (i:gY):eu (PD sz s i) (PD sz' s i):=by
  unfold PD qw
  repeat' first
      | (with_reducible exact eu.refl _)
      | (with_reducible refine eu.ite ?_ ?_)
      | (with_reducible refine eu.bind (h _) (fun _=>?_))
end Go.Proofs.YtgfnpdfhdgenbaaDoor.P
end
section
namespace Go.Proofs.YtgfnpdfhdgenbaaDoor.P
open Go.RowKit Go.Proofs.ae.bf Go.Proofs.ae.bY Go.Proofs.ae.cZ
structure tV (s:St):Prop where
  aK:s.aK.length≤1000000
  out:s.out.length≤1000000
  each:∀ j (hj:j < s.aK.length),(s.aK[j]).length≤1000000
end Go.Proofs.YtgfnpdfhdgenbaaDoor.P
end
section
namespace Go.Proofs.YtgfnpdfhdgenbaaDoor.P
open Go.RowKit Go.Proofs.ae.bf Go.Proofs.ae.bY Go.Proofs.ae.cZ
def uw (sz:Int→Option Int) (code:List gY) (chk:Int) (s:St):Option (St × Bool × Int) :=
  if chk=0 then
    if s.pc < 0 then some (s,false,2)
    else if (code.length:Int) < s.pc then some (s,false,2)
    else if s.pc=code.length then some (s,true,0)
    else (PD sz s (aC code s.pc)).bind fun t=>if t.2=0 then some (t.1,false,0) else some (s,false,t.2)
  else some (s,false,2)
end Go.Proofs.YtgfnpdfhdgenbaaDoor.P
end
section
namespace Go.Proofs.YtgfnpdfhdgenbaaDoor.P
open Go.RowKit Go.Proofs.ae.bf Go.Proofs.ae.bY Go.Proofs.ae.cZ
structure Fine (t:List ByteArray) (lo gl:ByteArray) (n:Nat) (x:gY):Prop where
  op:1≤x.f0∧x.f0≤15
  jump:x.f0=3 ∨ x.f0=4→0≤x.f4∧x.f4≤n
  one:x.f0=1 ∨ x.f0=4 ∨ x.f0=14→x.f1 < 8
  add:x.f0=2→x.f1 < 8∧x.f2 < 8∧x.f3 < 8
  new:x.f0=5 ∨ x.f0=6→0≤bP t lo x.f1
  move:x.f0=7→0≤bP t lo x.f1∧bP t lo x.f1=bP t lo x.f2
  UJ:x.f0=8→x.f1 < 8∧0≤bP t lo x.f2∧0≤x.f4∧x.f4 < iH t (bP t lo x.f2)
  FW:x.f0=9→x.f2 < 8∧0≤bP t lo x.f1∧0≤x.f4∧x.f4 < iH t (bP t lo x.f1)∧AQ t (bP t lo x.f1) x.f4 < 0
  Nw:x.f0=10→0≤bP t lo x.f1∧0≤bP t lo x.f2∧0≤x.f4∧x.f4 < iH t (bP t lo x.f2)∧bP t lo x.f1=AQ t (bP t lo x.f2) x.f4
  FV:x.f0=11→0≤bP t lo x.f2∧0≤bP t lo x.f1∧0≤x.f4∧x.f4 < iH t (bP t lo x.f1)∧bP t lo x.f2=AQ t (bP t lo x.f1) x.f4
  Ny:x.f0=12→0≤bP t lo x.f1∧bP t lo x.f1=bP t gl x.f2
  FX:x.f0=13→0≤bP t lo x.f2∧bP t lo x.f2=bP t gl x.f1
  same:x.f0=15→x.f1 < 8∧0≤bP t lo x.f2∧bP t lo x.f2=bP t lo x.f3
theorem qQ {a b:Int}:o7 a b=true ↔ 0≤a∧a=b:=by simp [o7]
theorem Jd {a:Int}:oD [a]=true ↔ a < 8:=by
  unfold oD
  rw [nZ]
  refine ⟨fun h=>of_decide_eq_true (h 0 (by simp)),fun h j hj=>?_⟩
  obtain rfl:j=0:=by simp at hj;omega
  exact decide_eq_true h
theorem YP {a b c:Int}:oD [a,b,c]=true ↔ a < 8∧b < 8∧c < 8:=by
  unfold oD
  rw [nZ]
  refine ⟨fun h=>⟨of_decide_eq_true (h 0 (by simp)),of_decide_eq_true (h 1 (by simp)),of_decide_eq_true (h 2 (by simp))⟩,fun h j hj=>?_⟩
  obtain rfl|rfl|rfl:j=0 ∨ j=1 ∨ j=2:=by simp at hj;omega
  · exact decide_eq_true h.1
  · exact decide_eq_true h.2.1
  · exact decide_eq_true h.2.2
theorem wU {t:List ByteArray} {a n:Int} (h:(oN t a n).2=true ∨ 0≤(oN t a n).1):0≤a∧0≤n∧n < iH t a∧(oN t a n).1=AQ t a n:=by
  unfold oN at h ⊢
  split
  · rename_i hc
    exact ⟨hc.1,hc.2.1,hc.2.2,rfl⟩
  · rename_i hc
    rw [if_neg hc] at h
    simp at h
theorem TS {t:List ByteArray} {lo gl:ByteArray} {n:Nat} {x:gY} (h:qM t lo gl n x=none):Fine t lo gl n x:=by
  unfold qM at h
  split at h
  case isFalse=>cases h
  rename_i h1
  split at h
  case isTrue=>cases h
  rename_i h2
  split at h
  case isFalse=>cases h
  rename_i h3
  unfold sS at h1
  split at h1
  case isTrue=>cases h1
  rename_i q1
  split at h1
  case isTrue=>cases h1
  rename_i q2
  clear h h1
  have hk:mY t lo gl x.f0 x.f1 x.f2 x.f3 x.f4=true:=h3
  have hn:∀ {a m:Int},qF t a m=true→0≤a∧0≤m∧m < iH t a∧AQ t a m < 0:=fun {a m} hh=>by
    simp only [qF,Bool.and_eq_true,decide_eq_true_eq] at hh
    obtain ⟨y1,y2,y3,y4⟩:=wU (.inl hh.1)
    exact ⟨y1,y2,y3,y4 ▸ hh.2⟩
  refine ⟨⟨by omega,by omega⟩,fun hj=>?_,fun hj=>?_,fun hj=>?_,fun hj=>?_,fun hj=>?_,fun hj=>?_,fun hj=>?_,fun hj=>?_,fun hj=>?_,fun hj=>?_,fun hj=>?_,fun hj=>?_⟩
  · rcases hj with hj|hj <;> simp [vk,hj] at h2 <;> omega
  · rcases hj with hj|hj|hj <;> simp [mY,lV,hj] at hk <;> exact Jd.1 hk
  · simp [mY,lV,hj] at hk
    exact YP.1 hk
  · rcases hj with hj|hj <;> simp [mY,lV,nP,hj] at hk <;> exact hk
  · simp [mY,lV,nP,qh,hj] at hk
    exact qQ.1 hk
  · simp [mY,lV,nP,qh,hj] at hk
    obtain ⟨y1,y2,y3,_⟩:=hn hk.2
    exact ⟨Jd.1 hk.1,y1,y2,y3⟩
  · simp [mY,lV,nP,qh,hj] at hk
    exact ⟨Jd.1 hk.1,hn hk.2⟩
  · simp [mY,lV,nP,qh,hj] at hk
    obtain ⟨y0,y⟩:=qQ.1 hk
    obtain ⟨z1,z2,z3,z4⟩:=wU (.inr (y ▸ y0))
    exact ⟨y0,z1,z2,z3,y.trans z4⟩
  · simp [mY,lV,nP,qh,hj] at hk
    obtain ⟨y0,y⟩:=qQ.1 hk
    obtain ⟨z1,z2,z3,z4⟩:=wU (.inr (y ▸ y0))
    exact ⟨y0,z1,z2,z3,y.trans z4⟩
  · simp [mY,lV,nP,qh,hj] at hk
    exact qQ.1 hk
  · simp [mY,lV,nP,qh,hj] at hk
    exact qQ.1 hk
  · simp [mY,lV,nP,qh,hj] at hk
    exact ⟨Jd.1 hk.1,qQ.1 hk.2⟩
def Aj (ty:List Int) (v τ:Int):Prop:=v=0 ∨ (1≤v∧v≤ty.length∧ty.getD (v - 1).toNat (-1)=τ)
theorem Aj.more {ty:List Int} {v τ σ:Int} (h:Aj ty v τ):Aj (ty++[σ]) v τ:=by
  rcases h with h|⟨h1,h2,h3⟩
  · exact .inl h
  · refine .inr ⟨h1,by simp;omega,?_⟩
    rw [List.getD_eq_getElem?_getD,List.getElem?_append_left (by omega),← List.getD_eq_getElem?_getD]
    exact h3
structure Inv (t:List ByteArray) (lo gl:ByteArray) (n:Nat) (s:St) (ty:List Int):Prop where
  len:ty.length=s.aK.length
  size:∀ j:Nat,j < ty.length→((s.aK.getD j []).length:Int)=iH t (ty.getD j (-1))
  obj:∀ j f:Nat,j < ty.length→0≤AQ t (ty.getD j (-1)) f→Aj ty (rd (s.aK.getD j []) f) (AQ t (ty.getD j (-1)) f)
  p:∀ a:Nat,0≤bP t lo a→Aj ty (s.p a) (bP t lo a)
  g:∀ a:Nat,0≤bP t gl a→Aj ty (s.g a) (bP t gl a)
  few:s.aK.length≤n∧s.out.length≤n
section
variable {t:List ByteArray} {lo gl:ByteArray} {n:Nat} {s:St} {ty:List Int}
theorem inv0:Inv t lo gl 0 Vw [] :=
  ⟨rfl,fun j hj=>absurd hj (by simp),fun j f hj=>absurd hj (by simp),fun _ _=>.inl rfl,fun _ _=>.inl rfl,Nat.le_refl _,Nat.le_refl _⟩
theorem Inv.as {s':St} (h:Inv t lo gl n s ty) (e1:s'.aK=s.aK) (e2:s'.p=s.p) (e3:s'.g=s.g) (e4:s'.out.length≤n+1):Inv t lo gl (n+1) s' ty:=by
  refine ⟨by rw [e1];exact h.len,by rw [e1];exact h.size,by rw [e1];exact h.obj,by rw [e2];exact h.p,by rw [e3];exact h.g,by rw [e1];have:=h.few.1;omega,e4⟩
theorem Inv.wK {s':St} (h:Inv t lo gl n s ty) (a:Nat) (v:Int) (e1:s'.aK=s.aK) (e2:s'.p=upd s.p a v) (e3:s'.g=s.g) (e4:s'.out=s.out) (hv:Aj ty v (bP t lo a)):Inv t lo gl (n+1) s' ty:=by
  refine ⟨by rw [e1];exact h.len,by rw [e1];exact h.size,by rw [e1];exact h.obj,fun b hb=>?_,by rw [e3];exact h.g,by rw [e1];have:=h.few.1;omega,by rw [e4];have:=h.few.2;omega⟩
  rw [e2]
  unfold upd
  split
  · rename_i hba
    rw [hba]
    exact hv
  · exact h.p b hb
theorem Inv.Qb {s':St} (h:Inv t lo gl n s ty) (a:Nat) (v:Int) (e1:s'.aK=s.aK) (e2:s'.p=s.p) (e3:s'.g=upd s.g a v) (e4:s'.out=s.out) (hv:Aj ty v (bP t gl a)):Inv t lo gl (n+1) s' ty:=by
  refine ⟨by rw [e1];exact h.len,by rw [e1];exact h.size,by rw [e1];exact h.obj,by rw [e2];exact h.p,fun b hb=>?_,by rw [e1];have:=h.few.1;omega,by rw [e4];have:=h.few.2;omega⟩
  rw [e3]
  unfold upd
  split
  · rename_i hba
    rw [hba]
    exact hv
  · exact h.g b hb
theorem Inv.FZ {s':St} (h:Inv t lo gl n s ty) (o:Nat) (m:Nat) (v:Int) (ho:o < ty.length) (hm:(m:Int) < iH t (ty.getD o (-1))) (e1:s'.aK=s.aK.set o ((s.aK.getD o []).set m v)) (e2:s'.p=s.p) (e3:s'.g=s.g) (e4:s'.out=s.out)
    (hv:0≤AQ t (ty.getD o (-1)) m→Aj ty v (AQ t (ty.getD o (-1)) m)):Inv t lo gl (n+1) s' ty:=by
  have hlen:=h.len
  have hrow:∀ j,s'.aK.getD j []=if j=o then (s.aK.getD o []).set m v else s.aK.getD j []:=fun j=>by
    rw [e1,List.getD_eq_getElem?_getD,List.getElem?_set]
    split
    · rename_i hoj
      rw [if_pos hoj.symm,if_pos (by omega)]
      rfl
    · rename_i hoj
      rw [if_neg (fun he=>hoj he.symm),← List.getD_eq_getElem?_getD]
  refine ⟨by rw [e1,List.length_set];exact h.len,fun j hj=>?_,fun j f hj hf=>?_,by rw [e2];exact h.p,by rw [e3];exact h.g,by rw [e1,List.length_set];have:=h.few.1;omega,by rw [e4];have:=h.few.2;omega⟩
  · rw [hrow]
    split
    · rename_i hjo
      rw [List.length_set,hjo]
      exact h.size o ho
    · exact h.size j hj
  · rw [hrow]
    split
    · rename_i hjo
      rw [hjo] at hf ⊢
      have hs:=h.size o ho
      unfold rd
      rw [Int.toNat_natCast,List.getD_eq_getElem?_getD,List.getElem?_set]
      split
      · rename_i hmf
        rw [← hmf] at hf ⊢
        rw [if_pos (by omega)]
        exact hv hf
      · have:=h.obj o f ho hf
        unfold rd at this
        rw [Int.toNat_natCast,List.getD_eq_getElem?_getD] at this
        exact this
    · exact h.obj j f hj hf
theorem Inv.new {s':St} (h:Inv t lo gl n s ty) (a:Nat) (τ:Int) (hτ:bP t lo a=τ) (e1:s'.aK=s.aK++[List.replicate (iH t τ).toNat 0]) (hz:0≤iH t τ) (e2:s'.p=upd s.p a ((s.aK.length:Int)+1)) (e3:s'.g=s.g) (e4:s'.out=s.out):Inv t lo gl (n+1) s' (ty++[τ]):=by
  have hlen:=h.len
  have hl:(ty++[τ]).length=ty.length+1:=by simp
  have hty:∀ j,j < ty.length→(ty++[τ]).getD j (-1)=ty.getD j (-1):=fun j hj=>by
    rw [List.getD_eq_getElem?_getD,List.getElem?_append_left hj,← List.getD_eq_getElem?_getD]
  have YQ:(ty++[τ]).getD ty.length (-1)=τ:=by
    rw [List.getD_eq_getElem?_getD,List.getElem?_append_right (Nat.le_refl _)]
    simp
  have hob:∀ j,j < ty.length→s'.aK.getD j []=s.aK.getD j []:=fun j hj=>by
    rw [e1,List.getD_eq_getElem?_getD,List.getElem?_append_left (by omega),← List.getD_eq_getElem?_getD]
  have YS:s'.aK.getD ty.length []=List.replicate (iH t τ).toNat 0:=by
    rw [e1,hlen,List.getD_eq_getElem?_getD,List.getElem?_append_right (Nat.le_refl _)]
    simp
  have hr0:∀ (m:Nat) (i:Int),rd (List.replicate m (0:Int)) i=0:=fun m i=>by
    unfold rd
    rw [List.getD_eq_getElem?_getD,List.getElem?_replicate]
    split <;> rfl
  refine ⟨by rw [e1];simp [hlen],fun j hj=>?_,fun j f hj hf=>?_,fun b hb=>?_,fun b hb=>?_,by rw [e1];have:=h.few.1;simp;omega,by rw [e4];have:=h.few.2;omega⟩
  · by_cases hj2:j < ty.length
    · rw [hty j hj2,hob j hj2]
      exact h.size j hj2
    · obtain rfl:j=ty.length:=by omega
      rw [YQ,YS,List.length_replicate]
      omega
  · by_cases hj2:j < ty.length
    · rw [hty j hj2] at hf ⊢
      rw [hob j hj2]
      exact (h.obj j f hj2 hf).more
    · obtain rfl:j=ty.length:=by omega
      rw [YS,hr0]
      exact .inl rfl
  · rw [e2]
    unfold upd
    split
    · rename_i hba
      rw [hba,hτ]
      refine .inr ⟨by omega,by rw [hl,hlen];omega,?_⟩
      rw [show ((s.aK.length:Int)+1 - 1).toNat=ty.length by rw [hlen];omega]
      exact YQ
    · exact (h.p b hb).more
  · rw [e3]
    exact (h.g b hb).more
end
end Go.Proofs.YtgfnpdfhdgenbaaDoor.P
end
section
namespace Go.Proofs.YtgfnpdfhdgenbaaDoor.P
open Go.RowKit Go.Proofs.ae.bf Go.Proofs.ae.bY Go.Proofs.ae.cZ
def P9 (t:List ByteArray) (lo:ByteArray) (a:Int):Option Int:=if 0≤a∧a≤255 then some (iH t (bP t lo a)) else none
section
variable (sz:Int→Option Int) (s:St) (a b c:Nat) (n:Int)
theorem Ov:qw sz s 1 a b c n=if a < 8 then some ({ bump s with x:=upd s.x a n },0) else none:=by unfold qw;rfl
theorem Ou:qw sz s 2 a b c n=if a < 8∧b < 8∧c < 8 then some ({ bump s with x:=upd s.x a (wrap64 (s.x b+s.x c)) },0) else none:=by unfold qw;rfl
theorem Ot:qw sz s 3 a b c n=some ({ bump s with pc:=n },0):=by unfold qw;rfl
theorem Oq:qw sz s 4 a b c n=if a < 8 then if s.x a=0 then some ({ bump s with pc:=n },0) else some (bump s,0) else none:=by unfold qw;rfl
theorem Ol:qw sz s 5 a b c n=if a < 8 then (sz a).bind fun z=>if 0≤z∧z≤1000000 then some ({ bump s with aK:=s.aK++[List.replicate z.toNat 0],p:=upd s.p a ((s.aK.length:Int)+1) },0) else none else none:=by unfold qw;rfl
theorem Oj:qw sz s 6 a b c n=if a < 8 then some ({ bump s with p:=upd s.p a 0 },0) else none:=by unfold qw;rfl
theorem Oi:qw sz s 7 a b c n=if a < 8∧b < 8 then some ({ bump s with p:=upd s.p a (s.p b) },0) else none:=by unfold qw;rfl
theorem Oh:qw sz s 8 a b c n=if a < 8∧b < 8 then if s.p b=0 then some (bump s,9) else if D9 s (s.p b) n then some ({ bump s with x:=upd s.x a (rd (rowOf s (s.p b)) n) },0) else none else none:=by unfold qw;rfl
theorem Og:qw sz s 9 a b c n=if a < 8∧b < 8 then if s.p a=0 then some (bump s,9) else if D9 s (s.p a) n then some ({ bump s with aK:=s.aK.set (s.p a - 1).toNat ((rowOf s (s.p a)).set n.toNat (s.x b)) },0) else none else none:=by unfold qw;rfl
theorem Ib:qw sz s 10 a b c n=if a < 8∧b < 8 then if s.p b=0 then some (bump s,9) else if D9 s (s.p b) n then some ({ bump s with p:=upd s.p a (rd (rowOf s (s.p b)) n) },0) else none else none:=by unfold qw;rfl
theorem Ia:qw sz s 11 a b c n=if a < 8∧b < 8 then if s.p a=0 then some (bump s,9) else if D9 s (s.p a) n then some ({ bump s with aK:=s.aK.set (s.p a - 1).toNat ((rowOf s (s.p a)).set n.toNat (s.p b)) },0) else none else none:=by unfold qw;rfl
theorem H9:qw sz s 12 a b c n=if a < 8∧b < 4 then some ({ bump s with p:=upd s.p a (s.g b) },0) else none:=by unfold qw;rfl
theorem H8:qw sz s 13 a b c n=if a < 4∧b < 8 then some ({ bump s with g:=upd s.g a (s.p b) },0) else none:=by unfold qw;rfl
theorem H7:qw sz s 14 a b c n=if a < 8 then some ({ bump s with out:=s.out++[s.x a] },0) else none:=by unfold qw;rfl
theorem H6:qw sz s 15 a b c n=if a < 8∧b < 8∧c < 8 then some ({ bump s with x:=upd s.x a (if s.p b=s.p c then 1 else 0) },0) else none:=by unfold qw;rfl
end
structure Next (t:List ByteArray) (lo gl:ByteArray) (len n:Nat) (x:gY) (s s':St) (e:Int):Prop where
  code:e=0 ∨ e=9
  bad:e ≠ 0→s'=bump s
  inv:∃ ty',Inv t lo gl (n+1) s' ty'
  pc:e=0→0≤s'.pc∧s'.pc≤len
  steps:s'.steps=wrap64 (s.steps+1)
  out:s'.out=s.out++(if x.f0=14 then [s.x x.f1.toNat] else [])
  aK:s'.aK.length=s.aK.length+(if x.f0=5 then 1 else 0)
theorem qR {t:List ByteArray} {lo:ByteArray} (hl:lo.size≤8) {a:Int} (h:0≤bP t lo a):a < 8∧a < lo.size:=by
  unfold bP at h
  split at h
  · omega
  · omega
theorem Ic {sz:Int→Option Int} {s:St} {i:gY} (h1:0≤i.f1) (h2:0≤i.f2) (h3:0≤i.f3) (h4:s.aK.length≤1000000) (h5:s.out.length≤1000000):PD sz s i=qw sz s i.f0 i.f1.toNat i.f2.toNat i.f3.toNat i.f4:=if_pos ⟨h1,h2,h3,h4,h5⟩
theorem step_ok {t:List ByteArray} {lo gl:ByteArray} {len n:Nat} {s:St} {ty:List Int} {x:gY} (hr:jH t=true) (hlo:lo.size≤8) (hgl:gl.size≤4) (hx:Fine t lo gl len x)
    (w1:0≤x.f1∧x.f1≤255) (w2:0≤x.f2∧x.f2≤255) (w3:0≤x.f3∧x.f3≤255) (hI:Inv t lo gl n s ty) (hn:n≤1000000) (hlen:len≤200) (h0:0≤s.pc) (h1:s.pc < len) :
    ∃ s' e,PD (P9 t lo) s x=some (s',e)∧Next t lo gl len n x s s' e:=by
  have hpc:wrap64 (s.pc+1)=s.pc+1:=by unfold wrap64;omega
  have hb:(bump s).pc=s.pc+1:=hpc
  have hfew:=hI.few
  rw [Ic w1.1 w2.1 w3.1 (by omega) (by omega)]
  obtain ⟨op,fa,fb,fc,n4⟩:=x
  obtain ⟨a,rfl⟩:=Int.eq_ofNat_of_zero_le w1.1
  obtain ⟨b,rfl⟩:=Int.eq_ofNat_of_zero_le w2.1
  obtain ⟨c,rfl⟩:=Int.eq_ofNat_of_zero_le w3.1
  simp only at w1 w2 w3 ⊢
  simp only [Int.toNat_natCast]
  have hop:=hx.op
  simp only at hop
  have hsz:∀ τ:Int,0≤iH t τ∧iH t τ≤6:=fun τ=>by
    by_cases hτ:0≤τ
    · obtain ⟨m,rfl⟩:=Int.eq_ofNat_of_zero_le hτ
      have:=uX hr m
      unfold iH at this ⊢
      omega
    · unfold iH Py
      rw [if_neg (by simp only [decide_eq_false hτ,Bool.false_and,Bool.and_false];decide)]
      exact ⟨by decide,by decide⟩
  have loc:∀ a:Nat,0≤bP t lo a→a < 8:=fun a h=>by have:=(qR hlo h).1;omega
  have Zh:∀ a:Nat,0≤bP t gl a→a < 4:=fun a h=>by
    have:((a:Nat):Int) < gl.size:=by
      unfold bP at h
      split at h
      · assumption
      · omega
    omega
  have obj:∀ (b:Nat),0≤bP t lo b→s.p b ≠ 0→1≤s.p b∧s.p b≤s.aK.length∧((s.p b - 1).toNat < ty.length)∧ty.getD (s.p b - 1).toNat (-1)=bP t lo b∧((rowOf s (s.p b)).length:Int)=iH t (bP t lo b):=fun b hb hne=>by
    rcases hI.p b hb with h|⟨q1,q2,q3⟩
    · exact absurd h hne
    · have hl:=hI.len
      have hlt:(s.p b - 1).toNat < ty.length:=by omega
      have:=hI.size _ hlt
      rw [q3] at this
      exact ⟨q1,by omega,hlt,q3,this⟩
  obtain h|h|h|h|h|h|h|h|h|h|h|h|h|h|h:op=1 ∨ op=2 ∨ op=3 ∨ op=4 ∨ op=5 ∨ op=6 ∨ op=7 ∨ op=8 ∨ op=9 ∨ op=10 ∨ op=11 ∨ op=12 ∨ op=13 ∨ op=14 ∨ op=15:=by omega
  all_goals subst h
  · have q:=hx.one (.inl rfl)
    simp only at q
    rw [Ov,if_pos (by omega)]
    exact ⟨_,_,rfl,.inl rfl,fun h=>absurd rfl h,⟨ty,hI.as rfl rfl rfl (by show s.out.length≤_;omega)⟩,fun _=>by show 0≤(bump s).pc∧(bump s).pc≤_;omega,rfl,(List.append_nil _).symm,rfl⟩
  · have q:=hx.add rfl
    simp only at q
    rw [Ou,if_pos (by omega)]
    exact ⟨_,_,rfl,.inl rfl,fun h=>absurd rfl h,⟨ty,hI.as rfl rfl rfl (by show s.out.length≤_;omega)⟩,fun _=>by show 0≤(bump s).pc∧(bump s).pc≤_;omega,rfl,(List.append_nil _).symm,rfl⟩
  · have q:=hx.jump (.inl rfl)
    rw [Ot]
    exact ⟨_,_,rfl,.inl rfl,fun h=>absurd rfl h,⟨ty,hI.as rfl rfl rfl (by show s.out.length≤_;omega)⟩,fun _=>q,rfl,(List.append_nil _).symm,rfl⟩
  · have q:=hx.jump (.inr rfl)
    have q1:=hx.one (.inr (.inl rfl))
    simp only at q1
    rw [Oq,if_pos (by omega)]
    split
    · exact ⟨_,_,rfl,.inl rfl,fun h=>absurd rfl h,⟨ty,hI.as rfl rfl rfl (by show s.out.length≤_;omega)⟩,fun _=>q,rfl,(List.append_nil _).symm,rfl⟩
    · exact ⟨_,_,rfl,.inl rfl,fun h=>absurd rfl h,⟨ty,hI.as rfl rfl rfl (by show s.out.length≤_;omega)⟩,fun _=>by omega,rfl,(List.append_nil _).symm,rfl⟩
  · have q:=hx.new (.inl rfl)
    simp only at q
    have hs:=hsz (bP t lo a)
    rw [Ol,if_pos (loc a q),P9,if_pos ⟨w1.1,w1.2⟩,Option.bind_some,if_pos (by omega)]
    exact ⟨_,_,rfl,.inl rfl,fun h=>absurd rfl h,⟨_,hI.new a _ rfl rfl hs.1 rfl rfl rfl⟩,fun _=>by show 0≤(bump s).pc∧(bump s).pc≤_;omega,rfl,(List.append_nil _).symm,List.length_append⟩
  · have q:=hx.new (.inr rfl)
    simp only at q
    rw [Oj,if_pos (loc a q)]
    exact ⟨_,_,rfl,.inl rfl,fun h=>absurd rfl h,⟨ty,hI.wK a 0 rfl rfl rfl rfl (.inl rfl)⟩,fun _=>by show 0≤(bump s).pc∧(bump s).pc≤_;omega,rfl,(List.append_nil _).symm,rfl⟩
  · obtain ⟨q,q2⟩:=hx.move rfl
    simp only at q q2
    rw [Oi,if_pos ⟨loc a q,loc b (q2 ▸ q)⟩]
    exact ⟨_,_,rfl,.inl rfl,fun h=>absurd rfl h,⟨ty,hI.wK a _ rfl rfl rfl rfl (q2 ▸ hI.p b (q2 ▸ q))⟩,fun _=>by show 0≤(bump s).pc∧(bump s).pc≤_;omega,rfl,(List.append_nil _).symm,rfl⟩
  · obtain ⟨q1,q2,q3,q4⟩:=hx.UJ rfl
    simp only at q1 q2 q3 q4
    rw [Oh,if_pos ⟨by omega,loc b q2⟩]
    by_cases hz:s.p b=0
    · rw [if_pos hz]
      exact ⟨_,_,rfl,.inr rfl,fun _=>rfl,⟨ty,hI.as rfl rfl rfl (by show s.out.length≤_;omega)⟩,fun h=>absurd h (by decide),rfl,(List.append_nil _).symm,rfl⟩
    · obtain ⟨y1,y2,y3,y4,y5⟩:=obj b q2 hz
      rw [if_neg hz,if_pos ⟨y1,y2,q3,by omega⟩]
      exact ⟨_,_,rfl,.inl rfl,fun h=>absurd rfl h,⟨ty,hI.as rfl rfl rfl (by show s.out.length≤_;omega)⟩,fun _=>by show 0≤(bump s).pc∧(bump s).pc≤_;omega,rfl,(List.append_nil _).symm,rfl⟩
  · obtain ⟨q1,q2,q3,q4,q5⟩:=hx.FW rfl
    simp only at q1 q2 q3 q4 q5
    obtain ⟨m,rfl⟩:=Int.eq_ofNat_of_zero_le q3
    rw [Og,if_pos ⟨loc a q2,by omega⟩]
    by_cases hz:s.p a=0
    · rw [if_pos hz]
      exact ⟨_,_,rfl,.inr rfl,fun _=>rfl,⟨ty,hI.as rfl rfl rfl (by show s.out.length≤_;omega)⟩,fun h=>absurd h (by decide),rfl,(List.append_nil _).symm,rfl⟩
    · obtain ⟨y1,y2,y3,y4,y5⟩:=obj a q2 hz
      rw [if_neg hz,if_pos ⟨y1,y2,q3,by omega⟩]
      exact ⟨_,_,rfl,.inl rfl,fun h=>absurd rfl h,⟨ty,hI.FZ (s.p a - 1).toNat m _ y3 (by rw [y4];exact q4) rfl rfl rfl rfl (fun h=>by rw [y4] at h;omega)⟩,fun _=>by show 0≤(bump s).pc∧(bump s).pc≤_;omega,rfl,(List.append_nil _).symm,List.length_set⟩
  · obtain ⟨q1,q2,q3,q4,q5⟩:=hx.Nw rfl
    simp only at q1 q2 q3 q4 q5
    obtain ⟨m,rfl⟩:=Int.eq_ofNat_of_zero_le q3
    rw [Ib,if_pos ⟨loc a q1,loc b q2⟩]
    by_cases hz:s.p b=0
    · rw [if_pos hz]
      exact ⟨_,_,rfl,.inr rfl,fun _=>rfl,⟨ty,hI.as rfl rfl rfl (by show s.out.length≤_;omega)⟩,fun h=>absurd h (by decide),rfl,(List.append_nil _).symm,rfl⟩
    · obtain ⟨y1,y2,y3,y4,y5⟩:=obj b q2 hz
      rw [if_neg hz,if_pos ⟨y1,y2,q3,by omega⟩]
      have hv:=hI.obj (s.p b - 1).toNat m y3 (by rw [y4];omega)
      rw [y4,← q5] at hv
      exact ⟨_,_,rfl,.inl rfl,fun h=>absurd rfl h,⟨ty,hI.wK a _ rfl rfl rfl rfl hv⟩,fun _=>by show 0≤(bump s).pc∧(bump s).pc≤_;omega,rfl,(List.append_nil _).symm,rfl⟩
  · obtain ⟨q1,q2,q3,q4,q5⟩:=hx.FV rfl
    simp only at q1 q2 q3 q4 q5
    obtain ⟨m,rfl⟩:=Int.eq_ofNat_of_zero_le q3
    rw [Ia,if_pos ⟨loc a q2,loc b q1⟩]
    by_cases hz:s.p a=0
    · rw [if_pos hz]
      exact ⟨_,_,rfl,.inr rfl,fun _=>rfl,⟨ty,hI.as rfl rfl rfl (by show s.out.length≤_;omega)⟩,fun h=>absurd h (by decide),rfl,(List.append_nil _).symm,rfl⟩
    · obtain ⟨y1,y2,y3,y4,y5⟩:=obj a q2 hz
      rw [if_neg hz,if_pos ⟨y1,y2,q3,by omega⟩]
      exact ⟨_,_,rfl,.inl rfl,fun h=>absurd rfl h,⟨ty,hI.FZ (s.p a - 1).toNat m _ y3 (by rw [y4];exact q4) rfl rfl rfl rfl (fun _=>by rw [y4,← q5];exact hI.p b q1)⟩,fun _=>by show 0≤(bump s).pc∧(bump s).pc≤_;omega,rfl,(List.append_nil _).symm,List.length_set⟩
  · obtain ⟨q1,q2⟩:=hx.Ny rfl
    simp only at q1 q2
    rw [H9,if_pos ⟨loc a q1,Zh b (q2 ▸ q1)⟩]
    exact ⟨_,_,rfl,.inl rfl,fun h=>absurd rfl h,⟨ty,hI.wK a _ rfl rfl rfl rfl (q2 ▸ hI.g b (q2 ▸ q1))⟩,fun _=>by show 0≤(bump s).pc∧(bump s).pc≤_;omega,rfl,(List.append_nil _).symm,rfl⟩
  · obtain ⟨q1,q2⟩:=hx.FX rfl
    simp only at q1 q2
    rw [H8,if_pos ⟨Zh a (q2 ▸ q1),loc b q1⟩]
    exact ⟨_,_,rfl,.inl rfl,fun h=>absurd rfl h,⟨ty,hI.Qb a _ rfl rfl rfl rfl (q2 ▸ hI.p b q1)⟩,fun _=>by show 0≤(bump s).pc∧(bump s).pc≤_;omega,rfl,(List.append_nil _).symm,rfl⟩
  · have q:=hx.one (.inr (.inr rfl))
    simp only at q
    rw [H7,if_pos (by omega)]
    exact ⟨_,_,rfl,.inl rfl,fun h=>absurd rfl h,⟨ty,hI.as rfl rfl rfl (by show (s.out++[s.x a]).length≤_;simp;omega)⟩,fun _=>by show 0≤(bump s).pc∧(bump s).pc≤_;omega,rfl,rfl,rfl⟩
  · obtain ⟨q1,q2,q3⟩:=hx.same rfl
    simp only at q1 q2 q3
    rw [H6,if_pos ⟨by omega,loc b q2,loc c (q3 ▸ q2)⟩]
    exact ⟨_,_,rfl,.inl rfl,fun h=>absurd rfl h,⟨ty,hI.as rfl rfl rfl (by show s.out.length≤_;omega)⟩,fun _=>by show 0≤(bump s).pc∧(bump s).pc≤_;omega,rfl,(List.append_nil _).symm,rfl⟩
end Go.Proofs.YtgfnpdfhdgenbaaDoor.P
end
section
namespace Go.Proofs.YtgfnpdfhdgenbaaDoor.P
open Go.RowKit Go.Proofs.ae.bf Go.Proofs.ae.bY Go.Proofs.ae.cZ
structure Ok (t:List ByteArray) (lo gl:ByteArray) (code:List gY):Prop where
  right:jH t=true
  I9:lo.size≤8
  gl4:gl.size≤4
  len:1≤code.length∧code.length≤200
  fine:∀ j:Nat,j < code.length→Fine t lo gl code.length (code.getD j z45)
  wf:Z7 code
theorem YH {t:List ByteArray} {lo gl:ByteArray} {code:List gY} (h:(nX t lo gl code).2=0) (hw:Z7 code):Ok t lo gl code:=by
  obtain ⟨h1,h2,h3⟩:=(LY t lo gl code).1 h
  obtain ⟨q1,q2,q3,q4,q5⟩:=EI h1
  exact ⟨q1,q4,q5,h2,fun j hj=>TS (h3 j hj),hw⟩
section
variable {t:List ByteArray} {lo gl:ByteArray} {code:List gY}
theorem Ok.step (h:Ok t lo gl code) {n:Nat} {s:St} {ty:List Int} (hI:Inv t lo gl n s ty) (hn:n≤1000000) (h0:0≤s.pc) (h1:s.pc < code.length) :
    ∃ s' e,PD (P9 t lo) s (aC code s.pc)=some (s',e)∧Next t lo gl code.length n (aC code s.pc) s s' e:=by
  have hw:=h.wf s.pc.toNat
  exact step_ok h.right h.I9 h.gl4 (h.fine s.pc.toNat (by omega)) hw.1 hw.2.1 hw.2.2 hI hn h.len.2 h0 h1
end
end Go.Proofs.YtgfnpdfhdgenbaaDoor.P
end
section
namespace Go.Proofs.YtgfnpdfhdgenbaaDoor.P
open Go.RowKit Go.Proofs.ae.bf Go.Proofs.ae.bY Go.Proofs.ae.cZ
open Classical in
noncomputable def step0 (t:List ByteArray) (lo gl:ByteArray) (code:List gY) (s:St):Option (St × Bool × Int):=if tV s then uw (P9 t lo) code (nX t lo gl code).2 s else none
section
variable {t:List ByteArray} {lo gl:ByteArray} {code:List gY}
theorem FY {sz sz':Int→Option Int} (h:∀ a,eu (sz a) (sz' a)) (c:Int) (s:St):eu (uw sz code c s) (uw sz' code c s):=by
  unfold uw
  repeat' first
      | (with_reducible exact eu.refl _)
      | (with_reducible refine eu.ite ?_ ?_)
      | (with_reducible refine eu.bind (Ox h _ _) (fun _=>?_))
theorem Inv.small (hr:jH t=true) {n:Nat} {s:St} {ty:List Int} (h:Inv t lo gl n s ty) (hn:n≤1000000):tV s:=by
  have:=h.few
  have hl:=h.len
  refine ⟨by omega,by omega,fun j hj=>?_⟩
  have q:=h.size j (by omega)
  rw [List.getD_eq_getElem?_getD,List.getElem?_eq_getElem hj,Option.getD_some] at q
  have:iH t (ty.getD j (-1))≤6:=by
    by_cases hτ:0≤ty.getD j (-1)
    · obtain ⟨m,hm⟩:=Int.eq_ofNat_of_zero_le hτ
      rw [hm]
      exact uX hr m
    · unfold iH Py
      rw [if_neg (by simp only [decide_eq_false hτ,Bool.false_and,Bool.and_false];decide)]
      decide
  omega
theorem KW (hk0:(nX t lo gl code).2=0) {s s':St} {e:Int} (hsm:tV s) (h0:0≤s.pc) (hlt:s.pc < code.length) (hd:PD (P9 t lo) s (aC code s.pc)=some (s',e)):step0 t lo gl code s=if e=0 then some (s',false,0) else some (s,false,e):=by
  unfold step0 uw
  rw [if_pos hsm,if_pos hk0,if_neg (show ¬ s.pc < 0 by omega),if_neg (show ¬ (code.length:Int) < s.pc by omega),if_neg (show ¬ s.pc=code.length by omega),hd,Option.bind_some]
theorem KX (hk0:(nX t lo gl code).2=0) {s:St} (hsm:tV s) (h0:s.pc=code.length):step0 t lo gl code s=some (s,true,0):=by
  unfold step0 uw
  rw [if_pos hsm,if_pos hk0,if_neg (show ¬ s.pc < 0 by omega),if_neg (show ¬ (code.length:Int) < s.pc by omega),if_pos h0]
end
end Go.Proofs.YtgfnpdfhdgenbaaDoor.P
end
end
