/- Parts of the proof of FullTrue: what the functions that it reaches compute, and plain facts about that. -/
import Derived.Test.YtbmhmlgfpijmhaaDoorFam
set_option linter.unusedVariables false
set_option linter.unusedSimpArgs false
section
section
namespace Go.Proofs.YtbmhmlgfpijmhaaDoor.P
open Go.RowKit Go.Proofs.af.bG Go.Proofs.af.dD Go.Proofs.af.dM
def qi (t:List ByteArray) (a n:Int):Bool:=if n < 0 then false else if n ≥ jm t a then false else decide (Gm t a n < 0)
def Ew (t:List ByteArray) (a n:Int):Int:=if n < 0 then -1 else if n > 6 then -1 else Gm t a n
section
variable (t:List ByteArray) (ht:t.length≤9223372036854775807) (hs:∀ i:Int,(dV ByteArray.empty t i).size≤9223372036854775807)
include ht hs
theorem YW (i:Int):Ev (fun k=>eF.f k t i) (jM t && (decide (0≤i) && decide (i < t.length))):=by
  refine Ev.bind (zh t ht hs) ?_
  refine Ev.out (Ev.ite (fun _=>Ev.ite (fun _=>Ev.now (decide (i < (t.length:Int)))) fun _=>Ev.now false) fun _=>Ev.now false) ?_
  cases jM t
  · rfl
  · rw [if_pos rfl,Bool.true_and]
    by_cases h:i ≥ 0
    · rw [if_pos h,decide_eq_true (show 0≤i from h),Bool.true_and]
    · rw [if_neg h,decide_eq_false (show ¬ 0≤i from h),Bool.false_and]
theorem UF (i f:Int):Ev (fun k=>fQ.f k t i f) (Gm t i f):=by
  refine Ev.bind (YW t ht hs i) ?_
  unfold Gm jm Nh
  by_cases h:(jM t && (decide (0≤i) && decide (i < t.length)))=true
  · have h':=h
    simp only [Bool.and_eq_true,decide_eq_true_eq] at h'
    rw [if_pos h,if_pos h]
    by_cases h0:f < 0
    · rw [if_pos h0,if_neg (by omega)]
      exact Ev.now _
    · rw [if_neg h0]
      refine Ev.congr (fun k=>(if_pos h'.2.1).trans (if_pos h'.2.2)) ?_
      by_cases h1:f < (dV ByteArray.empty t i).size
      · rw [if_neg (by omega),if_pos (by omega),if_pos (by omega),if_pos (by omega)]
        refine Ev.congr (fun k=>by rw [rW];rfl) (Ev.now _)
      · rw [if_pos (by omega),if_neg (by omega)]
        exact Ev.now _
  · rw [if_neg h,if_neg h]
    rw [if_neg (fun h2=>by have h3:f < (0:Int):=h2.2;omega)]
    exact Ev.now _
theorem KC (lo gl:ByteArray) (code:List iG) (a:Int) (h0:0≤a) (h1:a≤255):Ev (fun k=>fK.f k t lo gl code a) (df t gl a):=Ev.bind (Vr t ht hs gl a h0 h1) (Ev.now _)
theorem Be (lo gl:ByteArray) (code:List iG) (a n:Int):Ev (fun k=>fE.f k t lo gl code a n) (qi t a n):=by
  unfold qi
  refine Ev.ite (fun _=>Ev.now _) fun _=>Ev.bind (Iw t ht hs a) ?_
  exact Ev.ite (fun _=>Ev.now _) fun _=>Ev.bind (UF t ht hs a n) (Ev.now _)
theorem UE (lo gl:ByteArray) (code:List iG) (a n:Int):Ev (fun k=>gm.f k t lo gl code a n) (Ew t a n):=by
  unfold Ew
  exact Ev.ite (fun _=>Ev.now _) fun _=>Ev.ite (fun _=>Ev.now _) fun _=>Ev.bind (UF t ht hs a n) (Ev.now _)
end
theorem xk (a b:Int):dh.f a b=some (qh a b):=by
  unfold dh.f qh
  by_cases h:0≤a
  · rw [if_pos h,decide_eq_true h,Bool.true_and]
  · rw [if_neg h,decide_eq_false h,Bool.false_and]
theorem zu (t:List ByteArray) (a n:Int):(if a ≥ 0 then qi t a n else false)=ru t a n:=by
  unfold qi ru pI
  by_cases h:a ≥ 0
  · rw [if_pos h]
    by_cases h0:n < 0
    · rw [if_pos h0,if_neg (by omega)];rfl
    · by_cases h1:n < jm t a
      · rw [if_neg h0,if_neg (by omega),if_pos (by omega),Bool.true_and]
      · rw [if_neg h0,if_pos (by omega),if_neg (by omega)];rfl
  · rw [if_neg h,if_neg (by omega)];rfl
theorem MJ (t:List ByteArray) (x a n:Int):(if a ≥ 0 then qh x (Ew t a n) else false)=qh x (pI t a n).1:=by
  have z:qh x (-1)=false:=by
    unfold qh
    by_cases h:0≤x
    · have:(x == -1)=false:=by simp;omega
      rw [this,Bool.and_false]
    · rw [decide_eq_false h,Bool.false_and]
  unfold Ew pI
  have:=tZ t a
  by_cases h:a ≥ 0
  · rw [if_pos h]
    by_cases h0:n < 0
    · rw [if_pos h0,if_neg (by omega)]
    · rw [if_neg h0]
      by_cases h1:n < jm t a
      · rw [if_neg (by omega),if_pos (by omega)]
      · rw [if_neg (show ¬ (0≤a∧0≤n∧n < jm t a) by omega)]
        by_cases h2:n > 6
        · rw [if_pos h2]
        · rw [if_neg h2]
          unfold Gm
          rw [if_neg (by omega)]
  · rw [if_neg h,if_neg (by omega),z]
def vJ (o a b c:Int) (x:Bool):Bool:=if x=true then decide (a < 8) else if o=2 then (if a < 8 then (if b < 8 then decide (c < 8) else false) else false) else if o=9 then decide (b < 8) else true
def Cj (o a b c:Int):Bool:=if o=1 then vJ o a b c (o == 1) else if o=4 then vJ o a b c (o == 4) else if o=8 then vJ o a b c (o == 8) else if o=14 then vJ o a b c (o == 14) else vJ o a b c (o == 15)
theorem Qe (o a b c n:Int):Ev (fun k=>bF.f k o a b c n) (Cj o a b c):=by
  have j:∀ x,Ev (fun k=>bF.j0 k o x o a b c n) (vJ o a b c x):=fun x=>by
    unfold vJ
    refine Ev.step (fun k=>by simp only [bF.j0];rfl) ?_
    exact Ev.ite (fun _=>Ev.now _) fun _=>Ev.ite (fun _=>Ev.ite (fun _=>Ev.ite (fun _=>Ev.now _) fun _=>Ev.now _) fun _=>Ev.now _) fun _=>Ev.ite (fun _=>Ev.now _) fun _=>Ev.now _
  unfold Cj
  exact Ev.ite (fun _=>j _) fun _=>Ev.ite (fun _=>j _) fun _=>Ev.ite (fun _=>j _) fun _=>Ev.ite (fun _=>j _) fun _=>j _
def yC (t:List ByteArray) (lo gl:ByteArray) (o a b c n:Int) (x:Bool):Bool :=
  if x=true then decide (df t lo a ≥ 0)
  else if o=7 then qh (df t lo a) (df t lo b)
  else if o=15 then qh (df t lo b) (df t lo c)
  else if o=8 then (if df t lo b ≥ 0 then qi t (df t lo b) n else false)
  else if o=9 then (if df t lo a ≥ 0 then qi t (df t lo a) n else false)
  else if o=10 then (if df t lo b ≥ 0 then qh (df t lo a) (Ew t (df t lo b) n) else false)
  else if o=11 then (if df t lo a ≥ 0 then qh (df t lo b) (Ew t (df t lo a) n) else false)
  else if o=12 then qh (df t lo a) (df t gl b)
  else if o=13 then qh (df t lo b) (df t gl a)
  else true
def IG (t:List ByteArray) (lo gl:ByteArray) (o a b c n:Int):Bool:=if o=5 then yC t lo gl o a b c n (o == 5) else yC t lo gl o a b c n (o == 6)
theorem Nz (t:List ByteArray) (lo gl:ByteArray) (code:List iG) (o a b c n:Int) (ht:t.length≤9223372036854775807) (hs:∀ i:Int,(dV ByteArray.empty t i).size≤9223372036854775807)
    (ha:0≤a∧a≤255) (hb:0≤b∧b≤255) (hc:0≤c∧c≤255):Ev (fun k=>aX.f k t lo gl code o a b c n) (IG t lo gl o a b c n):=by
  have j:∀ x,Ev (fun k=>aX.j0 k (df t lo a) (df t lo b) o x t lo gl code o a b c n) (yC t lo gl o a b c n x):=fun x=>by
    unfold yC
    refine Ev.step (fun k=>by simp only [aX.j0];rfl) ?_
    refine Ev.ite (fun _=>Ev.now _) fun _=>?_
    refine Ev.ite (fun _=>Ev.congr (fun k=>by rw [xk];rfl) (Ev.now _)) fun _=>?_
    refine Ev.ite (fun _=>Ev.bind (wB t ht hs lo gl code _ hc.1 hc.2) (Ev.congr (fun k=>by rw [xk];rfl) (Ev.now _))) fun _=>?_
    refine Ev.ite (fun _=>Ev.ite (fun _=>Ev.bind (Be t ht hs lo gl code _ _) (Ev.now _)) fun _=>Ev.now _) fun _=>?_
    refine Ev.ite (fun _=>Ev.ite (fun _=>Ev.bind (Be t ht hs lo gl code _ _) (Ev.now _)) fun _=>Ev.now _) fun _=>?_
    refine Ev.ite (fun _=>Ev.ite (fun _=>Ev.bind (UE t ht hs lo gl code _ _) (Ev.congr (fun k=>by rw [xk];rfl) (Ev.now _))) fun _=>Ev.now _) fun _=>?_
    refine Ev.ite (fun _=>Ev.ite (fun _=>Ev.bind (UE t ht hs lo gl code _ _) (Ev.congr (fun k=>by rw [xk];rfl) (Ev.now _))) fun _=>Ev.now _) fun _=>?_
    refine Ev.ite (fun _=>Ev.bind (KC t ht hs lo gl code _ hb.1 hb.2) (Ev.congr (fun k=>by rw [xk];rfl) (Ev.now _))) fun _=>?_
    exact Ev.ite (fun _=>Ev.bind (KC t ht hs lo gl code _ ha.1 ha.2) (Ev.congr (fun k=>by rw [xk];rfl) (Ev.now _))) fun _=>Ev.now _
  refine Ev.bind (wB t ht hs lo gl code a ha.1 ha.2) (Ev.bind (wB t ht hs lo gl code b hb.1 hb.2) ?_)
  exact Ev.ite (fun _=>j _) fun _=>j _
theorem xm (a:Int):o9 [a]=decide (a < 8):=by
  show (decide (a < 8) && true)=_
  rw [Bool.and_true]
theorem WW (a b c:Int):o9 [a,b,c]=(if a < 8 then (if b < 8 then decide (c < 8) else false) else false):=by
  show (decide (a < 8) && (decide (b < 8) && (decide (c < 8) && true)))=_
  by_cases h:a < 8 <;> by_cases h2:b < 8 <;> simp [h,h2]
theorem LD (t:List ByteArray) (lo gl:ByteArray) (o a b c n:Int) (h:1≤o∧o≤15):(Cj o a b c && IG t lo gl o a b c n)=nY t lo gl o a b c n:=by
  have hh:o=1 ∨ o=2 ∨ o=3 ∨ o=4 ∨ o=5 ∨ o=6 ∨ o=7 ∨ o=8 ∨ o=9 ∨ o=10 ∨ o=11 ∨ o=12 ∨ o=13 ∨ o=14 ∨ o=15:=by omega
  rcases hh with rfl|rfl|rfl|rfl|rfl|rfl|rfl|rfl|rfl|rfl|rfl|rfl|rfl|rfl|rfl
  · show (decide (a < 8) && true)=o9 [a]
    rw [xm,Bool.and_true]
  · show ((if a < 8 then (if b < 8 then decide (c < 8) else false) else false) && true)=o9 [a,b,c]
    rw [WW,Bool.and_true]
  · rfl
  · show (decide (a < 8) && true)=o9 [a]
    rw [xm,Bool.and_true]
  · show (true && _)=_
    rw [Bool.true_and];rfl
  · show (true && _)=_
    rw [Bool.true_and];rfl
  · show (true && _)=_
    rw [Bool.true_and];rfl
  · show (decide (a < 8) && (if df t lo b ≥ 0 then qi t (df t lo b) n else false))=(if o9 [a]=true then ru t (df t lo b) n else false)
    rw [xm,zu]
    cases decide (a < 8) <;> rfl
  · show (decide (b < 8) && (if df t lo a ≥ 0 then qi t (df t lo a) n else false))=(if o9 [b]=true then ru t (df t lo a) n else false)
    rw [xm,zu]
    cases decide (b < 8) <;> rfl
  · show (true && (if df t lo b ≥ 0 then qh (df t lo a) (Ew t (df t lo b) n) else false))=qh (df t lo a) (pI t (df t lo b) n).1
    rw [MJ,Bool.true_and]
  · show (true && (if df t lo a ≥ 0 then qh (df t lo b) (Ew t (df t lo a) n) else false))=qh (df t lo b) (pI t (df t lo a) n).1
    rw [MJ,Bool.true_and]
  · show (true && _)=_
    rw [Bool.true_and];rfl
  · show (true && _)=_
    rw [Bool.true_and];rfl
  · show (decide (a < 8) && true)=o9 [a]
    rw [xm,Bool.and_true]
  · show (decide (a < 8) && qh (df t lo b) (df t lo c))=(if o9 [a]=true then qh (df t lo b) (df t lo c) else false)
    rw [xm]
    cases decide (a < 8) <;> rfl
end Go.Proofs.YtbmhmlgfpijmhaaDoor.P
end
section
namespace Go.Proofs.YtbmhmlgfpijmhaaDoor.P
open Go Go.RowKit Go.Proofs.af.bG Go.Proofs.af.dD Go.Proofs.af.dM
def Bs (w:List UInt8):ByteArray:=⟨w.toArray⟩
theorem UD (s:ByteArray):Bs s.data.toList=s:=by cases s;rfl
theorem ou (w:List UInt8):(Bs w).toList=w:=by rw [ByteArray.toList_eq];rfl
theorem jk (w:List UInt8):(Bs w).size=w.length:=by simp [Bs,ByteArray.size]
theorem FN (w:List UInt8) (i:Nat) (c:UInt8) (h:w[i]? = some c):bt (Bs w) (i:Int)=(c.toNat:Int):=by
  obtain ⟨hl,hc⟩:=List.getElem?_eq_some_iff.1 h
  have hs:((i:Int)).toNat < (Bs w).size:=by rw [Int.toNat_natCast,jk];exact hl
  unfold bt
  rw [dif_pos hs]
  have:(Bs w)[((i:Int)).toNat]'hs=c:=by rw [← hc];rfl
  rw [this]
theorem tY (i:Nat) (h:i < 4611686018427387904):wrap64 ((i:Int)+1)=((i+1:Nat):Int):=by unfold wrap64;omega
theorem zK (w:List UInt8) (a b:Nat):(Bs w).extract a b=Bs ((w.drop a).take (b - a)):=by
  rw [← UD ((Bs w).extract a b)]
  refine congrArg Bs ?_
  rw [ByteArray.data_extract,Array.toList_extract]
  rfl
def Ci (c:UInt8):Bool:=decide (48≤c.toNat∧c.toNat≤57)
def pF (acc:Nat) (D:List UInt8):Nat:=D.foldl (fun a c=>a * 10+(c.toNat - 48)) acc
theorem uD (acc:Nat) (c:UInt8) (r:List UInt8):pF acc (c :: r)=pF (acc * 10+(c.toNat - 48)) r:=by
  unfold pF
  rw [List.foldl_cons]
theorem Aw (acc:Nat) (D:List UInt8) (c:UInt8):pF acc (D++[c])=pF acc D * 10+(c.toNat - 48):=by
  unfold pF
  rw [List.foldl_append,List.foldl_cons,List.foldl_nil]
theorem Ns (a q:Nat):a * (q * 10)=a * 10 * q:=by rw [Nat.mul_comm q 10,← Nat.mul_assoc]
theorem Iq:∀ (D:List UInt8),(∀ c ∈ D,Ci c=true)→∀ acc:Nat,pF acc D < (acc+1) * 10 ^ D.length
  | [],_,acc=>by
    show acc < (acc+1) * 1
    omega
  | c :: r,h,acc=>by
    have h1:=Iq r (fun x hx=>h x (List.mem_cons_of_mem _ hx)) (acc * 10+(c.toNat - 48))
    have hc:48≤c.toNat∧c.toNat≤57:=of_decide_eq_true (h c (List.mem_cons_self ..))
    rw [uD]
    have e:(acc+1) * 10 ^ (c :: r).length=(acc+1) * 10 * 10 ^ r.length:=by
      rw [List.length_cons,Nat.pow_succ]
      exact Ns _ _
    rw [e]
    refine Nat.lt_of_lt_of_le h1 ?_
    generalize 10 ^ r.length=q
    exact Nat.mul_le_mul_right q (by omega)
theorem MG (D:List UInt8) (acc:Nat):acc * 10 ^ D.length≤pF acc D:=by
  induction D generalizing acc with
  | nil=>simp [pF]
  | cons c r ih =>
    rw [uD]
    refine Nat.le_trans ?_ (ih _)
    rw [List.length_cons,Nat.pow_succ,Nat.mul_comm (10 ^ r.length) 10,← Nat.mul_assoc]
    exact Nat.mul_le_mul_right _ (by omega)
def ND (neg:Bool) (u:Nat):Bool:=if neg then decide (u≤9223372036854775808) else decide (u < 9223372036854775808)
def UJ (neg:Bool) (u:Nat):Int:=if neg then -(u:Int) else u
theorem bt0 (c:UInt8) (r:List UInt8):bt (Bs (c :: r)) 0=(c.toNat:Int):=FN (c :: r) 0 c rfl
theorem Ov (D:List UInt8) (hD:D.length≤100000):∀ (d i:Nat),i+d=D.length→Ev (fun k=>aG.l0 k (Bs D) (i:Int)) ((D.drop i).all Ci)
  | 0,i,hi=>by
    rw [List.drop_eq_nil_of_le (by omega)]
    refine Ev.step (f:=fun _=>some true) (fun k=>?_) (Ev.now _)
    simp only [aG.l0]
    rw [jk,if_neg (by omega)]
  | d+1,i,hi=>by
    have hlt:i < D.length:=by omega
    have hc:D[i]? = some D[i]:=List.getElem?_eq_getElem hlt
    have hdr:D.drop i=D[i] :: D.drop (i+1):=List.drop_eq_getElem_cons hlt
    generalize D[i]=c at hc hdr
    have hb:=FN D i c hc
    rw [hdr,List.all_cons]
    have ih:=Ov D hD d (i+1) (by omega)
    cases hd:Ci c with
    | true =>
      have h2:=hd
      simp only [Ci,decide_eq_true_eq] at h2
      rw [Bool.true_and]
      refine Ev.step (fun k=>?_) ih
      conv=>lhs;simp only [aG.l0]
      rw [jk,if_pos (by omega),if_pos (by omega),hb,if_neg (by omega),if_neg (by omega),tY i (by omega)]
    | false =>
      have h2:=hd
      simp only [Ci,decide_eq_false_iff_not] at h2
      rw [Bool.false_and]
      refine Ev.step (f:=fun _=>some false) (fun k=>?_) (Ev.now _)
      conv=>lhs;simp only [aG.l0]
      rw [jk,if_pos (by omega),if_pos (by omega),hb]
      by_cases h3:(c.toNat:Int) < 48
      · rw [if_pos h3]
      · rw [if_neg h3,if_pos (by omega)]
theorem XH (w D:List UInt8) (hD:D.length≤100000):Ev (fun k=>aG.j1 k (Bs w) (Bs D)) (!D.isEmpty && !(D.head? == some 48 && decide (1 < D.length ∨ 1 < w.length)) && D.all Ci):=by
  cases D with
  | nil =>
    refine Ev.step (f:=fun k=>aG.j2 k (Bs []) true) (fun k=>?_) (Ev.step (f:=fun _=>some false) (fun k=>?_) (Ev.now _))
    · conv=>lhs;simp only [aG.j1]
      rw [ou,if_pos rfl]
    · simp only [aG.j2]
      rw [if_pos trivial]
  | cons c r =>
    have hb:=bt0 c r
    have h0:=Ov (c :: r) hD (c :: r).length 0 (Nat.zero_add _)
    rw [List.drop_zero] at h0
    have fin:∀ b:Bool,Ev (fun k=>aG.j2 k (Bs (c :: r)) b) (!b && (c :: r).all Ci):=by
      intro b
      cases b with
      | true=>exact Ev.step (f:=fun _=>some false) (fun k=>by simp only [aG.j2];rw [if_pos trivial]) (Ev.now _)
      | false=>exact Ev.step (fun k=>by simp only [aG.j2];rw [if_neg (by simp)]) (by rw [Bool.not_false,Bool.true_and];exact h0)
    have hlen:(Bs (c :: r)).size=(c :: r).length:=jk _
    by_cases h48:c=48
    · subst h48
      by_cases hr:1 < ((48:UInt8) :: r).length
      · have:=fin true
        refine Ev.step (f:=fun k=>aG.j2 k (Bs (48 :: r)) true) (fun k=>?_) ?_
        · conv=>lhs;simp only [aG.j1]
          rw [ou,if_neg (by simp),hlen,if_pos (by simp only [List.length_cons];omega),hb,if_pos (by decide),if_pos (by omega)]
        · rw [show (!((48:UInt8) :: r).isEmpty && !(((48:UInt8) :: r).head? == some 48 && decide (1 < ((48:UInt8) :: r).length ∨ 1 < w.length)) && ((48:UInt8) :: r).all Ci)=(!true && ((48:UInt8) :: r).all Ci) from by rw [decide_eq_true (Or.inl hr)];simp]
          exact this
      · refine Ev.step (f:=fun k=>aG.j2 k (Bs (48 :: r)) (decide (1 < w.length))) (fun k=>?_) ?_
        · conv=>lhs;simp only [aG.j1]
          rw [ou,if_neg (by simp),hlen,if_pos (by simp only [List.length_cons];omega),hb,if_pos (by decide),if_neg (by omega),jk]
          congr 1
          exact decide_eq_decide.2 (by omega)
        · have hd:decide (1 < ((48:UInt8) :: r).length ∨ 1 < w.length)=decide (1 < w.length):=decide_eq_decide.2 ⟨fun h=>h.resolve_left hr,Or.inr⟩
          rw [hd]
          have:=fin (decide (1 < w.length))
          simpa using this
    · have hne:¬ (c.toNat:Int)=48:=fun h=>h48 (UInt8.toNat_inj.1 (by show c.toNat=48;omega))
      refine Ev.step (f:=fun k=>aG.j2 k (Bs (c :: r)) false) (fun k=>?_) ?_
      · conv=>lhs;simp only [aG.j1]
        rw [ou,if_neg (by simp),hlen,if_pos (by simp only [List.length_cons];omega),hb,if_neg hne]
      · have:=fin false
        have hcb:(c == 48)=false:=by simp [h48]
        simpa [hcb] using this
theorem Iu (n:Nat) (h:n < 18446744073709551616):IntKind.u64.wrap (n:Int)=(n:Int):=by
  have:IntKind.u64.wrap (n:Int)=(n:Int) % 18446744073709551616:=rfl
  rw [this]
  omega
theorem Nk (D:List UInt8) (hD:D.length≤100000) (h:∀ c ∈ D,Ci c=true) (neg:Bool) (r:Int × Int) (hr:Ev (fun k=>aH.j2 k (Bs D) neg ((pF 0 (D.take 19):Nat):Int)) r) :
    ∀ (d i:Nat),i+d=19→i≤D.length→Ev (fun k=>aH.l0 k (Bs D) neg ((pF 0 (D.take i):Nat):Int) (i:Int)) r
  | 0,i,hi,hl=>by
    obtain rfl:i=19:=by omega
    refine Ev.step (fun k=>?_) hr
    conv=>lhs;simp only [aH.l0]
    rw [jk]
    by_cases hlt:(((19:Nat):Nat):Int) < (D.length:Int)
    · rw [if_pos hlt,if_neg (by omega)]
    · rw [if_neg hlt]
  | d+1,i,hi,hl=>by
    by_cases hlt:i < D.length
    · have hc:D[i]? = some D[i]:=List.getElem?_eq_getElem hlt
      have hm:=h D[i] (List.getElem_mem hlt)
      have htk:D.take (i+1)=D.take i++[D[i]]:=List.take_succ_eq_append_getElem hlt
      generalize D[i]=c at hc hm htk
      have hb:=FN D i c hc
      have hv:pF 0 (D.take (i+1))=pF 0 (D.take i) * 10+(c.toNat - 48):=by rw [htk,Aw]
      have hlim:pF 0 (D.take i) < 1000000000000000000:=by
        have h1:=Iq (D.take i) (fun x hx=>h x (List.mem_of_mem_take hx)) 0
        have h2:(D.take i).length≤18:=by rw [List.length_take];omega
        have h3:10 ^ (D.take i).length≤10 ^ 18:=Nat.pow_le_pow_right (by omega) h2
        have h4:(10:Nat) ^ 18=1000000000000000000:=by decide
        omega
      have ih:=Nk D hD h neg r hr d (i+1) (by omega) (by omega)
      refine Ev.step (fun k=>?_) ih
      conv=>lhs;simp only [aH.l0]
      simp only [Ci,decide_eq_true_eq] at hm
      rw [jk,if_pos (by omega),if_pos (by omega),if_pos (by omega),hb,tY i (by omega)]
      rw [hv]
      generalize pF 0 (D.take i)=v at hlim ⊢
      have u1:IntKind.u64.wrap ((v:Int) * 10)=((v * 10:Nat):Int):=by
        rw [show (v:Int) * 10=((v * 10:Nat):Int) from by omega]
        exact Iu _ (by omega)
      have u2:IntKind.u64.wrap (((v * 10:Nat):Int)+((c.toNat:Int) - 48) % 256)=((v * 10+(c.toNat - 48):Nat):Int):=by
        rw [show ((v * 10:Nat):Int)+((c.toNat:Int) - 48) % 256=((v * 10+(c.toNat - 48):Nat):Int) from by omega]
        exact Iu _ (by omega)
      rw [u1,u2]
    · have e:D.take i=D.take 19:=by
        rw [List.take_of_length_le (by omega),List.take_of_length_le (by omega)]
      rw [e]
      refine Ev.step (fun k=>?_) hr
      conv=>lhs;simp only [aH.l0]
      rw [jk,if_neg (by omega)]
theorem EN {c:UInt8} {r:List UInt8} (hc:Ci c=true) (h48:c ≠ 48):10 ^ r.length≤pF 0 (c :: r):=by
  rw [uD]
  have hd:48≤c.toNat∧c.toNat≤57:=of_decide_eq_true hc
  have hne:c.toNat ≠ 48:=fun h=>h48 (UInt8.toNat_inj.1 h)
  have h1:=MG r (0 * 10+(c.toNat - 48))
  refine Nat.le_trans ?_ h1
  generalize 10 ^ r.length=q
  have:1 * q≤(0 * 10+(c.toNat - 48)) * q:=Nat.mul_le_mul_right q (by omega)
  omega
theorem UK:(10:Nat) ^ 19=10000000000000000000:=by decide
theorem WN (D:List UInt8) (hD:D.length≤100000) (hd:∀ c ∈ D,Ci c=true) (hz:D.head? = some 48→D.length≤1) (neg:Bool) :
    Ev (fun k=>aH.j2 k (Bs D) neg ((pF 0 (D.take 19):Nat):Int)) (if ND neg (pF 0 D) then (UJ neg (pF 0 D),0) else (0,3)):=by
  have j3t:∀ x:Int,∀ b:Bool,b=true→Ev (fun k=>aH.j3 k neg x b) (0,3):=by
    rintro x b rfl
    exact Ev.step (f:=fun _=>some _) (fun k=>by simp only [aH.j3];rw [if_pos trivial]) (Ev.now _)
  by_cases hl:19 < D.length
  · have hb:ND neg (pF 0 D)=false:=by
      cases D with
      | nil=>simp at hl
      | cons c r =>
        have h48:c ≠ 48:=by rintro rfl;have:=hz rfl;omega
        have h1:=EN (r:=r) (hd c (by simp)) h48
        have h2:(10:Nat) ^ 19≤10 ^ r.length:=Nat.pow_le_pow_right (by omega) (by rw [List.length_cons] at hl;omega)
        rw [UK] at h2
        unfold ND
        cases neg <;> simp <;> omega
    rw [hb,if_neg (by simp)]
    refine Ev.step (f:=fun k=>aH.j3 k neg ((pF 0 (D.take 19):Nat):Int) (decide (((Bs D).size:Int) > 19))) (fun k=>?_) (j3t _ _ (decide_eq_true (by rw [jk];omega)))
    conv=>lhs;simp only [aH.j2]
    rw [if_pos (by rw [jk];omega)]
  · have htk:D.take 19=D:=List.take_of_length_le (by omega)
    rw [htk]
    generalize pF 0 D=u
    by_cases h1:9223372036854775808 < u
    · have hb:ND neg u=false:=by unfold ND;cases neg <;> simp <;> omega
      rw [hb,if_neg (by simp)]
      refine Ev.step (f:=fun k=>aH.j3 k neg (u:Int) (decide ((u:Int) > 9223372036854775808))) (fun k=>?_) (j3t _ _ (decide_eq_true (by omega)))
      conv=>lhs;simp only [aH.j2]
      rw [if_neg (by rw [jk];omega),if_pos (by omega)]
    · by_cases h2:u=9223372036854775808
      · subst h2
        refine Ev.step (f:=fun k=>aH.j3 k neg (((9223372036854775808:Nat):Nat):Int) (!neg)) (fun k=>?_) ?_
        · conv=>lhs;simp only [aH.j2]
          rw [if_neg (by rw [jk];omega),if_neg (by omega),if_pos (by omega)]
        · cases neg with
          | false=>exact j3t _ _ rfl
          | true =>
            refine Ev.step (f:=fun _=>some _) (fun k=>?_) (Ev.now _)
            simp only [aH.j3]
            have hi:ND true 9223372036854775808=true:=by decide
            have hw:wrap64 (-wrap64 ((9223372036854775808:Nat):Int))=UJ true 9223372036854775808:=by unfold UJ wrap64;rw [if_pos rfl];omega
            rw [if_neg (by simp),if_pos trivial,if_pos hi,hw]
      · have hb:ND neg u=true:=by unfold ND;cases neg <;> simp <;> omega
        rw [hb,if_pos rfl]
        refine Ev.step (f:=fun k=>aH.j3 k neg (u:Int) false) (fun k=>?_) (Ev.step (f:=fun _=>some _) (fun k=>?_) (Ev.now _))
        · conv=>lhs;simp only [aH.j2]
          rw [if_neg (by rw [jk];omega),if_neg (by omega),if_neg (by omega)]
        · simp only [aH.j3]
          have hw:wrap64 (u:Int)=u:=by unfold wrap64;omega
          rw [if_neg (by simp),hw]
          cases neg with
          | true =>
            have hw2:wrap64 (-(u:Int))=-(u:Int):=by unfold wrap64;omega
            rw [if_pos rfl,hw2]
            rfl
          | false=>rw [if_neg (by simp)];rfl
theorem Ff (d:Nat) (h:d < 10):(UInt8.ofNat (48+d)).toNat=48+d:=by
  have:(UInt8.ofNat (48+d)).toNat=(48+d) % 256:=UInt8.toNat_ofNat'
  omega
theorem Bq (n:Nat):∀ u:Nat,u≤n→(∀ c ∈ Lib.decDigits u,Ci c=true)∧Lib.decDigits u ≠ []∧pF 0 (Lib.decDigits u)=u∧((Lib.decDigits u).head? = some 48→u=0):=by
  induction n with
  | zero =>
    intro u hu
    obtain rfl:u=0:=by omega
    rw [Lib.decDigits_one (by omega)]
    refine ⟨by decide,by decide,?_,fun _=>rfl⟩
    decide
  | succ n ih =>
    intro u hu
    by_cases h:u < 10
    · rw [Lib.decDigits_one h]
      have hd:=Ff u h
      refine ⟨?_,by simp,?_,?_⟩
      · intro c hc
        rw [List.mem_singleton.1 hc]
        unfold Ci
        rw [hd]
        exact decide_eq_true (by omega)
      · rw [uD,hd]
        show 0 * 10+(48+u - 48)=u
        omega
      · intro hh
        simp only [List.head?_cons,Option.some.injEq] at hh
        have:=congrArg UInt8.toNat hh
        rw [hd] at this
        have h48:(48:UInt8).toNat=48:=rfl
        omega
    · have ih':=ih (u / 10) (by omega)
      rw [Lib.decDigits,dif_neg h]
      have hd:=Ff (u % 10) (by omega)
      refine ⟨?_,by simp,?_,?_⟩
      · intro c hc
        rcases List.mem_append.1 hc with hc|hc
        · exact ih'.1 c hc
        · rw [List.mem_singleton.1 hc]
          unfold Ci
          rw [hd]
          exact decide_eq_true (by omega)
      · rw [Aw,ih'.2.2.1,hd]
        omega
      · intro hh
        have:(Lib.decDigits (u / 10)++[UInt8.ofNat (48+u % 10)]).head? = (Lib.decDigits (u / 10)).head?:=by
          cases hq:Lib.decDigits (u / 10) with
          | nil=>exact absurd hq ih'.2.1
          | cons a b=>rfl
        rw [this] at hh
        have:=ih'.2.2.2 hh
        omega
theorem Um (u:Nat) (h:u≤9223372036854775808):(Lib.decDigits u).length≤20:=by
  have hp:=Bq u u (Nat.le_refl _)
  cases hq:Lib.decDigits u with
  | nil=>simp
  | cons c r =>
    rw [hq] at hp
    by_cases h48:c=48
    · subst h48
      have h0:=hp.2.2.2 rfl
      subst h0
      rw [Lib.decDigits_one (by omega)] at hq
      rw [← hq]
      decide
    · have h1:=EN (r:=r) (hp.1 c (by simp)) h48
      rw [hp.2.2.1] at h1
      rw [List.length_cons]
      rcases Nat.lt_or_ge r.length 19 with h2|h2
      · omega
      · have h3:(10:Nat) ^ 19≤10 ^ r.length:=Nat.pow_le_pow_right (by omega) h2
        rw [UK] at h3
        omega
theorem LG (n:Int):∃ neg:Bool,Lib.itoa n=(if neg then 45 :: Lib.decDigits n.natAbs else Lib.decDigits n.natAbs)∧UJ neg n.natAbs=n∧(neg=true→n < 0)∧(neg=false→0≤n):=by
  unfold Lib.itoa
  by_cases h:n < 0
  · rw [if_pos h]
    refine ⟨true,rfl,?_,fun _=>h,(fun h=>by cases h)⟩
    unfold UJ
    rw [if_pos rfl]
    omega
  · rw [if_neg h]
    refine ⟨false,?_,?_,(fun h=>by cases h),fun _=>by omega⟩
    · rw [if_neg (by simp),show n.toNat=n.natAbs from by omega]
    · unfold UJ
      rw [if_neg (by simp)]
      omega
theorem YO (neg:Bool) (D:List UInt8) (hl:D.length≤10000) (hd:∀ c ∈ D,Ci c=true) (hne:D ≠ []) (hz:D.head? = some 48→D.length≤1∧neg=false) :
    Ev (fun k=>aH.f k (Bs (if neg then 45 :: D else D))) (if ND neg (pF 0 D) then (UJ neg (pF 0 D),0) else (0,3)):=by
  have hl0:=Nk D (by omega) hd neg _ (WN D (by omega) hd (fun h=>(hz h).1) neg) 19 0 rfl (Nat.zero_le _)
  have hj0:Ev (fun k=>aH.j0 k (Bs D) neg) (if ND neg (pF 0 D) then (UJ neg (pF 0 D),0) else (0,3)):=Ev.step (fun k=>by simp only [aH.j0];rfl) hl0
  have all:D.all Ci=true:=List.all_eq_true.2 hd
  have emp:D.isEmpty=false:=by cases D with
    | nil=>exact absurd rfl hne
    | cons c r=>rfl
  have good:∀ w:List UInt8,(D.head? = some 48→w.length≤1)→Ev (fun k=>aG.j1 k (Bs w) (Bs D)) true:=by
    intro w hw
    refine Ev.out (XH w D (by omega)) ?_
    rw [all,emp,Bool.and_true,Bool.not_false,Bool.true_and]
    by_cases h:D.head? = some 48
    · rw [decide_eq_false (by have:=hw h;have:=(hz h).1;omega),Bool.and_false];rfl
    · rw [show (D.head? == some 48)=false from beq_eq_false_iff_ne.2 h,Bool.false_and];rfl
  cases neg with
  | true =>
    rw [if_pos rfl]
    have dg:Ev (fun k=>aG.f k (Bs (45 :: D))) true:=by
      refine Ev.congr (f:=fun k=>aG.j0 k (Bs (45 :: D)) (Bs (45 :: D)) (bt (Bs (45 :: D)) 0 == 45)) (fun k=>?_) ?_
      · unfold aG.f
        rw [jk,if_pos (by simp only [List.length_cons];omega),if_pos (by simp only [List.length_cons];omega)]
      · rw [bt0]
        refine Ev.step (fun k=>?_) (good (45 :: D) (fun h=>by cases (hz h).2))
        conv=>lhs;simp only [aG.j0]
        rw [jk,if_pos (by decide),if_pos (by simp only [List.length_cons];omega),zK]
        congr 2
        simp
    unfold aH.f
    refine Ev.bind dg (Ev.congr (fun k=>if_pos rfl) ?_)
    refine Ev.congr (fun k=>if_pos (by rw [jk];simp only [List.length_cons];omega)) ?_
    rw [bt0]
    refine Ev.congr (fun k=>?_) hj0
    rw [if_pos (by decide),if_pos (by rw [jk];simp only [List.length_cons];omega),zK,jk]
    have e1:List.take (((45:UInt8) :: D).length - 1) (List.drop 1 ((45:UInt8) :: D))=D:=by simp
    rw [e1]
    rfl
  | false =>
    rw [if_neg (by simp)]
    cases D with
    | nil=>exact absurd rfl hne
    | cons c r =>
      have hc:=hd c (by simp)
      simp only [Ci,decide_eq_true_eq] at hc
      have e45:((c.toNat:Int) == 45)=false:=beq_eq_false_iff_ne.2 (by omega)
      have dg:Ev (fun k=>aG.f k (Bs (c :: r))) true:=by
        refine Ev.congr (f:=fun k=>aG.j0 k (Bs (c :: r)) (Bs (c :: r)) (bt (Bs (c :: r)) 0 == 45)) (fun k=>?_) ?_
        · unfold aG.f
          rw [jk,if_pos (by simp only [List.length_cons];omega),if_pos (by simp only [List.length_cons];omega)]
        · rw [bt0,e45]
          refine Ev.step (fun k=>?_) (good (c :: r) (fun h=>(hz h).1))
          conv=>lhs;simp only [aG.j0]
          rw [if_neg (by simp)]
      unfold aH.f
      refine Ev.bind dg (Ev.congr (fun k=>if_pos rfl) ?_)
      refine Ev.congr (fun k=>if_pos (by rw [jk];simp only [List.length_cons];omega)) ?_
      rw [bt0,e45]
      refine Ev.congr (fun k=>?_) hj0
      rw [if_neg (by omega)]
theorem Nl (n:Int) (h0:-9223372036854775808≤n) (h1:n≤9223372036854775807):Ev (fun k=>aH.f k (Bs (Lib.itoa n))) (n,0):=by
  obtain ⟨neg,hi,hs,hn1,hn2⟩:=LG n
  have hp:=Bq n.natAbs n.natAbs (Nat.le_refl _)
  have hl:=Um n.natAbs (by omega)
  rw [hi]
  refine Ev.out (YO neg _ (by omega) hp.1 hp.2.1 (fun h=>?_)) ?_
  · have h2:=hp.2.2.2 h
    refine ⟨?_,?_⟩
    · rw [h2,Lib.decDigits_one (by omega)];simp
    · cases neg with
      | true=>have:=hn1 rfl;omega
      | false=>rfl
  · rw [hp.2.2.1,if_pos,hs]
    unfold ND
    cases neg with
    | true=>rw [if_pos rfl];exact decide_eq_true (by omega)
    | false=>rw [if_neg (by simp)];exact decide_eq_true (by have:=hn2 rfl;omega)
end Go.Proofs.YtbmhmlgfpijmhaaDoor.P
end
section
namespace Go.Proofs.YtbmhmlgfpijmhaaDoor.P
open Go Go.RowKit Go.Proofs.af.bG Go.Proofs.af.dD Go.Proofs.af.dM
def Yz:List (List UInt8 × List UInt8):=[([115,101,116],[97,110]),([97,100,100],[97,98,99]),([106,117,109,112],[110]),([122,101,114,111],[97,110]),([110,101,119],[97]),([110,105,108],[97]),([109,111,118,101],[97,98]),([108,111,97,100,105],[97,98,110]),([115,116,111,114,101,105],[97,110,98]),([108,111,97,100,112],[97,98,110]),([115,116,111,114,101,112],[97,110,98]),([108,111,97,100,103],[97,98]),([115,116,111,114,101,103],[97,98]),([112,114,105,110,116],[97]),([115,97,109,101],[97,98,99])]
def F7 (i:Nat):List UInt8:=(Yz.getD i ([],[])).1
def yA (i:Nat):List UInt8:=(Yz.getD i ([],[])).2
theorem uF (i:Nat) (hi:i < 15):fG.f ((i+1:Nat):Int)=some (Bs (F7 i),Bs (yA i)):=by
  have hh:i=0 ∨ i=1 ∨ i=2 ∨ i=3 ∨ i=4 ∨ i=5 ∨ i=6 ∨ i=7 ∨ i=8 ∨ i=9 ∨ i=10 ∨ i=11 ∨ i=12 ∨ i=13 ∨ i=14:=by omega
  rcases hh with rfl|rfl|rfl|rfl|rfl|rfl|rfl|rfl|rfl|rfl|rfl|rfl|rfl|rfl|rfl <;> rfl
theorem KX (o:Int) (h:o < 1 ∨ 15 < o):fG.f o=some (⟨#[]⟩,⟨#[]⟩):=by
  unfold fG.f jC.f
  rw [if_neg (by omega),if_neg (by omega),if_neg (by omega),if_neg (by omega),if_neg (by omega),if_neg (by omega),if_neg (by omega),if_neg (by omega),if_neg (by omega),if_neg (by omega),if_neg (by omega),if_neg (by omega),if_neg (by omega),if_neg (by omega),if_neg (by omega)]
  rfl
theorem YP:∀ i:Fin 15,∀ j:Fin 15,i.val ≠ j.val→F7 i.val ≠ F7 j.val:=by decide
theorem P8:∀ i:Fin 15,F7 i.val ≠ []:=by decide
theorem Nv:∀ i:Fin 15,(yA i.val).all (fun c=>c == 97 || c == 98 || c == 99 || c == 110)=true∧(yA i.val).length≤3:=by decide
def L4 (l:UInt8):Prop:=l=97 ∨ l=98 ∨ l=99 ∨ l=110
theorem IC {i:Nat} (hi:i < 15):∀ c ∈ yA i,L4 c:=by
  intro c hc
  have:=List.all_eq_true.1 (Nv ⟨i,hi⟩).1 c hc
  simp only [Bool.or_eq_true,beq_iff_eq] at this
  unfold L4
  rcases this with ((h|h)|h)|h
  · exact .inl h
  · exact .inr (.inl h)
  · exact .inr (.inr (.inl h))
  · exact .inr (.inr (.inr h))
theorem MW (L:List ByteArray) (i:Nat):dV ByteArray.empty L (i:Int)=L.getD i ByteArray.empty:=rfl
set_option linter.unusedSectionVars false
section
variable (a b c n:Int) (ha:0≤a∧a≤255) (hb:0≤b∧b≤255) (hc:0≤c∧c≤255) (hn:-9223372036854775808≤n∧n≤9223372036854775807)
def zl (l:UInt8):Int:=if l=97 then a else if l=98 then b else if l=99 then c else n
def uh (l:UInt8):ByteArray:=Bs (Lib.itoa (zl a b c n l))
def ug (s:Int × Int × Int × Int) (l:UInt8):Int × Int × Int × Int:=if l=97 then (a,s.2.1,s.2.2.1,s.2.2.2) else if l=98 then (s.1,b,s.2.2.1,s.2.2.2) else if l=99 then (s.1,s.2.1,c,s.2.2.2) else (s.1,s.2.1,s.2.2.1,n)
include ha hb hc hn
theorem xI (l:UInt8):-9223372036854775808≤zl a b c n l∧zl a b c n l≤9223372036854775807:=by
  unfold zl
  split
  · omega
  · split
    · omega
    · split <;> omega
theorem Ws (o:Int) (l:UInt8) (hl:L4 l):jD.f o a b c n (l.toNat:Int)=some (zl a b c n l):=by
  have w:∀ x:Int,0≤x∧x≤255→wrap64 x=x:=fun x h=>by unfold wrap64;omega
  unfold jD.f
  rw [w a ha,w b hb,w c hc]
  rcases hl with rfl|rfl|rfl|rfl <;> rfl
theorem IE (o:Int) (nm lt:List UInt8) (hl:∀ c ∈ lt,L4 c) (hlen:lt.length≤3):∀ d i,i+d=lt.length →
    Ev (fun k=>bg.l0 k (Bs lt) (Bs nm :: (lt.take i).map (uh a b c n)) (i:Nat) o a b c n) (Bs nm :: lt.map (uh a b c n))
  | 0,i,hi=>by
    refine Ev.step (f:=fun _=>some _) (fun k=>?_) (Ev.now _)
    simp only [bg.l0]
    rw [jk,if_neg (by omega),List.take_of_length_le (by omega)]
  | d+1,i,hi=>by
    have hlt:i < lt.length:=by omega
    have hcc:lt[i]? = some lt[i]:=List.getElem?_eq_getElem hlt
    have hm:=hl lt[i] (List.getElem_mem hlt)
    have htk:lt.take (i+1)=lt.take i++[lt[i]]:=List.take_succ_eq_append_getElem hlt
    generalize lt[i]=l at hcc hm htk
    have ih:=IE o nm lt hl hlen d (i+1) (by omega)
    rw [htk,List.map_append] at ih
    have hr:=xI a b c n ha hb hc hn l
    refine Ev.step (fun k=>?_) ih
    conv=>lhs;simp only [bg.l0]
    rw [jk,if_pos (by omega),if_pos (by omega),FN lt i l hcc,Ws a b c n ha hb hc hn o l hm,Option.bind_some]
    unfold iW.f
    rw [if_pos rfl,if_pos hr,Option.bind_some,if_pos (by simp only [List.length_cons,List.length_map,List.length_take];omega),tY i (by omega)]
    rfl
theorem VQ (o:Int) (s:Int × Int × Int × Int) (l:UInt8) (hl:L4 l):Ev (fun k=>bf.f k o s.1 s.2.1 s.2.2.1 s.2.2.2 (l.toNat:Int) (zl a b c n l)) (o,(ug a b c n s l).1,(ug a b c n s l).2.1,(ug a b c n s l).2.2.1,(ug a b c n s l).2.2.2,true):=by
  rcases hl with rfl|rfl|rfl|rfl
  · show Ev (fun k=>bf.f k o s.1 s.2.1 s.2.2.1 s.2.2.2 97 a) (o,a,s.2.1,s.2.2.1,s.2.2.2,true)
    refine Ev.congr (f:=fun k=>bf.j0 k 97 a false o s.1 s.2.1 s.2.2.1 s.2.2.2) (fun k=>?_) (Ev.step (f:=fun _=>some _) (fun k=>?_) (Ev.now _))
    · unfold bf.f
      rw [if_neg (by decide),if_neg (by omega),decide_eq_false (by omega)]
    · simp only [bf.j0]
      rw [if_neg (by decide),if_pos trivial,show a % 256=a from by omega]
  · show Ev (fun k=>bf.f k o s.1 s.2.1 s.2.2.1 s.2.2.2 98 b) (o,s.1,b,s.2.2.1,s.2.2.2,true)
    refine Ev.congr (f:=fun k=>bf.j0 k 98 b false o s.1 s.2.1 s.2.2.1 s.2.2.2) (fun k=>?_) (Ev.step (f:=fun _=>some _) (fun k=>?_) (Ev.now _))
    · unfold bf.f
      rw [if_neg (by decide),if_neg (by omega),decide_eq_false (by omega)]
    · simp only [bf.j0]
      rw [if_neg (by decide),if_neg (by decide),if_pos trivial,show b % 256=b from by omega]
  · show Ev (fun k=>bf.f k o s.1 s.2.1 s.2.2.1 s.2.2.2 99 c) (o,s.1,s.2.1,c,s.2.2.2,true)
    refine Ev.congr (f:=fun k=>bf.j0 k 99 c false o s.1 s.2.1 s.2.2.1 s.2.2.2) (fun k=>?_) (Ev.step (f:=fun _=>some _) (fun k=>?_) (Ev.now _))
    · unfold bf.f
      rw [if_neg (by decide),if_neg (by omega),decide_eq_false (by omega)]
    · simp only [bf.j0]
      rw [if_neg (by decide),if_neg (by decide),if_neg (by decide),show c % 256=c from by omega]
  · exact Ev.now _
theorem IA (o:Int) (nm lt:List UInt8) (hl:∀ c ∈ lt,L4 c) (hlen:lt.length≤3):∀ d i (s:Int × Int × Int × Int),i+d=lt.length →
    Ev (fun k=>aI.l1 k (Bs nm :: lt.map (uh a b c n)) (Bs lt) (i:Nat) o s.1 s.2.1 s.2.2.1 s.2.2.2)
      (o,((lt.drop i).foldl (ug a b c n) s).1,((lt.drop i).foldl (ug a b c n) s).2.1,((lt.drop i).foldl (ug a b c n) s).2.2.1,((lt.drop i).foldl (ug a b c n) s).2.2.2,true)
  | 0,i,s,hi=>by
    refine Ev.step (f:=fun _=>some _) (fun k=>?_) (Ev.now _)
    simp only [aI.l1]
    rw [jk,if_neg (by omega),List.drop_of_length_le (by omega),List.foldl_nil]
  | d+1,i,s,hi=>by
    have hlt:i < lt.length:=by omega
    have hcc:lt[i]? = some lt[i]:=List.getElem?_eq_getElem hlt
    have hm:=hl lt[i] (List.getElem_mem hlt)
    have hdr:lt.drop i=lt[i] :: lt.drop (i+1):=List.drop_eq_getElem_cons hlt
    generalize lt[i]=l at hcc hm hdr
    have hrd:(Bs nm :: lt.map (uh a b c n)).getD (i+1) ByteArray.empty=uh a b c n l:=by
      rw [List.getD_eq_getElem?_getD,List.getElem?_cons_succ,List.getElem?_map,hcc]
      rfl
    have hr:=xI a b c n ha hb hc hn l
    rw [hdr,List.foldl_cons]
    refine Ev.step (f:=fun k=>(aH.f k (Bs (Lib.itoa (zl a b c n l)))).bind fun p=>(bf.f k o s.1 s.2.1 s.2.2.1 s.2.2.2 (l.toNat:Int) p.1).bind fun q=>if p.2=0 then (if q.2.2.2.2.2=true then aI.l1 k (Bs nm :: lt.map (uh a b c n)) (Bs lt) ((i+1:Nat):Int) q.1 q.2.1 q.2.2.1 q.2.2.2.1 q.2.2.2.2.1 else some (0,0,0,0,0,false)) else some (0,0,0,0,0,false)) (fun k=>?_) ?_
    · conv=>lhs;simp only [aI.l1]
      rw [jk,if_pos (by omega),tY i (by omega),if_pos (by omega),if_pos (by simp only [List.length_cons,List.length_map];omega),MW,hrd,FN lt i l hcc]
      refine congrArg (Option.bind _) (funext fun p=>?_)
      rw [if_pos (by omega)]
    · refine Ev.bind (Nl _ hr.1 hr.2) (Ev.bind (VQ a b c n ha hb hc hn o s l hm) ?_)
      exact IA o nm lt hl hlen d (i+1) (ug a b c n s l) (by omega)
theorem IB (j:Nat) (hj:j < 15):∀ d i,i+d=j →
    Ev (fun k=>aI.l0 k (Bs (F7 j) :: (yA j).map (uh a b c n)) ((i+1:Nat):Int))
      (((j+1:Nat):Int),((yA j).foldl (ug a b c n) (0,0,0,0)).1,((yA j).foldl (ug a b c n) (0,0,0,0)).2.1,((yA j).foldl (ug a b c n) (0,0,0,0)).2.2.1,((yA j).foldl (ug a b c n) (0,0,0,0)).2.2.2,true)
  | 0,i,hi=>by
    obtain rfl:i=j:=by omega
    have hl:=(Nv ⟨i,hj⟩).2
    have l1:=IA a b c n ha hb hc hn ((i+1:Nat):Int) (F7 i) (yA i) (IC hj) hl (yA i).length 0 (0,0,0,0) (Nat.zero_add _)
    rw [List.drop_zero] at l1
    refine Ev.step (f:=fun k=>aI.j1 k (Bs (F7 i) :: (yA i).map (uh a b c n)) ((i+1:Nat):Int) (Bs (yA i)) false) (fun k=>?_) (Ev.step (fun k=>?_) l1)
    · conv=>lhs;simp only [aI.l0]
      rw [if_pos (by omega),uF i hj,Option.bind_some,if_pos (by simp only [List.length_cons];omega)]
      refine (if_pos rfl).trans ?_
      refine congrArg (aI.j1 k _ _ _) ?_
      have hl':(yA i).length≤3:=hl
      rw [jk,tY _ (by omega),List.length_cons,List.length_map]
      simp
    · conv=>lhs;simp only [aI.j1]
      rw [if_neg (by decide)]
      rfl
  | d+1,i,hi=>by
    have ih:=IB j hj d (i+1) (by omega)
    have hne:F7 j ≠ F7 i:=YP ⟨j,hj⟩ ⟨i,by omega⟩ (by show j ≠ i;omega)
    refine Ev.step (f:=fun k=>aI.j1 k (Bs (F7 j) :: (yA j).map (uh a b c n)) ((i+1:Nat):Int) (Bs (yA i)) true) (fun k=>?_) (Ev.step (fun k=>?_) ih)
    · conv=>lhs;simp only [aI.l0]
      rw [if_pos (by omega),uF i (by omega),Option.bind_some,if_pos (by simp only [List.length_cons];omega)]
      rw [if_neg]
      show ¬ (Bs (F7 j)).toList=(Bs (F7 i)).toList
      rw [ou,ou]
      exact hne
    · conv=>lhs;simp only [aI.j1]
      rw [if_pos trivial,show (((i+1:Nat):Int)+1) % 256=((i+1+1:Nat):Int) from by omega]
end
theorem ag8 (i:Nat) (hi:i < 15) (a b c n:Int) :
    (((i+1:Nat):Int) == ((i+1:Nat):Int) && (((yA i).foldl (ug a b c n) (0,0,0,0)).1 == a && (((yA i).foldl (ug a b c n) (0,0,0,0)).2.1 == b && (((yA i).foldl (ug a b c n) (0,0,0,0)).2.2.1 == c && ((yA i).foldl (ug a b c n) (0,0,0,0)).2.2.2 == n))))=uf ⟨((i+1:Nat):Int),a,b,c,n⟩:=by
  have z:∀ x:Int,((0:Int) == x)=(x == 0):=fun x=>by rw [Bool.beq_comm]
  have e:∀ x:Int,(x == x)=true:=fun x=>beq_self_eq_true x
  have hh:i=0 ∨ i=1 ∨ i=2 ∨ i=3 ∨ i=4 ∨ i=5 ∨ i=6 ∨ i=7 ∨ i=8 ∨ i=9 ∨ i=10 ∨ i=11 ∨ i=12 ∨ i=13 ∨ i=14:=by omega
  have go:∀ (A B C D:Bool) (F:Int × Int × Int × Int),(F.1=if A then a else 0)→(F.2.1=if B then b else 0)→(F.2.2.1=if C then c else 0)→(F.2.2.2=if D then n else 0) →
      (((i+1:Nat):Int) == ((i+1:Nat):Int) && (F.1 == a && (F.2.1 == b && (F.2.2.1 == c && F.2.2.2 == n))))=((B || b == 0) && (C || c == 0) && (D || n == 0) && (A || a == 0)):=by
    intro A B C D F h1 h2 h3 h4
    rw [h1,h2,h3,h4,e,Bool.true_and]
    have k:∀ (P:Bool) (x:Int),((if P then x else 0) == x)=(P || x == 0):=fun P x=>by
      cases P
      · rw [if_neg (by decide),z,Bool.false_or]
      · rw [if_pos rfl,e,Bool.true_or]
    rw [k,k,k,k]
    cases (A || a == 0) <;> cases (B || b == 0) <;> cases (C || c == 0) <;> cases (D || n == 0) <;> rfl
  rcases hh with rfl|rfl|rfl|rfl|rfl|rfl|rfl|rfl|rfl|rfl|rfl|rfl|rfl|rfl|rfl
  · exact go true false false true _ rfl rfl rfl rfl
  · exact go true true true false _ rfl rfl rfl rfl
  · exact go false false false true _ rfl rfl rfl rfl
  · exact go true false false true _ rfl rfl rfl rfl
  · exact go true false false false _ rfl rfl rfl rfl
  · exact go true false false false _ rfl rfl rfl rfl
  · exact go true true false false _ rfl rfl rfl rfl
  · exact go true true false true _ rfl rfl rfl rfl
  · exact go true true false true _ rfl rfl rfl rfl
  · exact go true true false true _ rfl rfl rfl rfl
  · exact go true true false true _ rfl rfl rfl rfl
  · exact go true true false false _ rfl rfl rfl rfl
  · exact go true true false false _ rfl rfl rfl rfl
  · exact go true false false false _ rfl rfl rfl rfl
  · exact go true true true false _ rfl rfl rfl rfl
theorem MS (x:iG) (ha:0≤x.f1∧x.f1≤255) (hb:0≤x.f2∧x.f2≤255) (hc:0≤x.f3∧x.f3≤255) (hn:-9223372036854775808≤x.f4∧x.f4≤9223372036854775807) :
    Ev (fun k=>dS.f k x.f0 x.f1 x.f2 x.f3 x.f4) (uf x):=by
  obtain ⟨o,a,b,c,n⟩:=x
  dsimp only at ha hb hc hn ⊢
  by_cases h:o < 1 ∨ 15 < o
  · refine Ev.congr (f:=fun _=>some false) (fun k=>?_) (Ev.out (Ev.now _) ?_)
    · unfold dS.f
      rw [KX o h,Option.bind_some]
      exact if_pos (ou [])
    · unfold uf
      dsimp only
      by_cases h1:o < 1
      · rw [if_pos h1]
      · rw [if_neg h1,if_pos (by omega)]
  · obtain ⟨m,rfl⟩:=Int.eq_ofNat_of_zero_le (show 0≤o by omega)
    obtain ⟨i,rfl⟩:∃ i,m=i+1:=⟨m - 1,by omega⟩
    have hi:i < 15:=by omega
    have hl:=(Nv ⟨i,hi⟩).2
    have hln:=IE a b c n ha hb hc hn ((i+1:Nat):Int) (F7 i) (yA i) (IC hi) hl (yA i).length 0 (Nat.zero_add _)
    have hrd:=IB a b c n ha hb hc hn i hi i 0 (Nat.zero_add _)
    have Zp:Ev (fun k=>bg.f k ((i+1:Nat):Int) a b c n) (Bs (F7 i) :: (yA i).map (uh a b c n)):=by
      refine Ev.congr (fun k=>?_) hln
      unfold bg.f
      rw [uF i hi,Option.bind_some]
      rfl
    have hread:Ev (fun k=>aI.f k (Bs (F7 i) :: (yA i).map (uh a b c n))) _:=hrd
    refine Ev.congr (f:=fun k=>(bg.f k ((i+1:Nat):Int) a b c n).bind fun t140=>((aI.f k t140).bind fun BA=>(if BA.2.2.2.2.2=true then (some (BA.1 == ((i+1:Nat):Int) && (BA.2.1 == a && (BA.2.2.1 == b && (BA.2.2.2.1 == c && (BA.2.2.2.2.1 == n)))))) else (some false)))) (fun k=>?_) (Ev.bind Zp (Ev.bind hread ?_))
    · unfold dS.f
      rw [uF i hi,Option.bind_some]
      refine if_neg ?_
      show ¬ (Bs (F7 i)).toList=_
      rw [ou]
      exact P8 ⟨i,hi⟩
    · refine Ev.congr (fun k=>if_pos rfl) (Ev.out (Ev.now _) ?_)
      exact ag8 i hi a b c n
end Go.Proofs.YtbmhmlgfpijmhaaDoor.P
end
section
namespace Go.Proofs.YtbmhmlgfpijmhaaDoor.P
open Go.RowKit Go.Proofs.af.bG Go.Proofs.af.dD Go.Proofs.af.dM
theorem xR (a b:ByteArray) (j:Nat) (h:j < a.size):bt (a++b) j=bt a j:=by
  unfold bt
  rw [dif_pos (show ((j:Int)).toNat < (a++b).size by rw [ByteArray.size_append];omega),dif_pos (show ((j:Int)).toNat < a.size by omega)]
  rw [ByteArray.getElem_append_left]
theorem wQ (a b:ByteArray) (j:Nat) (h:j < b.size):bt (a++b) ((a.size+j:Nat):Int)=bt b j:=by
  unfold bt
  rw [dif_pos (show (((a.size+j:Nat):Int)).toNat < (a++b).size by rw [ByteArray.size_append];omega),dif_pos (show ((j:Int)).toNat < b.size by omega)]
  rw [ByteArray.getElem_append_right (by rw [Int.toNat_natCast];omega)]
  congr 3
  rw [Int.toNat_natCast,Int.toNat_natCast]
  omega
theorem Ld (t:List ByteArray) (lo gl:ByteArray):rf t (lo++gl)=(rf t lo && rf t gl):=by
  have:allB (lo++gl).size (fun i=>decide (0≤kX (bt (lo++gl) i) t.length))=(allB lo.size (fun i=>decide (0≤kX (bt lo i) t.length)) && allB gl.size (fun i=>decide (0≤kX (bt gl i) t.length))):=by
    rw [Bool.eq_iff_iff,Bool.and_eq_true,nS,nS,nS,ByteArray.size_append]
    constructor
    · intro h
      refine ⟨fun j hj=>?_,fun j hj=>?_⟩
      · have:=h j (by omega)
        rwa [xR lo gl j hj] at this
      · have:=h (lo.size+j) (by omega)
        rwa [wQ lo gl j hj] at this
    · rintro ⟨h1,h2⟩ j hj
      by_cases h:j < lo.size
      · rw [xR lo gl j h]
        exact h1 j h
      · obtain ⟨q,rfl⟩:∃ q,j=lo.size+q:=⟨j - lo.size,by omega⟩
        rw [wQ lo gl q (by omega)]
        exact h2 q (by omega)
  unfold rf
  rw [this]
  cases jM t <;> simp
def WfN (code:List iG):Prop:=∀ i:Nat,-9223372036854775808≤(code.getD i z39).f4∧(code.getD i z39).f4≤9223372036854775807
theorem La {x:iG} (h:uf x=true):1≤x.f0∧x.f0≤15:=by
  unfold uf at h
  by_cases h1:x.f0 < 1
  · rw [if_pos h1] at h;cases h
  · by_cases h2:x.f0 > 15
    · rw [if_neg h1,if_pos h2] at h;cases h
    · omega
section
variable (t:List ByteArray) (lo gl:ByteArray) (code:List iG) (ht:t.length≤9223372036854775807) (hs:∀ i:Int,(dV ByteArray.empty t i).size≤9223372036854775807)
  (hn:code.length≤9223372036854775807) (hw:Wf6 code) (hwn:WfN code)
include ht hs hn hw hwn
theorem Fp:Ev (fun k=>az.l0 k 0 t lo gl code) (xE t lo gl code):=by
  have agb:∀ i:Nat,aj code (i:Int)=code.getD i z39:=fun i=>rfl
  have j4:∀ (i:Nat) (x:Bool) (r r':Int × Int),i < code.length→1≤(code.getD i z39).f0∧(code.getD i z39).f0≤15→(x=false→vI t lo gl (code.getD i z39)=true→Ev (fun k=>az.l0 k ((i+1:Nat):Int) t lo gl code) r) →
      r'=(if x=true then ((i:Int),12) else if vI t lo gl (code.getD i z39)=true then r else ((i:Int),5)) →
      Ev (fun k=>az.j4 k (i:Int) x t lo gl code (code.getD i z39).f0 (code.getD i z39).f1 (code.getD i z39).f2 (code.getD i z39).f3 (code.getD i z39).f4) r':=by
    intro i x r r' hi ho hr e
    rw [e]
    refine Ev.step (fun k=>by simp only [az.j4];rfl) ?_
    refine Ev.ite (fun _=>Ev.now _) fun hx=>?_
    have ke:=LD t lo gl (code.getD i z39).f0 (code.getD i z39).f1 (code.getD i z39).f2 (code.getD i z39).f3 (code.getD i z39).f4 ho
    have hk:vI t lo gl (code.getD i z39)=nY t lo gl (code.getD i z39).f0 (code.getD i z39).f1 (code.getD i z39).f2 (code.getD i z39).f3 (code.getD i z39).f4:=rfl
    rw [← hk] at ke
    refine Ev.bind (Qe _ _ _ _ _) ?_
    cases hin:Cj (code.getD i z39).f0 (code.getD i z39).f1 (code.getD i z39).f2 (code.getD i z39).f3 with
    | false =>
      rw [hin,Bool.false_and] at ke
      rw [← ke,if_neg (by decide)]
      exact Ev.congr (fun k=>if_neg (by decide)) (Ev.now _)
    | true =>
      rw [hin,Bool.true_and] at ke
      refine Ev.congr (fun k=>if_pos rfl) ?_
      refine Ev.bind (Nz t lo gl code _ _ _ _ _ ht hs (hw i).1 (hw i).2.1 (hw i).2.2) ?_
      rw [ke]
      refine Ev.ite (fun h=>?_) (fun _=>Ev.now _)
      rw [wrapN hi hn]
      exact hr (by simpa using hx) h
  have MZ:∀ (i:Nat) (r r':Int × Int),i < code.length→(rH t lo gl code.length (code.getD i z39)=none→Ev (fun k=>az.l0 k ((i+1:Nat):Int) t lo gl code) r) →
      r'=(match rH t lo gl code.length (code.getD i z39) with|some e=>((i:Int),e)|none=>r) →
      Ev (fun k=>az.l0 k (i:Int) t lo gl code) r':=by
    intro i r r' hi hr e
    rw [e]
    have hx4:=MS (code.getD i z39) (hw i).1 (hw i).2.1 (hw i).2.2 (hwn i)
    generalize hx:code.getD i z39=x at *
    have j3:Ev (fun k=>az.j3 k i (wE x) t lo gl code x.f0 x.f1 x.f2 x.f3 x.f4) (match rH t lo gl code.length x with|some e=>((i:Int),e)|none=>r):=by
      refine Ev.step (fun k=>by simp only [az.j3];rfl) (Ev.bind hx4 ?_)
      by_cases h1:uf x=true
      · refine Ev.congr (fun k=>if_pos h1) ?_
        have J:∀ b r0,rH t lo gl code.length x=(if b=true then some 12 else if vI t lo gl x=true then none else some 5)→r0=(match rH t lo gl code.length x with|some e=>((i:Int),e)|none=>r)→Ev (fun k=>az.j4 k i b t lo gl code x.f0 x.f1 x.f2 x.f3 x.f4) r0:=by
          intro b r0 hb e0
          have:=j4 i b r r0 hi (by rw [hx];exact La h1) (fun hbf hk=>by
            refine hr ?_
            rw [hx] at hk
            rw [hb,hbf,if_neg (by decide),if_pos hk]) (by
              rw [e0,hb,hx]
              cases b
              · cases vI t lo gl x <;> rfl
              · rfl)
          rw [hx] at this
          exact this
        have hbad:∀ b,(wE x && (decide (x.f4 < 0) || decide (x.f4 > code.length)))=b→rH t lo gl code.length x=(if b=true then some 12 else if vI t lo gl x=true then none else some 5):=by
          intro b hb
          unfold rH
          rw [if_pos h1,hb]
        cases hj:wE x with
        | false =>
          refine Ev.congr (fun k=>if_neg (by decide)) ?_
          exact J false _ (hbad false (by rw [hj];rfl)) rfl
        | true =>
          refine Ev.congr (fun k=>if_pos rfl) ?_
          by_cases h4:x.f4 < 0
          · refine Ev.congr (fun k=>if_pos h4) ?_
            exact J true _ (hbad true (by rw [hj,decide_eq_true h4];rfl)) rfl
          · refine Ev.congr (fun k=>if_neg h4) ?_
            exact J _ _ (hbad _ (by rw [hj,decide_eq_false h4,Bool.false_or,Bool.true_and])) rfl
      · refine Ev.congr (fun k=>if_neg h1) ?_
        have:rH t lo gl code.length x=some 4:=by unfold rH;rw [if_neg h1]
        rw [this]
        exact Ev.now _
    refine Ev.step (fun k=>?_) j3
    simp only [az.l0]
    rw [if_pos (by omega),if_pos (by omega),agb,hx]
    by_cases h3:x.f0=3
    · rw [if_pos h3,show wE x=true from by unfold wE;rw [h3];rfl]
    · rw [if_neg h3,show wE x=(x.f0 == 4) from by unfold wE;rw [show (x.f0 == 3)=false from beq_eq_false_iff_ne.2 h3,Bool.false_or]]
  have:=ng (g:=fun k i=>az.l0 k (i:Nat) t lo gl code) (fun i=>(rH t lo gl code.length (code.getD i z39)).map fun e=>((i:Int),e)) code.length (-1,0)
    (fun i hi hb q hq=>?_) (fun i hi b hb=>?_) (fun _=>?_) code.length 0 (by omega) (fun j hj=>by omega)
  · exact this
  · refine MZ i q q hi (fun _=>hq) ?_
    rw [Option.map_eq_none_iff] at hb
    rw [hb]
  · refine MZ i (0,0) b hi (fun h=>by rw [h] at hb;cases hb) ?_
    cases h:rH t lo gl code.length (code.getD i z39) with
    | none=>rw [h] at hb;cases hb
    | some e=>rw [h] at hb;cases hb;rfl
  · refine Ev.step (f:=fun _=>some (-1,0)) (fun k=>?_) (Ev.now _)
    simp only [az.l0]
    rw [if_neg (by omega)]
theorem Fq (hl:lo.size≤9223372036854775807) (hg:gl.size≤9223372036854775807):Ev (fun k=>az.f k t lo gl code) (qP t lo gl code):=by
  have j1:∀ x,Ev (fun k=>az.j1 k x t lo gl code) (if x=true then (-1,3) else xE t lo gl code):=fun x=>by
    refine Ev.step (fun k=>by simp only [az.j1];rfl) ?_
    exact Ev.ite (fun _=>Ev.now _) fun _=>Fp t lo gl code ht hs hn hw hwn
  have j0:∀ x,Ev (fun k=>az.j0 k x t lo gl code) (if x=true then (-1,5) else if (code.length:Int) < 1 then (if true=true then (-1,3) else xE t lo gl code) else (if decide ((code.length:Int) > 200)=true then (-1,3) else xE t lo gl code)):=fun x=>by
    refine Ev.step (fun k=>by simp only [az.j0];rfl) ?_
    exact Ev.ite (fun _=>Ev.now _) fun _=>Ev.ite (fun _=>j1 _) fun _=>j1 _
  refine Ev.bind (BX t lo ht hs hl) ?_
  unfold qP headB
  rw [Ld]
  cases h1:rf t lo with
  | false =>
    rw [Bool.false_and,Bool.false_and,if_neg (by decide)]
    exact Ev.congr (fun k=>if_neg (by decide)) (Ev.out (j0 true) (if_pos rfl))
  | true =>
    rw [Bool.true_and]
    refine Ev.congr (fun k=>if_pos rfl) ?_
    refine Ev.bind (BX t gl ht hs hg) ?_
    cases h2:rf t gl with
    | false =>
      rw [Bool.false_and,if_neg (by decide)]
      exact Ev.congr (fun k=>if_neg (by decide)) (Ev.out (j0 true) (if_pos rfl))
    | true =>
      rw [Bool.true_and]
      refine Ev.congr (fun k=>if_pos rfl) ?_
      refine Ev.out (Ev.ite (fun _=>j0 _) fun _=>j0 _) ?_
      by_cases h3:lo.size≤8
      · by_cases h4:gl.size≤4
        · rw [if_neg (by omega),decide_eq_true h3,decide_eq_true h4,if_neg (by simp;omega),show (true && true)=true from rfl,if_pos rfl,if_pos rfl]
          by_cases h5:(code.length:Int) < 1
          · rw [if_pos h5,if_neg (by omega)]
          · rw [if_neg h5]
            by_cases h6:(code.length:Int) > 200
            · rw [if_pos (decide_eq_true h6),if_neg (by omega)]
            · rw [if_neg (by simp;omega),if_pos (by omega)]
        · rw [if_neg (by omega),decide_eq_true h3,decide_eq_false h4,if_pos (by simp;omega),if_neg (by decide)]
      · rw [if_pos (by omega),decide_eq_false h3,if_pos rfl,if_neg (by simp)]
end
end Go.Proofs.YtbmhmlgfpijmhaaDoor.P
end
end
section
namespace Go.Proofs.YtbmhmlgfpijmhaaDoor.P
theorem IK:(Tryd.prog.info? 2).map (fun i=>(i.zero,i.size,i.bytes))=some (some (.int .i64 0),1,8):=by kernel_rfl
open Go Go.RowKit Go.Proofs.af.bG Go.Proofs.af.dD Go.Proofs.af.dM
def wo (xs:List (List Int)) (i:Int):(List Int):=xs.getD i.toNat ([]:List Int)
theorem FT {w:World} {A:Option Addr} {n:Nat} {xs:List (List Int)} (h:Kd.C (Kd.slice 2 (Kd.int .i64)) w A n xs) (i:Int) (h0:0≤i) (h1:i < n):∃ ad A0 c0,A=some ad∧w.cell? (ad.add i.toNat)=some (.slice A0 (wo xs i).length c0)∧(wo xs i).length≤c0∧(Kd.int .i64).C w A0 (wo xs i).length (wo xs i):=by
  obtain ⟨ad,c,e,_,hK,hc0⟩:=Kd.VJ h ([]:List Int) i h0 h1
  have hc:∀ j u,c[j]? = some u→w.cell? (ad.add (i.toNat * 1+j))=some u:=hc0
  obtain ⟨A0,c0,rfl,l0,g0⟩:=hK
  exact ⟨ad,A0,c0,e,by have hq:=hc 0 _ rfl;rwa [Nat.mul_one,Nat.add_zero] at hq,l0,g0⟩
end Go.Proofs.YtbmhmlgfpijmhaaDoor.P
section
namespace Go.Proofs.YtbmhmlgfpijmhaaDoor.P
open Go.RowKit Go.Proofs.af.bG Go.Proofs.af.dD Go.Proofs.af.dM
theorem yU {α:Type} (d:Kd α) (e:Nat) (W:World) (base:Nat) (ok:Nat→Prop) (hbase:base≤W.heap.size) (hok:ok W.heap.size):d.R e (W.alloc (.cells #[] e)) base ok (.slice (some ⟨W.heap.size,0,none⟩) 0 0) []:=by
  refine ⟨fun k hk=>?_,[],?_,⟨by simp,fun j p h=>by simp at h⟩⟩
  · have:W.heap.size=k:=by simpa [Value.ownBlock] using hk
    exact this ▸ hok
  · have:=World.ownsRow_lit (base:=base) (e:=e) (size:=d.sz) W #[] 0 hbase (by decide) (by simp)
    simpa using this
abbrev Hd:=Option Addr × Nat × Nat
def Ol (h:Hd):Value:=.slice h.1 h.2.1 h.2.2
abbrev kH:Kd Hd:=Kd.scalar Ol (fun _=>rfl)
theorem Cm:(Tryd.prog.info? 34).map (fun i=>(i.zero,i.size,i.bytes))=some (some (.slice none 0 0),kH.sz,24):=by kernel_rfl
end Go.Proofs.YtbmhmlgfpijmhaaDoor.P
end
section
namespace Go.Proofs.YtbmhmlgfpijmhaaDoor.P
open Go.RowKit Go.Proofs.af.bG Go.Proofs.af.dD Go.Proofs.af.dM
structure ajb (base:Nat) (s:St) (vO vU:Value) (w:World):Prop where
  bH:Kd.S yh 34 w base (fun k=>some k ≠ vU.ownBlock) vO s.bH
  out:Kd.R (Kd.int .i64) 2 w base (fun _=>True) vU s.out
section
variable {G B1 B2:Nat} {s:St} {vO vU:Value} {hs0:List Hd} {i:Nat} {hs:List Hd} {L:Nat→Nat} {w wr w3:World}
end
end Go.Proofs.YtbmhmlgfpijmhaaDoor.P
end
section
namespace Go.Proofs.YtbmhmlgfpijmhaaDoor.P
open Go.RowKit Go.Proofs.af.bG Go.Proofs.af.dD Go.Proofs.af.dM
theorem KY {w:World} {g t:Nat} {old:Array Value} (hg:w.heap[g]? = some (.cells old t (0,0))) (cs:Array Value):(w.setRow g cs).heap[g]? = some (.cells cs t (0,0)):=by
  simp [World.setRow,Array.getElem?_modify,hg]
theorem ku {w:World} {g:Nat} (cs:Array Value) (k:Nat) (hk:k ≠ g):(w.setRow g cs).heap[k]? = w.heap[k]?:=by
  simp only [World.setRow,Array.getElem?_modify]
  rw [if_neg (by omega)]
theorem dE {B g:Nat} {w0 w:World} (hb:Below B w0 w) (hBg:B≤g) (cs:Array Value):Below B w0 (w.setRow g cs) :=
  hb.trans ⟨rfl,rfl,rfl,by simp [World.setRow],fun k hk=>ku cs k (by omega)⟩
end Go.Proofs.YtbmhmlgfpijmhaaDoor.P
end
section
namespace Go.Proofs.YtbmhmlgfpijmhaaDoor.P
open Go.RowKit Go.Proofs.af.bG Go.Proofs.af.dD Go.Proofs.af.dM
theorem iH {P:Program} {fn:Func} {p u v:Tmp} {ty:TypeId} (h:fn.results=#[.cell p ty,.tmp u,.tmp v]) (tmps:Array Value) (w:World) (g:Nat) (t:TypeId) (cs:Array Value) (fr:Nat × Nat) (d:TypeDesc)
    (hp:tmps.getD p undef=.pointer (some ⟨g,0,none⟩)) (hg:w.heap[g]? = some (.cells cs t fr))
    (hu:P.underlying ty=some d) (hd:(match d with | .struct _ | .array _ _=>true | _=>false)=true) (hi:(P.info? ty).map (·.size)=some cs.size) :
    (results fn tmps).run P w=.ok (.tuple #[.agg cs,tmps.getD u undef,tmps.getD v undef]) w:=by
  have hp':tmps[p]?.getD undef=.pointer (some ⟨g,0,none⟩):=by simpa using hp
  simp [results,h,hp',asAddr,run_loadVar_row w g t ty cs fr d hg hu hd hi]
end Go.Proofs.YtbmhmlgfpijmhaaDoor.P
end
section
namespace Go.Proofs.YtbmhmlgfpijmhaaDoor.P
open Go.RowKit Go.Proofs.af.bG Go.Proofs.af.dD Go.Proofs.af.dM
def Bk (w:World) (g:Nat) (cs:Array Value) (t:TypeId):Prop:=w.heap[g]? = some (.cells cs t (0,0))
section
variable {w w1:World} {g h t:Nat} {cs:Array Value}
theorem Bk.cell (k:Bk w g cs t) (j:Nat):w.cell? ⟨g,j,none⟩=cs[j]?:=cell_of_row w g j cs t (0,0) k
theorem Bk.fr (k:Bk w g cs t) (j:Nat):w.frozen? ⟨g,j,none⟩=false:=frozen_of_row w g j cs t k
theorem Bk.lt (k:Bk w g cs t):g < w.heap.size:=(Array.getElem?_eq_some_iff.1 k).1
theorem Bk.of (k:Bk w g cs t) (e:w1.heap[g]? = w.heap[g]?):Bk w1 g cs t:=e.trans k
theorem Bk.below (k:Bk w g cs t) (hb:Below w.heap.size w w1):Bk w1 g cs t:=k.of (hb.block g k.lt)
theorem Bk.set (k:Bk w g cs t) (j:Nat) (v:Value):Bk (w.setCell ⟨g,j,none⟩ v) g (cs.setIfInBounds j v) t:=by
  unfold Bk at k ⊢
  simp [World.setCell,Array.getElem?_modify,k]
theorem Bk.far (k:Bk w g cs t) (j:Nat) (v:Value) (hn:g ≠ h):Bk (w.setCell ⟨h,j,none⟩ v) g cs t:=k.of (Below.heap_setCell w ⟨h,j,none⟩ v g hn)
theorem Bk.setRow (k:Bk w g cs t) (ds:Array Value):Bk (w.setRow g ds) g ds t:=KY k ds
theorem Bk.gB (k:Bk w g cs t) (ds:Array Value) (hn:g ≠ h):Bk (w.setRow h ds) g cs t:=k.of (ku ds g hn)
theorem Bk.alloc (k:Bk w g cs t) (o:Obj):Bk (w.alloc o) g cs t:=k.of (Below.heap_alloc w o g k.lt)
theorem Bk.new (w:World) (cs:Array Value) (t:TypeId):Bk (w.alloc (.cells cs t)) w.heap.size cs t:=heap_alloc_new w _
theorem nI (ds:List Value):∀ (w:World) (o:Nat),g ≠ h→(w.setCells h o ds).heap[g]? = w.heap[g]?:=by
  induction ds with
  | nil=>intro w o _;rfl
  | cons v ds ih=>intro w o hn;exact (ih _ _ hn).trans (Below.heap_setCell w ⟨h,o,none⟩ v g hn)
theorem Bk.jf (k:Bk w g cs t) (o:Nat) (ds:List Value) (hn:g ≠ h):Bk (w.setCells h o ds) g cs t:=k.of (nI ds w o hn)
theorem setCells_size (ds:List Value):∀ (w:World) (h o:Nat),(w.setCells h o ds).heap.size=w.heap.size:=by
  induction ds with
  | nil=>intro w h o;rfl
  | cons v ds ih=>intro w h o;exact (ih _ _ _).trans (by simp [World.setCell])
theorem ik {B:Nat} {w0:World} (ds:List Value):∀ (w:World) (h o:Nat),Below B w0 w→B≤h→Below B w0 (w.setCells h o ds):=by
  induction ds with
  | nil=>intro w h o hb _;exact hb
  | cons v ds ih=>intro w h o hb hB;exact ih _ _ _ (hb.setCell (p:=⟨h,o,none⟩) hB v) hB
theorem Bk.range (k:Bk w g cs t) (o:Nat) (vs:List Value) (hv:∀ j,j < vs.length→cs[o+j]? = vs[j]?):w.rangeAt g o vs:=fun j v hj=>by
  rw [k.cell (o+j),hv j (List.getElem?_eq_some_iff.1 hj).1,hj]
theorem Bk.there (k:Bk w g cs t) (o n:Nat) (hn:o+n≤cs.size):w.there g o n:=fun j hj=>⟨by rw [k.cell (o+j),Array.getElem?_eq_getElem (by omega)];rfl,k.fr (o+j)⟩
end
def dX (f:Nat→Int):Array Value:=#[.int .i64 (f 0),.int .i64 (f 1),.int .i64 (f 2),.int .i64 (f 3),.int .i64 (f 4),.int .i64 (f 5),.int .i64 (f 6),.int .i64 (f 7)]
def row4 (f:Nat→Int):Array Value:=#[.int .i64 (f 0),.int .i64 (f 1),.int .i64 (f 2),.int .i64 (f 3)]
theorem jd (f:Nat→Int):(dX f).all (·.oneCell')=true:=by simp [dX,Value.oneCell']
theorem rO (f:Nat→Int):(row4 f).all (·.oneCell')=true:=by simp [row4,Value.oneCell']
theorem nX (f:Nat→Int) (j:Nat) (hj:j < 8):(dX f)[j]? = some (.int .i64 (f j)):=by
  match j,hj with
  | 0,_ | 1,_ | 2,_ | 3,_ | 4,_ | 5,_ | 6,_ | 7,_=>rfl
theorem P7 (f:Nat→Int) (j:Nat) (hj:j < 4):(row4 f)[j]? = some (.int .i64 (f j)):=by
  match j,hj with
  | 0,_ | 1,_ | 2,_ | 3,_=>rfl
theorem qg (f:Nat→Int) (j:Nat) (hj:j < 8) (v:Int):(dX f).setIfInBounds j (.int .i64 v)=dX (upd f j v):=by
  match j,hj with
  | 0,_ | 1,_ | 2,_ | 3,_ | 4,_ | 5,_ | 6,_ | 7,_=>rfl
theorem MR (f:Nat→Int) (j:Nat) (hj:j < 4) (v:Int):(row4 f).setIfInBounds j (.int .i64 v)=row4 (upd f j v):=by
  match j,hj with
  | 0,_ | 1,_ | 2,_ | 3,_=>rfl
section
variable {w:World} {g t:Nat} {s:St} {vO vU:Value}
theorem Bk.VO (k:Bk w g (cellsS s vO vU) t) (j:Nat) (hj:j < 8):w.cell? ⟨g,j,none⟩=some (.int .i64 (s.x j)):=by
  rw [k.cell j]
  match j,hj with
  | 0,_ | 1,_ | 2,_ | 3,_ | 4,_ | 5,_ | 6,_ | 7,_=>rfl
theorem Bk.rP (k:Bk w g (cellsS s vO vU) t) (j:Nat) (hj:j < 8):w.cell? ⟨g,8+j,none⟩=some (.int .i64 (s.p j)):=by
  rw [k.cell (8+j)]
  match j,hj with
  | 0,_ | 1,_ | 2,_ | 3,_ | 4,_ | 5,_ | 6,_ | 7,_=>rfl
theorem Bk.xs (k:Bk w g (cellsS s vO vU) t):w.rangeAt g 0 (dX s.x).toList:=k.range 0 _ fun j hj=>by
  match j,hj with
  | 0,_ | 1,_ | 2,_ | 3,_ | 4,_ | 5,_ | 6,_ | 7,_=>rfl
theorem Bk.ps (k:Bk w g (cellsS s vO vU) t):w.rangeAt g 8 (dX s.p).toList:=k.range 8 _ fun j hj=>by
  match j,hj with
  | 0,_ | 1,_ | 2,_ | 3,_ | 4,_ | 5,_ | 6,_ | 7,_=>rfl
theorem Bk.gs (k:Bk w g (cellsS s vO vU) t):w.rangeAt g 16 (row4 s.g).toList:=k.range 16 _ fun j hj=>by
  match j,hj with
  | 0,_ | 1,_ | 2,_ | 3,_=>rfl
theorem Bk.wY (k:Bk w g (cellsS s vO vU) t) (f:Nat→Int):Bk (w.setCells g 0 (dX f).toList) g (cellsS { s with x:=f } vO vU) t:=by
  have h:=(((((((k.set 0 (.int .i64 (f 0))).set 1 (.int .i64 (f 1))).set 2 (.int .i64 (f 2))).set 3 (.int .i64 (f 3))).set 4 (.int .i64 (f 4))).set 5 (.int .i64 (f 5))).set 6 (.int .i64 (f 6))).set 7 (.int .i64 (f 7))
  simp only [cellsS,List.setIfInBounds_toArray,List.set_cons_zero,List.set_cons_succ] at h
  exact h
theorem Bk.wZ (k:Bk w g (cellsS s vO vU) t) (f:Nat→Int):Bk (w.setCells g 8 (dX f).toList) g (cellsS { s with p:=f } vO vU) t:=by
  have h:=(((((((k.set 8 (.int .i64 (f 0))).set 9 (.int .i64 (f 1))).set 10 (.int .i64 (f 2))).set 11 (.int .i64 (f 3))).set 12 (.int .i64 (f 4))).set 13 (.int .i64 (f 5))).set 14 (.int .i64 (f 6))).set 15 (.int .i64 (f 7))
  simp only [cellsS,List.setIfInBounds_toArray,List.set_cons_zero,List.set_cons_succ] at h
  exact h
theorem Bk.zf (k:Bk w g (cellsS s vO vU) t) (f:Nat→Int):Bk (w.setCells g 16 (row4 f).toList) g (cellsS { s with g:=f } vO vU) t:=by
  have h:=(((k.set 16 (.int .i64 (f 0))).set 17 (.int .i64 (f 1))).set 18 (.int .i64 (f 2))).set 19 (.int .i64 (f 3))
  simp only [cellsS,List.setIfInBounds_toArray,List.set_cons_zero,List.set_cons_succ] at h
  exact h
end
section
variable {P:Program} {ops:Array Oper} {rest:List Oper} {o:Oper} {a:Act} {w:World} {Q:Exit→Act→World→Prop}
theorem qj (hgd:o.guard=none) (ty:TypeId) (x:Operand) (ho:o.op=.load ty x) (g off:Nat) (hx:a.eval x=.pointer (some ⟨g,off,none⟩)) (cs:Array Value) (d:TypeDesc) (hc:w.rangeAt g off cs.toList)
    (hu:P.underlying ty=some d) (hd:d.isRow=true) (hi:(P.info? ty).map (·.size)=some cs.toList.length) (h:wpList P ops Q rest (a.put o.dst (.agg cs)) w):wpList P ops Q (o :: rest) a w :=
  wpList_load_mid hgd ty x ho g off hx cs.toList d hc hu hd hi (by rw [Array.toArray_toList];exact h)
end
structure Uw (s:St) (vO vU:Value) (w:World):Prop where
  bH:∃ A c,vO=.slice A s.bH.length c∧s.bH.length≤c∧Kd.C yh w A s.bH.length s.bH
  out:∃ A c,vU=.slice A s.out.length c∧s.out.length≤c∧Kd.C (Kd.int .i64) w A s.out.length s.out
section
variable {s s':St} {vO vU:Value} {w w':World}
theorem Uw.below (h:Uw s vO vU w) (hb:Below w.heap.size w w'):Uw s vO vU w':=by
  obtain ⟨⟨A,c,e,hc,hO⟩,⟨B,d,e',hd,hU⟩⟩:=h
  exact ⟨⟨A,c,e,hc,Kd.bW hO hb⟩,⟨B,d,e',hd,Kd.bW hU hb⟩⟩
theorem Uw.as (h:Uw s vO vU w) (e1:s'.bH=s.bH) (e2:s'.out=s.out):Uw s' vO vU w:=by
  obtain ⟨h1,h2⟩:=h
  exact ⟨by rw [e1];exact h1,by rw [e2];exact h2⟩
theorem Uw.one (h:Uw s vO vU w) (s':St):(cellsS s' vO vU).all (·.oneCell')=true:=by
  obtain ⟨⟨A,c,rfl,_⟩,⟨B,d,rfl,_⟩⟩:=h
  simp [cellsS,Value.oneCell']
end
def NB (w:World) (k:Nat):Prop:=∃ cells t fr,w.heap[k]? = some (.cells cells t fr)∧t ≠ 36∧t ≠ 35
def Keep (w wF:World):Prop:=∀ k,NB w k→wF.heap[k]? = w.heap[k]?
theorem NB.lt {w:World} {k:Nat} (h:NB w k):k < w.heap.size:=by
  obtain ⟨_,_,_,h,_⟩:=h
  exact (Array.getElem?_eq_some_iff.1 h).1
theorem Keep.after {w w' wF:World} (hb:Below w.heap.size w w') (h:Keep w' wF):Keep w wF:=fun k hk=>by
  have e:=hb.block k hk.lt
  obtain ⟨c,t,fr,h1,h2⟩:=hk
  rw [h k ⟨c,t,fr,e.trans h1,h2⟩,e]
theorem Keep.trans {w w' wF:World} (hb:Keep w w') (h:Keep w' wF):Keep w wF:=fun k hk=>by
  have e:=hb k hk
  obtain ⟨c,t,fr,h1,h2⟩:=hk
  rw [h k ⟨c,t,fr,e.trans h1,h2⟩,e]
theorem V4 {w:World} {A:Option Addr} {n:Nat} {hs:List Hd} {xs:List (List Int)} (h:Kd.C kH w A n hs) (hl:hs.length=xs.length)
    (each:∀ j (hj:j < xs.length),∃ q,hs[j]? = some q∧q.2.1=(xs[j]).length∧(xs[j]).length≤q.2.2∧Kd.C (Kd.int .i64) w q.1 (xs[j]).length xs[j]):Kd.C yh w A n xs:=by
  obtain ⟨h1,hn,hc⟩:=h
  refine ⟨hl ▸ h1,hn,fun h0=>?_⟩
  obtain ⟨ad,e,hc⟩:=hc h0
  refine ⟨ad,e,fun j x hj=>?_⟩
  obtain ⟨hj',rfl⟩:=List.getElem?_eq_some_iff.1 hj
  obtain ⟨q,hq,hq1,hq2,hq3⟩:=each j hj'
  obtain ⟨c,hlen,hK,hcell⟩:=hc j q hq
  obtain rfl:c=[Ol q]:=hK
  refine ⟨[Ol q],rfl,⟨q.1,q.2.2,?_,hq2,hq3⟩,hcell⟩
  rw [← hq1]
  rfl
theorem uw {α:Type} {d:Kd α} {e base:Nat} {ok:Nat→Prop} {w wF:World} {v:Value} {xs:List α} (h:d.R e w base ok v xs) (hE:d.E=[]) (he:e ≠ 36∧e ≠ 35) (hk:∀ k,base≤k→NB w k→wF.heap[k]? = w.heap[k]?):d.R e wF base ok v xs :=
  Kd.qR (Kd.nC (w1:=wF) (Kd.oV h) (fun k hk' _=>by
    obtain ⟨_,h2,_,q,hq,cells,hc⟩:=hk'
    rw [hE] at hq
    obtain rfl:q=e:=List.mem_singleton.1 hq
    exact hk k h2 ⟨cells,q,(0,0),hc,he.1,he.2⟩)) (fun k hk'=>hk'.1)
structure qC (s:St) (vO vU:Value) (w:World):Prop where
  bH:∃ A c hs,vO=.slice A s.bH.length c∧s.bH.length≤c∧hs.length=s.bH.length∧(∀ wF,Keep w wF→Kd.C kH wF A s.bH.length hs)∧∀ j (hj:j < s.bH.length),∃ q,hs[j]? = some q∧q.2.1=(s.bH[j]).length∧(s.bH[j]).length≤q.2.2∧∀ wF,Keep w wF→Kd.C (Kd.int .i64) wF q.1 (s.bH[j]).length s.bH[j]
  out:∃ A c,vU=.slice A s.out.length c∧s.out.length≤c∧∀ wF,Keep w wF→Kd.C (Kd.int .i64) wF A s.out.length s.out
section
variable {s s':St} {vO vU:Value} {w w' wF:World}
theorem qC.rd (h:qC s vO vU w):Uw s vO vU w:=by
  obtain ⟨⟨A,c,hs,e,hc,hl,hH,hE⟩,B,b,e',hb,hU⟩:=h
  have hw:Keep w w:=fun _ _=>rfl
  exact ⟨⟨A,c,e,hc,V4 (hH w hw) hl (fun j hj=>by obtain ⟨q,q1,q2,q3,q4⟩:=hE j hj;exact ⟨q,q1,q2,q3,q4 w hw⟩)⟩,B,b,e',hb,hU w hw⟩
theorem qC.keep (h:qC s vO vU w) (hk:Keep w w'):qC s vO vU w':=by
  obtain ⟨⟨A,c,hs,e,hc,hl,hH,hE⟩,B,b,e',hb,hU⟩:=h
  exact ⟨⟨A,c,hs,e,hc,hl,fun wF hF=>hH wF (hk.trans hF),fun j hj=>by obtain ⟨q,q1,q2,q3,q4⟩:=hE j hj;exact ⟨q,q1,q2,q3,fun wF hF=>q4 wF (hk.trans hF)⟩⟩,B,b,e',hb,fun wF hF=>hU wF (hk.trans hF)⟩
theorem qC.below (h:qC s vO vU w) (hb:Below w.heap.size w w'):qC s vO vU w':=h.keep (fun k hk=>hb.block k hk.lt)
theorem qC.as (h:qC s vO vU w) (e1:s'.bH=s.bH) (e2:s'.out=s.out):qC s' vO vU w:=by
  obtain ⟨h1,h2⟩:=h
  exact ⟨by rw [e1];exact h1,by rw [e2];exact h2⟩
end
theorem fF {P:Program} {fn:Func} {p u:Tmp} {ty:TypeId} (h:fn.results=#[.cell p ty,.tmp u]) (tmps:Array Value) (w:World) (g:Nat) (t:TypeId) (cs:Array Value) (fr:Nat × Nat) (d:TypeDesc)
    (hp:tmps.getD p undef=.pointer (some ⟨g,0,none⟩)) (hg:w.heap[g]? = some (.cells cs t fr))
    (hu:P.underlying ty=some d) (hd:(match d with | .struct _ | .array _ _=>true | _=>false)=true) (hi:(P.info? ty).map (·.size)=some cs.size) :
    (results fn tmps).run P w=.ok (.tuple #[.agg cs,tmps.getD u undef]) w:=by
  have hp':tmps[p]?.getD undef=.pointer (some ⟨g,0,none⟩):=by simpa using hp
  simp [results,h,hp',asAddr,run_loadVar_row w g t ty cs fr d hg hu hd hi]
end Go.Proofs.YtbmhmlgfpijmhaaDoor.P
end
end
