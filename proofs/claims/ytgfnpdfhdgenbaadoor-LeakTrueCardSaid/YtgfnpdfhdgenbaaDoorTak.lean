/- Parts of the proof of LeakTrue: what the functions that it reaches compute, and plain facts about that. -/
import Derived.Test.YtgfnpdfhdgenbaaDoorTaj
set_option linter.unusedVariables false
set_option linter.unusedSimpArgs false
section
section
namespace Go.Proofs.YtgfnpdfhdgenbaaDoor.P
open Go.RowKit Go.Proofs.ae.bf Go.Proofs.ae.bY Go.Proofs.ae.cZ
def o8 (t:List ByteArray) (a n:Int):Bool:=if n < 0 then false else if n ≥ iH t a then false else decide (AQ t a n < 0)
def Eg (t:List ByteArray) (a n:Int):Int:=if n < 0 then -1 else if n > 6 then -1 else AQ t a n
section
variable (t:List ByteArray) (ht:t.length≤9223372036854775807) (hs:∀ i:Int,(eG ByteArray.empty t i).size≤9223372036854775807)
include ht hs
theorem YO (i:Int):Ev (fun k=>dN.f k t i) (jH t && (decide (0≤i) && decide (i < t.length))):=by
  refine Ev.bind (yV t ht hs) ?_
  refine Ev.out (Ev.ite (fun _=>Ev.ite (fun _=>Ev.now (decide (i < (t.length:Int)))) fun _=>Ev.now false) fun _=>Ev.now false) ?_
  cases jH t
  · rfl
  · rw [if_pos rfl,Bool.true_and]
    by_cases h:i ≥ 0
    · rw [if_pos h,decide_eq_true (show 0≤i from h),Bool.true_and]
    · rw [if_neg h,decide_eq_false (show ¬ 0≤i from h),Bool.false_and]
theorem MO (i f:Int):Ev (fun k=>dJ.f k t i f) (AQ t i f):=by
  refine Ev.bind (YO t ht hs i) ?_
  unfold AQ iH Py
  by_cases h:(jH t && (decide (0≤i) && decide (i < t.length)))=true
  · have h':=h
    simp only [Bool.and_eq_true,decide_eq_true_eq] at h'
    rw [if_pos h,if_pos h]
    by_cases h0:f < 0
    · rw [if_pos h0,if_neg (by omega)]
      exact Ev.now _
    · rw [if_neg h0]
      refine Ev.congr (fun k=>(if_pos h'.2.1).trans (if_pos h'.2.2)) ?_
      by_cases h1:f < (eG ByteArray.empty t i).size
      · rw [if_neg (by omega),if_pos (by omega),if_pos (by omega),if_pos (by omega)]
        refine Ev.congr (fun k=>by rw [qX];rfl) (Ev.now _)
      · rw [if_pos (by omega),if_neg (by omega)]
        exact Ev.now _
  · rw [if_neg h,if_neg h]
    rw [if_neg (fun h2=>by have h3:f < (0:Int):=h2.2;omega)]
    exact Ev.now _
theorem Kz (lo gl:ByteArray) (code:List gY) (a:Int) (h0:0≤a) (h1:a≤255):Ev (fun k=>eP.f k t lo gl code a) (bP t gl a):=Ev.bind (Vr t ht hs gl a h0 h1) (Ev.now _)
theorem Bd (lo gl:ByteArray) (code:List gY) (a n:Int):Ev (fun k=>dR.f k t lo gl code a n) (o8 t a n):=by
  unfold o8
  refine Ev.ite (fun _=>Ev.now _) fun _=>Ev.bind (I4 t ht hs a) ?_
  exact Ev.ite (fun _=>Ev.now _) fun _=>Ev.bind (MO t ht hs a n) (Ev.now _)
theorem UA (lo gl:ByteArray) (code:List gY) (a n:Int):Ev (fun k=>fG.f k t lo gl code a n) (Eg t a n):=by
  unfold Eg
  exact Ev.ite (fun _=>Ev.now _) fun _=>Ev.ite (fun _=>Ev.now _) fun _=>Ev.bind (MO t ht hs a n) (Ev.now _)
end
theorem wP (a b:Int):bZ.f a b=some (o7 a b):=by
  unfold bZ.f o7
  by_cases h:0≤a
  · rw [if_pos h,decide_eq_true h,Bool.true_and]
  · rw [if_neg h,decide_eq_false h,Bool.false_and]
theorem zh (t:List ByteArray) (a n:Int):(if a ≥ 0 then o8 t a n else false)=qF t a n:=by
  unfold o8 qF oN
  by_cases h:a ≥ 0
  · rw [if_pos h]
    by_cases h0:n < 0
    · rw [if_pos h0,if_neg (by omega)];rfl
    · by_cases h1:n < iH t a
      · rw [if_neg h0,if_neg (by omega),if_pos (by omega),Bool.true_and]
      · rw [if_neg h0,if_pos (by omega),if_neg (by omega)];rfl
  · rw [if_neg h,if_neg (by omega)];rfl
theorem MN (t:List ByteArray) (x a n:Int):(if a ≥ 0 then o7 x (Eg t a n) else false)=o7 x (oN t a n).1:=by
  have z:o7 x (-1)=false:=by
    unfold o7
    by_cases h:0≤x
    · have:(x == -1)=false:=by simp;omega
      rw [this,Bool.and_false]
    · rw [decide_eq_false h,Bool.false_and]
  unfold Eg oN
  have:=Eh t a
  by_cases h:a ≥ 0
  · rw [if_pos h]
    by_cases h0:n < 0
    · rw [if_pos h0,if_neg (by omega)]
    · rw [if_neg h0]
      by_cases h1:n < iH t a
      · rw [if_neg (by omega),if_pos (by omega)]
      · rw [if_neg (show ¬ (0≤a∧0≤n∧n < iH t a) by omega)]
        by_cases h2:n > 6
        · rw [if_pos h2]
        · rw [if_neg h2]
          unfold AQ
          rw [if_neg (by omega)]
  · rw [if_neg h,if_neg (by omega),z]
def uQ (o a b c:Int) (x:Bool):Bool:=if x=true then decide (a < 8) else if o=2 then (if a < 8 then (if b < 8 then decide (c < 8) else false) else false) else if o=9 then decide (b < 8) else true
def Cc (o a b c:Int):Bool:=if o=1 then uQ o a b c (o == 1) else if o=4 then uQ o a b c (o == 4) else if o=8 then uQ o a b c (o == 8) else if o=14 then uQ o a b c (o == 14) else uQ o a b c (o == 15)
theorem Qx (o a b c n:Int):Ev (fun k=>bu.f k o a b c n) (Cc o a b c):=by
  have j:∀ x,Ev (fun k=>bu.j0 k o x o a b c n) (uQ o a b c x):=fun x=>by
    unfold uQ
    refine Ev.step (fun k=>by simp only [bu.j0];rfl) ?_
    exact Ev.ite (fun _=>Ev.now _) fun _=>Ev.ite (fun _=>Ev.ite (fun _=>Ev.ite (fun _=>Ev.now _) fun _=>Ev.now _) fun _=>Ev.now _) fun _=>Ev.ite (fun _=>Ev.now _) fun _=>Ev.now _
  unfold Cc
  exact Ev.ite (fun _=>j _) fun _=>Ev.ite (fun _=>j _) fun _=>Ev.ite (fun _=>j _) fun _=>Ev.ite (fun _=>j _) fun _=>j _
def xX (t:List ByteArray) (lo gl:ByteArray) (o a b c n:Int) (x:Bool):Bool :=
  if x=true then decide (bP t lo a ≥ 0)
  else if o=7 then o7 (bP t lo a) (bP t lo b)
  else if o=15 then o7 (bP t lo b) (bP t lo c)
  else if o=8 then (if bP t lo b ≥ 0 then o8 t (bP t lo b) n else false)
  else if o=9 then (if bP t lo a ≥ 0 then o8 t (bP t lo a) n else false)
  else if o=10 then (if bP t lo b ≥ 0 then o7 (bP t lo a) (Eg t (bP t lo b) n) else false)
  else if o=11 then (if bP t lo a ≥ 0 then o7 (bP t lo b) (Eg t (bP t lo a) n) else false)
  else if o=12 then o7 (bP t lo a) (bP t gl b)
  else if o=13 then o7 (bP t lo b) (bP t gl a)
  else true
def Jb (t:List ByteArray) (lo gl:ByteArray) (o a b c n:Int):Bool:=if o=5 then xX t lo gl o a b c n (o == 5) else xX t lo gl o a b c n (o == 6)
theorem NC (t:List ByteArray) (lo gl:ByteArray) (code:List gY) (o a b c n:Int) (ht:t.length≤9223372036854775807) (hs:∀ i:Int,(eG ByteArray.empty t i).size≤9223372036854775807)
    (ha:0≤a∧a≤255) (hb:0≤b∧b≤255) (hc:0≤c∧c≤255):Ev (fun k=>aQ.f k t lo gl code o a b c n) (Jb t lo gl o a b c n):=by
  have j:∀ x,Ev (fun k=>aQ.j0 k (bP t lo a) (bP t lo b) o x t lo gl code o a b c n) (xX t lo gl o a b c n x):=fun x=>by
    unfold xX
    refine Ev.step (fun k=>by simp only [aQ.j0];rfl) ?_
    refine Ev.ite (fun _=>Ev.now _) fun _=>?_
    refine Ev.ite (fun _=>Ev.congr (fun k=>by rw [wP];rfl) (Ev.now _)) fun _=>?_
    refine Ev.ite (fun _=>Ev.bind (vg t ht hs lo gl code _ hc.1 hc.2) (Ev.congr (fun k=>by rw [wP];rfl) (Ev.now _))) fun _=>?_
    refine Ev.ite (fun _=>Ev.ite (fun _=>Ev.bind (Bd t ht hs lo gl code _ _) (Ev.now _)) fun _=>Ev.now _) fun _=>?_
    refine Ev.ite (fun _=>Ev.ite (fun _=>Ev.bind (Bd t ht hs lo gl code _ _) (Ev.now _)) fun _=>Ev.now _) fun _=>?_
    refine Ev.ite (fun _=>Ev.ite (fun _=>Ev.bind (UA t ht hs lo gl code _ _) (Ev.congr (fun k=>by rw [wP];rfl) (Ev.now _))) fun _=>Ev.now _) fun _=>?_
    refine Ev.ite (fun _=>Ev.ite (fun _=>Ev.bind (UA t ht hs lo gl code _ _) (Ev.congr (fun k=>by rw [wP];rfl) (Ev.now _))) fun _=>Ev.now _) fun _=>?_
    refine Ev.ite (fun _=>Ev.bind (Kz t ht hs lo gl code _ hb.1 hb.2) (Ev.congr (fun k=>by rw [wP];rfl) (Ev.now _))) fun _=>?_
    exact Ev.ite (fun _=>Ev.bind (Kz t ht hs lo gl code _ ha.1 ha.2) (Ev.congr (fun k=>by rw [wP];rfl) (Ev.now _))) fun _=>Ev.now _
  refine Ev.bind (vg t ht hs lo gl code a ha.1 ha.2) (Ev.bind (vg t ht hs lo gl code b hb.1 hb.2) ?_)
  exact Ev.ite (fun _=>j _) fun _=>j _
theorem wS (a:Int):oD [a]=decide (a < 8):=by
  show (decide (a < 8) && true)=_
  rw [Bool.and_true]
theorem WG (a b c:Int):oD [a,b,c]=(if a < 8 then (if b < 8 then decide (c < 8) else false) else false):=by
  show (decide (a < 8) && (decide (b < 8) && (decide (c < 8) && true)))=_
  by_cases h:a < 8 <;> by_cases h2:b < 8 <;> simp [h,h2]
theorem LG (t:List ByteArray) (lo gl:ByteArray) (o a b c n:Int) (h:1≤o∧o≤15):(Cc o a b c && Jb t lo gl o a b c n)=mY t lo gl o a b c n:=by
  have hh:o=1 ∨ o=2 ∨ o=3 ∨ o=4 ∨ o=5 ∨ o=6 ∨ o=7 ∨ o=8 ∨ o=9 ∨ o=10 ∨ o=11 ∨ o=12 ∨ o=13 ∨ o=14 ∨ o=15:=by omega
  rcases hh with rfl|rfl|rfl|rfl|rfl|rfl|rfl|rfl|rfl|rfl|rfl|rfl|rfl|rfl|rfl
  · show (decide (a < 8) && true)=oD [a]
    rw [wS,Bool.and_true]
  · show ((if a < 8 then (if b < 8 then decide (c < 8) else false) else false) && true)=oD [a,b,c]
    rw [WG,Bool.and_true]
  · rfl
  · show (decide (a < 8) && true)=oD [a]
    rw [wS,Bool.and_true]
  · show (true && _)=_
    rw [Bool.true_and];rfl
  · show (true && _)=_
    rw [Bool.true_and];rfl
  · show (true && _)=_
    rw [Bool.true_and];rfl
  · show (decide (a < 8) && (if bP t lo b ≥ 0 then o8 t (bP t lo b) n else false))=(if oD [a]=true then qF t (bP t lo b) n else false)
    rw [wS,zh]
    cases decide (a < 8) <;> rfl
  · show (decide (b < 8) && (if bP t lo a ≥ 0 then o8 t (bP t lo a) n else false))=(if oD [b]=true then qF t (bP t lo a) n else false)
    rw [wS,zh]
    cases decide (b < 8) <;> rfl
  · show (true && (if bP t lo b ≥ 0 then o7 (bP t lo a) (Eg t (bP t lo b) n) else false))=o7 (bP t lo a) (oN t (bP t lo b) n).1
    rw [MN,Bool.true_and]
  · show (true && (if bP t lo a ≥ 0 then o7 (bP t lo b) (Eg t (bP t lo a) n) else false))=o7 (bP t lo b) (oN t (bP t lo a) n).1
    rw [MN,Bool.true_and]
  · show (true && _)=_
    rw [Bool.true_and];rfl
  · show (true && _)=_
    rw [Bool.true_and];rfl
  · show (decide (a < 8) && true)=oD [a]
    rw [wS,Bool.and_true]
  · show (decide (a < 8) && o7 (bP t lo b) (bP t lo c))=(if oD [a]=true then o7 (bP t lo b) (bP t lo c) else false)
    rw [wS]
    cases decide (a < 8) <;> rfl
end Go.Proofs.YtgfnpdfhdgenbaaDoor.P
end
section
namespace Go.Proofs.YtgfnpdfhdgenbaaDoor.P
open Go Go.RowKit Go.Proofs.ae.bf Go.Proofs.ae.bY Go.Proofs.ae.cZ
def Bs (w:List UInt8):ByteArray:=⟨w.toArray⟩
theorem Uy (s:ByteArray):Bs s.data.toList=s:=by cases s;rfl
theorem nG (w:List UInt8):(Bs w).toList=w:=by rw [ByteArray.toList_eq];rfl
theorem iU (w:List UInt8):(Bs w).size=w.length:=by simp [Bs,ByteArray.size]
theorem Fb (w:List UInt8) (i:Nat) (c:UInt8) (h:w[i]? = some c):bt (Bs w) (i:Int)=(c.toNat:Int):=by
  obtain ⟨hl,hc⟩:=List.getElem?_eq_some_iff.1 h
  have hs:((i:Int)).toNat < (Bs w).size:=by rw [Int.toNat_natCast,iU];exact hl
  unfold bt
  rw [dif_pos hs]
  have:(Bs w)[((i:Int)).toNat]'hs=c:=by rw [← hc];rfl
  rw [this]
theorem sQ (i:Nat) (h:i < 4611686018427387904):wrap64 ((i:Int)+1)=((i+1:Nat):Int):=by unfold wrap64;omega
theorem zB (w:List UInt8) (a b:Nat):(Bs w).extract a b=Bs ((w.drop a).take (b - a)):=by
  rw [← Uy ((Bs w).extract a b)]
  refine congrArg Bs ?_
  rw [ByteArray.data_extract,Array.toList_extract]
  rfl
def Cb (c:UInt8):Bool:=decide (48≤c.toNat∧c.toNat≤57)
def oI (acc:Nat) (D:List UInt8):Nat:=D.foldl (fun a c=>a * 10+(c.toNat - 48)) acc
theorem uf (acc:Nat) (c:UInt8) (r:List UInt8):oI acc (c :: r)=oI (acc * 10+(c.toNat - 48)) r:=by
  unfold oI
  rw [List.foldl_cons]
theorem Au (acc:Nat) (D:List UInt8) (c:UInt8):oI acc (D++[c])=oI acc D * 10+(c.toNat - 48):=by
  unfold oI
  rw [List.foldl_append,List.foldl_cons,List.foldl_nil]
theorem Nu (a q:Nat):a * (q * 10)=a * 10 * q:=by rw [Nat.mul_comm q 10,← Nat.mul_assoc]
theorem IW:∀ (D:List UInt8),(∀ c ∈ D,Cb c=true)→∀ acc:Nat,oI acc D < (acc+1) * 10 ^ D.length
  | [],_,acc=>by
    show acc < (acc+1) * 1
    omega
  | c :: r,h,acc=>by
    have h1:=IW r (fun x hx=>h x (List.mem_cons_of_mem _ hx)) (acc * 10+(c.toNat - 48))
    have hc:48≤c.toNat∧c.toNat≤57:=of_decide_eq_true (h c (List.mem_cons_self ..))
    rw [uf]
    have e:(acc+1) * 10 ^ (c :: r).length=(acc+1) * 10 * 10 ^ r.length:=by
      rw [List.length_cons,Nat.pow_succ]
      exact Nu _ _
    rw [e]
    refine Nat.lt_of_lt_of_le h1 ?_
    generalize 10 ^ r.length=q
    exact Nat.mul_le_mul_right q (by omega)
theorem MM (D:List UInt8) (acc:Nat):acc * 10 ^ D.length≤oI acc D:=by
  induction D generalizing acc with
  | nil=>simp [oI]
  | cons c r ih =>
    rw [uf]
    refine Nat.le_trans ?_ (ih _)
    rw [List.length_cons,Nat.pow_succ,Nat.mul_comm (10 ^ r.length) 10,← Nat.mul_assoc]
    exact Nat.mul_le_mul_right _ (by omega)
def NG (neg:Bool) (u:Nat):Bool:=if neg then decide (u≤9223372036854775808) else decide (u < 9223372036854775808)
def UF (neg:Bool) (u:Nat):Int:=if neg then -(u:Int) else u
theorem ZM (c:UInt8) (r:List UInt8):bt (Bs (c :: r)) 0=(c.toNat:Int):=Fb (c :: r) 0 c rfl
theorem Oy (D:List UInt8) (hD:D.length≤100000):∀ (d i:Nat),i+d=D.length→Ev (fun k=>az.l0 k (Bs D) (i:Int)) ((D.drop i).all Cb)
  | 0,i,hi=>by
    rw [List.drop_eq_nil_of_le (by omega)]
    refine Ev.step (f:=fun _=>some true) (fun k=>?_) (Ev.now _)
    simp only [az.l0]
    rw [iU,if_neg (by omega)]
  | d+1,i,hi=>by
    have hlt:i < D.length:=by omega
    have hc:D[i]? = some D[i]:=List.getElem?_eq_getElem hlt
    have hdr:D.drop i=D[i] :: D.drop (i+1):=List.drop_eq_getElem_cons hlt
    generalize D[i]=c at hc hdr
    have hb:=Fb D i c hc
    rw [hdr,List.all_cons]
    have ih:=Oy D hD d (i+1) (by omega)
    cases hd:Cb c with
    | true =>
      have h2:=hd
      simp only [Cb,decide_eq_true_eq] at h2
      rw [Bool.true_and]
      refine Ev.step (fun k=>?_) ih
      conv=>lhs;simp only [az.l0]
      rw [iU,if_pos (by omega),if_pos (by omega),hb,if_neg (by omega),if_neg (by omega),sQ i (by omega)]
    | false =>
      have h2:=hd
      simp only [Cb,decide_eq_false_iff_not] at h2
      rw [Bool.false_and]
      refine Ev.step (f:=fun _=>some false) (fun k=>?_) (Ev.now _)
      conv=>lhs;simp only [az.l0]
      rw [iU,if_pos (by omega),if_pos (by omega),hb]
      by_cases h3:(c.toNat:Int) < 48
      · rw [if_pos h3]
      · rw [if_neg h3,if_pos (by omega)]
theorem Xy (w D:List UInt8) (hD:D.length≤100000):Ev (fun k=>az.j1 k (Bs w) (Bs D)) (!D.isEmpty && !(D.head? == some 48 && decide (1 < D.length ∨ 1 < w.length)) && D.all Cb):=by
  cases D with
  | nil =>
    refine Ev.step (f:=fun k=>az.j2 k (Bs []) true) (fun k=>?_) (Ev.step (f:=fun _=>some false) (fun k=>?_) (Ev.now _))
    · conv=>lhs;simp only [az.j1]
      rw [nG,if_pos rfl]
    · simp only [az.j2]
      rw [if_pos trivial]
  | cons c r =>
    have hb:=ZM c r
    have h0:=Oy (c :: r) hD (c :: r).length 0 (Nat.zero_add _)
    rw [List.drop_zero] at h0
    have fin:∀ b:Bool,Ev (fun k=>az.j2 k (Bs (c :: r)) b) (!b && (c :: r).all Cb):=by
      intro b
      cases b with
      | true=>exact Ev.step (f:=fun _=>some false) (fun k=>by simp only [az.j2];rw [if_pos trivial]) (Ev.now _)
      | false=>exact Ev.step (fun k=>by simp only [az.j2];rw [if_neg (by simp)]) (by rw [Bool.not_false,Bool.true_and];exact h0)
    have hlen:(Bs (c :: r)).size=(c :: r).length:=iU _
    by_cases h48:c=48
    · subst h48
      by_cases hr:1 < ((48:UInt8) :: r).length
      · have:=fin true
        refine Ev.step (f:=fun k=>az.j2 k (Bs (48 :: r)) true) (fun k=>?_) ?_
        · conv=>lhs;simp only [az.j1]
          rw [nG,if_neg (by simp),hlen,if_pos (by simp only [List.length_cons];omega),hb,if_pos (by decide),if_pos (by omega)]
        · rw [show (!((48:UInt8) :: r).isEmpty && !(((48:UInt8) :: r).head? == some 48 && decide (1 < ((48:UInt8) :: r).length ∨ 1 < w.length)) && ((48:UInt8) :: r).all Cb)=(!true && ((48:UInt8) :: r).all Cb) from by rw [decide_eq_true (Or.inl hr)];simp]
          exact this
      · refine Ev.step (f:=fun k=>az.j2 k (Bs (48 :: r)) (decide (1 < w.length))) (fun k=>?_) ?_
        · conv=>lhs;simp only [az.j1]
          rw [nG,if_neg (by simp),hlen,if_pos (by simp only [List.length_cons];omega),hb,if_pos (by decide),if_neg (by omega),iU]
          congr 1
          exact decide_eq_decide.2 (by omega)
        · have hd:decide (1 < ((48:UInt8) :: r).length ∨ 1 < w.length)=decide (1 < w.length):=decide_eq_decide.2 ⟨fun h=>h.resolve_left hr,Or.inr⟩
          rw [hd]
          have:=fin (decide (1 < w.length))
          simpa using this
    · have hne:¬ (c.toNat:Int)=48:=fun h=>h48 (UInt8.toNat_inj.1 (by show c.toNat=48;omega))
      refine Ev.step (f:=fun k=>az.j2 k (Bs (c :: r)) false) (fun k=>?_) ?_
      · conv=>lhs;simp only [az.j1]
        rw [nG,if_neg (by simp),hlen,if_pos (by simp only [List.length_cons];omega),hb,if_neg hne]
      · have:=fin false
        have hcb:(c == 48)=false:=by simp [h48]
        simpa [hcb] using this
theorem IZ (n:Nat) (h:n < 18446744073709551616):IntKind.u64.wrap (n:Int)=(n:Int):=by
  have:IntKind.u64.wrap (n:Int)=(n:Int) % 18446744073709551616:=rfl
  rw [this]
  omega
theorem Nq (D:List UInt8) (hD:D.length≤100000) (h:∀ c ∈ D,Cb c=true) (neg:Bool) (r:Int × Int) (hr:Ev (fun k=>aA.j2 k (Bs D) neg ((oI 0 (D.take 19):Nat):Int)) r) :
    ∀ (d i:Nat),i+d=19→i≤D.length→Ev (fun k=>aA.l0 k (Bs D) neg ((oI 0 (D.take i):Nat):Int) (i:Int)) r
  | 0,i,hi,hl=>by
    obtain rfl:i=19:=by omega
    refine Ev.step (fun k=>?_) hr
    conv=>lhs;simp only [aA.l0]
    rw [iU]
    by_cases hlt:(((19:Nat):Nat):Int) < (D.length:Int)
    · rw [if_pos hlt,if_neg (by omega)]
    · rw [if_neg hlt]
  | d+1,i,hi,hl=>by
    by_cases hlt:i < D.length
    · have hc:D[i]? = some D[i]:=List.getElem?_eq_getElem hlt
      have hm:=h D[i] (List.getElem_mem hlt)
      have htk:D.take (i+1)=D.take i++[D[i]]:=List.take_succ_eq_append_getElem hlt
      generalize D[i]=c at hc hm htk
      have hb:=Fb D i c hc
      have hv:oI 0 (D.take (i+1))=oI 0 (D.take i) * 10+(c.toNat - 48):=by rw [htk,Au]
      have hlim:oI 0 (D.take i) < 1000000000000000000:=by
        have h1:=IW (D.take i) (fun x hx=>h x (List.mem_of_mem_take hx)) 0
        have h2:(D.take i).length≤18:=by rw [List.length_take];omega
        have h3:10 ^ (D.take i).length≤10 ^ 18:=Nat.pow_le_pow_right (by omega) h2
        have h4:(10:Nat) ^ 18=1000000000000000000:=by decide
        omega
      have ih:=Nq D hD h neg r hr d (i+1) (by omega) (by omega)
      refine Ev.step (fun k=>?_) ih
      conv=>lhs;simp only [aA.l0]
      simp only [Cb,decide_eq_true_eq] at hm
      rw [iU,if_pos (by omega),if_pos (by omega),if_pos (by omega),hb,sQ i (by omega)]
      rw [hv]
      generalize oI 0 (D.take i)=v at hlim ⊢
      have u1:IntKind.u64.wrap ((v:Int) * 10)=((v * 10:Nat):Int):=by
        rw [show (v:Int) * 10=((v * 10:Nat):Int) from by omega]
        exact IZ _ (by omega)
      have u2:IntKind.u64.wrap (((v * 10:Nat):Int)+((c.toNat:Int) - 48) % 256)=((v * 10+(c.toNat - 48):Nat):Int):=by
        rw [show ((v * 10:Nat):Int)+((c.toNat:Int) - 48) % 256=((v * 10+(c.toNat - 48):Nat):Int) from by omega]
        exact IZ _ (by omega)
      rw [u1,u2]
    · have e:D.take i=D.take 19:=by
        rw [List.take_of_length_le (by omega),List.take_of_length_le (by omega)]
      rw [e]
      refine Ev.step (fun k=>?_) hr
      conv=>lhs;simp only [aA.l0]
      rw [iU,if_neg (by omega)]
theorem Ez {c:UInt8} {r:List UInt8} (hc:Cb c=true) (h48:c ≠ 48):10 ^ r.length≤oI 0 (c :: r):=by
  rw [uf]
  have hd:48≤c.toNat∧c.toNat≤57:=of_decide_eq_true hc
  have hne:c.toNat ≠ 48:=fun h=>h48 (UInt8.toNat_inj.1 h)
  have h1:=MM r (0 * 10+(c.toNat - 48))
  refine Nat.le_trans ?_ h1
  generalize 10 ^ r.length=q
  have:1 * q≤(0 * 10+(c.toNat - 48)) * q:=Nat.mul_le_mul_right q (by omega)
  omega
theorem UH:(10:Nat) ^ 19=10000000000000000000:=by decide
theorem Wv (D:List UInt8) (hD:D.length≤100000) (hd:∀ c ∈ D,Cb c=true) (hz:D.head? = some 48→D.length≤1) (neg:Bool) :
    Ev (fun k=>aA.j2 k (Bs D) neg ((oI 0 (D.take 19):Nat):Int)) (if NG neg (oI 0 D) then (UF neg (oI 0 D),0) else (0,3)):=by
  have j3t:∀ x:Int,∀ b:Bool,b=true→Ev (fun k=>aA.j3 k neg x b) (0,3):=by
    rintro x b rfl
    exact Ev.step (f:=fun _=>some _) (fun k=>by simp only [aA.j3];rw [if_pos trivial]) (Ev.now _)
  by_cases hl:19 < D.length
  · have hb:NG neg (oI 0 D)=false:=by
      cases D with
      | nil=>simp at hl
      | cons c r =>
        have h48:c ≠ 48:=by rintro rfl;have:=hz rfl;omega
        have h1:=Ez (r:=r) (hd c (by simp)) h48
        have h2:(10:Nat) ^ 19≤10 ^ r.length:=Nat.pow_le_pow_right (by omega) (by rw [List.length_cons] at hl;omega)
        rw [UH] at h2
        unfold NG
        cases neg <;> simp <;> omega
    rw [hb,if_neg (by simp)]
    refine Ev.step (f:=fun k=>aA.j3 k neg ((oI 0 (D.take 19):Nat):Int) (decide (((Bs D).size:Int) > 19))) (fun k=>?_) (j3t _ _ (decide_eq_true (by rw [iU];omega)))
    conv=>lhs;simp only [aA.j2]
    rw [if_pos (by rw [iU];omega)]
  · have htk:D.take 19=D:=List.take_of_length_le (by omega)
    rw [htk]
    generalize oI 0 D=u
    by_cases h1:9223372036854775808 < u
    · have hb:NG neg u=false:=by unfold NG;cases neg <;> simp <;> omega
      rw [hb,if_neg (by simp)]
      refine Ev.step (f:=fun k=>aA.j3 k neg (u:Int) (decide ((u:Int) > 9223372036854775808))) (fun k=>?_) (j3t _ _ (decide_eq_true (by omega)))
      conv=>lhs;simp only [aA.j2]
      rw [if_neg (by rw [iU];omega),if_pos (by omega)]
    · by_cases h2:u=9223372036854775808
      · subst h2
        refine Ev.step (f:=fun k=>aA.j3 k neg (((9223372036854775808:Nat):Nat):Int) (!neg)) (fun k=>?_) ?_
        · conv=>lhs;simp only [aA.j2]
          rw [if_neg (by rw [iU];omega),if_neg (by omega),if_pos (by omega)]
        · cases neg with
          | false=>exact j3t _ _ rfl
          | true =>
            refine Ev.step (f:=fun _=>some _) (fun k=>?_) (Ev.now _)
            simp only [aA.j3]
            have hi:NG true 9223372036854775808=true:=by decide
            have hw:wrap64 (-wrap64 ((9223372036854775808:Nat):Int))=UF true 9223372036854775808:=by unfold UF wrap64;rw [if_pos rfl];omega
            rw [if_neg (by simp),if_pos trivial,if_pos hi,hw]
      · have hb:NG neg u=true:=by unfold NG;cases neg <;> simp <;> omega
        rw [hb,if_pos rfl]
        refine Ev.step (f:=fun k=>aA.j3 k neg (u:Int) false) (fun k=>?_) (Ev.step (f:=fun _=>some _) (fun k=>?_) (Ev.now _))
        · conv=>lhs;simp only [aA.j2]
          rw [if_neg (by rw [iU];omega),if_neg (by omega),if_neg (by omega)]
        · simp only [aA.j3]
          have hw:wrap64 (u:Int)=u:=by unfold wrap64;omega
          rw [if_neg (by simp),hw]
          cases neg with
          | true =>
            have hw2:wrap64 (-(u:Int))=-(u:Int):=by unfold wrap64;omega
            rw [if_pos rfl,hw2]
            rfl
          | false=>rw [if_neg (by simp)];rfl
theorem EO (d:Nat) (h:d < 10):(UInt8.ofNat (48+d)).toNat=48+d:=by
  have:(UInt8.ofNat (48+d)).toNat=(48+d) % 256:=UInt8.toNat_ofNat'
  omega
theorem Bl (n:Nat):∀ u:Nat,u≤n→(∀ c ∈ Lib.decDigits u,Cb c=true)∧Lib.decDigits u ≠ []∧oI 0 (Lib.decDigits u)=u∧((Lib.decDigits u).head? = some 48→u=0):=by
  induction n with
  | zero =>
    intro u hu
    obtain rfl:u=0:=by omega
    rw [Lib.decDigits_one (by omega)]
    refine ⟨by decide,by decide,?_,fun _=>rfl⟩
    decide
  | succ n ih =>
    intro u hu
    by_cases h:u < 10
    · rw [Lib.decDigits_one h]
      have hd:=EO u h
      refine ⟨?_,by simp,?_,?_⟩
      · intro c hc
        rw [List.mem_singleton.1 hc]
        unfold Cb
        rw [hd]
        exact decide_eq_true (by omega)
      · rw [uf,hd]
        show 0 * 10+(48+u - 48)=u
        omega
      · intro hh
        simp only [List.head?_cons,Option.some.injEq] at hh
        have:=congrArg UInt8.toNat hh
        rw [hd] at this
        have h48:(48:UInt8).toNat=48:=rfl
        omega
    · have ih':=ih (u / 10) (by omega)
      rw [Lib.decDigits,dif_neg h]
      have hd:=EO (u % 10) (by omega)
      refine ⟨?_,by simp,?_,?_⟩
      · intro c hc
        rcases List.mem_append.1 hc with hc|hc
        · exact ih'.1 c hc
        · rw [List.mem_singleton.1 hc]
          unfold Cb
          rw [hd]
          exact decide_eq_true (by omega)
      · rw [Au,ih'.2.2.1,hd]
        omega
      · intro hh
        have:(Lib.decDigits (u / 10)++[UInt8.ofNat (48+u % 10)]).head? = (Lib.decDigits (u / 10)).head?:=by
          cases hq:Lib.decDigits (u / 10) with
          | nil=>exact absurd hq ih'.2.1
          | cons a b=>rfl
        rw [this] at hh
        have:=ih'.2.2.2 hh
        omega
theorem TV (u:Nat) (h:u≤9223372036854775808):(Lib.decDigits u).length≤20:=by
  have hp:=Bl u u (Nat.le_refl _)
  cases hq:Lib.decDigits u with
  | nil=>simp
  | cons c r =>
    rw [hq] at hp
    by_cases h48:c=48
    · subst h48
      have h0:=hp.2.2.2 rfl
      subst h0
      rw [Lib.decDigits_one (by omega)] at hq
      rw [← hq]
      decide
    · have h1:=Ez (r:=r) (hp.1 c (by simp)) h48
      rw [hp.2.2.1] at h1
      rw [List.length_cons]
      rcases Nat.lt_or_ge r.length 19 with h2|h2
      · omega
      · have h3:(10:Nat) ^ 19≤10 ^ r.length:=Nat.pow_le_pow_right (by omega) h2
        rw [UH] at h3
        omega
theorem LJ (n:Int):∃ neg:Bool,Lib.itoa n=(if neg then 45 :: Lib.decDigits n.natAbs else Lib.decDigits n.natAbs)∧UF neg n.natAbs=n∧(neg=true→n < 0)∧(neg=false→0≤n):=by
  unfold Lib.itoa
  by_cases h:n < 0
  · rw [if_pos h]
    refine ⟨true,rfl,?_,fun _=>h,(fun h=>by cases h)⟩
    unfold UF
    rw [if_pos rfl]
    omega
  · rw [if_neg h]
    refine ⟨false,?_,?_,(fun h=>by cases h),fun _=>by omega⟩
    · rw [if_neg (by simp),show n.toNat=n.natAbs from by omega]
    · unfold UF
      rw [if_neg (by simp)]
      omega
theorem YJ (neg:Bool) (D:List UInt8) (hl:D.length≤10000) (hd:∀ c ∈ D,Cb c=true) (hne:D ≠ []) (hz:D.head? = some 48→D.length≤1∧neg=false) :
    Ev (fun k=>aA.f k (Bs (if neg then 45 :: D else D))) (if NG neg (oI 0 D) then (UF neg (oI 0 D),0) else (0,3)):=by
  have hl0:=Nq D (by omega) hd neg _ (Wv D (by omega) hd (fun h=>(hz h).1) neg) 19 0 rfl (Nat.zero_le _)
  have hj0:Ev (fun k=>aA.j0 k (Bs D) neg) (if NG neg (oI 0 D) then (UF neg (oI 0 D),0) else (0,3)):=Ev.step (fun k=>by simp only [aA.j0];rfl) hl0
  have all:D.all Cb=true:=List.all_eq_true.2 hd
  have emp:D.isEmpty=false:=by cases D with
    | nil=>exact absurd rfl hne
    | cons c r=>rfl
  have good:∀ w:List UInt8,(D.head? = some 48→w.length≤1)→Ev (fun k=>az.j1 k (Bs w) (Bs D)) true:=by
    intro w hw
    refine Ev.out (Xy w D (by omega)) ?_
    rw [all,emp,Bool.and_true,Bool.not_false,Bool.true_and]
    by_cases h:D.head? = some 48
    · rw [decide_eq_false (by have:=hw h;have:=(hz h).1;omega),Bool.and_false];rfl
    · rw [show (D.head? == some 48)=false from beq_eq_false_iff_ne.2 h,Bool.false_and];rfl
  cases neg with
  | true =>
    rw [if_pos rfl]
    have dg:Ev (fun k=>az.f k (Bs (45 :: D))) true:=by
      refine Ev.congr (f:=fun k=>az.j0 k (Bs (45 :: D)) (Bs (45 :: D)) (bt (Bs (45 :: D)) 0 == 45)) (fun k=>?_) ?_
      · unfold az.f
        rw [iU,if_pos (by simp only [List.length_cons];omega),if_pos (by simp only [List.length_cons];omega)]
      · rw [ZM]
        refine Ev.step (fun k=>?_) (good (45 :: D) (fun h=>by cases (hz h).2))
        conv=>lhs;simp only [az.j0]
        rw [iU,if_pos (by decide),if_pos (by simp only [List.length_cons];omega),zB]
        congr 2
        simp
    unfold aA.f
    refine Ev.bind dg (Ev.congr (fun k=>if_pos rfl) ?_)
    refine Ev.congr (fun k=>if_pos (by rw [iU];simp only [List.length_cons];omega)) ?_
    rw [ZM]
    refine Ev.congr (fun k=>?_) hj0
    rw [if_pos (by decide),if_pos (by rw [iU];simp only [List.length_cons];omega),zB,iU]
    have e1:List.take (((45:UInt8) :: D).length - 1) (List.drop 1 ((45:UInt8) :: D))=D:=by simp
    rw [e1]
    rfl
  | false =>
    rw [if_neg (by simp)]
    cases D with
    | nil=>exact absurd rfl hne
    | cons c r =>
      have hc:=hd c (by simp)
      simp only [Cb,decide_eq_true_eq] at hc
      have e45:((c.toNat:Int) == 45)=false:=beq_eq_false_iff_ne.2 (by omega)
      have dg:Ev (fun k=>az.f k (Bs (c :: r))) true:=by
        refine Ev.congr (f:=fun k=>az.j0 k (Bs (c :: r)) (Bs (c :: r)) (bt (Bs (c :: r)) 0 == 45)) (fun k=>?_) ?_
        · unfold az.f
          rw [iU,if_pos (by simp only [List.length_cons];omega),if_pos (by simp only [List.length_cons];omega)]
        · rw [ZM,e45]
          refine Ev.step (fun k=>?_) (good (c :: r) (fun h=>(hz h).1))
          conv=>lhs;simp only [az.j0]
          rw [if_neg (by simp)]
      unfold aA.f
      refine Ev.bind dg (Ev.congr (fun k=>if_pos rfl) ?_)
      refine Ev.congr (fun k=>if_pos (by rw [iU];simp only [List.length_cons];omega)) ?_
      rw [ZM,e45]
      refine Ev.congr (fun k=>?_) hj0
      rw [if_neg (by omega)]
theorem Nr (n:Int) (h0:-9223372036854775808≤n) (h1:n≤9223372036854775807):Ev (fun k=>aA.f k (Bs (Lib.itoa n))) (n,0):=by
  obtain ⟨neg,hi,hs,hn1,hn2⟩:=LJ n
  have hp:=Bl n.natAbs n.natAbs (Nat.le_refl _)
  have hl:=TV n.natAbs (by omega)
  rw [hi]
  refine Ev.out (YJ neg _ (by omega) hp.1 hp.2.1 (fun h=>?_)) ?_
  · have h2:=hp.2.2.2 h
    refine ⟨?_,?_⟩
    · rw [h2,Lib.decDigits_one (by omega)];simp
    · cases neg with
      | true=>have:=hn1 rfl;omega
      | false=>rfl
  · rw [hp.2.2.1,if_pos,hs]
    unfold NG
    cases neg with
    | true=>rw [if_pos rfl];exact decide_eq_true (by omega)
    | false=>rw [if_neg (by simp)];exact decide_eq_true (by have:=hn2 rfl;omega)
end Go.Proofs.YtgfnpdfhdgenbaaDoor.P
end
section
namespace Go.Proofs.YtgfnpdfhdgenbaaDoor.P
open Go Go.RowKit Go.Proofs.ae.bf Go.Proofs.ae.bY Go.Proofs.ae.cZ
def Yw:List (List UInt8 × List UInt8):=[([115,101,116],[97,110]),([97,100,100],[97,98,99]),([106,117,109,112],[110]),([122,101,114,111],[97,110]),([110,101,119],[97]),([110,105,108],[97]),([109,111,118,101],[97,98]),([108,111,97,100,105],[97,98,110]),([115,116,111,114,101,105],[97,110,98]),([108,111,97,100,112],[97,98,110]),([115,116,111,114,101,112],[97,110,98]),([108,111,97,100,103],[97,98]),([115,116,111,114,101,103],[97,98]),([112,114,105,110,116],[97]),([115,97,109,101],[97,98,99])]
def FN (i:Nat):List UInt8:=(Yw.getD i ([],[])).1
def xW (i:Nat):List UInt8:=(Yw.getD i ([],[])).2
theorem ug (i:Nat) (hi:i < 15):dY.f ((i+1:Nat):Int)=some (Bs (FN i),Bs (xW i)):=by
  have hh:i=0 ∨ i=1 ∨ i=2 ∨ i=3 ∨ i=4 ∨ i=5 ∨ i=6 ∨ i=7 ∨ i=8 ∨ i=9 ∨ i=10 ∨ i=11 ∨ i=12 ∨ i=13 ∨ i=14:=by omega
  rcases hh with rfl|rfl|rfl|rfl|rfl|rfl|rfl|rfl|rfl|rfl|rfl|rfl|rfl|rfl|rfl <;> rfl
theorem KY (o:Int) (h:o < 1 ∨ 15 < o):dY.f o=some (⟨#[]⟩,⟨#[]⟩):=by
  unfold dY.f iZ.f
  rw [if_neg (by omega),if_neg (by omega),if_neg (by omega),if_neg (by omega),if_neg (by omega),if_neg (by omega),if_neg (by omega),if_neg (by omega),if_neg (by omega),if_neg (by omega),if_neg (by omega),if_neg (by omega),if_neg (by omega),if_neg (by omega),if_neg (by omega)]
  rfl
theorem YK:∀ i:Fin 15,∀ j:Fin 15,i.val ≠ j.val→FN i.val ≠ FN j.val:=by decide
theorem Qp:∀ i:Fin 15,FN i.val ≠ []:=by decide
theorem Nv:∀ i:Fin 15,(xW i.val).all (fun c=>c == 97 || c == 98 || c == 99 || c == 110)=true∧(xW i.val).length≤3:=by decide
def L4 (l:UInt8):Prop:=l=97 ∨ l=98 ∨ l=99 ∨ l=110
theorem I8 {i:Nat} (hi:i < 15):∀ c ∈ xW i,L4 c:=by
  intro c hc
  have:=List.all_eq_true.1 (Nv ⟨i,hi⟩).1 c hc
  simp only [Bool.or_eq_true,beq_iff_eq] at this
  unfold L4
  rcases this with ((h|h)|h)|h
  · exact .inl h
  · exact .inr (.inl h)
  · exact .inr (.inr (.inl h))
  · exact .inr (.inr (.inr h))
theorem Na (L:List ByteArray) (i:Nat):eG ByteArray.empty L (i:Int)=L.getD i ByteArray.empty:=rfl
set_option linter.unusedSectionVars false
section
variable (a b c n:Int) (ha:0≤a∧a≤255) (hb:0≤b∧b≤255) (hc:0≤c∧c≤255) (hn:-9223372036854775808≤n∧n≤9223372036854775807)
def yY (l:UInt8):Int:=if l=97 then a else if l=98 then b else if l=99 then c else n
def tq (l:UInt8):ByteArray:=Bs (Lib.itoa (yY a b c n l))
def sV (s:Int × Int × Int × Int) (l:UInt8):Int × Int × Int × Int:=if l=97 then (a,s.2.1,s.2.2.1,s.2.2.2) else if l=98 then (s.1,b,s.2.2.1,s.2.2.2) else if l=99 then (s.1,s.2.1,c,s.2.2.2) else (s.1,s.2.1,s.2.2.1,n)
include ha hb hc hn
theorem xn (l:UInt8):-9223372036854775808≤yY a b c n l∧yY a b c n l≤9223372036854775807:=by
  unfold yY
  split
  · omega
  · split
    · omega
    · split <;> omega
theorem Wh (o:Int) (l:UInt8) (hl:L4 l):ja.f o a b c n (l.toNat:Int)=some (yY a b c n l):=by
  have w:∀ x:Int,0≤x∧x≤255→wrap64 x=x:=fun x h=>by unfold wrap64;omega
  unfold ja.f
  rw [w a ha,w b hb,w c hc]
  rcases hl with rfl|rfl|rfl|rfl <;> rfl
theorem Ja (o:Int) (nm lt:List UInt8) (hl:∀ c ∈ lt,L4 c) (hlen:lt.length≤3):∀ d i,i+d=lt.length →
    Ev (fun k=>aW.l0 k (Bs lt) (Bs nm :: (lt.take i).map (tq a b c n)) (i:Nat) o a b c n) (Bs nm :: lt.map (tq a b c n))
  | 0,i,hi=>by
    refine Ev.step (f:=fun _=>some _) (fun k=>?_) (Ev.now _)
    simp only [aW.l0]
    rw [iU,if_neg (by omega),List.take_of_length_le (by omega)]
  | d+1,i,hi=>by
    have hlt:i < lt.length:=by omega
    have hcc:lt[i]? = some lt[i]:=List.getElem?_eq_getElem hlt
    have hm:=hl lt[i] (List.getElem_mem hlt)
    have htk:lt.take (i+1)=lt.take i++[lt[i]]:=List.take_succ_eq_append_getElem hlt
    generalize lt[i]=l at hcc hm htk
    have ih:=Ja o nm lt hl hlen d (i+1) (by omega)
    rw [htk,List.map_append] at ih
    have hr:=xn a b c n ha hb hc hn l
    refine Ev.step (fun k=>?_) ih
    conv=>lhs;simp only [aW.l0]
    rw [iU,if_pos (by omega),if_pos (by omega),Fb lt i l hcc,Wh a b c n ha hb hc hn o l hm,Option.bind_some]
    unfold iE.f
    rw [if_pos rfl,if_pos hr,Option.bind_some,if_pos (by simp only [List.length_cons,List.length_map,List.length_take];omega),sQ i (by omega)]
    rfl
theorem VR (o:Int) (s:Int × Int × Int × Int) (l:UInt8) (hl:L4 l):Ev (fun k=>aV.f k o s.1 s.2.1 s.2.2.1 s.2.2.2 (l.toNat:Int) (yY a b c n l)) (o,(sV a b c n s l).1,(sV a b c n s l).2.1,(sV a b c n s l).2.2.1,(sV a b c n s l).2.2.2,true):=by
  rcases hl with rfl|rfl|rfl|rfl
  · show Ev (fun k=>aV.f k o s.1 s.2.1 s.2.2.1 s.2.2.2 97 a) (o,a,s.2.1,s.2.2.1,s.2.2.2,true)
    refine Ev.congr (f:=fun k=>aV.j0 k 97 a false o s.1 s.2.1 s.2.2.1 s.2.2.2) (fun k=>?_) (Ev.step (f:=fun _=>some _) (fun k=>?_) (Ev.now _))
    · unfold aV.f
      rw [if_neg (by decide),if_neg (by omega),decide_eq_false (by omega)]
    · simp only [aV.j0]
      rw [if_neg (by decide),if_pos trivial,show a % 256=a from by omega]
  · show Ev (fun k=>aV.f k o s.1 s.2.1 s.2.2.1 s.2.2.2 98 b) (o,s.1,b,s.2.2.1,s.2.2.2,true)
    refine Ev.congr (f:=fun k=>aV.j0 k 98 b false o s.1 s.2.1 s.2.2.1 s.2.2.2) (fun k=>?_) (Ev.step (f:=fun _=>some _) (fun k=>?_) (Ev.now _))
    · unfold aV.f
      rw [if_neg (by decide),if_neg (by omega),decide_eq_false (by omega)]
    · simp only [aV.j0]
      rw [if_neg (by decide),if_neg (by decide),if_pos trivial,show b % 256=b from by omega]
  · show Ev (fun k=>aV.f k o s.1 s.2.1 s.2.2.1 s.2.2.2 99 c) (o,s.1,s.2.1,c,s.2.2.2,true)
    refine Ev.congr (f:=fun k=>aV.j0 k 99 c false o s.1 s.2.1 s.2.2.1 s.2.2.2) (fun k=>?_) (Ev.step (f:=fun _=>some _) (fun k=>?_) (Ev.now _))
    · unfold aV.f
      rw [if_neg (by decide),if_neg (by omega),decide_eq_false (by omega)]
    · simp only [aV.j0]
      rw [if_neg (by decide),if_neg (by decide),if_neg (by decide),show c % 256=c from by omega]
  · exact Ev.now _
theorem I5 (o:Int) (nm lt:List UInt8) (hl:∀ c ∈ lt,L4 c) (hlen:lt.length≤3):∀ d i (s:Int × Int × Int × Int),i+d=lt.length →
    Ev (fun k=>aH.l1 k (Bs nm :: lt.map (tq a b c n)) (Bs lt) (i:Nat) o s.1 s.2.1 s.2.2.1 s.2.2.2)
      (o,((lt.drop i).foldl (sV a b c n) s).1,((lt.drop i).foldl (sV a b c n) s).2.1,((lt.drop i).foldl (sV a b c n) s).2.2.1,((lt.drop i).foldl (sV a b c n) s).2.2.2,true)
  | 0,i,s,hi=>by
    refine Ev.step (f:=fun _=>some _) (fun k=>?_) (Ev.now _)
    simp only [aH.l1]
    rw [iU,if_neg (by omega),List.drop_of_length_le (by omega),List.foldl_nil]
  | d+1,i,s,hi=>by
    have hlt:i < lt.length:=by omega
    have hcc:lt[i]? = some lt[i]:=List.getElem?_eq_getElem hlt
    have hm:=hl lt[i] (List.getElem_mem hlt)
    have hdr:lt.drop i=lt[i] :: lt.drop (i+1):=List.drop_eq_getElem_cons hlt
    generalize lt[i]=l at hcc hm hdr
    have hrd:(Bs nm :: lt.map (tq a b c n)).getD (i+1) ByteArray.empty=tq a b c n l:=by
      rw [List.getD_eq_getElem?_getD,List.getElem?_cons_succ,List.getElem?_map,hcc]
      rfl
    have hr:=xn a b c n ha hb hc hn l
    rw [hdr,List.foldl_cons]
    refine Ev.step (f:=fun k=>(aA.f k (Bs (Lib.itoa (yY a b c n l)))).bind fun p=>(aV.f k o s.1 s.2.1 s.2.2.1 s.2.2.2 (l.toNat:Int) p.1).bind fun q=>if p.2=0 then (if q.2.2.2.2.2=true then aH.l1 k (Bs nm :: lt.map (tq a b c n)) (Bs lt) ((i+1:Nat):Int) q.1 q.2.1 q.2.2.1 q.2.2.2.1 q.2.2.2.2.1 else some (0,0,0,0,0,false)) else some (0,0,0,0,0,false)) (fun k=>?_) ?_
    · conv=>lhs;simp only [aH.l1]
      rw [iU,if_pos (by omega),sQ i (by omega),if_pos (by omega),if_pos (by simp only [List.length_cons,List.length_map];omega),Na,hrd,Fb lt i l hcc]
      refine congrArg (Option.bind _) (funext fun p=>?_)
      rw [if_pos (by omega)]
    · refine Ev.bind (Nr _ hr.1 hr.2) (Ev.bind (VR a b c n ha hb hc hn o s l hm) ?_)
      exact I5 o nm lt hl hlen d (i+1) (sV a b c n s l) (by omega)
theorem I7 (j:Nat) (hj:j < 15):∀ d i,i+d=j →
    Ev (fun k=>aH.l0 k (Bs (FN j) :: (xW j).map (tq a b c n)) ((i+1:Nat):Int))
      (((j+1:Nat):Int),((xW j).foldl (sV a b c n) (0,0,0,0)).1,((xW j).foldl (sV a b c n) (0,0,0,0)).2.1,((xW j).foldl (sV a b c n) (0,0,0,0)).2.2.1,((xW j).foldl (sV a b c n) (0,0,0,0)).2.2.2,true)
  | 0,i,hi=>by
    obtain rfl:i=j:=by omega
    have hl:=(Nv ⟨i,hj⟩).2
    have l1:=I5 a b c n ha hb hc hn ((i+1:Nat):Int) (FN i) (xW i) (I8 hj) hl (xW i).length 0 (0,0,0,0) (Nat.zero_add _)
    rw [List.drop_zero] at l1
    refine Ev.step (f:=fun k=>aH.j1 k (Bs (FN i) :: (xW i).map (tq a b c n)) ((i+1:Nat):Int) (Bs (xW i)) false) (fun k=>?_) (Ev.step (fun k=>?_) l1)
    · conv=>lhs;simp only [aH.l0]
      rw [if_pos (by omega),ug i hj,Option.bind_some,if_pos (by simp only [List.length_cons];omega)]
      refine (if_pos rfl).trans ?_
      refine congrArg (aH.j1 k _ _ _) ?_
      have hl':(xW i).length≤3:=hl
      rw [iU,sQ _ (by omega),List.length_cons,List.length_map]
      simp
    · conv=>lhs;simp only [aH.j1]
      rw [if_neg (by decide)]
      rfl
  | d+1,i,hi=>by
    have ih:=I7 j hj d (i+1) (by omega)
    have hne:FN j ≠ FN i:=YK ⟨j,hj⟩ ⟨i,by omega⟩ (by show j ≠ i;omega)
    refine Ev.step (f:=fun k=>aH.j1 k (Bs (FN j) :: (xW j).map (tq a b c n)) ((i+1:Nat):Int) (Bs (xW i)) true) (fun k=>?_) (Ev.step (fun k=>?_) ih)
    · conv=>lhs;simp only [aH.l0]
      rw [if_pos (by omega),ug i (by omega),Option.bind_some,if_pos (by simp only [List.length_cons];omega)]
      rw [if_neg]
      show ¬ (Bs (FN j)).toList=(Bs (FN i)).toList
      rw [nG,nG]
      exact hne
    · conv=>lhs;simp only [aH.j1]
      rw [if_pos trivial,show (((i+1:Nat):Int)+1) % 256=((i+1+1:Nat):Int) from by omega]
end
theorem ahq (i:Nat) (hi:i < 15) (a b c n:Int) :
    (((i+1:Nat):Int) == ((i+1:Nat):Int) && (((xW i).foldl (sV a b c n) (0,0,0,0)).1 == a && (((xW i).foldl (sV a b c n) (0,0,0,0)).2.1 == b && (((xW i).foldl (sV a b c n) (0,0,0,0)).2.2.1 == c && ((xW i).foldl (sV a b c n) (0,0,0,0)).2.2.2 == n))))=sS ⟨((i+1:Nat):Int),a,b,c,n⟩:=by
  have z:∀ x:Int,((0:Int) == x)=(x == 0):=fun x=>by rw [Bool.beq_comm]
  have e:∀ x:Int,(x == x)=true:=fun x=>beq_self_eq_true x
  have hh:i=0 ∨ i=1 ∨ i=2 ∨ i=3 ∨ i=4 ∨ i=5 ∨ i=6 ∨ i=7 ∨ i=8 ∨ i=9 ∨ i=10 ∨ i=11 ∨ i=12 ∨ i=13 ∨ i=14:=by omega
  have go:∀ (A B C D:Bool) (F:Int × Int × Int × Int),(F.1=if A then a else 0)→(F.2.1=if B then b else 0)→(F.2.2.1=if C then c else 0)→(F.2.2.2=if D then n else 0) →
      (((i+1:Nat):Int) == ((i+1:Nat):Int) && (F.1 == a && (F.2.1 == b && (F.2.2.1 == c && F.2.2.2 == n))))=((B || b == 0) && (C || c == 0) && (D || n == 0) && (A || a == 0)):=by
    intro A B C D F h1 h2 h3 h4
    rw [h1,h2,h3,h4,e,Bool.true_and]
    have k:∀ (P:Bool) (x:Int),((if P then x else 0) == x)=(P || x == 0):=fun P x=>by
      cases P
      · rw [if_neg (by decide),z,Bool.false_or]
      · rw [if_pos rfl,e,Bool.true_or]
    rw [k,k,k,k]
    cases (A || a == 0) <;> cases (B || b == 0) <;> cases (C || c == 0) <;> cases (D || n == 0) <;> rfl
  rcases hh with rfl|rfl|rfl|rfl|rfl|rfl|rfl|rfl|rfl|rfl|rfl|rfl|rfl|rfl|rfl
  · exact go true false false true _ rfl rfl rfl rfl
  · exact go true true true false _ rfl rfl rfl rfl
  · exact go false false false true _ rfl rfl rfl rfl
  · exact go true false false true _ rfl rfl rfl rfl
  · exact go true false false false _ rfl rfl rfl rfl
  · exact go true false false false _ rfl rfl rfl rfl
  · exact go true true false false _ rfl rfl rfl rfl
  · exact go true true false true _ rfl rfl rfl rfl
  · exact go true true false true _ rfl rfl rfl rfl
  · exact go true true false true _ rfl rfl rfl rfl
  · exact go true true false true _ rfl rfl rfl rfl
  · exact go true true false false _ rfl rfl rfl rfl
  · exact go true true false false _ rfl rfl rfl rfl
  · exact go true false false false _ rfl rfl rfl rfl
  · exact go true true true false _ rfl rfl rfl rfl
theorem MZ (x:gY) (ha:0≤x.f1∧x.f1≤255) (hb:0≤x.f2∧x.f2≤255) (hc:0≤x.f3∧x.f3≤255) (hn:-9223372036854775808≤x.f4∧x.f4≤9223372036854775807) :
    Ev (fun k=>dI.f k x.f0 x.f1 x.f2 x.f3 x.f4) (sS x):=by
  obtain ⟨o,a,b,c,n⟩:=x
  dsimp only at ha hb hc hn ⊢
  by_cases h:o < 1 ∨ 15 < o
  · refine Ev.congr (f:=fun _=>some false) (fun k=>?_) (Ev.out (Ev.now _) ?_)
    · unfold dI.f
      rw [KY o h,Option.bind_some]
      exact if_pos (nG [])
    · unfold sS
      dsimp only
      by_cases h1:o < 1
      · rw [if_pos h1]
      · rw [if_neg h1,if_pos (by omega)]
  · obtain ⟨m,rfl⟩:=Int.eq_ofNat_of_zero_le (show 0≤o by omega)
    obtain ⟨i,rfl⟩:∃ i,m=i+1:=⟨m - 1,by omega⟩
    have hi:i < 15:=by omega
    have hl:=(Nv ⟨i,hi⟩).2
    have hln:=Ja a b c n ha hb hc hn ((i+1:Nat):Int) (FN i) (xW i) (I8 hi) hl (xW i).length 0 (Nat.zero_add _)
    have hrd:=I7 a b c n ha hb hc hn i hi i 0 (Nat.zero_add _)
    have Y4:Ev (fun k=>aW.f k ((i+1:Nat):Int) a b c n) (Bs (FN i) :: (xW i).map (tq a b c n)):=by
      refine Ev.congr (fun k=>?_) hln
      unfold aW.f
      rw [ug i hi,Option.bind_some]
      rfl
    have hread:Ev (fun k=>aH.f k (Bs (FN i) :: (xW i).map (tq a b c n))) _:=hrd
    refine Ev.congr (f:=fun k=>(aW.f k ((i+1:Nat):Int) a b c n).bind fun t140=>((aH.f k t140).bind fun Bv=>(if Bv.2.2.2.2.2=true then (some (Bv.1 == ((i+1:Nat):Int) && (Bv.2.1 == a && (Bv.2.2.1 == b && (Bv.2.2.2.1 == c && (Bv.2.2.2.2.1 == n)))))) else (some false)))) (fun k=>?_) (Ev.bind Y4 (Ev.bind hread ?_))
    · unfold dI.f
      rw [ug i hi,Option.bind_some]
      refine if_neg ?_
      show ¬ (Bs (FN i)).toList=_
      rw [nG]
      exact Qp ⟨i,hi⟩
    · refine Ev.congr (fun k=>if_pos rfl) (Ev.out (Ev.now _) ?_)
      exact ahq i hi a b c n
end Go.Proofs.YtgfnpdfhdgenbaaDoor.P
end
section
namespace Go.Proofs.YtgfnpdfhdgenbaaDoor.P
open Go.RowKit Go.Proofs.ae.bf Go.Proofs.ae.bY Go.Proofs.ae.cZ
theorem xC (a b:ByteArray) (j:Nat) (h:j < a.size):bt (a++b) j=bt a j:=by
  unfold bt
  rw [dif_pos (show ((j:Int)).toNat < (a++b).size by rw [ByteArray.size_append];omega),dif_pos (show ((j:Int)).toNat < a.size by omega)]
  rw [ByteArray.getElem_append_left]
theorem wu (a b:ByteArray) (j:Nat) (h:j < b.size):bt (a++b) ((a.size+j:Nat):Int)=bt b j:=by
  unfold bt
  rw [dif_pos (show (((a.size+j:Nat):Int)).toNat < (a++b).size by rw [ByteArray.size_append];omega),dif_pos (show ((j:Int)).toNat < b.size by omega)]
  rw [ByteArray.getElem_append_right (by rw [Int.toNat_natCast];omega)]
  congr 3
  rw [Int.toNat_natCast,Int.toNat_natCast]
  omega
theorem Ld (t:List ByteArray) (lo gl:ByteArray):sU t (lo++gl)=(sU t lo && sU t gl):=by
  have:allB (lo++gl).size (fun i=>decide (0≤nJ (bt (lo++gl) i) t.length))=(allB lo.size (fun i=>decide (0≤nJ (bt lo i) t.length)) && allB gl.size (fun i=>decide (0≤nJ (bt gl i) t.length))):=by
    rw [Bool.eq_iff_iff,Bool.and_eq_true,nZ,nZ,nZ,ByteArray.size_append]
    constructor
    · intro h
      refine ⟨fun j hj=>?_,fun j hj=>?_⟩
      · have:=h j (by omega)
        rwa [xC lo gl j hj] at this
      · have:=h (lo.size+j) (by omega)
        rwa [wu lo gl j hj] at this
    · rintro ⟨h1,h2⟩ j hj
      by_cases h:j < lo.size
      · rw [xC lo gl j h]
        exact h1 j h
      · obtain ⟨q,rfl⟩:∃ q,j=lo.size+q:=⟨j - lo.size,by omega⟩
        rw [wu lo gl q (by omega)]
        exact h2 q (by omega)
  unfold sU
  rw [this]
  cases jH t <;> simp
def WfN (code:List gY):Prop:=∀ i:Nat,-9223372036854775808≤(code.getD i z45).f4∧(code.getD i z45).f4≤9223372036854775807
theorem La {x:gY} (h:sS x=true):1≤x.f0∧x.f0≤15:=by
  unfold sS at h
  by_cases h1:x.f0 < 1
  · rw [if_pos h1] at h;cases h
  · by_cases h2:x.f0 > 15
    · rw [if_neg h1,if_pos h2] at h;cases h
    · omega
section
variable (t:List ByteArray) (lo gl:ByteArray) (code:List gY) (ht:t.length≤9223372036854775807) (hs:∀ i:Int,(eG ByteArray.empty t i).size≤9223372036854775807)
  (hn:code.length≤9223372036854775807) (hw:Z7 code) (hwn:WfN code)
include ht hs hn hw hwn
theorem EP:Ev (fun k=>au.l0 k 0 t lo gl code) (xg t lo gl code):=by
  have agN:∀ i:Nat,aC code (i:Int)=code.getD i z45:=fun i=>rfl
  have j4:∀ (i:Nat) (x:Bool) (r r':Int × Int),i < code.length→1≤(code.getD i z45).f0∧(code.getD i z45).f0≤15→(x=false→uP t lo gl (code.getD i z45)=true→Ev (fun k=>au.l0 k ((i+1:Nat):Int) t lo gl code) r) →
      r'=(if x=true then ((i:Int),12) else if uP t lo gl (code.getD i z45)=true then r else ((i:Int),5)) →
      Ev (fun k=>au.j4 k (i:Int) x t lo gl code (code.getD i z45).f0 (code.getD i z45).f1 (code.getD i z45).f2 (code.getD i z45).f3 (code.getD i z45).f4) r':=by
    intro i x r r' hi ho hr e
    rw [e]
    refine Ev.step (fun k=>by simp only [au.j4];rfl) ?_
    refine Ev.ite (fun _=>Ev.now _) fun hx=>?_
    have ke:=LG t lo gl (code.getD i z45).f0 (code.getD i z45).f1 (code.getD i z45).f2 (code.getD i z45).f3 (code.getD i z45).f4 ho
    have hk:uP t lo gl (code.getD i z45)=mY t lo gl (code.getD i z45).f0 (code.getD i z45).f1 (code.getD i z45).f2 (code.getD i z45).f3 (code.getD i z45).f4:=rfl
    rw [← hk] at ke
    refine Ev.bind (Qx _ _ _ _ _) ?_
    cases hin:Cc (code.getD i z45).f0 (code.getD i z45).f1 (code.getD i z45).f2 (code.getD i z45).f3 with
    | false =>
      rw [hin,Bool.false_and] at ke
      rw [← ke,if_neg (by decide)]
      exact Ev.congr (fun k=>if_neg (by decide)) (Ev.now _)
    | true =>
      rw [hin,Bool.true_and] at ke
      refine Ev.congr (fun k=>if_pos rfl) ?_
      refine Ev.bind (NC t lo gl code _ _ _ _ _ ht hs (hw i).1 (hw i).2.1 (hw i).2.2) ?_
      rw [ke]
      refine Ev.ite (fun h=>?_) (fun _=>Ev.now _)
      rw [wrapN hi hn]
      exact hr (by simpa using hx) h
  have Nc:∀ (i:Nat) (r r':Int × Int),i < code.length→(qM t lo gl code.length (code.getD i z45)=none→Ev (fun k=>au.l0 k ((i+1:Nat):Int) t lo gl code) r) →
      r'=(match qM t lo gl code.length (code.getD i z45) with|some e=>((i:Int),e)|none=>r) →
      Ev (fun k=>au.l0 k (i:Int) t lo gl code) r':=by
    intro i r r' hi hr e
    rw [e]
    have hx4:=MZ (code.getD i z45) (hw i).1 (hw i).2.1 (hw i).2.2 (hwn i)
    generalize hx:code.getD i z45=x at *
    have j3:Ev (fun k=>au.j3 k i (vk x) t lo gl code x.f0 x.f1 x.f2 x.f3 x.f4) (match qM t lo gl code.length x with|some e=>((i:Int),e)|none=>r):=by
      refine Ev.step (fun k=>by simp only [au.j3];rfl) (Ev.bind hx4 ?_)
      by_cases h1:sS x=true
      · refine Ev.congr (fun k=>if_pos h1) ?_
        have J:∀ b r0,qM t lo gl code.length x=(if b=true then some 12 else if uP t lo gl x=true then none else some 5)→r0=(match qM t lo gl code.length x with|some e=>((i:Int),e)|none=>r)→Ev (fun k=>au.j4 k i b t lo gl code x.f0 x.f1 x.f2 x.f3 x.f4) r0:=by
          intro b r0 hb e0
          have:=j4 i b r r0 hi (by rw [hx];exact La h1) (fun hbf hk=>by
            refine hr ?_
            rw [hx] at hk
            rw [hb,hbf,if_neg (by decide),if_pos hk]) (by
              rw [e0,hb,hx]
              cases b
              · cases uP t lo gl x <;> rfl
              · rfl)
          rw [hx] at this
          exact this
        have hbad:∀ b,(vk x && (decide (x.f4 < 0) || decide (x.f4 > code.length)))=b→qM t lo gl code.length x=(if b=true then some 12 else if uP t lo gl x=true then none else some 5):=by
          intro b hb
          unfold qM
          rw [if_pos h1,hb]
        cases hj:vk x with
        | false =>
          refine Ev.congr (fun k=>if_neg (by decide)) ?_
          exact J false _ (hbad false (by rw [hj];rfl)) rfl
        | true =>
          refine Ev.congr (fun k=>if_pos rfl) ?_
          by_cases h4:x.f4 < 0
          · refine Ev.congr (fun k=>if_pos h4) ?_
            exact J true _ (hbad true (by rw [hj,decide_eq_true h4];rfl)) rfl
          · refine Ev.congr (fun k=>if_neg h4) ?_
            exact J _ _ (hbad _ (by rw [hj,decide_eq_false h4,Bool.false_or,Bool.true_and])) rfl
      · refine Ev.congr (fun k=>if_neg h1) ?_
        have:qM t lo gl code.length x=some 4:=by unfold qM;rw [if_neg h1]
        rw [this]
        exact Ev.now _
    refine Ev.step (fun k=>?_) j3
    simp only [au.l0]
    rw [if_pos (by omega),if_pos (by omega),agN,hx]
    by_cases h3:x.f0=3
    · rw [if_pos h3,show vk x=true from by unfold vk;rw [h3];rfl]
    · rw [if_neg h3,show vk x=(x.f0 == 4) from by unfold vk;rw [show (x.f0 == 3)=false from beq_eq_false_iff_ne.2 h3,Bool.false_or]]
  have:=oM (g:=fun k i=>au.l0 k (i:Nat) t lo gl code) (fun i=>(qM t lo gl code.length (code.getD i z45)).map fun e=>((i:Int),e)) code.length (-1,0)
    (fun i hi hb q hq=>?_) (fun i hi b hb=>?_) (fun _=>?_) code.length 0 (by omega) (fun j hj=>by omega)
  · exact this
  · refine Nc i q q hi (fun _=>hq) ?_
    rw [Option.map_eq_none_iff] at hb
    rw [hb]
  · refine Nc i (0,0) b hi (fun h=>by rw [h] at hb;cases hb) ?_
    cases h:qM t lo gl code.length (code.getD i z45) with
    | none=>rw [h] at hb;cases hb
    | some e=>rw [h] at hb;cases hb;rfl
  · refine Ev.step (f:=fun _=>some (-1,0)) (fun k=>?_) (Ev.now _)
    simp only [au.l0]
    rw [if_neg (by omega)]
theorem ER (hl:lo.size≤9223372036854775807) (hg:gl.size≤9223372036854775807):Ev (fun k=>au.f k t lo gl code) (nX t lo gl code):=by
  have j1:∀ x,Ev (fun k=>au.j1 k x t lo gl code) (if x=true then (-1,3) else xg t lo gl code):=fun x=>by
    refine Ev.step (fun k=>by simp only [au.j1];rfl) ?_
    exact Ev.ite (fun _=>Ev.now _) fun _=>EP t lo gl code ht hs hn hw hwn
  have j0:∀ x,Ev (fun k=>au.j0 k x t lo gl code) (if x=true then (-1,5) else if (code.length:Int) < 1 then (if true=true then (-1,3) else xg t lo gl code) else (if decide ((code.length:Int) > 200)=true then (-1,3) else xg t lo gl code)):=fun x=>by
    refine Ev.step (fun k=>by simp only [au.j0];rfl) ?_
    exact Ev.ite (fun _=>Ev.now _) fun _=>Ev.ite (fun _=>j1 _) fun _=>j1 _
  refine Ev.bind (BL t lo ht hs hl) ?_
  unfold nX headB
  rw [Ld]
  cases h1:sU t lo with
  | false =>
    rw [Bool.false_and,Bool.false_and,if_neg (by decide)]
    exact Ev.congr (fun k=>if_neg (by decide)) (Ev.out (j0 true) (if_pos rfl))
  | true =>
    rw [Bool.true_and]
    refine Ev.congr (fun k=>if_pos rfl) ?_
    refine Ev.bind (BL t gl ht hs hg) ?_
    cases h2:sU t gl with
    | false =>
      rw [Bool.false_and,if_neg (by decide)]
      exact Ev.congr (fun k=>if_neg (by decide)) (Ev.out (j0 true) (if_pos rfl))
    | true =>
      rw [Bool.true_and]
      refine Ev.congr (fun k=>if_pos rfl) ?_
      refine Ev.out (Ev.ite (fun _=>j0 _) fun _=>j0 _) ?_
      by_cases h3:lo.size≤8
      · by_cases h4:gl.size≤4
        · rw [if_neg (by omega),decide_eq_true h3,decide_eq_true h4,if_neg (by simp;omega),show (true && true)=true from rfl,if_pos rfl,if_pos rfl]
          by_cases h5:(code.length:Int) < 1
          · rw [if_pos h5,if_neg (by omega)]
          · rw [if_neg h5]
            by_cases h6:(code.length:Int) > 200
            · rw [if_pos (decide_eq_true h6),if_neg (by omega)]
            · rw [if_neg (by simp;omega),if_pos (by omega)]
        · rw [if_neg (by omega),decide_eq_true h3,decide_eq_false h4,if_pos (by simp;omega),if_neg (by decide)]
      · rw [if_pos (by omega),decide_eq_false h3,if_pos rfl,if_neg (by simp)]
end
end Go.Proofs.YtgfnpdfhdgenbaaDoor.P
end
end
section
namespace Go.Proofs.YtgfnpdfhdgenbaaDoor.P
theorem Je:(Tryd.prog.info? 2).map (fun i=>(i.zero,i.size,i.bytes))=some (some (.int .i64 0),1,8):=by kernel_rfl
open Go Go.RowKit Go.Proofs.ae.bf Go.Proofs.ae.bY Go.Proofs.ae.cZ
def jl (xs:List (List Int)) (i:Int):(List Int):=xs.getD i.toNat ([]:List Int)
theorem wW {w:World} {A:Option Addr} {n:Nat} {xs:List (List Int)} (h:Kd.C (Kd.slice 2 (Kd.int .i64)) w A n xs) (i:Int) (h0:0≤i) (h1:i < n):∃ ad A0 c0,A=some ad∧w.cell? (ad.add i.toNat)=some (.slice A0 (jl xs i).length c0)∧(jl xs i).length≤c0∧(Kd.int .i64).C w A0 (jl xs i).length (jl xs i):=by
  obtain ⟨ad,c,e,_,hK,hc0⟩:=Kd.Pg h ([]:List Int) i h0 h1
  have hc:∀ j u,c[j]? = some u→w.cell? (ad.add (i.toNat * 1+j))=some u:=hc0
  obtain ⟨A0,c0,rfl,l0,g0⟩:=hK
  exact ⟨ad,A0,c0,e,by have hq:=hc 0 _ rfl;rwa [Nat.mul_one,Nat.add_zero] at hq,l0,g0⟩
end Go.Proofs.YtgfnpdfhdgenbaaDoor.P
section
namespace Go.Proofs.YtgfnpdfhdgenbaaDoor.P
open Go.RowKit Go.Proofs.ae.bf Go.Proofs.ae.bY Go.Proofs.ae.cZ
theorem yH {α:Type} (d:Kd α) (e:Nat) (W:World) (base:Nat) (ok:Nat→Prop) (hbase:base≤W.heap.size) (hok:ok W.heap.size):d.R e (W.alloc (.cells #[] e)) base ok (.slice (some ⟨W.heap.size,0,none⟩) 0 0) []:=by
  refine ⟨fun k hk=>?_,[],?_,⟨by simp,fun j p h=>by simp at h⟩⟩
  · have:W.heap.size=k:=by simpa [Value.ownBlock] using hk
    exact this ▸ hok
  · have:=World.ownsRow_lit (base:=base) (e:=e) (size:=d.sz) W #[] 0 hbase (by decide) (by simp)
    simpa using this
abbrev Hd:=Option Addr × Nat × Nat
def Oe (h:Hd):Value:=.slice h.1 h.2.1 h.2.2
abbrev kH:Kd Hd:=Kd.scalar Oe (fun _=>rfl)
theorem Ce:(Tryd.prog.info? 34).map (fun i=>(i.zero,i.size,i.bytes))=some (some (.slice none 0 0),kH.sz,24):=by kernel_rfl
end Go.Proofs.YtgfnpdfhdgenbaaDoor.P
end
section
namespace Go.Proofs.YtgfnpdfhdgenbaaDoor.P
open Go.RowKit Go.Proofs.ae.bf Go.Proofs.ae.bY Go.Proofs.ae.cZ
structure akJ (base:Nat) (s:St) (vO vU:Value) (w:World):Prop where
  aK:Kd.S wR 34 w base (fun k=>some k ≠ vU.ownBlock) vO s.aK
  out:Kd.R (Kd.int .i64) 2 w base (fun _=>True) vU s.out
section
variable {G B1 B2:Nat} {s:St} {vO vU:Value} {hs0:List Hd} {i:Nat} {hs:List Hd} {L:Nat→Nat} {w wr w3:World}
end
end Go.Proofs.YtgfnpdfhdgenbaaDoor.P
end
section
namespace Go.Proofs.YtgfnpdfhdgenbaaDoor.P
open Go.RowKit Go.Proofs.ae.bf Go.Proofs.ae.bY Go.Proofs.ae.cZ
theorem KZ {w:World} {g t:Nat} {old:Array Value} (hg:w.heap[g]? = some (.cells old t (0,0))) (cs:Array Value):(w.setRow g cs).heap[g]? = some (.cells cs t (0,0)):=by
  simp [World.setRow,Array.getElem?_modify,hg]
theorem jw {w:World} {g:Nat} (cs:Array Value) (k:Nat) (hk:k ≠ g):(w.setRow g cs).heap[k]? = w.heap[k]?:=by
  simp only [World.setRow,Array.getElem?_modify]
  rw [if_neg (by omega)]
theorem dm {B g:Nat} {w0 w:World} (hb:Below B w0 w) (hBg:B≤g) (cs:Array Value):Below B w0 (w.setRow g cs) :=
  hb.trans ⟨rfl,rfl,rfl,by simp [World.setRow],fun k hk=>jw cs k (by omega)⟩
end Go.Proofs.YtgfnpdfhdgenbaaDoor.P
end
section
namespace Go.Proofs.YtgfnpdfhdgenbaaDoor.P
open Go.RowKit Go.Proofs.ae.bf Go.Proofs.ae.bY Go.Proofs.ae.cZ
theorem gQ {P:Program} {fn:Func} {p u v:Tmp} {ty:TypeId} (h:fn.results=#[.cell p ty,.tmp u,.tmp v]) (tmps:Array Value) (w:World) (g:Nat) (t:TypeId) (cs:Array Value) (fr:Nat × Nat) (d:TypeDesc)
    (hp:tmps.getD p undef=.pointer (some ⟨g,0,none⟩)) (hg:w.heap[g]? = some (.cells cs t fr))
    (hu:P.underlying ty=some d) (hd:(match d with | .struct _ | .array _ _=>true | _=>false)=true) (hi:(P.info? ty).map (·.size)=some cs.size) :
    (results fn tmps).run P w=.ok (.tuple #[.agg cs,tmps.getD u undef,tmps.getD v undef]) w:=by
  have hp':tmps[p]?.getD undef=.pointer (some ⟨g,0,none⟩):=by simpa using hp
  simp [results,h,hp',asAddr,run_loadVar_row w g t ty cs fr d hg hu hd hi]
end Go.Proofs.YtgfnpdfhdgenbaaDoor.P
end
section
namespace Go.Proofs.YtgfnpdfhdgenbaaDoor.P
open Go.RowKit Go.Proofs.ae.bf Go.Proofs.ae.bY Go.Proofs.ae.cZ
def Bk (w:World) (g:Nat) (cs:Array Value) (t:TypeId):Prop:=w.heap[g]? = some (.cells cs t (0,0))
section
variable {w w1:World} {g h t:Nat} {cs:Array Value}
theorem Bk.cell (k:Bk w g cs t) (j:Nat):w.cell? ⟨g,j,none⟩=cs[j]?:=cell_of_row w g j cs t (0,0) k
theorem Bk.fr (k:Bk w g cs t) (j:Nat):w.frozen? ⟨g,j,none⟩=false:=frozen_of_row w g j cs t k
theorem Bk.lt (k:Bk w g cs t):g < w.heap.size:=(Array.getElem?_eq_some_iff.1 k).1
theorem Bk.of (k:Bk w g cs t) (e:w1.heap[g]? = w.heap[g]?):Bk w1 g cs t:=e.trans k
theorem Bk.below (k:Bk w g cs t) (hb:Below w.heap.size w w1):Bk w1 g cs t:=k.of (hb.block g k.lt)
theorem Bk.set (k:Bk w g cs t) (j:Nat) (v:Value):Bk (w.setCell ⟨g,j,none⟩ v) g (cs.setIfInBounds j v) t:=by
  unfold Bk at k ⊢
  simp [World.setCell,Array.getElem?_modify,k]
theorem Bk.far (k:Bk w g cs t) (j:Nat) (v:Value) (hn:g ≠ h):Bk (w.setCell ⟨h,j,none⟩ v) g cs t:=k.of (Below.heap_setCell w ⟨h,j,none⟩ v g hn)
theorem Bk.setRow (k:Bk w g cs t) (ds:Array Value):Bk (w.setRow g ds) g ds t:=KZ k ds
theorem Bk.fK (k:Bk w g cs t) (ds:Array Value) (hn:g ≠ h):Bk (w.setRow h ds) g cs t:=k.of (jw ds g hn)
theorem Bk.alloc (k:Bk w g cs t) (o:Obj):Bk (w.alloc o) g cs t:=k.of (Below.heap_alloc w o g k.lt)
theorem Bk.new (w:World) (cs:Array Value) (t:TypeId):Bk (w.alloc (.cells cs t)) w.heap.size cs t:=heap_alloc_new w _
theorem mr (ds:List Value):∀ (w:World) (o:Nat),g ≠ h→(w.setCells h o ds).heap[g]? = w.heap[g]?:=by
  induction ds with
  | nil=>intro w o _;rfl
  | cons v ds ih=>intro w o hn;exact (ih _ _ hn).trans (Below.heap_setCell w ⟨h,o,none⟩ v g hn)
theorem Bk.iR (k:Bk w g cs t) (o:Nat) (ds:List Value) (hn:g ≠ h):Bk (w.setCells h o ds) g cs t:=k.of (mr ds w o hn)
theorem setCells_size (ds:List Value):∀ (w:World) (h o:Nat),(w.setCells h o ds).heap.size=w.heap.size:=by
  induction ds with
  | nil=>intro w h o;rfl
  | cons v ds ih=>intro w h o;exact (ih _ _ _).trans (by simp [World.setCell])
theorem gB {B:Nat} {w0:World} (ds:List Value):∀ (w:World) (h o:Nat),Below B w0 w→B≤h→Below B w0 (w.setCells h o ds):=by
  induction ds with
  | nil=>intro w h o hb _;exact hb
  | cons v ds ih=>intro w h o hb hB;exact ih _ _ _ (hb.setCell (p:=⟨h,o,none⟩) hB v) hB
theorem Bk.range (k:Bk w g cs t) (o:Nat) (vs:List Value) (hv:∀ j,j < vs.length→cs[o+j]? = vs[j]?):w.rangeAt g o vs:=fun j v hj=>by
  rw [k.cell (o+j),hv j (List.getElem?_eq_some_iff.1 hj).1,hj]
theorem Bk.there (k:Bk w g cs t) (o n:Nat) (hn:o+n≤cs.size):w.there g o n:=fun j hj=>⟨by rw [k.cell (o+j),Array.getElem?_eq_getElem (by omega)];rfl,k.fr (o+j)⟩
end
def dK (f:Nat→Int):Array Value:=#[.int .i64 (f 0),.int .i64 (f 1),.int .i64 (f 2),.int .i64 (f 3),.int .i64 (f 4),.int .i64 (f 5),.int .i64 (f 6),.int .i64 (f 7)]
def row4 (f:Nat→Int):Array Value:=#[.int .i64 (f 0),.int .i64 (f 1),.int .i64 (f 2),.int .i64 (f 3)]
theorem iQ (f:Nat→Int):(dK f).all (·.oneCell')=true:=by simp [dK,Value.oneCell']
theorem qO (f:Nat→Int):(row4 f).all (·.oneCell')=true:=by simp [row4,Value.oneCell']
theorem mW (f:Nat→Int) (j:Nat) (hj:j < 8):(dK f)[j]? = some (.int .i64 (f j)):=by
  match j,hj with
  | 0,_ | 1,_ | 2,_ | 3,_ | 4,_ | 5,_ | 6,_ | 7,_=>rfl
theorem Qd (f:Nat→Int) (j:Nat) (hj:j < 4):(row4 f)[j]? = some (.int .i64 (f j)):=by
  match j,hj with
  | 0,_ | 1,_ | 2,_ | 3,_=>rfl
theorem o6 (f:Nat→Int) (j:Nat) (hj:j < 8) (v:Int):(dK f).setIfInBounds j (.int .i64 v)=dK (upd f j v):=by
  match j,hj with
  | 0,_ | 1,_ | 2,_ | 3,_ | 4,_ | 5,_ | 6,_ | 7,_=>rfl
theorem MX (f:Nat→Int) (j:Nat) (hj:j < 4) (v:Int):(row4 f).setIfInBounds j (.int .i64 v)=row4 (upd f j v):=by
  match j,hj with
  | 0,_ | 1,_ | 2,_ | 3,_=>rfl
section
variable {w:World} {g t:Nat} {s:St} {vO vU:Value}
theorem Bk.VP (k:Bk w g (cellsS s vO vU) t) (j:Nat) (hj:j < 8):w.cell? ⟨g,j,none⟩=some (.int .i64 (s.x j)):=by
  rw [k.cell j]
  match j,hj with
  | 0,_ | 1,_ | 2,_ | 3,_ | 4,_ | 5,_ | 6,_ | 7,_=>rfl
theorem Bk.qg (k:Bk w g (cellsS s vO vU) t) (j:Nat) (hj:j < 8):w.cell? ⟨g,8+j,none⟩=some (.int .i64 (s.p j)):=by
  rw [k.cell (8+j)]
  match j,hj with
  | 0,_ | 1,_ | 2,_ | 3,_ | 4,_ | 5,_ | 6,_ | 7,_=>rfl
theorem Bk.xs (k:Bk w g (cellsS s vO vU) t):w.rangeAt g 0 (dK s.x).toList:=k.range 0 _ fun j hj=>by
  match j,hj with
  | 0,_ | 1,_ | 2,_ | 3,_ | 4,_ | 5,_ | 6,_ | 7,_=>rfl
theorem Bk.ps (k:Bk w g (cellsS s vO vU) t):w.rangeAt g 8 (dK s.p).toList:=k.range 8 _ fun j hj=>by
  match j,hj with
  | 0,_ | 1,_ | 2,_ | 3,_ | 4,_ | 5,_ | 6,_ | 7,_=>rfl
theorem Bk.gs (k:Bk w g (cellsS s vO vU) t):w.rangeAt g 16 (row4 s.g).toList:=k.range 16 _ fun j hj=>by
  match j,hj with
  | 0,_ | 1,_ | 2,_ | 3,_=>rfl
theorem Bk.wI (k:Bk w g (cellsS s vO vU) t) (f:Nat→Int):Bk (w.setCells g 0 (dK f).toList) g (cellsS { s with x:=f } vO vU) t:=by
  have h:=(((((((k.set 0 (.int .i64 (f 0))).set 1 (.int .i64 (f 1))).set 2 (.int .i64 (f 2))).set 3 (.int .i64 (f 3))).set 4 (.int .i64 (f 4))).set 5 (.int .i64 (f 5))).set 6 (.int .i64 (f 6))).set 7 (.int .i64 (f 7))
  simp only [cellsS,List.setIfInBounds_toArray,List.set_cons_zero,List.set_cons_succ] at h
  exact h
theorem Bk.wJ (k:Bk w g (cellsS s vO vU) t) (f:Nat→Int):Bk (w.setCells g 8 (dK f).toList) g (cellsS { s with p:=f } vO vU) t:=by
  have h:=(((((((k.set 8 (.int .i64 (f 0))).set 9 (.int .i64 (f 1))).set 10 (.int .i64 (f 2))).set 11 (.int .i64 (f 3))).set 12 (.int .i64 (f 4))).set 13 (.int .i64 (f 5))).set 14 (.int .i64 (f 6))).set 15 (.int .i64 (f 7))
  simp only [cellsS,List.setIfInBounds_toArray,List.set_cons_zero,List.set_cons_succ] at h
  exact h
theorem Bk.yQ (k:Bk w g (cellsS s vO vU) t) (f:Nat→Int):Bk (w.setCells g 16 (row4 f).toList) g (cellsS { s with g:=f } vO vU) t:=by
  have h:=(((k.set 16 (.int .i64 (f 0))).set 17 (.int .i64 (f 1))).set 18 (.int .i64 (f 2))).set 19 (.int .i64 (f 3))
  simp only [cellsS,List.setIfInBounds_toArray,List.set_cons_zero,List.set_cons_succ] at h
  exact h
end
section
variable {P:Program} {ops:Array Oper} {rest:List Oper} {o:Oper} {a:Act} {w:World} {Q:Exit→Act→World→Prop}
theorem nO (hgd:o.guard=none) (ty:TypeId) (x:Operand) (ho:o.op=.load ty x) (g off:Nat) (hx:a.eval x=.pointer (some ⟨g,off,none⟩)) (cs:Array Value) (d:TypeDesc) (hc:w.rangeAt g off cs.toList)
    (hu:P.underlying ty=some d) (hd:d.isRow=true) (hi:(P.info? ty).map (·.size)=some cs.toList.length) (h:wpList P ops Q rest (a.put o.dst (.agg cs)) w):wpList P ops Q (o :: rest) a w :=
  wpList_load_mid hgd ty x ho g off hx cs.toList d hc hu hd hi (by rw [Array.toArray_toList];exact h)
end
structure Ug (s:St) (vO vU:Value) (w:World):Prop where
  aK:∃ A c,vO=.slice A s.aK.length c∧s.aK.length≤c∧Kd.C wR w A s.aK.length s.aK
  out:∃ A c,vU=.slice A s.out.length c∧s.out.length≤c∧Kd.C (Kd.int .i64) w A s.out.length s.out
section
variable {s s':St} {vO vU:Value} {w w':World}
theorem Ug.below (h:Ug s vO vU w) (hb:Below w.heap.size w w'):Ug s vO vU w':=by
  obtain ⟨⟨A,c,e,hc,hO⟩,⟨B,d,e',hd,hU⟩⟩:=h
  exact ⟨⟨A,c,e,hc,Kd.bQ hO hb⟩,⟨B,d,e',hd,Kd.bQ hU hb⟩⟩
theorem Ug.as (h:Ug s vO vU w) (e1:s'.aK=s.aK) (e2:s'.out=s.out):Ug s' vO vU w:=by
  obtain ⟨h1,h2⟩:=h
  exact ⟨by rw [e1];exact h1,by rw [e2];exact h2⟩
theorem Ug.one (h:Ug s vO vU w) (s':St):(cellsS s' vO vU).all (·.oneCell')=true:=by
  obtain ⟨⟨A,c,rfl,_⟩,⟨B,d,rfl,_⟩⟩:=h
  simp [cellsS,Value.oneCell']
end
def NB (w:World) (k:Nat):Prop:=∃ cells t fr,w.heap[k]? = some (.cells cells t fr)∧t ≠ 36∧t ≠ 35∧t ≠ 37∧t ≠ 3
def Keep (w wF:World):Prop:=∀ k,NB w k→wF.heap[k]? = w.heap[k]?
theorem NB.lt {w:World} {k:Nat} (h:NB w k):k < w.heap.size:=by
  obtain ⟨_,_,_,h,_⟩:=h
  exact (Array.getElem?_eq_some_iff.1 h).1
theorem Keep.after {w w' wF:World} (hb:Below w.heap.size w w') (h:Keep w' wF):Keep w wF:=fun k hk=>by
  have e:=hb.block k hk.lt
  obtain ⟨c,t,fr,h1,h2⟩:=hk
  rw [h k ⟨c,t,fr,e.trans h1,h2⟩,e]
theorem Keep.trans {w w' wF:World} (hb:Keep w w') (h:Keep w' wF):Keep w wF:=fun k hk=>by
  have e:=hb k hk
  obtain ⟨c,t,fr,h1,h2⟩:=hk
  rw [h k ⟨c,t,fr,e.trans h1,h2⟩,e]
theorem VZ {w:World} {A:Option Addr} {n:Nat} {hs:List Hd} {xs:List (List Int)} (h:Kd.C kH w A n hs) (hl:hs.length=xs.length)
    (each:∀ j (hj:j < xs.length),∃ q,hs[j]? = some q∧q.2.1=(xs[j]).length∧(xs[j]).length≤q.2.2∧Kd.C (Kd.int .i64) w q.1 (xs[j]).length xs[j]):Kd.C wR w A n xs:=by
  obtain ⟨h1,hn,hc⟩:=h
  refine ⟨hl ▸ h1,hn,fun h0=>?_⟩
  obtain ⟨ad,e,hc⟩:=hc h0
  refine ⟨ad,e,fun j x hj=>?_⟩
  obtain ⟨hj',rfl⟩:=List.getElem?_eq_some_iff.1 hj
  obtain ⟨q,hq,hq1,hq2,hq3⟩:=each j hj'
  obtain ⟨c,hlen,hK,hcell⟩:=hc j q hq
  obtain rfl:c=[Oe q]:=hK
  refine ⟨[Oe q],rfl,⟨q.1,q.2.2,?_,hq2,hq3⟩,hcell⟩
  rw [← hq1]
  rfl
theorem tY {α:Type} {d:Kd α} {e base:Nat} {ok:Nat→Prop} {w wF:World} {v:Value} {xs:List α} (h:d.R e w base ok v xs) (hE:d.E=[]) (he:e ≠ 36∧e ≠ 35∧e ≠ 37∧e ≠ 3) (hk:∀ k,base≤k→NB w k→wF.heap[k]? = w.heap[k]?):d.R e wF base ok v xs :=
  Kd.mg (Kd.kY (w1:=wF) (Kd.mG h) (fun k hk' _=>by
    obtain ⟨_,h2,_,q,hq,cells,hc⟩:=hk'
    rw [hE] at hq
    obtain rfl:q=e:=List.mem_singleton.1 hq
    exact hk k h2 ⟨cells,q,(0,0),hc,he.1,he.2⟩)) (fun k hk'=>hk'.1)
structure nK (s:St) (vO vU:Value) (w:World):Prop where
  aK:∃ A c hs,vO=.slice A s.aK.length c∧s.aK.length≤c∧hs.length=s.aK.length∧(∀ wF,Keep w wF→Kd.C kH wF A s.aK.length hs)∧∀ j (hj:j < s.aK.length),∃ q,hs[j]? = some q∧q.2.1=(s.aK[j]).length∧(s.aK[j]).length≤q.2.2∧∀ wF,Keep w wF→Kd.C (Kd.int .i64) wF q.1 (s.aK[j]).length s.aK[j]
  out:∃ A c,vU=.slice A s.out.length c∧s.out.length≤c∧∀ wF,Keep w wF→Kd.C (Kd.int .i64) wF A s.out.length s.out
section
variable {s s':St} {vO vU:Value} {w w' wF:World}
theorem nK.rd (h:nK s vO vU w):Ug s vO vU w:=by
  obtain ⟨⟨A,c,hs,e,hc,hl,hH,hE⟩,B,b,e',hb,hU⟩:=h
  have hw:Keep w w:=fun _ _=>rfl
  exact ⟨⟨A,c,e,hc,VZ (hH w hw) hl (fun j hj=>by obtain ⟨q,q1,q2,q3,q4⟩:=hE j hj;exact ⟨q,q1,q2,q3,q4 w hw⟩)⟩,B,b,e',hb,hU w hw⟩
theorem nK.keep (h:nK s vO vU w) (hk:Keep w w'):nK s vO vU w':=by
  obtain ⟨⟨A,c,hs,e,hc,hl,hH,hE⟩,B,b,e',hb,hU⟩:=h
  exact ⟨⟨A,c,hs,e,hc,hl,fun wF hF=>hH wF (hk.trans hF),fun j hj=>by obtain ⟨q,q1,q2,q3,q4⟩:=hE j hj;exact ⟨q,q1,q2,q3,fun wF hF=>q4 wF (hk.trans hF)⟩⟩,B,b,e',hb,fun wF hF=>hU wF (hk.trans hF)⟩
theorem nK.below (h:nK s vO vU w) (hb:Below w.heap.size w w'):nK s vO vU w':=h.keep (fun k hk=>hb.block k hk.lt)
theorem nK.as (h:nK s vO vU w) (e1:s'.aK=s.aK) (e2:s'.out=s.out):nK s' vO vU w:=by
  obtain ⟨h1,h2⟩:=h
  exact ⟨by rw [e1];exact h1,by rw [e2];exact h2⟩
end
theorem dU {P:Program} {fn:Func} {p u:Tmp} {ty:TypeId} (h:fn.results=#[.cell p ty,.tmp u]) (tmps:Array Value) (w:World) (g:Nat) (t:TypeId) (cs:Array Value) (fr:Nat × Nat) (d:TypeDesc)
    (hp:tmps.getD p undef=.pointer (some ⟨g,0,none⟩)) (hg:w.heap[g]? = some (.cells cs t fr))
    (hu:P.underlying ty=some d) (hd:(match d with | .struct _ | .array _ _=>true | _=>false)=true) (hi:(P.info? ty).map (·.size)=some cs.size) :
    (results fn tmps).run P w=.ok (.tuple #[.agg cs,tmps.getD u undef]) w:=by
  have hp':tmps[p]?.getD undef=.pointer (some ⟨g,0,none⟩):=by simpa using hp
  simp [results,h,hp',asAddr,run_loadVar_row w g t ty cs fr d hg hu hd hi]
end Go.Proofs.YtgfnpdfhdgenbaaDoor.P
end
end
