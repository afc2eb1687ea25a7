/- Parts of the proof of ModelRight: what the functions that it reaches compute, and plain facts about that. -/
import Derived.Test.YtlemecdddhdagaaDoorVaf
import Derived.Test.YtlemecdddhdagaaDoorVac
set_option linter.unusedVariables false
set_option linter.unusedSimpArgs false
section
namespace Go.Proofs.YtlemecdddhdagaaDoor.P
open Go.RowKit Go.Proofs.ag.bI Go.Proofs.ag.dM Go.Proofs.ag.dZ
theorem Ev.ite {α:Type} {p:Prop} [Decidable p] {f g:Nat→Option α} {a b:α} (h1:p→Ev f a) (h2:¬p→Ev g b):Ev (fun k=>if p then f k else g k) (if p then a else b):=by
  by_cases h:p
  · rw [if_pos h];exact Ev.congr (fun k=>if_pos h) (h1 h)
  · rw [if_neg h];exact Ev.congr (fun k=>if_neg h) (h2 h)
theorem Ev.out {α:Type} {g:Nat→Option α} {a b:α} (h:Ev g a) (e:a=b):Ev g b:=e ▸ h
def scan {β:Type} (bad:Nat→Option β) (fin:β):Nat→Nat→β
  | 0,_=>fin
  | d+1,i=>match bad i with
    | some b=>b
    | none=>scan bad fin d (i+1)
theorem BL {β:Type} {bad:Nat→Option β} {fin:β} {d i:Nat} (h:bad i=none):scan bad fin (d+1) i=scan bad fin d (i+1):=by simp [scan,h]
theorem BK {β:Type} {bad:Nat→Option β} {fin:β} {d i:Nat} {b:β} (h:bad i=some b):scan bad fin (d+1) i=b:=by simp [scan,h]
theorem wB {β:Type} {bad:Nat→Option β} {fin:β}:∀ (d i:Nat),(scan bad fin d i=fin∧∀ j,i≤j→j < i+d→bad j=none) ∨ ∃ j b,i≤j∧j < i+d∧bad j=some b∧scan bad fin d i=b∧∀ q,i≤q→q < j→bad q=none
  | 0,_=>.inl ⟨rfl,fun j h1 h2=>by omega⟩
  | d+1,i=>by
    cases hb:bad i with
    | some b=>exact .inr ⟨i,b,Nat.le_refl _,by omega,hb,BK hb,fun q h1 h2=>by omega⟩
    | none =>
      rw [BL hb]
      rcases wB (bad:=bad) (fin:=fin) d (i+1) with ⟨h1,h2⟩|⟨j,b,h1,h2,h3,h4,h5⟩
      · refine .inl ⟨h1,fun j hj hj2=>?_⟩
        rcases Nat.eq_or_lt_of_le hj with e|e
        · rw [← e];exact hb
        · exact h2 j e (by omega)
      · refine .inr ⟨j,b,by omega,by omega,h3,h4,fun q hq hq2=>?_⟩
        rcases Nat.eq_or_lt_of_le hq with e|e
        · rw [← e];exact hb
        · exact h5 q e hq2
theorem lu {β:Type} {g:Nat→Nat→Option β} (bad:Nat→Option β) (n:Nat) (fin:β)
    (step:∀ i,i < n→bad i=none→∀ r,Ev (fun k=>g k (i+1)) r→Ev (fun k=>g k i) r)
    (stop:∀ i,i < n→∀ b,bad i=some b→Ev (fun k=>g k i) b)
    (done:(∀ j,j < n→bad j=none)→Ev (fun k=>g k n) fin):∀ d i,i+d=n→(∀ j,j < i→bad j=none)→Ev (fun k=>g k i) (scan bad fin d i)
  | 0,i,h,hp=>by
    obtain rfl:i=n:=by omega
    exact done hp
  | d+1,i,h,hp=>by
    cases hb:bad i with
    | some b=>rw [BK hb];exact stop i (by omega) b hb
    | none =>
      rw [BL hb]
      refine step i (by omega) hb _ (lu bad n fin step stop done d (i+1) (by omega) fun j hj=>?_)
      rcases Nat.lt_succ_iff_lt_or_eq.1 hj with h1|h1
      · exact hp j h1
      · rw [h1];exact hb
def allB (n:Nat) (p:Nat→Bool):Bool:=(List.range n).all p
theorem nS {n:Nat} {p:Nat→Bool}:allB n p=true ↔ ∀ j,j < n→p j=true:=by simp [allB]
theorem qJ (n:Nat) (p:Nat→Bool) (fin:Bool):scan (fun i=>if p i then none else some false) fin n 0=(allB n p && fin):=by
  rcases wB (bad:=fun i=>if p i then none else some false) (fin:=fin) n 0 with ⟨h1,h2⟩|⟨j,b,h1,h2,h3,h4,h5⟩
  · rw [h1]
    have:allB n p=true:=nS.2 fun j hj=>by
      have:=h2 j (Nat.zero_le _) (by omega)
      simpa using this
    rw [this,Bool.true_and]
  · rw [h4]
    have hp:p j=false∧b=false:=by
      cases hp:p j <;> simp [hp] at h3
      exact ⟨rfl,h3⟩
    have:allB n p=false:=by
      rw [← Bool.not_eq_true,nS]
      intro h
      have:=h j (by omega)
      rw [hp.1] at this
      cases this
    rw [this,hp.2,Bool.false_and]
theorem wrapN {i n:Nat} (h:i < n) (hn:n≤9223372036854775807):wrap64 ((i:Int)+1)=((i+1:Nat):Int):=by
  unfold wrap64
  omega
def kK (c n:Int):Int:=if 48≤c then (if c - 48 < n then c - 48 else -1) else -1
theorem Wu (c n:Int) (h0:0≤c) (h1:c≤255):jy.f c n=some (kK c n):=by
  have e:wrap64 (wrap64 c - 48)=c - 48:=by unfold wrap64;omega
  unfold jy.f kK
  rw [e]
  by_cases h:48≤c
  · rw [if_pos (by omega),if_pos h]
    by_cases h':c - 48 < n
    · rw [if_pos h',if_pos h']
    · rw [if_neg h',if_neg h']
  · rw [if_neg (by omega),if_neg h]
theorem uw (s:ByteArray) (i n:Int):jy.f (bt s i) n=some (kK (bt s i) n):=Wu _ _ (uA s i).1 (uA s i).2
theorem Fv {c n:Int} (h:0≤kK c n):kK c n=c - 48∧48≤c∧c - 48 < n:=by
  unfold kK at h ⊢
  split at h <;> rename_i h1
  · split at h <;> rename_i h2
    · rw [if_pos h1,if_pos h2];exact ⟨rfl,h1,h2⟩
    · omega
  · omega
theorem Fz {c n:Int}:0≤kK c n ↔ 48≤c∧c - 48 < n:=by
  refine ⟨fun h=>(Fv h).2,fun ⟨h1,h2⟩=>?_⟩
  unfold kK
  rw [if_pos h1,if_pos h2]
  omega
theorem vw (s:ByteArray):s.toList=([]:List UInt8) ↔ s.size=0:=by
  rw [ByteArray.toList_eq,← List.length_eq_zero_iff,Array.length_toList]
  rfl
def okB (s:ByteArray) (n:Int):Bool:=allB s.size fun i=>bt s i == 105 || decide (0≤kK (bt s i) n)
def tV (s:ByteArray) (n:Int):Bool:=decide (0 < s.size) && decide (s.size≤6) && okB s n
def jw (t:List ByteArray):Bool:=allB t.length (fun j=>tV (dW ByteArray.empty t j) t.length) && (decide (1≤t.length) && decide (t.length≤8))
theorem Ez (t:List ByteArray) (s:ByteArray) (x6:List ByteArray) (x7 x8:Int) (hs:s.size≤6) (r:Bool) (hr:okB s t.length=true→Ev (fun k=>bP.l0 k t x6 x7 (wrap64 (x8+1))) r) :
    Ev (fun k=>bP.l1 k t s x6 x7 x8 s.size 0) (okB s t.length && r):=by
  have:=lu (g:=fun k i=>bP.l1 k t s x6 x7 x8 s.size (i:Nat)) (fun i=>if (bt s i == 105 || decide (0≤kK (bt s i) t.length)) then none else some false) s.size r
    (fun i hi hb q hq=>?_) (fun i hi b hb=>?_) (fun hall=>?_) s.size 0 (by omega) (fun j hj=>by omega)
  · rw [qJ s.size (fun i=>bt s i == 105 || decide (0≤kK (bt s i) t.length))] at this
    exact this
  · refine Ev.step (fun k=>?_) hq
    simp only [bP.l1]
    rw [if_pos (by omega),if_pos (by omega),if_pos (by omega),wrapN hi (by omega)]
    by_cases h:bt s i=105
    · rw [if_pos h]
    · rw [if_neg h,uw]
      simp only [Option.bind_some]
      have h2:0≤kK (bt s i) t.length:=by
        have:=hb
        simp [h] at this
        exact this
      rw [if_neg (by omega)]
  · have hb':¬ bt s i=105∧¬ 0≤kK (bt s i) t.length∧b=false:=by
      by_cases h:bt s i=105
      · simp [h] at hb
      · by_cases h2:0≤kK (bt s i) t.length
        · simp [h2] at hb
        · simp [h,h2] at hb
          exact ⟨h,h2,hb⟩
    obtain ⟨h1,h2,rfl⟩:=hb'
    refine Ev.step (f:=fun _=>some false) (fun k=>?_) (Ev.now false)
    simp only [bP.l1]
    rw [if_pos (by omega),if_pos (by omega),if_pos (by omega),if_neg h1,uw]
    simp only [Option.bind_some]
    rw [if_pos (by omega)]
  · have hok:okB s t.length=true:=nS.2 fun j hj=>by
      have:=hall j hj
      cases h:(bt s j == 105 || decide (0≤kK (bt s j) t.length)) <;> simp [h] at this ⊢
    refine Ev.step (fun k=>?_) (hr hok)
    simp only [bP.l1]
    rw [if_neg (by omega)]
theorem IQ (t:List ByteArray) (ht:t.length≤9223372036854775807):Ev (fun k=>bP.f k t) (jw t):=by
  have:=lu (g:=fun k i=>bP.l0 k t t t.length (i:Nat)) (fun i=>if tV (dW ByteArray.empty t i) t.length then none else some false) t.length (decide (1≤t.length) && decide (t.length≤8))
    (fun i hi hb q hq=>?_) (fun i hi b hb=>?_) (fun _=>?_) t.length 0 (by omega) (fun j hj=>by omega)
  · rw [qJ t.length (fun i=>tV (dW ByteArray.empty t i) t.length)] at this
    exact this
  · have ho:tV (dW ByteArray.empty t i) t.length=true:=by
      cases h:tV (dW ByteArray.empty t i) t.length <;> simp [h] at hb ⊢
    unfold tV at ho
    simp only [Bool.and_eq_true,decide_eq_true_eq] at ho
    obtain ⟨⟨h1,h2⟩,h3⟩:=ho
    refine Ev.step (f:=fun k=>bP.j1 k t (dW ByteArray.empty t i) t t.length i false) (fun k=>?_) (Ev.step (f:=fun k=>bP.l1 k t (dW ByteArray.empty t i) t t.length i ((dW ByteArray.empty t i).size:Int) 0) (fun k=>?_) ?_)
    · simp only [bP.l0]
      rw [if_pos (by omega),if_pos (by omega),if_pos (by omega),if_neg (by rw [vw];omega),decide_eq_false (by omega)]
    · simp only [bP.j1]
      rw [if_neg (by decide)]
    · have:=Ez t (dW ByteArray.empty t i) t t.length i h2 q (fun _=>by rw [wrapN hi ht];exact hq)
      rw [h3,Bool.true_and] at this
      exact this
  · have ho:tV (dW ByteArray.empty t i) t.length=false∧b=false:=by
      cases h:tV (dW ByteArray.empty t i) t.length <;> simp [h] at hb
      exact ⟨rfl,hb⟩
    obtain ⟨ho,rfl⟩:=ho
    by_cases h1:(dW ByteArray.empty t i).size=0
    · refine Ev.step (f:=fun k=>bP.j1 k t (dW ByteArray.empty t i) t t.length i true) (fun k=>?_) (Ev.step (f:=fun k=>some false) (fun k=>?_) (Ev.now false))
      · simp only [bP.l0]
        rw [if_pos (by omega),if_pos (by omega),if_pos (by omega),if_pos ((vw _).2 h1)]
      · simp only [bP.j1]
        rw [if_pos trivial]
    · by_cases h2:(dW ByteArray.empty t i).size≤6
      · have h3:okB (dW ByteArray.empty t i) t.length=false:=by
          have:decide (0 < (dW ByteArray.empty t i).size)=true:=decide_eq_true (by omega)
          unfold tV at ho
          rw [this,decide_eq_true h2] at ho
          simpa using ho
        refine Ev.step (f:=fun k=>bP.j1 k t (dW ByteArray.empty t i) t t.length i false) (fun k=>?_) (Ev.step (f:=fun k=>bP.l1 k t (dW ByteArray.empty t i) t t.length i ((dW ByteArray.empty t i).size:Int) 0) (fun k=>?_) ?_)
        · simp only [bP.l0]
          rw [if_pos (by omega),if_pos (by omega),if_pos (by omega),if_neg (by rw [vw];omega),decide_eq_false (by omega)]
        · simp only [bP.j1]
          rw [if_neg (by decide)]
        · have:=Ez t (dW ByteArray.empty t i) t t.length i h2 true (fun h=>by rw [h3] at h;cases h)
          rw [h3,Bool.false_and] at this
          exact this
      · refine Ev.step (f:=fun k=>bP.j1 k t (dW ByteArray.empty t i) t t.length i true) (fun k=>?_) (Ev.step (f:=fun k=>some false) (fun k=>?_) (Ev.now false))
        · simp only [bP.l0]
          rw [if_pos (by omega),if_pos (by omega),if_pos (by omega),if_neg (by rw [vw];omega),decide_eq_true (by omega)]
        · simp only [bP.j1]
          rw [if_pos trivial]
  · refine Ev.step (f:=fun _=>some (decide (1≤t.length) && decide (t.length≤8))) (fun k=>?_) (Ev.now _)
    simp only [bP.l0]
    rw [if_neg (by omega)]
    by_cases h:1≤t.length
    · rw [if_pos (by omega),decide_eq_true h,Bool.true_and]
      congr 1
      exact decide_eq_decide.2 (by omega)
    · rw [if_neg (by omega),decide_eq_false h,Bool.false_and]
def qL (t:List ByteArray) (s:ByteArray):Bool:=allB s.size (fun i=>decide (0≤kK (bt s i) t.length)) && jw t
theorem N9 (t:List ByteArray) (s:ByteArray) (ht:t.length≤9223372036854775807) (hs:s.size≤9223372036854775807):Ev (fun k=>fJ.f k t s) (qL t s):=by
  have:=lu (g:=fun k i=>fJ.l0 k t s s.size (i:Nat)) (fun i=>if decide (0≤kK (bt s i) t.length) then none else some false) s.size (jw t)
    (fun i hi hb q hq=>?_) (fun i hi b hb=>?_) (fun _=>?_) s.size 0 (by omega) (fun j hj=>by omega)
  · rw [qJ s.size (fun i=>decide (0≤kK (bt s i) t.length))] at this
    exact this
  · have h2:0≤kK (bt s i) t.length:=by
      by_cases h:0≤kK (bt s i) t.length
      · exact h
      · simp [h] at hb
    refine Ev.step (fun k=>?_) hq
    simp only [fJ.l0]
    rw [if_pos (by omega),if_pos (by omega),if_pos (by omega),wrapN hi hs,uw]
    simp only [Option.bind_some]
    rw [if_neg (by omega)]
  · have h2:¬ 0≤kK (bt s i) t.length∧b=false:=by
      by_cases h:0≤kK (bt s i) t.length
      · simp [h] at hb
      · simp [h] at hb
        exact ⟨h,hb⟩
    obtain ⟨h2,rfl⟩:=h2
    refine Ev.step (f:=fun _=>some false) (fun k=>?_) (Ev.now false)
    simp only [fJ.l0]
    rw [if_pos (by omega),if_pos (by omega),if_pos (by omega),uw]
    simp only [Option.bind_some]
    rw [if_pos (by omega)]
  · refine Ev.step (f:=fun k=>(bP.f k t).bind fun t104=>some t104) (fun k=>?_) (Ev.bind (IQ t ht) (Ev.now _))
    simp only [fJ.l0]
    rw [if_neg (by omega)]
theorem nO (s:ByteArray) (a:Nat) (h:a < s.size):(s.extract a (a+1)).size=1:=by
  simp
  omega
theorem yu (s:ByteArray) (a:Nat) (h:a < s.size):bt (s.extract a (a+1)) 0=bt s a:=by
  unfold bt
  have h1:(0:Int).toNat < (s.extract a (a+1)).size:=by rw [nO s a h];decide
  have h2:(a:Int).toNat < s.size:=by omega
  rw [dif_pos h1,dif_pos h2]
  congr 2
  show (s.extract a (a+1)).data[(0:Int).toNat]=s.data[(a:Int).toNat]
  simp
def df (t:List ByteArray) (s:ByteArray) (a:Int):Int:=if a < s.size then (if (decide (0≤kK (bt s a) t.length) && jw t)=true then bt s a - 48 else -1) else -1
theorem IY (t:List ByteArray) (s:ByteArray) (a:Int) (ht:t.length≤9223372036854775807) (h0:0≤a) (h1:a≤255):Ev (fun k=>iO.f k t s a) (df t s a):=by
  have e1:wrap64 a=a:=by unfold wrap64;omega
  have e2:wrap64 (a+1)=a+1:=by unfold wrap64;omega
  by_cases h:a < s.size
  · obtain ⟨n,rfl⟩:=Int.eq_ofNat_of_zero_le h0
    have hn:n < s.size:=by omega
    have hr:=N9 t (s.extract n (n+1)) ht (by rw [nO s n hn];omega)
    have er:qL t (s.extract n (n+1))=(decide (0≤kK (bt s (n:Int)) t.length) && jw t):=by
      unfold qL
      rw [nO s n hn]
      congr 1
      show (List.range 1).all _=_
      simp only [List.range_one,List.all_cons,List.all_nil,Bool.and_true]
      rw [show ((0:Nat):Int)=0 from rfl,yu s n hn]
    rw [er] at hr
    refine Ev.congr (f:=fun k=>(fJ.f k t (s.extract n (n+1))).bind fun t105=>if t105=true then some ((bt s n - 48) % 256) else some (-1)) (fun k=>?_) (Ev.bind hr ?_)
    · unfold iO.f
      rw [e1,e2,if_neg (by omega),if_pos (by omega),if_pos (by omega),if_pos (by omega)]
      rw [show ((n:Int)+1).toNat=n+1 from by omega,Int.toNat_natCast]
      congr 1
      funext t105
      by_cases hb:t105=true
      · rw [if_pos hb,if_pos hb,if_pos (by omega),if_pos (by omega)]
      · rw [if_neg hb,if_neg hb]
    · unfold df
      rw [if_pos h]
      cases hb:(decide (0≤kK (bt s (n:Int)) t.length) && jw t)
      · rw [if_neg (by decide),if_neg (by decide)]
        exact Ev.now _
      · rw [if_pos rfl,if_pos rfl]
        have:=Fz.1 (of_decide_eq_true (Bool.and_eq_true _ _ ▸ hb).1)
        have hr:=uA s n
        rw [show (bt s (n:Int) - 48) % 256=bt s n - 48 from by omega]
        exact Ev.now _
  · refine Ev.congr (f:=fun _=>some (-1)) (fun k=>?_) (by unfold df;rw [if_neg h];exact Ev.now _)
    unfold iO.f
    rw [e1,if_pos (by omega)]
theorem yO (t:List ByteArray) (lo gl:ByteArray) (code:List gZ) (a:Int) (ht:t.length≤9223372036854775807) (h0:0≤a) (h1:a≤255):Ev (fun k=>gu.f k t lo gl code a) (df t lo a) :=
  Ev.bind (IY t lo a ht h0 h1) (Ev.now _)
theorem PK (t:List ByteArray) (lo gl:ByteArray) (code:List gZ) (a:Int) (ht:t.length≤9223372036854775807) (h0:0≤a) (h1:a≤255):Ev (fun k=>jf.f k t lo gl code a) (df t gl a) :=
  Ev.bind (IY t gl a ht h0 h1) (Ev.now _)
def LY (t:List ByteArray) (i:Int):ByteArray:=if (jw t && (decide (0≤i) && decide (i < t.length)))=true then dW ByteArray.empty t i else ⟨#[]⟩
theorem aaD (t:List ByteArray) (i:Int) (ht:t.length≤9223372036854775807):Ev (fun k=>kY.f k t i) (LY t i):=by
  refine Ev.bind (IQ t ht) ?_
  unfold LY
  cases jw t
  · rw [if_neg (by decide),if_neg (by simp)]
    exact Ev.now _
  · rw [if_pos rfl]
    by_cases h0:i < 0
    · rw [if_pos h0,if_neg (by simp;omega)]
      exact Ev.now _
    · by_cases h1:i < t.length
      · rw [if_neg h0,if_neg (by omega),if_pos (by omega),if_pos h1,if_pos (by simp;omega)]
        exact Ev.now _
      · rw [if_neg h0,if_pos (by omega),if_neg (by simp;omega)]
        exact Ev.now _
def jl (t:List ByteArray) (i:Int):Int:=(LY t i).size
theorem NQ (t:List ByteArray) (i:Int) (ht:t.length≤9223372036854775807):Ev (fun k=>jC.f k t i) (jl t i):=Ev.bind (aaD t i ht) (Ev.now _)
def Ei (t:List ByteArray) (i f:Int):Int:=if 0≤f∧f < jl t i then kK (bt (LY t i) f) t.length else -1
theorem aki (t:List ByteArray) (i f:Int) (ht:t.length≤9223372036854775807):Ev (fun k=>nH.f k t i f) (Ei t i f):=by
  refine Ev.bind (aaD t i ht) ?_
  unfold Ei jl
  by_cases h0:f < 0
  · rw [if_pos h0,if_neg (by omega)]
    exact Ev.now _
  · by_cases h1:f < (LY t i).size
    · rw [if_neg h0,if_neg (by omega),if_pos (by omega),if_pos h1,if_pos (by omega),uw]
      exact Ev.now _
    · rw [if_neg h0,if_pos (by omega),if_neg (by omega)]
      exact Ev.now _
def ny (t:List ByteArray) (a n:Int):Int × Bool:=if 0≤a∧0≤n∧n < jl t a then (Ei t a n,true) else (-1,false)
theorem D7 (t:List ByteArray) (lo gl:ByteArray) (code:List gZ) (a n:Int) (ht:t.length≤9223372036854775807):Ev (fun k=>gK.f k t lo gl code a n) (ny t a n):=by
  unfold ny
  by_cases h0:a < 0
  · refine Ev.congr (f:=fun _=>some (-1,false)) (fun k=>?_) (by rw [if_neg (by omega)];exact Ev.now _)
    unfold gK.f
    rw [if_pos h0]
  · by_cases h1:n < 0
    · refine Ev.congr (f:=fun _=>some (-1,false)) (fun k=>?_) (by rw [if_neg (by omega)];exact Ev.now _)
      unfold gK.f
      rw [if_neg h0,if_pos h1]
    · refine Ev.congr (f:=fun k=>(jC.f k t a).bind fun t117=>if n ≥ t117 then some (-1,false) else (nH.f k t a n).bind fun t118=>some (t118,true)) (fun k=>?_) (Ev.bind (NQ t a ht) ?_)
      · unfold gK.f
        rw [if_neg h0,if_neg h1]
      · refine Ev.out (Ev.ite (fun _=>Ev.now (-1,false)) (fun _=>Ev.bind (aki t a n ht) (Ev.now (Ei t a n,true)))) ?_
        by_cases h2:n < jl t a
        · rw [if_neg (by omega),if_pos (by omega)]
        · rw [if_pos (by omega),if_neg (by omega)]
def pI (t:List ByteArray) (a n:Int):Bool:=(ny t a n).2 && decide ((ny t a n).1 < 0)
theorem EL (t:List ByteArray) (lo gl:ByteArray) (code:List gZ) (a n:Int) (ht:t.length≤9223372036854775807):Ev (fun k=>gI.f k t lo gl code a n) (pI t a n):=by
  refine Ev.bind (D7 t lo gl code a n ht) ?_
  unfold pI
  refine Ev.out (Ev.ite (fun _=>Ev.now (decide ((ny t a n).1 < 0))) (fun _=>Ev.now false)) ?_
  cases (ny t a n).2 <;> simp
def nZ (l:List Int):Bool:=allB l.length fun i=>decide (rd l i < 8)
theorem zZ (l:List Int) (hl:l.length≤9223372036854775807):Ev (fun k=>dF.f k l) (nZ l):=by
  have:=lu (g:=fun k i=>dF.l0 k l l.length (i:Nat)) (fun i=>if decide (rd l i < 8) then none else some false) l.length true
    (fun i hi hb q hq=>?_) (fun i hi b hb=>?_) (fun _=>?_) l.length 0 (by omega) (fun j hj=>by omega)
  · rw [qJ l.length (fun i=>decide (rd l i < 8)),Bool.and_true] at this
    exact this
  · have h2:rd l i < 8:=by
      by_cases h:rd l i < 8
      · exact h
      · simp [h] at hb
    refine Ev.step (fun k=>?_) hq
    simp only [dF.l0]
    rw [if_pos (by omega),if_pos (by omega),if_pos (by omega),wrapN hi hl,if_neg (by omega)]
  · have h2:¬ rd l i < 8∧b=false:=by
      by_cases h:rd l i < 8
      · simp [h] at hb
      · simp [h] at hb
        exact ⟨h,hb⟩
    obtain ⟨h2,rfl⟩:=h2
    refine Ev.step (f:=fun _=>some false) (fun k=>?_) (Ev.now false)
    simp only [dF.l0]
    rw [if_pos (by omega),if_pos (by omega),if_pos (by omega),if_pos (by omega)]
  · refine Ev.step (f:=fun _=>some true) (fun k=>?_) (Ev.now _)
    simp only [dF.l0]
    rw [if_neg (by omega)]
def oP (a b:Int):Bool:=decide (0≤a) && a == b
theorem BO (a b:Int):gU.f a b=some (oP a b):=by
  unfold gU.f oP
  by_cases h:0≤a
  · rw [if_pos h,decide_eq_true h,Bool.true_and]
  · rw [if_neg h,decide_eq_false h,Bool.false_and]
def pJ (t:List ByteArray) (lo gl:ByteArray) (o a b c n:Int):Bool :=
  if o=7 then oP (df t lo a) (df t lo b)
  else if o=8 then (if nZ [a]=true then pI t (df t lo b) n else false)
  else if o=9 then (if nZ [b]=true then pI t (df t lo a) n else false)
  else if o=10 then oP (df t lo a) (ny t (df t lo b) n).1
  else if o=11 then oP (df t lo b) (ny t (df t lo a) n).1
  else if o=12 then oP (df t lo a) (df t gl b)
  else if o=13 then oP (df t lo b) (df t gl a)
  else if o=15 then (if nZ [a]=true then oP (df t lo b) (df t lo c) else false)
  else true
def nG (t:List ByteArray) (lo gl:ByteArray) (o a b c n:Int) (x:Bool):Bool :=
  if x=true then decide (df t lo a ≥ 0) else pJ t lo gl o a b c n
def lG (t:List ByteArray) (lo gl:ByteArray) (o a b c n:Int) (x:Bool):Bool :=
  if x=true then nZ [a] else if o=2 then nZ [a,b,c]
  else if o=5 then nG t lo gl o a b c n (o == 5) else nG t lo gl o a b c n (o == 6)
def nK (t:List ByteArray) (lo gl:ByteArray) (o a b c n:Int):Bool :=
  if o=1 then lG t lo gl o a b c n (o == 1) else if o=4 then lG t lo gl o a b c n (o == 4) else lG t lo gl o a b c n (o == 14)
theorem RD (t:List ByteArray) (lo gl:ByteArray) (code:List gZ) (o a b c n:Int) (ht:t.length≤9223372036854775807)
    (ha:0≤a∧a≤255) (hb:0≤b∧b≤255) (hc:0≤c∧c≤255):Ev (fun k=>bV.f k t lo gl code o a b c n) (nK t lo gl o a b c n):=by
  have one:∀ x,Ev (fun k=>(dF.f k [x]).bind fun q=>some q) (nZ [x]):=fun x=>Ev.bind (zZ [x] (by simp)) (Ev.now _)
  have j1:∀ x,Ev (fun k=>bV.j1 k (df t lo a) (df t lo b) o x t lo gl code o a b c n) (nG t lo gl o a b c n x):=fun x=>by
    unfold nG pJ
    refine Ev.step (fun k=>by simp only [bV.j1];rfl) ?_
    refine Ev.ite (fun _=>Ev.now _) fun _=>?_
    refine Ev.ite (fun _=>Ev.congr (fun k=>by rw [BO];rfl) (Ev.now _)) fun _=>?_
    refine Ev.ite (fun _=>Ev.bind (zZ [a] (by simp)) (Ev.ite (fun _=>Ev.bind (EL t lo gl code _ _ ht) (Ev.now _)) fun _=>Ev.now _)) fun _=>?_
    refine Ev.ite (fun _=>Ev.bind (zZ [b] (by simp)) (Ev.ite (fun _=>Ev.bind (EL t lo gl code _ _ ht) (Ev.now _)) fun _=>Ev.now _)) fun _=>?_
    refine Ev.ite (fun _=>Ev.bind (D7 t lo gl code _ _ ht) (Ev.congr (fun k=>by rw [BO];rfl) (Ev.now _))) fun _=>?_
    refine Ev.ite (fun _=>Ev.bind (D7 t lo gl code _ _ ht) (Ev.congr (fun k=>by rw [BO];rfl) (Ev.now _))) fun _=>?_
    refine Ev.ite (fun _=>Ev.bind (PK t lo gl code _ ht hb.1 hb.2) (Ev.congr (fun k=>by rw [BO];rfl) (Ev.now _))) fun _=>?_
    refine Ev.ite (fun _=>Ev.bind (PK t lo gl code _ ht ha.1 ha.2) (Ev.congr (fun k=>by rw [BO];rfl) (Ev.now _))) fun _=>?_
    refine Ev.ite (fun _=>Ev.bind (zZ [a] (by simp)) (Ev.ite (fun _=>Ev.bind (yO t lo gl code _ ht hc.1 hc.2) (Ev.congr (fun k=>by rw [BO];rfl) (Ev.now _))) fun _=>Ev.now _)) fun _=>Ev.now _
  have j0:∀ x,Ev (fun k=>bV.j0 k (df t lo a) (df t lo b) o x t lo gl code o a b c n) (lG t lo gl o a b c n x):=fun x=>by
    unfold lG
    refine Ev.step (fun k=>by simp only [bV.j0];rfl) ?_
    refine Ev.ite (fun _=>one a) fun _=>?_
    refine Ev.ite (fun _=>Ev.bind (zZ [a,b,c] (by simp)) (Ev.now _)) fun _=>?_
    exact Ev.ite (fun _=>j1 _) fun _=>j1 _
  refine Ev.bind (yO t lo gl code a ht ha.1 ha.2) (Ev.bind (yO t lo gl code b ht hb.1 hb.2) ?_)
  exact Ev.ite (fun _=>j0 _) fun _=>Ev.ite (fun _=>j0 _) fun _=>j0 _
end Go.Proofs.YtlemecdddhdagaaDoor.P
end
section
namespace Go.Proofs.YtlemecdddhdagaaDoor.P
open Go.RowKit Go.Proofs.ag.bI Go.Proofs.ag.dM Go.Proofs.ag.dZ
set_option maxRecDepth 100000 in
set_option maxHeartbeats 1600000 in
theorem Rq (a1 a2 a3 a4:Int) (w:World) (kZ:Kd.C Kd.string w qx ku.length ku) :
    Calls Tryd.prog 33 #[.agg #[.int .u8 1,.int .u8 a1,.int .u8 a2,.int .u8 a3,.int .i64 a4]] w fun e w'=>e=.returned (.bool (a2 == 0 && a3 == 0))∧Below w.heap.size w w':=by
  have hmf:∀ (fn:Fn) (first cap:Array Value) (w:World),(Instr.makeFunc fn first cap).run Tryd.prog w=.ok (.func fn first cap) w:=fun _ _ _ _=>rfl
  have ht:=jQ kZ (.cells #[.int .u8 1,.int .u8 a1,.int .u8 a2,.int .u8 a3,.int .i64 a4] 55) 3 (by decide) ⟨#[97,110]⟩ rfl
  have hp:(w.alloc (.cells #[.int .u8 1,.int .u8 a1,.int .u8 a2,.int .u8 a3,.int .i64 a4] 55)).cell? ⟨w.heap.size,0,none⟩=some (.int .u8 (1:Nat)):=by simp
  have hb:Below w.heap.size w (w.alloc (.cells #[.int .u8 1,.int .u8 a1,.int .u8 a2,.int .u8 a3,.int .i64 a4] 55)):=(Below.refl _ w).alloc (Nat.le_refl _) _
  clear kZ
  by_cases eb:a2=0
  · have gb:(a2 == 0)=true:=beq_iff_eq.2 eb
    clear eb
    by_cases ec:a3=0
    · have gc:(a3 == 0)=true:=beq_iff_eq.2 ec
      clear ec
      rw [show (a2 == 0 && a3 == 0)=true from by simp [gb,gc]]
      go_enter Tryd.func33,Tryd.ntmps33
      go_wp2_with fail
      refine (rF w.heap.size 1 3 rfl (by decide) _ hp ht).mono ?_
      rintro e w' ⟨rfl,rfl⟩
      go_wp2_with fail
      refine (xh w.heap.size 1 3 rfl (by decide) _ hp ht).mono ?_
      rintro e w' ⟨rfl,rfl⟩
      go_wp2_with fail
      refine (Fg w.heap.size 1 3 rfl (by decide) _ hp ht).mono ?_
      rintro e w' ⟨rfl,rfl⟩
      go_wp2_with fail
      refine (Fh w.heap.size 1 3 rfl (by decide) _ hp ht).mono ?_
      rintro e w' ⟨rfl,rfl⟩
      go_wp2
      go_ret
      exact ⟨rfl,hb⟩
    · have gc:(a3 == 0)=false:=beq_eq_false_iff_ne.2 ec
      clear ec
      rw [show (a2 == 0 && a3 == 0)=false from by simp [gc]]
      go_enter Tryd.func33,Tryd.ntmps33
      go_wp2_with fail
      refine (rF w.heap.size 1 3 rfl (by decide) _ hp ht).mono ?_
      rintro e w' ⟨rfl,rfl⟩
      go_wp2_with fail
      refine (xh w.heap.size 1 3 rfl (by decide) _ hp ht).mono ?_
      rintro e w' ⟨rfl,rfl⟩
      go_wp2
      go_ret
      exact ⟨rfl,hb⟩
  · have gb:(a2 == 0)=false:=beq_eq_false_iff_ne.2 eb
    clear eb
    rw [show (a2 == 0 && a3 == 0)=false from by simp [gb]]
    go_enter Tryd.func33,Tryd.ntmps33
    go_wp2_with fail
    refine (rF w.heap.size 1 3 rfl (by decide) _ hp ht).mono ?_
    rintro e w' ⟨rfl,rfl⟩
    go_wp2
    go_ret
    exact ⟨rfl,hb⟩
set_option maxRecDepth 100000 in
set_option maxHeartbeats 1600000 in
theorem Ro (a1 a2 a3 a4:Int) (w:World) (kZ:Kd.C Kd.string w qx ku.length ku) :
    Calls Tryd.prog 33 #[.agg #[.int .u8 2,.int .u8 a1,.int .u8 a2,.int .u8 a3,.int .i64 a4]] w fun e w'=>e=.returned (.bool (a4 == 0))∧Below w.heap.size w w':=by
  have hmf:∀ (fn:Fn) (first cap:Array Value) (w:World),(Instr.makeFunc fn first cap).run Tryd.prog w=.ok (.func fn first cap) w:=fun _ _ _ _=>rfl
  have ht:=jQ kZ (.cells #[.int .u8 2,.int .u8 a1,.int .u8 a2,.int .u8 a3,.int .i64 a4] 55) 5 (by decide) ⟨#[97,98,99]⟩ rfl
  have hp:(w.alloc (.cells #[.int .u8 2,.int .u8 a1,.int .u8 a2,.int .u8 a3,.int .i64 a4] 55)).cell? ⟨w.heap.size,0,none⟩=some (.int .u8 (2:Nat)):=by simp
  have hb:Below w.heap.size w (w.alloc (.cells #[.int .u8 2,.int .u8 a1,.int .u8 a2,.int .u8 a3,.int .i64 a4] 55)):=(Below.refl _ w).alloc (Nat.le_refl _) _
  clear kZ
  by_cases en:a4=0
  · have gn:(a4 == 0)=true:=beq_iff_eq.2 en
    clear en
    rw [show (a4 == 0)=true from by simp [gn]]
    go_enter Tryd.func33,Tryd.ntmps33
    go_wp2_with fail
    refine (vg w.heap.size 2 5 rfl (by decide) _ hp ht).mono ?_
    rintro e w' ⟨rfl,rfl⟩
    go_wp2_with fail
    refine (uZ w.heap.size 2 5 rfl (by decide) _ hp ht).mono ?_
    rintro e w' ⟨rfl,rfl⟩
    go_wp2_with fail
    refine (uY w.heap.size 2 5 rfl (by decide) _ hp ht).mono ?_
    rintro e w' ⟨rfl,rfl⟩
    go_wp2_with fail
    refine (Ce w.heap.size 2 5 rfl (by decide) _ hp ht).mono ?_
    rintro e w' ⟨rfl,rfl⟩
    go_wp2
    go_ret
    exact ⟨rfl,hb⟩
  · have gn:(a4 == 0)=false:=beq_eq_false_iff_ne.2 en
    clear en
    rw [show (a4 == 0)=false from by simp [gn]]
    go_enter Tryd.func33,Tryd.ntmps33
    go_wp2_with fail
    refine (vg w.heap.size 2 5 rfl (by decide) _ hp ht).mono ?_
    rintro e w' ⟨rfl,rfl⟩
    go_wp2_with fail
    refine (uZ w.heap.size 2 5 rfl (by decide) _ hp ht).mono ?_
    rintro e w' ⟨rfl,rfl⟩
    go_wp2_with fail
    refine (uY w.heap.size 2 5 rfl (by decide) _ hp ht).mono ?_
    rintro e w' ⟨rfl,rfl⟩
    go_wp2
    go_ret
    exact ⟨rfl,hb⟩
set_option maxRecDepth 100000 in
set_option maxHeartbeats 1600000 in
theorem Rn (a1 a2 a3 a4:Int) (w:World) (kZ:Kd.C Kd.string w qx ku.length ku) :
    Calls Tryd.prog 33 #[.agg #[.int .u8 3,.int .u8 a1,.int .u8 a2,.int .u8 a3,.int .i64 a4]] w fun e w'=>e=.returned (.bool (a2 == 0 && a3 == 0 && a1 == 0))∧Below w.heap.size w w':=by
  have hmf:∀ (fn:Fn) (first cap:Array Value) (w:World),(Instr.makeFunc fn first cap).run Tryd.prog w=.ok (.func fn first cap) w:=fun _ _ _ _=>rfl
  have ht:=jQ kZ (.cells #[.int .u8 3,.int .u8 a1,.int .u8 a2,.int .u8 a3,.int .i64 a4] 55) 7 (by decide) ⟨#[110]⟩ rfl
  have hp:(w.alloc (.cells #[.int .u8 3,.int .u8 a1,.int .u8 a2,.int .u8 a3,.int .i64 a4] 55)).cell? ⟨w.heap.size,0,none⟩=some (.int .u8 (3:Nat)):=by simp
  have hb:Below w.heap.size w (w.alloc (.cells #[.int .u8 3,.int .u8 a1,.int .u8 a2,.int .u8 a3,.int .i64 a4] 55)):=(Below.refl _ w).alloc (Nat.le_refl _) _
  clear kZ
  by_cases eb:a2=0
  · have gb:(a2 == 0)=true:=beq_iff_eq.2 eb
    clear eb
    by_cases ec:a3=0
    · have gc:(a3 == 0)=true:=beq_iff_eq.2 ec
      clear ec
      by_cases ea:a1=0
      · have ga:(a1 == 0)=true:=beq_iff_eq.2 ea
        clear ea
        rw [show (a2 == 0 && a3 == 0 && a1 == 0)=true from by simp [gb,gc,ga]]
        go_enter Tryd.func33,Tryd.ntmps33
        go_wp2_with fail
        refine (zq w.heap.size 3 7 rfl (by decide) _ hp ht).mono ?_
        rintro e w' ⟨rfl,rfl⟩
        go_wp2_with fail
        refine (D5 w.heap.size 3 7 rfl (by decide) _ hp ht).mono ?_
        rintro e w' ⟨rfl,rfl⟩
        go_wp2_with fail
        refine (KG w.heap.size 3 7 rfl (by decide) _ hp ht).mono ?_
        rintro e w' ⟨rfl,rfl⟩
        go_wp2_with fail
        refine (KH w.heap.size 3 7 rfl (by decide) _ hp ht).mono ?_
        rintro e w' ⟨rfl,rfl⟩
        go_wp2
        go_ret
        exact ⟨rfl,hb⟩
      · have ga:(a1 == 0)=false:=beq_eq_false_iff_ne.2 ea
        clear ea
        rw [show (a2 == 0 && a3 == 0 && a1 == 0)=false from by simp [ga]]
        go_enter Tryd.func33,Tryd.ntmps33
        go_wp2_with fail
        refine (zq w.heap.size 3 7 rfl (by decide) _ hp ht).mono ?_
        rintro e w' ⟨rfl,rfl⟩
        go_wp2_with fail
        refine (D5 w.heap.size 3 7 rfl (by decide) _ hp ht).mono ?_
        rintro e w' ⟨rfl,rfl⟩
        go_wp2_with fail
        refine (KG w.heap.size 3 7 rfl (by decide) _ hp ht).mono ?_
        rintro e w' ⟨rfl,rfl⟩
        go_wp2_with fail
        refine (KH w.heap.size 3 7 rfl (by decide) _ hp ht).mono ?_
        rintro e w' ⟨rfl,rfl⟩
        go_wp2
        go_ret
        exact ⟨rfl,hb⟩
    · have gc:(a3 == 0)=false:=beq_eq_false_iff_ne.2 ec
      clear ec
      rw [show (a2 == 0 && a3 == 0 && a1 == 0)=false from by simp [gc]]
      go_enter Tryd.func33,Tryd.ntmps33
      go_wp2_with fail
      refine (zq w.heap.size 3 7 rfl (by decide) _ hp ht).mono ?_
      rintro e w' ⟨rfl,rfl⟩
      go_wp2_with fail
      refine (D5 w.heap.size 3 7 rfl (by decide) _ hp ht).mono ?_
      rintro e w' ⟨rfl,rfl⟩
      go_wp2
      go_ret
      exact ⟨rfl,hb⟩
  · have gb:(a2 == 0)=false:=beq_eq_false_iff_ne.2 eb
    clear eb
    rw [show (a2 == 0 && a3 == 0 && a1 == 0)=false from by simp [gb]]
    go_enter Tryd.func33,Tryd.ntmps33
    go_wp2_with fail
    refine (zq w.heap.size 3 7 rfl (by decide) _ hp ht).mono ?_
    rintro e w' ⟨rfl,rfl⟩
    go_wp2
    go_ret
    exact ⟨rfl,hb⟩
set_option maxRecDepth 100000 in
set_option maxHeartbeats 1600000 in
theorem Rl (a1 a2 a3 a4:Int) (w:World) (kZ:Kd.C Kd.string w qx ku.length ku) :
    Calls Tryd.prog 33 #[.agg #[.int .u8 4,.int .u8 a1,.int .u8 a2,.int .u8 a3,.int .i64 a4]] w fun e w'=>e=.returned (.bool (a2 == 0 && a3 == 0))∧Below w.heap.size w w':=by
  have hmf:∀ (fn:Fn) (first cap:Array Value) (w:World),(Instr.makeFunc fn first cap).run Tryd.prog w=.ok (.func fn first cap) w:=fun _ _ _ _=>rfl
  have ht:=jQ kZ (.cells #[.int .u8 4,.int .u8 a1,.int .u8 a2,.int .u8 a3,.int .i64 a4] 55) 9 (by decide) ⟨#[97,110]⟩ rfl
  have hp:(w.alloc (.cells #[.int .u8 4,.int .u8 a1,.int .u8 a2,.int .u8 a3,.int .i64 a4] 55)).cell? ⟨w.heap.size,0,none⟩=some (.int .u8 (4:Nat)):=by simp
  have hb:Below w.heap.size w (w.alloc (.cells #[.int .u8 4,.int .u8 a1,.int .u8 a2,.int .u8 a3,.int .i64 a4] 55)):=(Below.refl _ w).alloc (Nat.le_refl _) _
  clear kZ
  by_cases eb:a2=0
  · have gb:(a2 == 0)=true:=beq_iff_eq.2 eb
    clear eb
    by_cases ec:a3=0
    · have gc:(a3 == 0)=true:=beq_iff_eq.2 ec
      clear ec
      rw [show (a2 == 0 && a3 == 0)=true from by simp [gb,gc]]
      go_enter Tryd.func33,Tryd.ntmps33
      go_wp2_with fail
      refine (rF w.heap.size 4 9 rfl (by decide) _ hp ht).mono ?_
      rintro e w' ⟨rfl,rfl⟩
      go_wp2_with fail
      refine (xh w.heap.size 4 9 rfl (by decide) _ hp ht).mono ?_
      rintro e w' ⟨rfl,rfl⟩
      go_wp2_with fail
      refine (Fg w.heap.size 4 9 rfl (by decide) _ hp ht).mono ?_
      rintro e w' ⟨rfl,rfl⟩
      go_wp2_with fail
      refine (Fh w.heap.size 4 9 rfl (by decide) _ hp ht).mono ?_
      rintro e w' ⟨rfl,rfl⟩
      go_wp2
      go_ret
      exact ⟨rfl,hb⟩
    · have gc:(a3 == 0)=false:=beq_eq_false_iff_ne.2 ec
      clear ec
      rw [show (a2 == 0 && a3 == 0)=false from by simp [gc]]
      go_enter Tryd.func33,Tryd.ntmps33
      go_wp2_with fail
      refine (rF w.heap.size 4 9 rfl (by decide) _ hp ht).mono ?_
      rintro e w' ⟨rfl,rfl⟩
      go_wp2_with fail
      refine (xh w.heap.size 4 9 rfl (by decide) _ hp ht).mono ?_
      rintro e w' ⟨rfl,rfl⟩
      go_wp2
      go_ret
      exact ⟨rfl,hb⟩
  · have gb:(a2 == 0)=false:=beq_eq_false_iff_ne.2 eb
    clear eb
    rw [show (a2 == 0 && a3 == 0)=false from by simp [gb]]
    go_enter Tryd.func33,Tryd.ntmps33
    go_wp2_with fail
    refine (rF w.heap.size 4 9 rfl (by decide) _ hp ht).mono ?_
    rintro e w' ⟨rfl,rfl⟩
    go_wp2
    go_ret
    exact ⟨rfl,hb⟩
set_option maxRecDepth 100000 in
set_option maxHeartbeats 1600000 in
theorem Rk (a1 a2 a3 a4:Int) (w:World) (kZ:Kd.C Kd.string w qx ku.length ku) :
    Calls Tryd.prog 33 #[.agg #[.int .u8 5,.int .u8 a1,.int .u8 a2,.int .u8 a3,.int .i64 a4]] w fun e w'=>e=.returned (.bool (a2 == 0 && a3 == 0 && a4 == 0))∧Below w.heap.size w w':=by
  have hmf:∀ (fn:Fn) (first cap:Array Value) (w:World),(Instr.makeFunc fn first cap).run Tryd.prog w=.ok (.func fn first cap) w:=fun _ _ _ _=>rfl
  have ht:=jQ kZ (.cells #[.int .u8 5,.int .u8 a1,.int .u8 a2,.int .u8 a3,.int .i64 a4] 55) 11 (by decide) ⟨#[97]⟩ rfl
  have hp:(w.alloc (.cells #[.int .u8 5,.int .u8 a1,.int .u8 a2,.int .u8 a3,.int .i64 a4] 55)).cell? ⟨w.heap.size,0,none⟩=some (.int .u8 (5:Nat)):=by simp
  have hb:Below w.heap.size w (w.alloc (.cells #[.int .u8 5,.int .u8 a1,.int .u8 a2,.int .u8 a3,.int .i64 a4] 55)):=(Below.refl _ w).alloc (Nat.le_refl _) _
  clear kZ
  by_cases eb:a2=0
  · have gb:(a2 == 0)=true:=beq_iff_eq.2 eb
    clear eb
    by_cases ec:a3=0
    · have gc:(a3 == 0)=true:=beq_iff_eq.2 ec
      clear ec
      by_cases en:a4=0
      · have gn:(a4 == 0)=true:=beq_iff_eq.2 en
        clear en
        rw [show (a2 == 0 && a3 == 0 && a4 == 0)=true from by simp [gb,gc,gn]]
        go_enter Tryd.func33,Tryd.ntmps33
        go_wp2_with fail
        refine (nT w.heap.size 5 11 rfl (by decide) _ hp ht).mono ?_
        rintro e w' ⟨rfl,rfl⟩
        go_wp2_with fail
        refine (qy w.heap.size 5 11 rfl (by decide) _ hp ht).mono ?_
        rintro e w' ⟨rfl,rfl⟩
        go_wp2_with fail
        refine (vk w.heap.size 5 11 rfl (by decide) _ hp ht).mono ?_
        rintro e w' ⟨rfl,rfl⟩
        go_wp2_with fail
        refine (D6 w.heap.size 5 11 rfl (by decide) _ hp ht).mono ?_
        rintro e w' ⟨rfl,rfl⟩
        go_wp2
        go_ret
        exact ⟨rfl,hb⟩
      · have gn:(a4 == 0)=false:=beq_eq_false_iff_ne.2 en
        clear en
        rw [show (a2 == 0 && a3 == 0 && a4 == 0)=false from by simp [gn]]
        go_enter Tryd.func33,Tryd.ntmps33
        go_wp2_with fail
        refine (nT w.heap.size 5 11 rfl (by decide) _ hp ht).mono ?_
        rintro e w' ⟨rfl,rfl⟩
        go_wp2_with fail
        refine (qy w.heap.size 5 11 rfl (by decide) _ hp ht).mono ?_
        rintro e w' ⟨rfl,rfl⟩
        go_wp2_with fail
        refine (vk w.heap.size 5 11 rfl (by decide) _ hp ht).mono ?_
        rintro e w' ⟨rfl,rfl⟩
        go_wp2
        go_ret
        exact ⟨rfl,hb⟩
    · have gc:(a3 == 0)=false:=beq_eq_false_iff_ne.2 ec
      clear ec
      rw [show (a2 == 0 && a3 == 0 && a4 == 0)=false from by simp [gc]]
      go_enter Tryd.func33,Tryd.ntmps33
      go_wp2_with fail
      refine (nT w.heap.size 5 11 rfl (by decide) _ hp ht).mono ?_
      rintro e w' ⟨rfl,rfl⟩
      go_wp2_with fail
      refine (qy w.heap.size 5 11 rfl (by decide) _ hp ht).mono ?_
      rintro e w' ⟨rfl,rfl⟩
      go_wp2
      go_ret
      exact ⟨rfl,hb⟩
  · have gb:(a2 == 0)=false:=beq_eq_false_iff_ne.2 eb
    clear eb
    rw [show (a2 == 0 && a3 == 0 && a4 == 0)=false from by simp [gb]]
    go_enter Tryd.func33,Tryd.ntmps33
    go_wp2_with fail
    refine (nT w.heap.size 5 11 rfl (by decide) _ hp ht).mono ?_
    rintro e w' ⟨rfl,rfl⟩
    go_wp2
    go_ret
    exact ⟨rfl,hb⟩
set_option maxRecDepth 100000 in
set_option maxHeartbeats 1600000 in
theorem Rj (a1 a2 a3 a4:Int) (w:World) (kZ:Kd.C Kd.string w qx ku.length ku) :
    Calls Tryd.prog 33 #[.agg #[.int .u8 6,.int .u8 a1,.int .u8 a2,.int .u8 a3,.int .i64 a4]] w fun e w'=>e=.returned (.bool (a2 == 0 && a3 == 0 && a4 == 0))∧Below w.heap.size w w':=by
  have hmf:∀ (fn:Fn) (first cap:Array Value) (w:World),(Instr.makeFunc fn first cap).run Tryd.prog w=.ok (.func fn first cap) w:=fun _ _ _ _=>rfl
  have ht:=jQ kZ (.cells #[.int .u8 6,.int .u8 a1,.int .u8 a2,.int .u8 a3,.int .i64 a4] 55) 13 (by decide) ⟨#[97]⟩ rfl
  have hp:(w.alloc (.cells #[.int .u8 6,.int .u8 a1,.int .u8 a2,.int .u8 a3,.int .i64 a4] 55)).cell? ⟨w.heap.size,0,none⟩=some (.int .u8 (6:Nat)):=by simp
  have hb:Below w.heap.size w (w.alloc (.cells #[.int .u8 6,.int .u8 a1,.int .u8 a2,.int .u8 a3,.int .i64 a4] 55)):=(Below.refl _ w).alloc (Nat.le_refl _) _
  clear kZ
  by_cases eb:a2=0
  · have gb:(a2 == 0)=true:=beq_iff_eq.2 eb
    clear eb
    by_cases ec:a3=0
    · have gc:(a3 == 0)=true:=beq_iff_eq.2 ec
      clear ec
      by_cases en:a4=0
      · have gn:(a4 == 0)=true:=beq_iff_eq.2 en
        clear en
        rw [show (a2 == 0 && a3 == 0 && a4 == 0)=true from by simp [gb,gc,gn]]
        go_enter Tryd.func33,Tryd.ntmps33
        go_wp2_with fail
        refine (nT w.heap.size 6 13 rfl (by decide) _ hp ht).mono ?_
        rintro e w' ⟨rfl,rfl⟩
        go_wp2_with fail
        refine (qy w.heap.size 6 13 rfl (by decide) _ hp ht).mono ?_
        rintro e w' ⟨rfl,rfl⟩
        go_wp2_with fail
        refine (vk w.heap.size 6 13 rfl (by decide) _ hp ht).mono ?_
        rintro e w' ⟨rfl,rfl⟩
        go_wp2_with fail
        refine (D6 w.heap.size 6 13 rfl (by decide) _ hp ht).mono ?_
        rintro e w' ⟨rfl,rfl⟩
        go_wp2
        go_ret
        exact ⟨rfl,hb⟩
      · have gn:(a4 == 0)=false:=beq_eq_false_iff_ne.2 en
        clear en
        rw [show (a2 == 0 && a3 == 0 && a4 == 0)=false from by simp [gn]]
        go_enter Tryd.func33,Tryd.ntmps33
        go_wp2_with fail
        refine (nT w.heap.size 6 13 rfl (by decide) _ hp ht).mono ?_
        rintro e w' ⟨rfl,rfl⟩
        go_wp2_with fail
        refine (qy w.heap.size 6 13 rfl (by decide) _ hp ht).mono ?_
        rintro e w' ⟨rfl,rfl⟩
        go_wp2_with fail
        refine (vk w.heap.size 6 13 rfl (by decide) _ hp ht).mono ?_
        rintro e w' ⟨rfl,rfl⟩
        go_wp2
        go_ret
        exact ⟨rfl,hb⟩
    · have gc:(a3 == 0)=false:=beq_eq_false_iff_ne.2 ec
      clear ec
      rw [show (a2 == 0 && a3 == 0 && a4 == 0)=false from by simp [gc]]
      go_enter Tryd.func33,Tryd.ntmps33
      go_wp2_with fail
      refine (nT w.heap.size 6 13 rfl (by decide) _ hp ht).mono ?_
      rintro e w' ⟨rfl,rfl⟩
      go_wp2_with fail
      refine (qy w.heap.size 6 13 rfl (by decide) _ hp ht).mono ?_
      rintro e w' ⟨rfl,rfl⟩
      go_wp2
      go_ret
      exact ⟨rfl,hb⟩
  · have gb:(a2 == 0)=false:=beq_eq_false_iff_ne.2 eb
    clear eb
    rw [show (a2 == 0 && a3 == 0 && a4 == 0)=false from by simp [gb]]
    go_enter Tryd.func33,Tryd.ntmps33
    go_wp2_with fail
    refine (nT w.heap.size 6 13 rfl (by decide) _ hp ht).mono ?_
    rintro e w' ⟨rfl,rfl⟩
    go_wp2
    go_ret
    exact ⟨rfl,hb⟩
set_option maxRecDepth 100000 in
set_option maxHeartbeats 1600000 in
theorem Ri (a1 a2 a3 a4:Int) (w:World) (kZ:Kd.C Kd.string w qx ku.length ku) :
    Calls Tryd.prog 33 #[.agg #[.int .u8 7,.int .u8 a1,.int .u8 a2,.int .u8 a3,.int .i64 a4]] w fun e w'=>e=.returned (.bool (a3 == 0 && a4 == 0))∧Below w.heap.size w w':=by
  have hmf:∀ (fn:Fn) (first cap:Array Value) (w:World),(Instr.makeFunc fn first cap).run Tryd.prog w=.ok (.func fn first cap) w:=fun _ _ _ _=>rfl
  have ht:=jQ kZ (.cells #[.int .u8 7,.int .u8 a1,.int .u8 a2,.int .u8 a3,.int .i64 a4] 55) 15 (by decide) ⟨#[97,98]⟩ rfl
  have hp:(w.alloc (.cells #[.int .u8 7,.int .u8 a1,.int .u8 a2,.int .u8 a3,.int .i64 a4] 55)).cell? ⟨w.heap.size,0,none⟩=some (.int .u8 (7:Nat)):=by simp
  have hb:Below w.heap.size w (w.alloc (.cells #[.int .u8 7,.int .u8 a1,.int .u8 a2,.int .u8 a3,.int .i64 a4] 55)):=(Below.refl _ w).alloc (Nat.le_refl _) _
  clear kZ
  by_cases ec:a3=0
  · have gc:(a3 == 0)=true:=beq_iff_eq.2 ec
    clear ec
    by_cases en:a4=0
    · have gn:(a4 == 0)=true:=beq_iff_eq.2 en
      clear en
      rw [show (a3 == 0 && a4 == 0)=true from by simp [gc,gn]]
      go_enter Tryd.func33,Tryd.ntmps33
      go_wp2_with fail
      refine (oK w.heap.size 7 15 rfl (by decide) _ hp ht).mono ?_
      rintro e w' ⟨rfl,rfl⟩
      go_wp2_with fail
      refine (oJ w.heap.size 7 15 rfl (by decide) _ hp ht).mono ?_
      rintro e w' ⟨rfl,rfl⟩
      go_wp2_with fail
      refine (rG w.heap.size 7 15 rfl (by decide) _ hp ht).mono ?_
      rintro e w' ⟨rfl,rfl⟩
      go_wp2_with fail
      refine (Ap w.heap.size 7 15 rfl (by decide) _ hp ht).mono ?_
      rintro e w' ⟨rfl,rfl⟩
      go_wp2
      go_ret
      exact ⟨rfl,hb⟩
    · have gn:(a4 == 0)=false:=beq_eq_false_iff_ne.2 en
      clear en
      rw [show (a3 == 0 && a4 == 0)=false from by simp [gn]]
      go_enter Tryd.func33,Tryd.ntmps33
      go_wp2_with fail
      refine (oK w.heap.size 7 15 rfl (by decide) _ hp ht).mono ?_
      rintro e w' ⟨rfl,rfl⟩
      go_wp2_with fail
      refine (oJ w.heap.size 7 15 rfl (by decide) _ hp ht).mono ?_
      rintro e w' ⟨rfl,rfl⟩
      go_wp2_with fail
      refine (rG w.heap.size 7 15 rfl (by decide) _ hp ht).mono ?_
      rintro e w' ⟨rfl,rfl⟩
      go_wp2
      go_ret
      exact ⟨rfl,hb⟩
  · have gc:(a3 == 0)=false:=beq_eq_false_iff_ne.2 ec
    clear ec
    rw [show (a3 == 0 && a4 == 0)=false from by simp [gc]]
    go_enter Tryd.func33,Tryd.ntmps33
    go_wp2_with fail
    refine (oK w.heap.size 7 15 rfl (by decide) _ hp ht).mono ?_
    rintro e w' ⟨rfl,rfl⟩
    go_wp2_with fail
    refine (oJ w.heap.size 7 15 rfl (by decide) _ hp ht).mono ?_
    rintro e w' ⟨rfl,rfl⟩
    go_wp2
    go_ret
    exact ⟨rfl,hb⟩
set_option maxRecDepth 100000 in
set_option maxHeartbeats 1600000 in
theorem Rh (a1 a2 a3 a4:Int) (w:World) (kZ:Kd.C Kd.string w qx ku.length ku) :
    Calls Tryd.prog 33 #[.agg #[.int .u8 8,.int .u8 a1,.int .u8 a2,.int .u8 a3,.int .i64 a4]] w fun e w'=>e=.returned (.bool (a3 == 0))∧Below w.heap.size w w':=by
  have hmf:∀ (fn:Fn) (first cap:Array Value) (w:World),(Instr.makeFunc fn first cap).run Tryd.prog w=.ok (.func fn first cap) w:=fun _ _ _ _=>rfl
  have ht:=jQ kZ (.cells #[.int .u8 8,.int .u8 a1,.int .u8 a2,.int .u8 a3,.int .i64 a4] 55) 17 (by decide) ⟨#[97,98,110]⟩ rfl
  have hp:(w.alloc (.cells #[.int .u8 8,.int .u8 a1,.int .u8 a2,.int .u8 a3,.int .i64 a4] 55)).cell? ⟨w.heap.size,0,none⟩=some (.int .u8 (8:Nat)):=by simp
  have hb:Below w.heap.size w (w.alloc (.cells #[.int .u8 8,.int .u8 a1,.int .u8 a2,.int .u8 a3,.int .i64 a4] 55)):=(Below.refl _ w).alloc (Nat.le_refl _) _
  clear kZ
  by_cases ec:a3=0
  · have gc:(a3 == 0)=true:=beq_iff_eq.2 ec
    clear ec
    rw [show (a3 == 0)=true from by simp [gc]]
    go_enter Tryd.func33,Tryd.ntmps33
    go_wp2_with fail
    refine (uX w.heap.size 8 17 rfl (by decide) _ hp ht).mono ?_
    rintro e w' ⟨rfl,rfl⟩
    go_wp2_with fail
    refine (uV w.heap.size 8 17 rfl (by decide) _ hp ht).mono ?_
    rintro e w' ⟨rfl,rfl⟩
    go_wp2_with fail
    refine (Cb w.heap.size 8 17 rfl (by decide) _ hp ht).mono ?_
    rintro e w' ⟨rfl,rfl⟩
    go_wp2_with fail
    refine (Cc w.heap.size 8 17 rfl (by decide) _ hp ht).mono ?_
    rintro e w' ⟨rfl,rfl⟩
    go_wp2
    go_ret
    exact ⟨rfl,hb⟩
  · have gc:(a3 == 0)=false:=beq_eq_false_iff_ne.2 ec
    clear ec
    rw [show (a3 == 0)=false from by simp [gc]]
    go_enter Tryd.func33,Tryd.ntmps33
    go_wp2_with fail
    refine (uX w.heap.size 8 17 rfl (by decide) _ hp ht).mono ?_
    rintro e w' ⟨rfl,rfl⟩
    go_wp2_with fail
    refine (uV w.heap.size 8 17 rfl (by decide) _ hp ht).mono ?_
    rintro e w' ⟨rfl,rfl⟩
    go_wp2
    go_ret
    exact ⟨rfl,hb⟩
set_option maxRecDepth 100000 in
set_option maxHeartbeats 1600000 in
theorem Rf (a1 a2 a3 a4:Int) (w:World) (kZ:Kd.C Kd.string w qx ku.length ku) :
    Calls Tryd.prog 33 #[.agg #[.int .u8 9,.int .u8 a1,.int .u8 a2,.int .u8 a3,.int .i64 a4]] w fun e w'=>e=.returned (.bool (a3 == 0))∧Below w.heap.size w w':=by
  have hmf:∀ (fn:Fn) (first cap:Array Value) (w:World),(Instr.makeFunc fn first cap).run Tryd.prog w=.ok (.func fn first cap) w:=fun _ _ _ _=>rfl
  have ht:=jQ kZ (.cells #[.int .u8 9,.int .u8 a1,.int .u8 a2,.int .u8 a3,.int .i64 a4] 55) 19 (by decide) ⟨#[97,110,98]⟩ rfl
  have hp:(w.alloc (.cells #[.int .u8 9,.int .u8 a1,.int .u8 a2,.int .u8 a3,.int .i64 a4] 55)).cell? ⟨w.heap.size,0,none⟩=some (.int .u8 (9:Nat)):=by simp
  have hb:Below w.heap.size w (w.alloc (.cells #[.int .u8 9,.int .u8 a1,.int .u8 a2,.int .u8 a3,.int .i64 a4] 55)):=(Below.refl _ w).alloc (Nat.le_refl _) _
  clear kZ
  by_cases ec:a3=0
  · have gc:(a3 == 0)=true:=beq_iff_eq.2 ec
    clear ec
    rw [show (a3 == 0)=true from by simp [gc]]
    go_enter Tryd.func33,Tryd.ntmps33
    go_wp2_with fail
    refine (uU w.heap.size 9 19 rfl (by decide) _ hp ht).mono ?_
    rintro e w' ⟨rfl,rfl⟩
    go_wp2_with fail
    refine (uT w.heap.size 9 19 rfl (by decide) _ hp ht).mono ?_
    rintro e w' ⟨rfl,rfl⟩
    go_wp2_with fail
    refine (BX w.heap.size 9 19 rfl (by decide) _ hp ht).mono ?_
    rintro e w' ⟨rfl,rfl⟩
    go_wp2_with fail
    refine (BZ w.heap.size 9 19 rfl (by decide) _ hp ht).mono ?_
    rintro e w' ⟨rfl,rfl⟩
    go_wp2
    go_ret
    exact ⟨rfl,hb⟩
  · have gc:(a3 == 0)=false:=beq_eq_false_iff_ne.2 ec
    clear ec
    rw [show (a3 == 0)=false from by simp [gc]]
    go_enter Tryd.func33,Tryd.ntmps33
    go_wp2_with fail
    refine (uU w.heap.size 9 19 rfl (by decide) _ hp ht).mono ?_
    rintro e w' ⟨rfl,rfl⟩
    go_wp2_with fail
    refine (uT w.heap.size 9 19 rfl (by decide) _ hp ht).mono ?_
    rintro e w' ⟨rfl,rfl⟩
    go_wp2
    go_ret
    exact ⟨rfl,hb⟩
set_option maxRecDepth 100000 in
set_option maxHeartbeats 1600000 in
theorem NY (a1 a2 a3 a4:Int) (w:World) (kZ:Kd.C Kd.string w qx ku.length ku) :
    Calls Tryd.prog 33 #[.agg #[.int .u8 10,.int .u8 a1,.int .u8 a2,.int .u8 a3,.int .i64 a4]] w fun e w'=>e=.returned (.bool (a3 == 0))∧Below w.heap.size w w':=by
  have hmf:∀ (fn:Fn) (first cap:Array Value) (w:World),(Instr.makeFunc fn first cap).run Tryd.prog w=.ok (.func fn first cap) w:=fun _ _ _ _=>rfl
  have ht:=jQ kZ (.cells #[.int .u8 10,.int .u8 a1,.int .u8 a2,.int .u8 a3,.int .i64 a4] 55) 21 (by decide) ⟨#[97,98,110]⟩ rfl
  have hp:(w.alloc (.cells #[.int .u8 10,.int .u8 a1,.int .u8 a2,.int .u8 a3,.int .i64 a4] 55)).cell? ⟨w.heap.size,0,none⟩=some (.int .u8 (10:Nat)):=by simp
  have hb:Below w.heap.size w (w.alloc (.cells #[.int .u8 10,.int .u8 a1,.int .u8 a2,.int .u8 a3,.int .i64 a4] 55)):=(Below.refl _ w).alloc (Nat.le_refl _) _
  clear kZ
  by_cases ec:a3=0
  · have gc:(a3 == 0)=true:=beq_iff_eq.2 ec
    clear ec
    rw [show (a3 == 0)=true from by simp [gc]]
    go_enter Tryd.func33,Tryd.ntmps33
    go_wp2_with fail
    refine (uX w.heap.size 10 21 rfl (by decide) _ hp ht).mono ?_
    rintro e w' ⟨rfl,rfl⟩
    go_wp2_with fail
    refine (uV w.heap.size 10 21 rfl (by decide) _ hp ht).mono ?_
    rintro e w' ⟨rfl,rfl⟩
    go_wp2_with fail
    refine (Cb w.heap.size 10 21 rfl (by decide) _ hp ht).mono ?_
    rintro e w' ⟨rfl,rfl⟩
    go_wp2_with fail
    refine (Cc w.heap.size 10 21 rfl (by decide) _ hp ht).mono ?_
    rintro e w' ⟨rfl,rfl⟩
    go_wp2
    go_ret
    exact ⟨rfl,hb⟩
  · have gc:(a3 == 0)=false:=beq_eq_false_iff_ne.2 ec
    clear ec
    rw [show (a3 == 0)=false from by simp [gc]]
    go_enter Tryd.func33,Tryd.ntmps33
    go_wp2_with fail
    refine (uX w.heap.size 10 21 rfl (by decide) _ hp ht).mono ?_
    rintro e w' ⟨rfl,rfl⟩
    go_wp2_with fail
    refine (uV w.heap.size 10 21 rfl (by decide) _ hp ht).mono ?_
    rintro e w' ⟨rfl,rfl⟩
    go_wp2
    go_ret
    exact ⟨rfl,hb⟩
set_option maxRecDepth 100000 in
set_option maxHeartbeats 1600000 in
theorem NW (a1 a2 a3 a4:Int) (w:World) (kZ:Kd.C Kd.string w qx ku.length ku) :
    Calls Tryd.prog 33 #[.agg #[.int .u8 11,.int .u8 a1,.int .u8 a2,.int .u8 a3,.int .i64 a4]] w fun e w'=>e=.returned (.bool (a3 == 0))∧Below w.heap.size w w':=by
  have hmf:∀ (fn:Fn) (first cap:Array Value) (w:World),(Instr.makeFunc fn first cap).run Tryd.prog w=.ok (.func fn first cap) w:=fun _ _ _ _=>rfl
  have ht:=jQ kZ (.cells #[.int .u8 11,.int .u8 a1,.int .u8 a2,.int .u8 a3,.int .i64 a4] 55) 23 (by decide) ⟨#[97,110,98]⟩ rfl
  have hp:(w.alloc (.cells #[.int .u8 11,.int .u8 a1,.int .u8 a2,.int .u8 a3,.int .i64 a4] 55)).cell? ⟨w.heap.size,0,none⟩=some (.int .u8 (11:Nat)):=by simp
  have hb:Below w.heap.size w (w.alloc (.cells #[.int .u8 11,.int .u8 a1,.int .u8 a2,.int .u8 a3,.int .i64 a4] 55)):=(Below.refl _ w).alloc (Nat.le_refl _) _
  clear kZ
  by_cases ec:a3=0
  · have gc:(a3 == 0)=true:=beq_iff_eq.2 ec
    clear ec
    rw [show (a3 == 0)=true from by simp [gc]]
    go_enter Tryd.func33,Tryd.ntmps33
    go_wp2_with fail
    refine (uU w.heap.size 11 23 rfl (by decide) _ hp ht).mono ?_
    rintro e w' ⟨rfl,rfl⟩
    go_wp2_with fail
    refine (uT w.heap.size 11 23 rfl (by decide) _ hp ht).mono ?_
    rintro e w' ⟨rfl,rfl⟩
    go_wp2_with fail
    refine (BX w.heap.size 11 23 rfl (by decide) _ hp ht).mono ?_
    rintro e w' ⟨rfl,rfl⟩
    go_wp2_with fail
    refine (BZ w.heap.size 11 23 rfl (by decide) _ hp ht).mono ?_
    rintro e w' ⟨rfl,rfl⟩
    go_wp2
    go_ret
    exact ⟨rfl,hb⟩
  · have gc:(a3 == 0)=false:=beq_eq_false_iff_ne.2 ec
    clear ec
    rw [show (a3 == 0)=false from by simp [gc]]
    go_enter Tryd.func33,Tryd.ntmps33
    go_wp2_with fail
    refine (uU w.heap.size 11 23 rfl (by decide) _ hp ht).mono ?_
    rintro e w' ⟨rfl,rfl⟩
    go_wp2_with fail
    refine (uT w.heap.size 11 23 rfl (by decide) _ hp ht).mono ?_
    rintro e w' ⟨rfl,rfl⟩
    go_wp2
    go_ret
    exact ⟨rfl,hb⟩
set_option maxRecDepth 100000 in
set_option maxHeartbeats 1600000 in
theorem NV (a1 a2 a3 a4:Int) (w:World) (kZ:Kd.C Kd.string w qx ku.length ku) :
    Calls Tryd.prog 33 #[.agg #[.int .u8 12,.int .u8 a1,.int .u8 a2,.int .u8 a3,.int .i64 a4]] w fun e w'=>e=.returned (.bool (a3 == 0 && a4 == 0))∧Below w.heap.size w w':=by
  have hmf:∀ (fn:Fn) (first cap:Array Value) (w:World),(Instr.makeFunc fn first cap).run Tryd.prog w=.ok (.func fn first cap) w:=fun _ _ _ _=>rfl
  have ht:=jQ kZ (.cells #[.int .u8 12,.int .u8 a1,.int .u8 a2,.int .u8 a3,.int .i64 a4] 55) 25 (by decide) ⟨#[97,98]⟩ rfl
  have hp:(w.alloc (.cells #[.int .u8 12,.int .u8 a1,.int .u8 a2,.int .u8 a3,.int .i64 a4] 55)).cell? ⟨w.heap.size,0,none⟩=some (.int .u8 (12:Nat)):=by simp
  have hb:Below w.heap.size w (w.alloc (.cells #[.int .u8 12,.int .u8 a1,.int .u8 a2,.int .u8 a3,.int .i64 a4] 55)):=(Below.refl _ w).alloc (Nat.le_refl _) _
  clear kZ
  by_cases ec:a3=0
  · have gc:(a3 == 0)=true:=beq_iff_eq.2 ec
    clear ec
    by_cases en:a4=0
    · have gn:(a4 == 0)=true:=beq_iff_eq.2 en
      clear en
      rw [show (a3 == 0 && a4 == 0)=true from by simp [gc,gn]]
      go_enter Tryd.func33,Tryd.ntmps33
      go_wp2_with fail
      refine (oK w.heap.size 12 25 rfl (by decide) _ hp ht).mono ?_
      rintro e w' ⟨rfl,rfl⟩
      go_wp2_with fail
      refine (oJ w.heap.size 12 25 rfl (by decide) _ hp ht).mono ?_
      rintro e w' ⟨rfl,rfl⟩
      go_wp2_with fail
      refine (rG w.heap.size 12 25 rfl (by decide) _ hp ht).mono ?_
      rintro e w' ⟨rfl,rfl⟩
      go_wp2_with fail
      refine (Ap w.heap.size 12 25 rfl (by decide) _ hp ht).mono ?_
      rintro e w' ⟨rfl,rfl⟩
      go_wp2
      go_ret
      exact ⟨rfl,hb⟩
    · have gn:(a4 == 0)=false:=beq_eq_false_iff_ne.2 en
      clear en
      rw [show (a3 == 0 && a4 == 0)=false from by simp [gn]]
      go_enter Tryd.func33,Tryd.ntmps33
      go_wp2_with fail
      refine (oK w.heap.size 12 25 rfl (by decide) _ hp ht).mono ?_
      rintro e w' ⟨rfl,rfl⟩
      go_wp2_with fail
      refine (oJ w.heap.size 12 25 rfl (by decide) _ hp ht).mono ?_
      rintro e w' ⟨rfl,rfl⟩
      go_wp2_with fail
      refine (rG w.heap.size 12 25 rfl (by decide) _ hp ht).mono ?_
      rintro e w' ⟨rfl,rfl⟩
      go_wp2
      go_ret
      exact ⟨rfl,hb⟩
  · have gc:(a3 == 0)=false:=beq_eq_false_iff_ne.2 ec
    clear ec
    rw [show (a3 == 0 && a4 == 0)=false from by simp [gc]]
    go_enter Tryd.func33,Tryd.ntmps33
    go_wp2_with fail
    refine (oK w.heap.size 12 25 rfl (by decide) _ hp ht).mono ?_
    rintro e w' ⟨rfl,rfl⟩
    go_wp2_with fail
    refine (oJ w.heap.size 12 25 rfl (by decide) _ hp ht).mono ?_
    rintro e w' ⟨rfl,rfl⟩
    go_wp2
    go_ret
    exact ⟨rfl,hb⟩
set_option maxRecDepth 100000 in
set_option maxHeartbeats 1600000 in
theorem NU (a1 a2 a3 a4:Int) (w:World) (kZ:Kd.C Kd.string w qx ku.length ku) :
    Calls Tryd.prog 33 #[.agg #[.int .u8 13,.int .u8 a1,.int .u8 a2,.int .u8 a3,.int .i64 a4]] w fun e w'=>e=.returned (.bool (a3 == 0 && a4 == 0))∧Below w.heap.size w w':=by
  have hmf:∀ (fn:Fn) (first cap:Array Value) (w:World),(Instr.makeFunc fn first cap).run Tryd.prog w=.ok (.func fn first cap) w:=fun _ _ _ _=>rfl
  have ht:=jQ kZ (.cells #[.int .u8 13,.int .u8 a1,.int .u8 a2,.int .u8 a3,.int .i64 a4] 55) 27 (by decide) ⟨#[97,98]⟩ rfl
  have hp:(w.alloc (.cells #[.int .u8 13,.int .u8 a1,.int .u8 a2,.int .u8 a3,.int .i64 a4] 55)).cell? ⟨w.heap.size,0,none⟩=some (.int .u8 (13:Nat)):=by simp
  have hb:Below w.heap.size w (w.alloc (.cells #[.int .u8 13,.int .u8 a1,.int .u8 a2,.int .u8 a3,.int .i64 a4] 55)):=(Below.refl _ w).alloc (Nat.le_refl _) _
  clear kZ
  by_cases ec:a3=0
  · have gc:(a3 == 0)=true:=beq_iff_eq.2 ec
    clear ec
    by_cases en:a4=0
    · have gn:(a4 == 0)=true:=beq_iff_eq.2 en
      clear en
      rw [show (a3 == 0 && a4 == 0)=true from by simp [gc,gn]]
      go_enter Tryd.func33,Tryd.ntmps33
      go_wp2_with fail
      refine (oK w.heap.size 13 27 rfl (by decide) _ hp ht).mono ?_
      rintro e w' ⟨rfl,rfl⟩
      go_wp2_with fail
      refine (oJ w.heap.size 13 27 rfl (by decide) _ hp ht).mono ?_
      rintro e w' ⟨rfl,rfl⟩
      go_wp2_with fail
      refine (rG w.heap.size 13 27 rfl (by decide) _ hp ht).mono ?_
      rintro e w' ⟨rfl,rfl⟩
      go_wp2_with fail
      refine (Ap w.heap.size 13 27 rfl (by decide) _ hp ht).mono ?_
      rintro e w' ⟨rfl,rfl⟩
      go_wp2
      go_ret
      exact ⟨rfl,hb⟩
    · have gn:(a4 == 0)=false:=beq_eq_false_iff_ne.2 en
      clear en
      rw [show (a3 == 0 && a4 == 0)=false from by simp [gn]]
      go_enter Tryd.func33,Tryd.ntmps33
      go_wp2_with fail
      refine (oK w.heap.size 13 27 rfl (by decide) _ hp ht).mono ?_
      rintro e w' ⟨rfl,rfl⟩
      go_wp2_with fail
      refine (oJ w.heap.size 13 27 rfl (by decide) _ hp ht).mono ?_
      rintro e w' ⟨rfl,rfl⟩
      go_wp2_with fail
      refine (rG w.heap.size 13 27 rfl (by decide) _ hp ht).mono ?_
      rintro e w' ⟨rfl,rfl⟩
      go_wp2
      go_ret
      exact ⟨rfl,hb⟩
  · have gc:(a3 == 0)=false:=beq_eq_false_iff_ne.2 ec
    clear ec
    rw [show (a3 == 0 && a4 == 0)=false from by simp [gc]]
    go_enter Tryd.func33,Tryd.ntmps33
    go_wp2_with fail
    refine (oK w.heap.size 13 27 rfl (by decide) _ hp ht).mono ?_
    rintro e w' ⟨rfl,rfl⟩
    go_wp2_with fail
    refine (oJ w.heap.size 13 27 rfl (by decide) _ hp ht).mono ?_
    rintro e w' ⟨rfl,rfl⟩
    go_wp2
    go_ret
    exact ⟨rfl,hb⟩
set_option maxRecDepth 100000 in
set_option maxHeartbeats 1600000 in
theorem NT (a1 a2 a3 a4:Int) (w:World) (kZ:Kd.C Kd.string w qx ku.length ku) :
    Calls Tryd.prog 33 #[.agg #[.int .u8 14,.int .u8 a1,.int .u8 a2,.int .u8 a3,.int .i64 a4]] w fun e w'=>e=.returned (.bool (a2 == 0 && a3 == 0 && a4 == 0))∧Below w.heap.size w w':=by
  have hmf:∀ (fn:Fn) (first cap:Array Value) (w:World),(Instr.makeFunc fn first cap).run Tryd.prog w=.ok (.func fn first cap) w:=fun _ _ _ _=>rfl
  have ht:=jQ kZ (.cells #[.int .u8 14,.int .u8 a1,.int .u8 a2,.int .u8 a3,.int .i64 a4] 55) 29 (by decide) ⟨#[97]⟩ rfl
  have hp:(w.alloc (.cells #[.int .u8 14,.int .u8 a1,.int .u8 a2,.int .u8 a3,.int .i64 a4] 55)).cell? ⟨w.heap.size,0,none⟩=some (.int .u8 (14:Nat)):=by simp
  have hb:Below w.heap.size w (w.alloc (.cells #[.int .u8 14,.int .u8 a1,.int .u8 a2,.int .u8 a3,.int .i64 a4] 55)):=(Below.refl _ w).alloc (Nat.le_refl _) _
  clear kZ
  by_cases eb:a2=0
  · have gb:(a2 == 0)=true:=beq_iff_eq.2 eb
    clear eb
    by_cases ec:a3=0
    · have gc:(a3 == 0)=true:=beq_iff_eq.2 ec
      clear ec
      by_cases en:a4=0
      · have gn:(a4 == 0)=true:=beq_iff_eq.2 en
        clear en
        rw [show (a2 == 0 && a3 == 0 && a4 == 0)=true from by simp [gb,gc,gn]]
        go_enter Tryd.func33,Tryd.ntmps33
        go_wp2_with fail
        refine (nT w.heap.size 14 29 rfl (by decide) _ hp ht).mono ?_
        rintro e w' ⟨rfl,rfl⟩
        go_wp2_with fail
        refine (qy w.heap.size 14 29 rfl (by decide) _ hp ht).mono ?_
        rintro e w' ⟨rfl,rfl⟩
        go_wp2_with fail
        refine (vk w.heap.size 14 29 rfl (by decide) _ hp ht).mono ?_
        rintro e w' ⟨rfl,rfl⟩
        go_wp2_with fail
        refine (D6 w.heap.size 14 29 rfl (by decide) _ hp ht).mono ?_
        rintro e w' ⟨rfl,rfl⟩
        go_wp2
        go_ret
        exact ⟨rfl,hb⟩
      · have gn:(a4 == 0)=false:=beq_eq_false_iff_ne.2 en
        clear en
        rw [show (a2 == 0 && a3 == 0 && a4 == 0)=false from by simp [gn]]
        go_enter Tryd.func33,Tryd.ntmps33
        go_wp2_with fail
        refine (nT w.heap.size 14 29 rfl (by decide) _ hp ht).mono ?_
        rintro e w' ⟨rfl,rfl⟩
        go_wp2_with fail
        refine (qy w.heap.size 14 29 rfl (by decide) _ hp ht).mono ?_
        rintro e w' ⟨rfl,rfl⟩
        go_wp2_with fail
        refine (vk w.heap.size 14 29 rfl (by decide) _ hp ht).mono ?_
        rintro e w' ⟨rfl,rfl⟩
        go_wp2
        go_ret
        exact ⟨rfl,hb⟩
    · have gc:(a3 == 0)=false:=beq_eq_false_iff_ne.2 ec
      clear ec
      rw [show (a2 == 0 && a3 == 0 && a4 == 0)=false from by simp [gc]]
      go_enter Tryd.func33,Tryd.ntmps33
      go_wp2_with fail
      refine (nT w.heap.size 14 29 rfl (by decide) _ hp ht).mono ?_
      rintro e w' ⟨rfl,rfl⟩
      go_wp2_with fail
      refine (qy w.heap.size 14 29 rfl (by decide) _ hp ht).mono ?_
      rintro e w' ⟨rfl,rfl⟩
      go_wp2
      go_ret
      exact ⟨rfl,hb⟩
  · have gb:(a2 == 0)=false:=beq_eq_false_iff_ne.2 eb
    clear eb
    rw [show (a2 == 0 && a3 == 0 && a4 == 0)=false from by simp [gb]]
    go_enter Tryd.func33,Tryd.ntmps33
    go_wp2_with fail
    refine (nT w.heap.size 14 29 rfl (by decide) _ hp ht).mono ?_
    rintro e w' ⟨rfl,rfl⟩
    go_wp2
    go_ret
    exact ⟨rfl,hb⟩
set_option maxRecDepth 100000 in
set_option maxHeartbeats 1600000 in
theorem NS (a1 a2 a3 a4:Int) (w:World) (kZ:Kd.C Kd.string w qx ku.length ku) :
    Calls Tryd.prog 33 #[.agg #[.int .u8 15,.int .u8 a1,.int .u8 a2,.int .u8 a3,.int .i64 a4]] w fun e w'=>e=.returned (.bool (a4 == 0))∧Below w.heap.size w w':=by
  have hmf:∀ (fn:Fn) (first cap:Array Value) (w:World),(Instr.makeFunc fn first cap).run Tryd.prog w=.ok (.func fn first cap) w:=fun _ _ _ _=>rfl
  have ht:=jQ kZ (.cells #[.int .u8 15,.int .u8 a1,.int .u8 a2,.int .u8 a3,.int .i64 a4] 55) 31 (by decide) ⟨#[97,98,99]⟩ rfl
  have hp:(w.alloc (.cells #[.int .u8 15,.int .u8 a1,.int .u8 a2,.int .u8 a3,.int .i64 a4] 55)).cell? ⟨w.heap.size,0,none⟩=some (.int .u8 (15:Nat)):=by simp
  have hb:Below w.heap.size w (w.alloc (.cells #[.int .u8 15,.int .u8 a1,.int .u8 a2,.int .u8 a3,.int .i64 a4] 55)):=(Below.refl _ w).alloc (Nat.le_refl _) _
  clear kZ
  by_cases en:a4=0
  · have gn:(a4 == 0)=true:=beq_iff_eq.2 en
    clear en
    rw [show (a4 == 0)=true from by simp [gn]]
    go_enter Tryd.func33,Tryd.ntmps33
    go_wp2_with fail
    refine (vg w.heap.size 15 31 rfl (by decide) _ hp ht).mono ?_
    rintro e w' ⟨rfl,rfl⟩
    go_wp2_with fail
    refine (uZ w.heap.size 15 31 rfl (by decide) _ hp ht).mono ?_
    rintro e w' ⟨rfl,rfl⟩
    go_wp2_with fail
    refine (uY w.heap.size 15 31 rfl (by decide) _ hp ht).mono ?_
    rintro e w' ⟨rfl,rfl⟩
    go_wp2_with fail
    refine (Ce w.heap.size 15 31 rfl (by decide) _ hp ht).mono ?_
    rintro e w' ⟨rfl,rfl⟩
    go_wp2
    go_ret
    exact ⟨rfl,hb⟩
  · have gn:(a4 == 0)=false:=beq_eq_false_iff_ne.2 en
    clear en
    rw [show (a4 == 0)=false from by simp [gn]]
    go_enter Tryd.func33,Tryd.ntmps33
    go_wp2_with fail
    refine (vg w.heap.size 15 31 rfl (by decide) _ hp ht).mono ?_
    rintro e w' ⟨rfl,rfl⟩
    go_wp2_with fail
    refine (uZ w.heap.size 15 31 rfl (by decide) _ hp ht).mono ?_
    rintro e w' ⟨rfl,rfl⟩
    go_wp2_with fail
    refine (uY w.heap.size 15 31 rfl (by decide) _ hp ht).mono ?_
    rintro e w' ⟨rfl,rfl⟩
    go_wp2
    go_ret
    exact ⟨rfl,hb⟩
theorem lX.calls (dC:Int) (aU:Int) (aV:Int) (fD:Int) (fK:Int) (r:Bool) (w:World) (kZ:Kd.C Kd.string w qx ku.length ku) (h:lX.f dC aU aV fD fK=some r) :
    Calls Tryd.prog 33 #[.agg #[.int .u8 dC,.int .u8 aU,.int .u8 aV,.int .u8 fD,.int .i64 fK]] w fun e w'=>e=.returned (.bool r)∧Below w.heap.size w w':=by
  have hb:Below w.heap.size w (w.alloc (.cells #[.int .u8 dC,.int .u8 aU,.int .u8 aV,.int .u8 fD,.int .i64 fK] 55)):=(Below.refl _ w).alloc (Nat.le_refl _) _
  unfold lX.f at h
  by_cases h1:dC < 1
  · rw [if_pos h1] at h
    injection h with h
    subst h
    have h1':decide (dC < 1)=true:=decide_eq_true h1
    clear h1 kZ
    go_enter Tryd.func33,Tryd.ntmps33
    go_wp2
    go_ret
    exact ⟨rfl,hb⟩
  rw [if_neg h1] at h
  by_cases h2:dC > 15
  · rw [if_pos h2] at h
    injection h with h
    subst h
    have h1':decide (dC < 1)=false:=decide_eq_false h1
    have h2':decide (15 < dC)=true:=decide_eq_true h2
    clear h1 h2 kZ
    go_enter Tryd.func33,Tryd.ntmps33
    go_wp2
    go_ret
    exact ⟨rfl,hb⟩
  rw [if_neg h2] at h
  injection h with h
  subst h
  have hk:dC=1 ∨ dC=2 ∨ dC=3 ∨ dC=4 ∨ dC=5 ∨ dC=6 ∨ dC=7 ∨ dC=8 ∨ dC=9 ∨ dC=10 ∨ dC=11 ∨ dC=12 ∨ dC=13 ∨ dC=14 ∨ dC=15:=by omega
  rcases hk with rfl|rfl|rfl|rfl|rfl|rfl|rfl|rfl|rfl|rfl|rfl|rfl|rfl|rfl|rfl
  · rw [show ((hasB 1 98 || aV == 0) && (hasB 1 99 || fD == 0) && (hasB 1 110 || fK == 0) && (hasB 1 97 || aU == 0))=(aV == 0 && fD == 0) from by simp [hasB,letters]]
    exact Rq aU aV fD fK w kZ
  · rw [show ((hasB 2 98 || aV == 0) && (hasB 2 99 || fD == 0) && (hasB 2 110 || fK == 0) && (hasB 2 97 || aU == 0))=(fK == 0) from by simp [hasB,letters]]
    exact Ro aU aV fD fK w kZ
  · rw [show ((hasB 3 98 || aV == 0) && (hasB 3 99 || fD == 0) && (hasB 3 110 || fK == 0) && (hasB 3 97 || aU == 0))=(aV == 0 && fD == 0 && aU == 0) from by simp [hasB,letters]]
    exact Rn aU aV fD fK w kZ
  · rw [show ((hasB 4 98 || aV == 0) && (hasB 4 99 || fD == 0) && (hasB 4 110 || fK == 0) && (hasB 4 97 || aU == 0))=(aV == 0 && fD == 0) from by simp [hasB,letters]]
    exact Rl aU aV fD fK w kZ
  · rw [show ((hasB 5 98 || aV == 0) && (hasB 5 99 || fD == 0) && (hasB 5 110 || fK == 0) && (hasB 5 97 || aU == 0))=(aV == 0 && fD == 0 && fK == 0) from by simp [hasB,letters]]
    exact Rk aU aV fD fK w kZ
  · rw [show ((hasB 6 98 || aV == 0) && (hasB 6 99 || fD == 0) && (hasB 6 110 || fK == 0) && (hasB 6 97 || aU == 0))=(aV == 0 && fD == 0 && fK == 0) from by simp [hasB,letters]]
    exact Rj aU aV fD fK w kZ
  · rw [show ((hasB 7 98 || aV == 0) && (hasB 7 99 || fD == 0) && (hasB 7 110 || fK == 0) && (hasB 7 97 || aU == 0))=(fD == 0 && fK == 0) from by simp [hasB,letters]]
    exact Ri aU aV fD fK w kZ
  · rw [show ((hasB 8 98 || aV == 0) && (hasB 8 99 || fD == 0) && (hasB 8 110 || fK == 0) && (hasB 8 97 || aU == 0))=(fD == 0) from by simp [hasB,letters]]
    exact Rh aU aV fD fK w kZ
  · rw [show ((hasB 9 98 || aV == 0) && (hasB 9 99 || fD == 0) && (hasB 9 110 || fK == 0) && (hasB 9 97 || aU == 0))=(fD == 0) from by simp [hasB,letters]]
    exact Rf aU aV fD fK w kZ
  · rw [show ((hasB 10 98 || aV == 0) && (hasB 10 99 || fD == 0) && (hasB 10 110 || fK == 0) && (hasB 10 97 || aU == 0))=(fD == 0) from by simp [hasB,letters]]
    exact NY aU aV fD fK w kZ
  · rw [show ((hasB 11 98 || aV == 0) && (hasB 11 99 || fD == 0) && (hasB 11 110 || fK == 0) && (hasB 11 97 || aU == 0))=(fD == 0) from by simp [hasB,letters]]
    exact NW aU aV fD fK w kZ
  · rw [show ((hasB 12 98 || aV == 0) && (hasB 12 99 || fD == 0) && (hasB 12 110 || fK == 0) && (hasB 12 97 || aU == 0))=(fD == 0 && fK == 0) from by simp [hasB,letters]]
    exact NV aU aV fD fK w kZ
  · rw [show ((hasB 13 98 || aV == 0) && (hasB 13 99 || fD == 0) && (hasB 13 110 || fK == 0) && (hasB 13 97 || aU == 0))=(fD == 0 && fK == 0) from by simp [hasB,letters]]
    exact NU aU aV fD fK w kZ
  · rw [show ((hasB 14 98 || aV == 0) && (hasB 14 99 || fD == 0) && (hasB 14 110 || fK == 0) && (hasB 14 97 || aU == 0))=(aV == 0 && fD == 0 && fK == 0) from by simp [hasB,letters]]
    exact NT aU aV fD fK w kZ
  · rw [show ((hasB 15 98 || aV == 0) && (hasB 15 99 || fD == 0) && (hasB 15 110 || fK == 0) && (hasB 15 97 || aU == 0))=(fK == 0) from by simp [hasB,letters]]
    exact NS aU aV fD fK w kZ
end Go.Proofs.YtlemecdddhdagaaDoor.P
end
