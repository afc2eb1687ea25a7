/- Parts of the proof of FullTrue: what the functions that it reaches compute, and plain facts about that. -/
import Derived.Test.YtbmhmlgfpijmhaaDoorFac
import Derived.Test.YtbmhmlgfpijmhaaDoorFae
import Derived.Test.YtbmhmlgfpijmhaaDoorFab
import Derived.Test.YtbmhmlgfpijmhaaDoorFak
import Derived.Lib.ItoaNum
set_option linter.unusedVariables false
set_option linter.unusedSimpArgs false
section
namespace Go.Proofs.YtbmhmlgfpijmhaaDoor.P
open Go.RowKit Go.Proofs.af.bG Go.Proofs.af.dD Go.Proofs.af.dM
theorem Ev.ite {α:Type} {p:Prop} [Decidable p] {f g:Nat→Option α} {a b:α} (h1:p→Ev f a) (h2:¬p→Ev g b):Ev (fun k=>if p then f k else g k) (if p then a else b):=by
  by_cases h:p
  · rw [if_pos h];exact Ev.congr (fun k=>if_pos h) (h1 h)
  · rw [if_neg h];exact Ev.congr (fun k=>if_neg h) (h2 h)
theorem Ev.out {α:Type} {g:Nat→Option α} {a b:α} (h:Ev g a) (e:a=b):Ev g b:=e ▸ h
def scan {β:Type} (bad:Nat→Option β) (fin:β):Nat→Nat→β
  | 0,_=>fin
  | d+1,i=>match bad i with
    | some b=>b
    | none=>scan bad fin d (i+1)
theorem AY {β:Type} {bad:Nat→Option β} {fin:β} {d i:Nat} (h:bad i=none):scan bad fin (d+1) i=scan bad fin d (i+1):=by simp [scan,h]
theorem AX {β:Type} {bad:Nat→Option β} {fin:β} {d i:Nat} {b:β} (h:bad i=some b):scan bad fin (d+1) i=b:=by simp [scan,h]
theorem vz {β:Type} {bad:Nat→Option β} {fin:β}:∀ (d i:Nat),(scan bad fin d i=fin∧∀ j,i≤j→j < i+d→bad j=none) ∨ ∃ j b,i≤j∧j < i+d∧bad j=some b∧scan bad fin d i=b∧∀ q,i≤q→q < j→bad q=none
  | 0,_=>.inl ⟨rfl,fun j h1 h2=>by omega⟩
  | d+1,i=>by
    cases hb:bad i with
    | some b=>exact .inr ⟨i,b,Nat.le_refl _,by omega,hb,AX hb,fun q h1 h2=>by omega⟩
    | none =>
      rw [AY hb]
      rcases vz (bad:=bad) (fin:=fin) d (i+1) with ⟨h1,h2⟩|⟨j,b,h1,h2,h3,h4,h5⟩
      · refine .inl ⟨h1,fun j hj hj2=>?_⟩
        rcases Nat.eq_or_lt_of_le hj with e|e
        · rw [← e];exact hb
        · exact h2 j e (by omega)
      · refine .inr ⟨j,b,by omega,by omega,h3,h4,fun q hq hq2=>?_⟩
        rcases Nat.eq_or_lt_of_le hq with e|e
        · rw [← e];exact hb
        · exact h5 q e hq2
theorem ng {β:Type} {g:Nat→Nat→Option β} (bad:Nat→Option β) (n:Nat) (fin:β)
    (step:∀ i,i < n→bad i=none→∀ r,Ev (fun k=>g k (i+1)) r→Ev (fun k=>g k i) r)
    (stop:∀ i,i < n→∀ b,bad i=some b→Ev (fun k=>g k i) b)
    (done:(∀ j,j < n→bad j=none)→Ev (fun k=>g k n) fin):∀ d i,i+d=n→(∀ j,j < i→bad j=none)→Ev (fun k=>g k i) (scan bad fin d i)
  | 0,i,h,hp=>by
    obtain rfl:i=n:=by omega
    exact done hp
  | d+1,i,h,hp=>by
    cases hb:bad i with
    | some b=>rw [AX hb];exact stop i (by omega) b hb
    | none =>
      rw [AY hb]
      refine step i (by omega) hb _ (ng bad n fin step stop done d (i+1) (by omega) fun j hj=>?_)
      rcases Nat.lt_succ_iff_lt_or_eq.1 hj with h1|h1
      · exact hp j h1
      · rw [h1];exact hb
def allB (n:Nat) (p:Nat→Bool):Bool:=(List.range n).all p
theorem nS {n:Nat} {p:Nat→Bool}:allB n p=true ↔ ∀ j,j < n→p j=true:=by simp [allB]
theorem rM (n:Nat) (p:Nat→Bool) (fin:Bool):scan (fun i=>if p i then none else some false) fin n 0=(allB n p && fin):=by
  rcases vz (bad:=fun i=>if p i then none else some false) (fin:=fin) n 0 with ⟨h1,h2⟩|⟨j,b,h1,h2,h3,h4,h5⟩
  · rw [h1]
    have:allB n p=true:=nS.2 fun j hj=>by
      have:=h2 j (Nat.zero_le _) (by omega)
      simpa using this
    rw [this,Bool.true_and]
  · rw [h4]
    have hp:p j=false∧b=false:=by
      cases hp:p j <;> simp [hp] at h3
      exact ⟨rfl,h3⟩
    have:allB n p=false:=by
      rw [← Bool.not_eq_true,nS]
      intro h
      have:=h j (by omega)
      rw [hp.1] at this
      cases this
    rw [this,hp.2,Bool.false_and]
theorem wrapN {i n:Nat} (h:i < n) (hn:n≤9223372036854775807):wrap64 ((i:Int)+1)=((i+1:Nat):Int):=by
  unfold wrap64
  omega
def kX (c n:Int):Int:=if 48≤c then (if c - 48 < n then c - 48 else -1) else -1
theorem Ul (c n:Int) (h0:0≤c) (h1:c≤255):kV.f c n=some (kX c n):=by
  have e:wrap64 (wrap64 c - 48)=c - 48:=by unfold wrap64;omega
  unfold kV.f kX
  rw [e]
  by_cases h:48≤c
  · rw [if_pos (by omega),if_pos h]
    by_cases h':c - 48 < n
    · rw [if_pos h',if_pos h']
    · rw [if_neg h',if_neg h']
  · rw [if_neg (by omega),if_neg h]
theorem wO (s:ByteArray) (i n:Int):kV.f (bt s i) n=some (kX (bt s i) n):=Ul _ _ (uq s i).1 (uq s i).2
theorem Fg {c n:Int} (h:0≤kX c n):kX c n=c - 48∧48≤c∧c - 48 < n:=by
  unfold kX at h ⊢
  split at h <;> rename_i h1
  · split at h <;> rename_i h2
    · rw [if_pos h1,if_pos h2];exact ⟨rfl,h1,h2⟩
    · omega
  · omega
theorem Fh {c n:Int}:0≤kX c n ↔ 48≤c∧c - 48 < n:=by
  refine ⟨fun h=>(Fg h).2,fun ⟨h1,h2⟩=>?_⟩
  unfold kX
  rw [if_pos h1,if_pos h2]
  omega
theorem uJ (s:ByteArray):s.toList=([]:List UInt8) ↔ s.size=0:=by
  rw [ByteArray.toList_eq,← List.length_eq_zero_iff,Array.length_toList]
  rfl
def okB (s:ByteArray) (n:Int):Bool:=allB s.size fun i=>bt s i == 105 || decide (0≤kX (bt s i) n)
def tH (s:ByteArray) (n:Int):Bool:=decide (0 < s.size) && decide (s.size≤6) && okB s n
def jM (t:List ByteArray):Bool:=allB t.length (fun j=>tH (dV ByteArray.empty t j) t.length) && (decide (1≤t.length) && decide (t.length≤8))
theorem EC (t:List ByteArray) (s:ByteArray) (x6:List ByteArray) (x7 x8:Int) (hs:s.size≤6) (r:Bool) (hr:okB s t.length=true→Ev (fun k=>bJ.l0 k t x6 x7 (wrap64 (x8+1))) r) :
    Ev (fun k=>bJ.l1 k t s x6 x7 x8 s.size 0) (okB s t.length && r):=by
  have:=ng (g:=fun k i=>bJ.l1 k t s x6 x7 x8 s.size (i:Nat)) (fun i=>if (bt s i == 105 || decide (0≤kX (bt s i) t.length)) then none else some false) s.size r
    (fun i hi hb q hq=>?_) (fun i hi b hb=>?_) (fun hall=>?_) s.size 0 (by omega) (fun j hj=>by omega)
  · rw [rM s.size (fun i=>bt s i == 105 || decide (0≤kX (bt s i) t.length))] at this
    exact this
  · refine Ev.step (fun k=>?_) hq
    simp only [bJ.l1]
    rw [if_pos (by omega),if_pos (by omega),if_pos (by omega),wrapN hi (by omega)]
    by_cases h:bt s i=105
    · rw [if_pos h]
    · rw [if_neg h,wO]
      simp only [Option.bind_some]
      have h2:0≤kX (bt s i) t.length:=by
        have:=hb
        simp [h] at this
        exact this
      rw [if_neg (by omega)]
  · have hb':¬ bt s i=105∧¬ 0≤kX (bt s i) t.length∧b=false:=by
      by_cases h:bt s i=105
      · simp [h] at hb
      · by_cases h2:0≤kX (bt s i) t.length
        · simp [h2] at hb
        · simp [h,h2] at hb
          exact ⟨h,h2,hb⟩
    obtain ⟨h1,h2,rfl⟩:=hb'
    refine Ev.step (f:=fun _=>some false) (fun k=>?_) (Ev.now false)
    simp only [bJ.l1]
    rw [if_pos (by omega),if_pos (by omega),if_pos (by omega),if_neg h1,wO]
    simp only [Option.bind_some]
    rw [if_pos (by omega)]
  · have hok:okB s t.length=true:=nS.2 fun j hj=>by
      have:=hall j hj
      cases h:(bt s j == 105 || decide (0≤kX (bt s j) t.length)) <;> simp [h] at this ⊢
    refine Ev.step (fun k=>?_) (hr hok)
    simp only [bJ.l1]
    rw [if_neg (by omega)]
theorem Iz (t:List ByteArray) (ht:t.length≤9223372036854775807):Ev (fun k=>bJ.f k t) (jM t):=by
  have:=ng (g:=fun k i=>bJ.l0 k t t t.length (i:Nat)) (fun i=>if tH (dV ByteArray.empty t i) t.length then none else some false) t.length (decide (1≤t.length) && decide (t.length≤8))
    (fun i hi hb q hq=>?_) (fun i hi b hb=>?_) (fun _=>?_) t.length 0 (by omega) (fun j hj=>by omega)
  · rw [rM t.length (fun i=>tH (dV ByteArray.empty t i) t.length)] at this
    exact this
  · have ho:tH (dV ByteArray.empty t i) t.length=true:=by
      cases h:tH (dV ByteArray.empty t i) t.length <;> simp [h] at hb ⊢
    unfold tH at ho
    simp only [Bool.and_eq_true,decide_eq_true_eq] at ho
    obtain ⟨⟨h1,h2⟩,h3⟩:=ho
    refine Ev.step (f:=fun k=>bJ.j1 k t (dV ByteArray.empty t i) t t.length i false) (fun k=>?_) (Ev.step (f:=fun k=>bJ.l1 k t (dV ByteArray.empty t i) t t.length i ((dV ByteArray.empty t i).size:Int) 0) (fun k=>?_) ?_)
    · simp only [bJ.l0]
      rw [if_pos (by omega),if_pos (by omega),if_pos (by omega),if_neg (by rw [uJ];omega),decide_eq_false (by omega)]
    · simp only [bJ.j1]
      rw [if_neg (by decide)]
    · have:=EC t (dV ByteArray.empty t i) t t.length i h2 q (fun _=>by rw [wrapN hi ht];exact hq)
      rw [h3,Bool.true_and] at this
      exact this
  · have ho:tH (dV ByteArray.empty t i) t.length=false∧b=false:=by
      cases h:tH (dV ByteArray.empty t i) t.length <;> simp [h] at hb
      exact ⟨rfl,hb⟩
    obtain ⟨ho,rfl⟩:=ho
    by_cases h1:(dV ByteArray.empty t i).size=0
    · refine Ev.step (f:=fun k=>bJ.j1 k t (dV ByteArray.empty t i) t t.length i true) (fun k=>?_) (Ev.step (f:=fun k=>some false) (fun k=>?_) (Ev.now false))
      · simp only [bJ.l0]
        rw [if_pos (by omega),if_pos (by omega),if_pos (by omega),if_pos ((uJ _).2 h1)]
      · simp only [bJ.j1]
        rw [if_pos trivial]
    · by_cases h2:(dV ByteArray.empty t i).size≤6
      · have h3:okB (dV ByteArray.empty t i) t.length=false:=by
          have:decide (0 < (dV ByteArray.empty t i).size)=true:=decide_eq_true (by omega)
          unfold tH at ho
          rw [this,decide_eq_true h2] at ho
          simpa using ho
        refine Ev.step (f:=fun k=>bJ.j1 k t (dV ByteArray.empty t i) t t.length i false) (fun k=>?_) (Ev.step (f:=fun k=>bJ.l1 k t (dV ByteArray.empty t i) t t.length i ((dV ByteArray.empty t i).size:Int) 0) (fun k=>?_) ?_)
        · simp only [bJ.l0]
          rw [if_pos (by omega),if_pos (by omega),if_pos (by omega),if_neg (by rw [uJ];omega),decide_eq_false (by omega)]
        · simp only [bJ.j1]
          rw [if_neg (by decide)]
        · have:=EC t (dV ByteArray.empty t i) t t.length i h2 true (fun h=>by rw [h3] at h;cases h)
          rw [h3,Bool.false_and] at this
          exact this
      · refine Ev.step (f:=fun k=>bJ.j1 k t (dV ByteArray.empty t i) t t.length i true) (fun k=>?_) (Ev.step (f:=fun k=>some false) (fun k=>?_) (Ev.now false))
        · simp only [bJ.l0]
          rw [if_pos (by omega),if_pos (by omega),if_pos (by omega),if_neg (by rw [uJ];omega),decide_eq_true (by omega)]
        · simp only [bJ.j1]
          rw [if_pos trivial]
  · refine Ev.step (f:=fun _=>some (decide (1≤t.length) && decide (t.length≤8))) (fun k=>?_) (Ev.now _)
    simp only [bJ.l0]
    rw [if_neg (by omega)]
    by_cases h:1≤t.length
    · rw [if_pos (by omega),decide_eq_true h,Bool.true_and]
      congr 1
      exact decide_eq_decide.2 (by omega)
    · rw [if_neg (by omega),decide_eq_false h,Bool.false_and]
def rf (t:List ByteArray) (s:ByteArray):Bool:=allB s.size (fun i=>decide (0≤kX (bt s i) t.length)) && jM t
theorem V6 (t:List ByteArray) (s:ByteArray) (ht:t.length≤9223372036854775807) (hs:s.size≤9223372036854775807):Ev (fun k=>gJ.f k t s) (rf t s):=by
  have:=ng (g:=fun k i=>gJ.l0 k t s s.size (i:Nat)) (fun i=>if decide (0≤kX (bt s i) t.length) then none else some false) s.size (jM t)
    (fun i hi hb q hq=>?_) (fun i hi b hb=>?_) (fun _=>?_) s.size 0 (by omega) (fun j hj=>by omega)
  · rw [rM s.size (fun i=>decide (0≤kX (bt s i) t.length))] at this
    exact this
  · have h2:0≤kX (bt s i) t.length:=by
      by_cases h:0≤kX (bt s i) t.length
      · exact h
      · simp [h] at hb
    refine Ev.step (fun k=>?_) hq
    simp only [gJ.l0]
    rw [if_pos (by omega),if_pos (by omega),if_pos (by omega),wrapN hi hs,wO]
    simp only [Option.bind_some]
    rw [if_neg (by omega)]
  · have h2:¬ 0≤kX (bt s i) t.length∧b=false:=by
      by_cases h:0≤kX (bt s i) t.length
      · simp [h] at hb
      · simp [h] at hb
        exact ⟨h,hb⟩
    obtain ⟨h2,rfl⟩:=h2
    refine Ev.step (f:=fun _=>some false) (fun k=>?_) (Ev.now false)
    simp only [gJ.l0]
    rw [if_pos (by omega),if_pos (by omega),if_pos (by omega),wO]
    simp only [Option.bind_some]
    rw [if_pos (by omega)]
  · refine Ev.step (f:=fun k=>(bJ.f k t).bind fun t104=>some t104) (fun k=>?_) (Ev.bind (Iz t ht) (Ev.now _))
    simp only [gJ.l0]
    rw [if_neg (by omega)]
theorem nN (s:ByteArray) (a:Nat) (h:a < s.size):(s.extract a (a+1)).size=1:=by
  simp
  omega
theorem xQ (s:ByteArray) (a:Nat) (h:a < s.size):bt (s.extract a (a+1)) 0=bt s a:=by
  unfold bt
  have h1:(0:Int).toNat < (s.extract a (a+1)).size:=by rw [nN s a h];decide
  have h2:(a:Int).toNat < s.size:=by omega
  rw [dif_pos h1,dif_pos h2]
  congr 2
  show (s.extract a (a+1)).data[(0:Int).toNat]=s.data[(a:Int).toNat]
  simp
def df (t:List ByteArray) (s:ByteArray) (a:Int):Int:=if a < s.size then (if (decide (0≤kX (bt s a) t.length) && jM t)=true then bt s a - 48 else -1) else -1
theorem P9 (t:List ByteArray) (s:ByteArray) (a:Int) (ht:t.length≤9223372036854775807) (h0:0≤a) (h1:a≤255):Ev (fun k=>jE.f k t s a) (df t s a):=by
  have e1:wrap64 a=a:=by unfold wrap64;omega
  have e2:wrap64 (a+1)=a+1:=by unfold wrap64;omega
  by_cases h:a < s.size
  · obtain ⟨n,rfl⟩:=Int.eq_ofNat_of_zero_le h0
    have hn:n < s.size:=by omega
    have hr:=V6 t (s.extract n (n+1)) ht (by rw [nN s n hn];omega)
    have er:rf t (s.extract n (n+1))=(decide (0≤kX (bt s (n:Int)) t.length) && jM t):=by
      unfold rf
      rw [nN s n hn]
      congr 1
      show (List.range 1).all _=_
      simp only [List.range_one,List.all_cons,List.all_nil,Bool.and_true]
      rw [show ((0:Nat):Int)=0 from rfl,xQ s n hn]
    rw [er] at hr
    refine Ev.congr (f:=fun k=>(gJ.f k t (s.extract n (n+1))).bind fun t105=>if t105=true then some ((bt s n - 48) % 256) else some (-1)) (fun k=>?_) (Ev.bind hr ?_)
    · unfold jE.f
      rw [e1,e2,if_neg (by omega),if_pos (by omega),if_pos (by omega),if_pos (by omega)]
      rw [show ((n:Int)+1).toNat=n+1 from by omega,Int.toNat_natCast]
      congr 1
      funext t105
      by_cases hb:t105=true
      · rw [if_pos hb,if_pos hb,if_pos (by omega),if_pos (by omega)]
      · rw [if_neg hb,if_neg hb]
    · unfold df
      rw [if_pos h]
      cases hb:(decide (0≤kX (bt s (n:Int)) t.length) && jM t)
      · rw [if_neg (by decide),if_neg (by decide)]
        exact Ev.now _
      · rw [if_pos rfl,if_pos rfl]
        have:=Fh.1 (of_decide_eq_true (Bool.and_eq_true _ _ ▸ hb).1)
        have hr:=uq s n
        rw [show (bt s (n:Int) - 48) % 256=bt s n - 48 from by omega]
        exact Ev.now _
  · refine Ev.congr (f:=fun _=>some (-1)) (fun k=>?_) (by unfold df;rw [if_neg h];exact Ev.now _)
    unfold jE.f
    rw [e1,if_pos (by omega)]
theorem Qa (t:List ByteArray) (lo gl:ByteArray) (code:List iG) (a:Int) (ht:t.length≤9223372036854775807) (h0:0≤a) (h1:a≤255):Ev (fun k=>iL.f k t lo gl code a) (df t lo a) :=
  Ev.bind (P9 t lo a ht h0 h1) (Ev.now _)
def Nh (t:List ByteArray) (i:Int):ByteArray:=if (jM t && (decide (0≤i) && decide (i < t.length)))=true then dV ByteArray.empty t i else ⟨#[]⟩
theorem agf (t:List ByteArray) (i:Int) (ht:t.length≤9223372036854775807):Ev (fun k=>oL.f k t i) (Nh t i):=by
  refine Ev.bind (Iz t ht) ?_
  unfold Nh
  cases jM t
  · rw [if_neg (by decide),if_neg (by simp)]
    exact Ev.now _
  · rw [if_pos rfl]
    by_cases h0:i < 0
    · rw [if_pos h0,if_neg (by simp;omega)]
      exact Ev.now _
    · by_cases h1:i < t.length
      · rw [if_neg h0,if_neg (by omega),if_pos (by omega),if_pos h1,if_pos (by simp;omega)]
        exact Ev.now _
      · rw [if_neg h0,if_pos (by omega),if_neg (by simp;omega)]
        exact Ev.now _
def jm (t:List ByteArray) (i:Int):Int:=(Nh t i).size
theorem V3 (t:List ByteArray) (i:Int) (ht:t.length≤9223372036854775807):Ev (fun k=>jc.f k t i) (jm t i):=Ev.bind (agf t i ht) (Ev.now _)
end Go.Proofs.YtbmhmlgfpijmhaaDoor.P
end
section
namespace Go.Proofs.YtbmhmlgfpijmhaaDoor.P
open Go.RowKit Go.Proofs.af.bG Go.Proofs.af.dD Go.Proofs.af.dM
def U8 (n:Int):Prop:=0≤n∧n≤255
def I64 (n:Int):Prop:=-9223372036854775808≤n∧n≤9223372036854775807
def WfI (x:iG):Prop:=U8 x.f0∧U8 x.f1∧U8 x.f2∧U8 x.f3∧I64 x.f4
def Wf (code:List iG):Prop:=∀ i:Nat,WfI (code.getD i z39)
theorem afO:WfI z39:=by
  unfold WfI U8 I64
  decide
theorem MV (l:List iG) (i:Nat):aj l (i:Int)=l.getD i z39:=rfl
theorem getD_take (l:List iG) (m i:Nat):(l.take m).getD i z39=if i < m then l.getD i z39 else z39:=by
  rw [List.getD_eq_getElem?_getD,List.getD_eq_getElem?_getD,List.getElem?_take]
  split <;> rfl
theorem getD_drop (l:List iG) (m i:Nat):(l.drop m).getD i z39=l.getD (m+i) z39:=by
  rw [List.getD_eq_getElem?_getD,List.getD_eq_getElem?_getD,List.getElem?_drop]
theorem Wf.take {code:List iG} (h:Wf code) (m:Nat):Wf (code.take m):=fun i=>by
  rw [getD_take]
  split
  · exact h i
  · exact afO
theorem Uu:Ev (fun k=>di.f k) true:=Ev.of (k:=40) di.mono (by kernel_rfl)
theorem zg {t:List ByteArray} (h:jM t=true) (i:Nat) (hi:i < t.length):1≤jm t i∧jm t i≤6:=by
  have h':=h
  unfold jM at h'
  simp only [Bool.and_eq_true,decide_eq_true_eq] at h'
  have h2:=nS.1 h'.1 i hi
  unfold tH at h2
  simp only [Bool.and_eq_true,decide_eq_true_eq] at h2
  unfold jm Nh
  rw [h,if_pos (by simp;omega)]
  omega
theorem tZ (t:List ByteArray) (i:Int):0≤jm t i∧jm t i≤6:=by
  by_cases h:(jM t && (decide (0≤i) && decide (i < t.length)))=true
  · simp only [Bool.and_eq_true,decide_eq_true_eq] at h
    obtain ⟨n,rfl⟩:=Int.eq_ofNat_of_zero_le h.2.1
    have:=zg h.1 n (by omega)
    omega
  · unfold jm Nh
    rw [if_neg h]
    decide
theorem Gh (a i:Nat) (h:a+1+i≤9223372036854775807):wrap64 (wrap64 ((a:Int)+1)+(i:Int))=((a+1+i:Nat):Int):=by
  have e1:wrap64 ((a:Int)+1)=(a:Int)+1:=by unfold wrap64;omega
  rw [e1]
  unfold wrap64
  omega
theorem Iy:∀ n:Fin 7,shl .i64 1 ((n.val:Nat):Int)=((2 ^ n.val:Nat):Int):=by decide +kernel
theorem WL:∀ h:Fin 64,∀ n:Fin 6,Go.bits .or .i64 ((h.val:Nat):Int) ((2 ^ n.val:Nat):Int)=((h.val ||| 2 ^ n.val:Nat):Int)∧(h.val ||| 2 ^ n.val) < 64:=by decide +kernel
def cls (a:Int) (x:iG):Option (Option Nat) :=
  if x.f0=1 ∨ x.f0=2 ∨ x.f0=14 ∨ x.f0=15 then some none
  else if x.f0=6 ∨ x.f0=7 then (if x.f1=a then none else some none)
  else if x.f0=9 ∨ x.f0=11 then (if x.f1=a∧0≤x.f4∧x.f4 < 6 then some (some x.f4.toNat) else none)
  else none
theorem LP {a:Int} {x:iG} {n:Nat} (h:cls a x=some (some n)):n < 6∧x.f4=n∧x.f1=a∧(x.f0=9 ∨ x.f0=11):=by
  unfold cls at h
  split at h
  · cases h
  · split at h
    · split at h <;> cases h
    · split at h
      · rename_i h9
        split at h
        · rename_i h1
          injection h with h
          injection h with h
          omega
        · cases h
      · cases h
def o7 (a:Int) (whole:Nat) (y:List iG):Nat→Nat→Nat→Option Nat
  | 0,_,_=>none
  | d+1,i,had=>match cls a (y.getD i z39) with
    | none=>none
    | some none=>o7 a whole y d (i+1) had
    | some (some n)=>if had ||| 2 ^ n=whole then some i else o7 a whole y d (i+1) (had ||| 2 ^ n)
def place (at_:Nat):Option Nat→Int
  | some j=>((at_+1+j:Nat):Int)
  | none=>-1
theorem Lu (at_:Nat) (a:Int) (whole:Nat) (y:List iG) (hy:at_+1+y.length≤9223372036854775807) :
    ∀ d i had,i+d=y.length→had < 64→Ev (fun k=>aN.l0 k (at_:Nat) a (whole:Nat) (had:Nat) y (y.length:Nat) (i:Nat)) (place at_ (o7 a whole y d i had)):=by
  intro d
  induction d with
  | zero =>
    intro i had hi hh
    refine Ev.step (f:=fun _=>some (-1)) (fun k=>?_) (Ev.now _)
    simp only [aN.l0]
    rw [if_neg (by omega)]
  | succ d ih =>
    intro i had hi hh
    generalize hx:y.getD i z39=x
    have nxt:∀ Oe:Nat,Oe < 64→Ev (fun k=>aN.l0 k (at_:Nat) a (whole:Nat) (Oe:Nat) y (y.length:Nat) (wrap64 ((i:Int)+1))) (place at_ (o7 a whole y d (i+1) Oe)):=fun Oe h'=>by
      rw [wrapN (i:=i) (n:=y.length) (by omega) (by omega)]
      exact ih (i+1) Oe (by omega) h'
    have step:o7 a whole y (d+1) i had=match cls a x with
      | none=>none
      | some none=>o7 a whole y d (i+1) had
      | some (some n)=>if had ||| 2 ^ n=whole then some i else o7 a whole y d (i+1) (had ||| 2 ^ n):=by
      rw [← hx]
      rfl
    have j5:∀ b:Bool,(b=false→x.f1=a∧0≤x.f4∧x.f4 < 6)→Ev (fun k=>aN.j5 k (at_:Nat) a (whole:Nat) (had:Nat) (i:Nat) y (y.length:Nat) (i:Nat) b x.f0 x.f1 x.f2 x.f3 x.f4)
        (if b=true then -1 else if had ||| 2 ^ x.f4.toNat=whole then ((at_+1+i:Nat):Int) else place at_ (o7 a whole y d (i+1) (had ||| 2 ^ x.f4.toNat))):=fun b hb=>by
      refine Ev.step (fun k=>by simp only [aN.j5];rfl) ?_
      refine Ev.ite (fun _=>Ev.now _) fun hb2=>?_
      obtain ⟨_,h0,h6⟩:=hb (by simpa using hb2)
      obtain ⟨n,hn⟩:=Int.eq_ofNat_of_zero_le h0
      have e1:shl .i64 1 x.f4=((2 ^ n:Nat):Int):=by rw [hn];exact Iy ⟨n,by omega⟩
      have e2:=WL ⟨had,hh⟩ ⟨n,by omega⟩
      dsimp only at e2
      rw [e1,e2.1,hn,Int.toNat_natCast]
      refine Ev.congr (fun k=>if_pos (by omega)) ?_
      have e3:wrap64 (wrap64 ((at_:Int)+1)+(i:Int))=((at_+1+i:Nat):Int):=Gh at_ i (by omega)
      rw [e3]
      refine Ev.out (Ev.ite (fun _=>Ev.now ((at_+1+i:Nat):Int)) fun _=>nxt (had ||| 2 ^ n) e2.2) ?_
      by_cases h:had ||| 2 ^ n=whole
      · rw [if_pos h,if_pos (by rw [h])]
      · rw [if_neg h,if_neg (by omega)]
    have j4:∀ b:Bool,Ev (fun k=>aN.j4 k (at_:Nat) a (whole:Nat) (had:Nat) (i:Nat) y (y.length:Nat) (i:Nat) b x.f0 x.f1 x.f2 x.f3 x.f4)
        (if b=true then (if x.f1=a∧0≤x.f4∧x.f4 < 6 then (if had ||| 2 ^ x.f4.toNat=whole then ((at_+1+i:Nat):Int) else place at_ (o7 a whole y d (i+1) (had ||| 2 ^ x.f4.toNat))) else -1) else -1):=fun b=>by
      refine Ev.step (fun k=>by simp only [aN.j4];rfl) ?_
      refine Ev.ite (fun _=>?_) fun _=>Ev.now _
      by_cases h1:x.f1=a
      · refine Ev.congr (fun k=>if_pos h1) ?_
        by_cases h2:x.f4 < 0
        · refine Ev.congr (fun k=>if_pos h2) (Ev.out (j5 true fun h=>by cases h) ?_)
          rw [if_pos rfl,if_neg (by omega)]
        · refine Ev.congr (fun k=>if_neg h2) ?_
          by_cases h3:x.f4 ≥ 6
          · rw [decide_eq_true h3]
            refine Ev.out (j5 true fun h=>by cases h) ?_
            rw [if_pos rfl,if_neg (by omega)]
          · rw [decide_eq_false h3]
            refine Ev.out (j5 false fun _=>⟨h1,by omega,by omega⟩) ?_
            rw [if_neg (by decide),if_pos (show x.f1=a∧0≤x.f4∧x.f4 < 6 from ⟨h1,by omega,by omega⟩)]
      · refine Ev.congr (fun k=>if_neg h1) (Ev.out (j5 true fun h=>by cases h) ?_)
        rw [if_pos rfl,if_neg (fun h=>h1 h.1)]
    have j3:∀ b:Bool,Ev (fun k=>aN.j3 k (at_:Nat) a (whole:Nat) (had:Nat) (i:Nat) y (y.length:Nat) (i:Nat) x.f0 b x.f0 x.f1 x.f2 x.f3 x.f4)
        (if b=true then (if x.f1=a then -1 else place at_ (o7 a whole y d (i+1) had)) else if x.f0=9 ∨ x.f0=11 then (if x.f1=a∧0≤x.f4∧x.f4 < 6 then (if had ||| 2 ^ x.f4.toNat=whole then ((at_+1+i:Nat):Int) else place at_ (o7 a whole y d (i+1) (had ||| 2 ^ x.f4.toNat))) else -1) else -1):=fun b=>by
      refine Ev.step (fun k=>by simp only [aN.j3];rfl) ?_
      refine Ev.ite (fun _=>Ev.ite (fun _=>Ev.now _) fun _=>nxt had hh) fun _=>?_
      refine Ev.out (Ev.ite (fun _=>j4 _) fun _=>j4 _) ?_
      by_cases h9:x.f0=9
      · simp only [h9,beq_self_eq_true,if_true,true_or]
      · by_cases h11:x.f0=11
        · simp only [h11,beq_self_eq_true,if_true,or_true]
          rw [if_neg (by decide)]
        · rw [if_neg h9,if_neg (by simpa using h11),if_neg (by omega)]
    have j2:∀ b:Bool,Ev (fun k=>aN.j2 k (at_:Nat) a (whole:Nat) (had:Nat) (i:Nat) y (y.length:Nat) (i:Nat) x.f0 b x.f0 x.f1 x.f2 x.f3 x.f4)
        (if b=true then place at_ (o7 a whole y d (i+1) had) else if x.f0=6 ∨ x.f0=7 then (if x.f1=a then -1 else place at_ (o7 a whole y d (i+1) had)) else if x.f0=9 ∨ x.f0=11 then (if x.f1=a∧0≤x.f4∧x.f4 < 6 then (if had ||| 2 ^ x.f4.toNat=whole then ((at_+1+i:Nat):Int) else place at_ (o7 a whole y d (i+1) (had ||| 2 ^ x.f4.toNat))) else -1) else -1):=fun b=>by
      refine Ev.step (fun k=>by simp only [aN.j2];rfl) ?_
      refine Ev.ite (fun _=>nxt had hh) fun _=>?_
      refine Ev.out (Ev.ite (fun _=>j3 _) fun _=>j3 _) ?_
      by_cases h6:x.f0=6
      · simp only [h6,beq_self_eq_true,if_true,true_or]
      · by_cases h7:x.f0=7
        · simp only [h7,beq_self_eq_true,if_true,or_true]
          rw [if_neg (by decide)]
        · rw [if_neg h6,if_neg (by simpa using h7),if_neg (by omega:¬ (x.f0=6 ∨ x.f0=7))]
    have fin:∀ b:Bool,(b=true ↔ (x.f0=1 ∨ x.f0=2 ∨ x.f0=14 ∨ x.f0=15))→Ev (fun k=>aN.j2 k (at_:Nat) a (whole:Nat) (had:Nat) (i:Nat) y (y.length:Nat) (i:Nat) x.f0 b x.f0 x.f1 x.f2 x.f3 x.f4) (place at_ (o7 a whole y (d+1) i had)):=fun b hb=>by
      refine Ev.out (j2 b) ?_
      rw [step]
      unfold cls
      by_cases h1:x.f0=1 ∨ x.f0=2 ∨ x.f0=14 ∨ x.f0=15
      · rw [if_pos (hb.2 h1),if_pos h1]
      · rw [if_neg (fun h=>h1 (hb.1 h)),if_neg h1]
        by_cases h6:x.f0=6 ∨ x.f0=7
        · rw [if_pos h6,if_pos h6]
          by_cases ha:x.f1=a
          · rw [if_pos ha,if_pos ha];rfl
          · rw [if_neg ha,if_neg ha]
        · rw [if_neg h6,if_neg h6]
          by_cases h9:x.f0=9 ∨ x.f0=11
          · rw [if_pos h9,if_pos h9]
            by_cases hs:x.f1=a∧0≤x.f4∧x.f4 < 6
            · rw [if_pos hs,if_pos hs]
              dsimp only
              by_cases hw:had ||| 2 ^ x.f4.toNat=whole
              · rw [if_pos hw,if_pos hw];rfl
              · rw [if_neg hw,if_neg hw]
            · rw [if_neg hs,if_neg hs];rfl
          · rw [if_neg h9,if_neg h9];rfl
    refine Ev.step (f:=fun k=>if x.f0=1 then (aN.j2 k (at_:Nat) a (whole:Nat) (had:Nat) (i:Nat) y (y.length:Nat) (i:Nat) x.f0 (x.f0 == 1) x.f0 x.f1 x.f2 x.f3 x.f4) else (if x.f0=2 then (aN.j2 k (at_:Nat) a (whole:Nat) (had:Nat) (i:Nat) y (y.length:Nat) (i:Nat) x.f0 (x.f0 == 2) x.f0 x.f1 x.f2 x.f3 x.f4) else (if x.f0=14 then (aN.j2 k (at_:Nat) a (whole:Nat) (had:Nat) (i:Nat) y (y.length:Nat) (i:Nat) x.f0 (x.f0 == 14) x.f0 x.f1 x.f2 x.f3 x.f4) else (aN.j2 k (at_:Nat) a (whole:Nat) (had:Nat) (i:Nat) y (y.length:Nat) (i:Nat) x.f0 (x.f0 == 15) x.f0 x.f1 x.f2 x.f3 x.f4)))) (fun k=>?_) ?_
    · simp only [aN.l0]
      rw [if_pos (by omega),if_pos (by omega),if_pos (by omega),MV,hx]
    · by_cases h1:x.f0=1
      · exact Ev.congr (fun k=>if_pos h1) (fin _ (by simp [h1]))
      · refine Ev.congr (fun k=>if_neg h1) ?_
        by_cases h2:x.f0=2
        · exact Ev.congr (fun k=>if_pos h2) (fin _ (by simp [h2]))
        · refine Ev.congr (fun k=>if_neg h2) ?_
          by_cases h3:x.f0=14
          · exact Ev.congr (fun k=>if_pos h3) (fin _ (by simp [h3]))
          · exact Ev.congr (fun k=>if_neg h3) (fin _ (by simp [h1,h2,h3]))
def sS (t:List ByteArray) (lo:ByteArray) (a:Int):Nat:=2 ^ (jm t (df t lo a)).toNat - 1
def uT (t:List ByteArray) (lo:ByteArray) (code:List iG) (at_:Nat):Int :=
  if (code.getD at_ z39).f0=5 then place at_ (o7 (code.getD at_ z39).f1 (sS t lo (code.getD at_ z39).f1) (code.drop (at_+1)) (code.length - (at_+1)) 0 0) else -1
theorem WT (t:List ByteArray) (lo gl:ByteArray) (code:List iG) (at_:Nat) (ha:at_ < code.length) (ht:t.length≤9223372036854775807) (hn:code.length≤9223372036854775807) (hw:Wf code) :
    Ev (fun k=>aN.f k t lo gl code (at_:Nat)) (uT t lo code at_):=by
  refine Ev.congr (f:=fun k=>aN.j0 k (at_:Nat) ((code.getD at_ z39).f0 != 5) t lo gl code) (fun k=>?_) ?_
  · unfold aN.f
    rw [if_neg (by omega),if_neg (by omega),if_pos (by omega),if_pos (by omega),MV]
  · have hx:=hw at_
    unfold uT
    generalize hxe:code.getD at_ z39=x at hx ⊢
    by_cases h5:x.f0=5
    · have eb:(x.f0 != 5)=false:=by simp [h5]
      rw [eb,if_pos h5]
      have sr:=tZ t (df t lo x.f1)
      obtain ⟨s,hs⟩:=Int.eq_ofNat_of_zero_le sr.1
      have e1:wrap64 ((at_:Int)+1)=((at_+1:Nat):Int):=wrapN ha hn
      refine Ev.step (f:=fun k=>(iL.f k t lo gl code (aj code (at_:Nat)).f1).bind fun t114=>((jc.f k t t114).bind fun t115=>(if 0≤t115 then (aN.l0 k (at_:Nat) (aj code (at_:Nat)).f1 (wrap64 ((shl .i64 1 t115) - 1)) 0 (code.drop (at_+1)) ((code.drop (at_+1)).length:Int) 0) else none))) (fun k=>?_) ?_
      · simp only [aN.j0]
        rw [if_neg (by decide),if_pos (by omega),if_pos (by omega),e1]
        congr 1
        funext t114
        congr 1
        funext t115
        by_cases h:0≤t115
        · rw [if_pos h,if_pos h,if_pos (by omega),if_pos (by omega),Int.toNat_natCast]
          rfl
        · rw [if_neg h,if_neg h]
      · have ex:aj code (at_:Nat)=x:=(MV code at_).trans hxe
        rw [ex]
        refine Ev.bind (Qa t lo gl code x.f1 ht hx.2.1.1 hx.2.1.2) (Ev.bind (V3 t _ ht) ?_)
        rw [hs]
        refine Ev.congr (fun k=>if_pos (by omega)) ?_
        have e2:wrap64 (shl .i64 1 (s:Int) - 1)=((2 ^ s - 1:Nat):Int):=by
          rw [Iy ⟨s,by omega⟩]
          have h1:2 ^ s≤64:=Nat.pow_le_pow_right (by decide) (by omega:s≤6)
          have h2:1≤2 ^ s:=Nat.one_le_two_pow
          unfold wrap64
          dsimp only
          omega
        rw [e2]
        have hl:(code.drop (at_+1)).length=code.length - (at_+1):=List.length_drop
        have:=Lu at_ x.f1 (2 ^ s - 1) (code.drop (at_+1)) (by omega) (code.length - (at_+1)) 0 0 (by omega) (by decide)
        unfold sS
        rw [hs,Int.toNat_natCast]
        exact this
    · have eb:(x.f0 != 5)=true:=by simp [h5]
      rw [eb,if_neg h5]
      refine Ev.step (f:=fun _=>some (-1)) (fun k=>?_) (Ev.now _)
      simp only [aN.j0]
      rw [if_pos trivial]
end Go.Proofs.YtbmhmlgfpijmhaaDoor.P
end
section
namespace Go.Proofs.YtbmhmlgfpijmhaaDoor.P
open Go.RowKit Go.Proofs.af.bG Go.Proofs.af.dD Go.Proofs.af.dM
attribute [local go_sem] kF kD lK lJ jH jG kE kC
def dF.f (k:Nat) (bC:List ByteArray) (aY:ByteArray) (aZ:ByteArray) (aJ:List (iG)):Option (Bool):=(bV.f k bC aY aZ aJ).bind fun t231=>(if t231=true then (if (aJ.length:Int) > 60 then (some false) else ((az.f k bC aY aZ aJ).bind fun zQ=>(some (zQ.2 == 0)))) else (some false))
theorem dF.mono:∀ a0 a1 a2 a3 k,dN (dF.f k a0 a1 a2 a3) (dF.f (k+1) a0 a1 a2 a3):=by
 intro a0 a1 a2 a3 k
 unfold dF.f
 repeat' with_reducible first|apply bV.mono|apply az.mono|exact dN.refl _|exact dN.none _|refine dN.ite ?_ ?_|refine dN.bind ?_ (fun _=>?_)
set_option maxHeartbeats 8000000 in
set_option maxRecDepth 100000 in
theorem dF.calls (k:Nat) (eP:Option Addr) (eH:Nat) (bC:List ByteArray) (aY:ByteArray) (aZ:ByteArray) (gy:Option Addr) (fB:Nat) (aJ:List (iG)) (r:Bool) (w:World) (jV:Kd.C Kd.string w eP bC.length bC) (jX:bC.length≤eH) (jU:Kd.C k39 w gy aJ.length aJ) (jW:aJ.length≤fB) (EW:Kd.C Ad w Ae rF.length rF) (h:dF.f k bC aY aZ aJ=some r) :
  Calls Tryd.prog 9 #[.agg #[.slice eP bC.length eH,.string aY,.string aZ,.slice gy aJ.length fB]] w fun e w'=>e=.returned (.bool r)∧Below w.heap.size w w':=by
 have yj:=Tryd.underlying25
 have ji:=ae.mk jV
 have jr:=ae.mk jX
 clear jV jX
 have jR:=ae.mk jU
 have lD:=ae.mk jW
 clear jU jW
 have Gf:=ae.mk EW
 clear EW
 have HB:=ae.mk (Below.refl w.heap.size w)
 have H:((bV.f k bC aY aZ aJ).bind fun t231=>(if t231=true then (if (aJ.length:Int) > 60 then (some false) else ((az.f k bC aY aZ aJ).bind fun zQ=>(some (zQ.2 == 0)))) else (some false)))=some r:=h
 clear h
 replace H:=Option.bind_eq_some_iff.mp H
 obtain ⟨t231,Pn,H⟩:=H
 replace H:(if t231=true then (if (aJ.length:Int) > 60 then (some false) else ((az.f k bC aY aZ aJ).bind fun zQ=>(some (zQ.2 == 0)))) else (some false))=some r:=H
 have A2:=ae.mk Pn
 clear Pn
 by_cases c3:t231=true
 ·
  subst c3
  have H1:(if (aJ.length:Int) > 60 then (some false) else ((az.f k bC aY aZ aJ).bind fun zQ=>(some (zQ.2 == 0))))=some r:=by rw [if_pos rfl] at H;exact H
  clear H
  have H:=H1
  clear H1
  by_cases c4:(aJ.length:Int) > 60
  ·
   rw [if_pos c4] at H
   have oG:decide (60 < (aJ.length:Int))=true:=decide_eq_true c4
   have Ee:decide (60 < aJ.length)=true:=decide_eq_true (by omega)
   clear c4
   obtain rfl:=Option.some.inj H
   go_enter Tryd.func9,Tryd.ntmps9
   go_wp2_with (first|((with_reducible refine bI (N:=1) rfl ?_);(try (refine iP (by rfl) ?_;dsimp only));refine dZ ?hg (N:=1) ?hd (cs:=#[.slice eP bC.length eH,.string aY,.string aZ,.slice gy aJ.length fB]) (t:=25) ?hr ?_;(case hd=>rfl);(case hg=>rfl);(case hr=>first|(go_simp;done)|(go_simp;rfl));intro lh hg w5 hbox hb;have eU:=ae.mk (bz (by repeat (first|(with_reducible first|exact HB.out|apply ay|apply ai|apply ax)|exact HB.out)) hb);have eQ:=ae.mk (hbox);have eu:=ae.mk ((by rw [hg];exact (cu (by repeat (first|(with_reducible first|exact HB.out|apply ay|apply ai|apply ax)|exact HB.out))):w.heap.size≤lh));have ig:=eu;clear HB;have HB:=eU;have iR:=eQ;have VD:=eu;have wS:=ig;clear eU eQ eu ig;clear hb hbox hg;have agP:w5.cell? ⟨lh,0,none⟩=some (.slice eP bC.length eH):=(ah iR.out 0).trans rfl;have agO:w5.cell? ⟨lh,1,none⟩=some (.string aY):=(ah iR.out 1).trans rfl;have agN:w5.cell? ⟨lh,2,none⟩=some (.string aZ):=(ah iR.out 2).trans rfl;have agM:w5.cell? ⟨lh,3,none⟩=some (.slice gy aJ.length fB):=(ah iR.out 3).trans rfl;have agF:=ag iR.out 0;have agE:=ag iR.out 1;have agD:=ag iR.out 2;have agC:=ag iR.out 3)|((with_reducible refine bT (f:=17) rfl ?_);refine gp (some 6) rfl rfl Tryd.func17 (by kernel_rfl) rfl #[.agg #[.slice eP bC.length eH,.string aY,.string aZ,.slice gy aJ.length fB]] rfl (by (try simp only [List.map_toArray,List.map_cons,List.map_nil]);first|done|rfl|(simp only [List.length_drop,List.length_take];rfl)) ?_;(with_reducible refine (bV.calls k _ _ bC aY aZ _ _ aJ true _ ?dR ?dU ?jq ?jo A2.out).mono ?_);(case dR=>repeat (first|exact (Kd.bW ji.out HB.out)|(with_reducible refine Kd.dA ?_ _)|(with_reducible refine Kd.dL ?_ _)|(with_reducible refine Kd.dW ?_)));(case dU=>exact jr.out);(case jq=>repeat (first|exact (Kd.bW jR.out HB.out)|(with_reducible refine Kd.dA ?_ _)|(with_reducible refine Kd.dL ?_ _)|(with_reducible refine Kd.dW ?_)));(case jo=>exact lD.out);rintro e w7 ⟨rfl,hb⟩;refine ⟨_,rfl,?_⟩;have eU:=ae.mk (bK (g:=lh) (o:=.cells #[.slice eP bC.length eH,.string aY,.string aZ,.slice gy aJ.length fB] 25 (0,0)) (by (with_reducible repeat (first|refine au ?_ _|refine aC ?_|refine ak ?_ _));exact iR.out) hb);have eQ:=ae.mk (bz (by repeat (first|(with_reducible first|exact HB.out|apply ay|apply ai|apply ax|refine aA ?_ wS.out)|exact HB.out)) hb);clear iR;clear HB;have iR:=eU;have HB:=eQ;clear eU eQ;(try clear hb);(try clear hb2);(try clear hk);(try clear hi);have G5:w7.cell? ⟨lh,0,none⟩=some (.slice eP bC.length eH):=(ah iR.out 0).trans rfl;have GZ:w7.cell? ⟨lh,1,none⟩=some (.string aY):=(ah iR.out 1).trans rfl;have GY:w7.cell? ⟨lh,2,none⟩=some (.string aZ):=(ah iR.out 2).trans rfl;have GX:w7.cell? ⟨lh,3,none⟩=some (.slice gy aJ.length fB):=(ah iR.out 3).trans rfl;have GV:=ag iR.out 0;have GU:=ag iR.out 1;have GR:=ag iR.out 2;have GN:=ag iR.out 3))
   go_ret
   exact ⟨by first|rfl|(simp [aT,aQ] <;> rfl)|(simp [*,aT,aQ] <;> rfl),by repeat (first|(with_reducible first|exact HB.out|apply ay|apply ai|apply ax|refine aA ?_ wS.out)|exact HB.out)⟩
  ·
   rw [if_neg c4] at H
   have oG:decide (60 < (aJ.length:Int))=false:=decide_eq_false c4
   have Ee:decide (60 < aJ.length)=false:=decide_eq_false (by omega)
   clear c4
   replace H:=Option.bind_eq_some_iff.mp H
   obtain ⟨⟨t232,t233⟩,KR,H⟩:=H
   replace H:(some (t233 == 0))=some r:=H
   have A9:=ae.mk KR
   clear KR
   obtain rfl:=Option.some.inj H
   go_enter Tryd.func9,Tryd.ntmps9
   go_wp2_with (first|((with_reducible refine bI (N:=1) rfl ?_);(try (refine iP (by rfl) ?_;dsimp only));refine dZ ?hg (N:=1) ?hd (cs:=#[.slice eP bC.length eH,.string aY,.string aZ,.slice gy aJ.length fB]) (t:=25) ?hr ?_;(case hd=>rfl);(case hg=>rfl);(case hr=>first|(go_simp;done)|(go_simp;rfl));intro lh hg w10 hbox hb;have eU:=ae.mk (bz (by repeat (first|(with_reducible first|exact HB.out|apply ay|apply ai|apply ax)|exact HB.out)) hb);have eQ:=ae.mk (hbox);have eu:=ae.mk ((by rw [hg];exact (cu (by repeat (first|(with_reducible first|exact HB.out|apply ay|apply ai|apply ax)|exact HB.out))):w.heap.size≤lh));have ig:=eu;clear HB;have HB:=eU;have iR:=eQ;have VD:=eu;have wS:=ig;clear eU eQ eu ig;clear hb hbox hg;have D9:w10.cell? ⟨lh,0,none⟩=some (.slice eP bC.length eH):=(ah iR.out 0).trans rfl;have D8:w10.cell? ⟨lh,1,none⟩=some (.string aY):=(ah iR.out 1).trans rfl;have D7:w10.cell? ⟨lh,2,none⟩=some (.string aZ):=(ah iR.out 2).trans rfl;have D6:w10.cell? ⟨lh,3,none⟩=some (.slice gy aJ.length fB):=(ah iR.out 3).trans rfl;have DN:=ag iR.out 0;have DL:=ag iR.out 1;have DK:=ag iR.out 2;have DJ:=ag iR.out 3)|((with_reducible refine bT (f:=17) rfl ?_);refine gp (some 6) rfl rfl Tryd.func17 (by kernel_rfl) rfl #[.agg #[.slice eP bC.length eH,.string aY,.string aZ,.slice gy aJ.length fB]] rfl (by (try simp only [List.map_toArray,List.map_cons,List.map_nil]);first|done|rfl|(simp only [List.length_drop,List.length_take];rfl)) ?_;(with_reducible refine (bV.calls k _ _ bC aY aZ _ _ aJ true _ ?dR ?dU ?jq ?jo A2.out).mono ?_);(case dR=>repeat (first|exact (Kd.bW ji.out HB.out)|(with_reducible refine Kd.dA ?_ _)|(with_reducible refine Kd.dL ?_ _)|(with_reducible refine Kd.dW ?_)));(case dU=>exact jr.out);(case jq=>repeat (first|exact (Kd.bW jR.out HB.out)|(with_reducible refine Kd.dA ?_ _)|(with_reducible refine Kd.dL ?_ _)|(with_reducible refine Kd.dW ?_)));(case jo=>exact lD.out);rintro e w12 ⟨rfl,hb⟩;refine ⟨_,rfl,?_⟩;have eU:=ae.mk (bK (g:=lh) (o:=.cells #[.slice eP bC.length eH,.string aY,.string aZ,.slice gy aJ.length fB] 25 (0,0)) (by (with_reducible repeat (first|refine au ?_ _|refine aC ?_|refine ak ?_ _));exact iR.out) hb);have eQ:=ae.mk (bz (by repeat (first|(with_reducible first|exact HB.out|apply ay|apply ai|apply ax|refine aA ?_ wS.out)|exact HB.out)) hb);clear iR;clear HB;have iR:=eU;have HB:=eQ;clear eU eQ;(try clear hb);(try clear hb2);(try clear hk);(try clear hi);have Uc:w12.cell? ⟨lh,0,none⟩=some (.slice eP bC.length eH):=(ah iR.out 0).trans rfl;have Ub:w12.cell? ⟨lh,1,none⟩=some (.string aY):=(ah iR.out 1).trans rfl;have Ua:w12.cell? ⟨lh,2,none⟩=some (.string aZ):=(ah iR.out 2).trans rfl;have TZ:w12.cell? ⟨lh,3,none⟩=some (.slice gy aJ.length fB):=(ah iR.out 3).trans rfl;have RH:=ag iR.out 0;have RG:=ag iR.out 1;have RF:=ag iR.out 2;have RD:=ag iR.out 3)|((with_reducible refine bT (f:=18) rfl ?_);refine gp (some 16) rfl rfl Tryd.func18 (by kernel_rfl) rfl #[.agg #[.slice eP bC.length eH,.string aY,.string aZ,.slice gy aJ.length fB]] rfl (by (try simp only [List.map_toArray,List.map_cons,List.map_nil]);first|done|rfl|(simp only [List.length_drop,List.length_take];rfl)) ?_;(with_reducible refine (az.calls k _ _ bC aY aZ _ _ aJ t232 t233 _ ?dR ?dU ?jq ?jo ?YB A9.out).mono ?_);(case dR=>repeat (first|exact (Kd.bW ji.out HB.out)|(with_reducible refine Kd.dA ?_ _)|(with_reducible refine Kd.dL ?_ _)|(with_reducible refine Kd.dW ?_)));(case dU=>exact jr.out);(case jq=>repeat (first|exact (Kd.bW jR.out HB.out)|(with_reducible refine Kd.dA ?_ _)|(with_reducible refine Kd.dL ?_ _)|(with_reducible refine Kd.dW ?_)));(case jo=>exact lD.out);(case YB=>repeat (first|exact (Kd.bW Gf.out HB.out)|(with_reducible refine Kd.dA ?_ _)|(with_reducible refine Kd.dL ?_ _)|(with_reducible refine Kd.dW ?_)));rintro e Me ⟨rfl,hb⟩;refine ⟨_,rfl,?_⟩;have eU:=ae.mk (bK (g:=lh) (o:=.cells #[.slice eP bC.length eH,.string aY,.string aZ,.slice gy aJ.length fB] 25 (0,0)) (by (with_reducible repeat (first|refine au ?_ _|refine aC ?_|refine ak ?_ _));exact iR.out) hb);have eQ:=ae.mk (bz (by repeat (first|(with_reducible first|exact HB.out|apply ay|apply ai|apply ax|refine aA ?_ wS.out)|exact HB.out)) hb);clear iR;clear HB;have iR:=eU;have HB:=eQ;clear eU eQ;(try clear hb);(try clear hb2);(try clear hk);(try clear hi)))
   go_ret
   exact ⟨by first|rfl|(simp [aT,aQ] <;> rfl)|(simp [*,aT,aQ] <;> rfl),by repeat (first|(with_reducible first|exact HB.out|apply ay|apply ai|apply ax|refine aA ?_ wS.out)|exact HB.out)⟩
 ·
  replace c3:=Bool.eq_false_iff.mpr c3
  subst c3
  have H1:(some false)=some r:=by rw [if_neg (show ¬ (false=true) by decide)] at H;exact H
  clear H
  have H:=H1
  clear H1
  obtain rfl:=Option.some.inj H
  go_enter Tryd.func9,Tryd.ntmps9
  go_wp2_with (first|((with_reducible refine bI (N:=1) rfl ?_);(try (refine iP (by rfl) ?_;dsimp only));refine dZ ?hg (N:=1) ?hd (cs:=#[.slice eP bC.length eH,.string aY,.string aZ,.slice gy aJ.length fB]) (t:=25) ?hr ?_;(case hd=>rfl);(case hg=>rfl);(case hr=>first|(go_simp;done)|(go_simp;rfl));intro lh hg Yy hbox hb;have eU:=ae.mk (bz (by repeat (first|(with_reducible first|exact HB.out|apply ay|apply ai|apply ax)|exact HB.out)) hb);have eQ:=ae.mk (hbox);have eu:=ae.mk ((by rw [hg];exact (cu (by repeat (first|(with_reducible first|exact HB.out|apply ay|apply ai|apply ax)|exact HB.out))):w.heap.size≤lh));have ig:=eu;clear HB;have HB:=eU;have iR:=eQ;have VD:=eu;have wS:=ig;clear eU eQ eu ig;clear hb hbox hg;have yO:Yy.cell? ⟨lh,0,none⟩=some (.slice eP bC.length eH):=(ah iR.out 0).trans rfl;have yN:Yy.cell? ⟨lh,1,none⟩=some (.string aY):=(ah iR.out 1).trans rfl;have yM:Yy.cell? ⟨lh,2,none⟩=some (.string aZ):=(ah iR.out 2).trans rfl;have yL:Yy.cell? ⟨lh,3,none⟩=some (.slice gy aJ.length fB):=(ah iR.out 3).trans rfl;have yG:=ag iR.out 0;have yF:=ag iR.out 1;have yE:=ag iR.out 2;have yD:=ag iR.out 3)|((with_reducible refine bT (f:=17) rfl ?_);refine gp (some 6) rfl rfl Tryd.func17 (by kernel_rfl) rfl #[.agg #[.slice eP bC.length eH,.string aY,.string aZ,.slice gy aJ.length fB]] rfl (by (try simp only [List.map_toArray,List.map_cons,List.map_nil]);first|done|rfl|(simp only [List.length_drop,List.length_take];rfl)) ?_;(with_reducible refine (bV.calls k _ _ bC aY aZ _ _ aJ false _ ?dR ?dU ?jq ?jo A2.out).mono ?_);(case dR=>repeat (first|exact (Kd.bW ji.out HB.out)|(with_reducible refine Kd.dA ?_ _)|(with_reducible refine Kd.dL ?_ _)|(with_reducible refine Kd.dW ?_)));(case dU=>exact jr.out);(case jq=>repeat (first|exact (Kd.bW jR.out HB.out)|(with_reducible refine Kd.dA ?_ _)|(with_reducible refine Kd.dL ?_ _)|(with_reducible refine Kd.dW ?_)));(case jo=>exact lD.out);rintro e w17 ⟨rfl,hb⟩;refine ⟨_,rfl,?_⟩;have eU:=ae.mk (bK (g:=lh) (o:=.cells #[.slice eP bC.length eH,.string aY,.string aZ,.slice gy aJ.length fB] 25 (0,0)) (by (with_reducible repeat (first|refine au ?_ _|refine aC ?_|refine ak ?_ _));exact iR.out) hb);have eQ:=ae.mk (bz (by repeat (first|(with_reducible first|exact HB.out|apply ay|apply ai|apply ax|refine aA ?_ wS.out)|exact HB.out)) hb);clear iR;clear HB;have iR:=eU;have HB:=eQ;clear eU eQ;(try clear hb);(try clear hb2);(try clear hk);(try clear hi)))
  go_ret
  exact ⟨by first|rfl|(simp [aT,aQ] <;> rfl)|(simp [*,aT,aQ] <;> rfl),by repeat (first|(with_reducible first|exact HB.out|apply ay|apply ai|apply ax|refine aA ?_ wS.out)|exact HB.out)⟩
end Go.Proofs.YtbmhmlgfpijmhaaDoor.P
end
section
namespace Go.Proofs.YtbmhmlgfpijmhaaDoor.P
open Go.RowKit Go.Proofs.af.bG Go.Proofs.af.dD Go.Proofs.af.dM
def Tot {α:Type} (P:α→Prop) (g:Nat→Option α):Prop:=∃ r,Ev g r∧P r
abbrev Mc {α:Type}:α→Prop:=fun _=>True
theorem Tot.now {α:Type} {P:α→Prop} {r:α} (h:P r):Tot P (fun _=>some r):=⟨r,Ev.now r,h⟩
theorem Tot.bind {α β:Type} {P:α→Prop} {Q:β→Prop} {g:Nat→Option α} {f:Nat→α→Option β} (h:Tot P g) (k:∀ a,P a→Tot Q (fun n=>f n a)):Tot Q (fun n=>(g n).bind (f n)):=by
  obtain ⟨a,ha,hp⟩:=h
  obtain ⟨b,hb,hq⟩:=k a hp
  exact ⟨b,Ev.bind ha hb,hq⟩
theorem Tot.ite {α:Type} {P:α→Prop} {p:Prop} [Decidable p] {f g:Nat→Option α} (h1:p→Tot P f) (h2:¬p→Tot P g):Tot P (fun k=>if p then f k else g k):=by
  by_cases h:p
  · obtain ⟨r,hr,hp⟩:=h1 h
    exact ⟨r,Ev.congr (fun k=>if_pos h) hr,hp⟩
  · obtain ⟨r,hr,hp⟩:=h2 h
    exact ⟨r,Ev.congr (fun k=>if_neg h) hr,hp⟩
theorem Tot.step {α:Type} {P:α→Prop} {g f:Nat→Option α} (h:∀ k,g (k+1)=f k) (k:Tot P f):Tot P g:=by
  obtain ⟨r,hr,hp⟩:=k
  exact ⟨r,Ev.step h hr,hp⟩
theorem Tot.yes {α:Type} {P:α→Prop} {p:Prop} [Decidable p] {f g:Nat→Option α} (h:p) (k:Tot P f):Tot P (fun k=>if p then f k else g k):=Tot.ite (fun _=>k) (fun h'=>absurd h h')
theorem Tot.of {α:Type} {P:α→Prop} {g:Nat→Option α} {r:α} (h:∀ k,g k=some r) (hp:P r):Tot P g:=⟨r,Ev.congr h (Ev.now r),hp⟩
abbrev Mx:Nat:=9223372036854775807
theorem Ui (t:List ByteArray) (lo gl:ByteArray) (code:List iG) (ht:t.length≤Mx):Tot Mc (fun k=>bV.f k t lo gl code):=by
  have:∀ d i x3,i+d=t.length→Tot Mc (fun k=>bV.l0 k x3 t t.length (i:Nat) t lo gl code):=by
    intro d
    induction d with
    | zero =>
      intro i x3 hi
      refine Tot.step (fun k=>by simp only [bV.l0];rfl) ?_
      exact Tot.ite (fun h=>by omega) fun _=>Tot.ite (fun _=>Tot.now trivial) fun _=>Tot.now trivial
    | succ d ih =>
      intro i x3 hi
      refine Tot.step (fun k=>by simp only [bV.l0];rfl) ?_
      refine Tot.yes (by omega) (Tot.yes (by omega) (Tot.yes (by omega) ?_))
      rw [wrapN (i:=i) (n:=t.length) (by omega) ht]
      exact ih (i+1) _ (by omega)
  exact this t.length 0 _ (by omega)
theorem LK (a b:Int):∃ x,ed.f a b=some x:=by
  unfold ed.f
  split
  · exact ⟨_,rfl⟩
  · split <;> exact ⟨_,rfl⟩
theorem Gq (t:List ByteArray) (ht:t.length≤Mx) (hs:∀ i:Int,(dV ByteArray.empty t i).size≤Mx):Tot Mc (fun k=>aK.f k t):=by
  have l1:∀ (i:Nat) (s:ByteArray),s.size≤Mx→Tot Mc (fun k=>aK.l0 k t (wrap64 ((i:Int)+1)))→∀ d j,j+d=s.size→Tot Mc (fun k=>aK.l1 k t (i:Nat) s (j:Nat)):=by
    intro i s hsz hn d
    induction d with
    | zero =>
      intro j hj
      refine Tot.step (fun k=>by simp only [aK.l1];rfl) ?_
      exact Tot.ite (fun h=>by omega) fun _=>Tot.ite (fun _=>Tot.now trivial) fun _=>Tot.ite (fun _=>Tot.now trivial) fun _=>hn
    | succ d ih =>
      intro j hj
      refine Tot.step (fun k=>by simp only [aK.l1];rfl) ?_
      have nx:=ih (j+1) (by omega)
      rw [← wrapN (i:=j) (n:=s.size) (by omega) hsz] at nx
      refine Tot.yes (by omega) (Tot.yes (by omega) (Tot.ite (fun _=>nx) fun _=>?_))
      obtain ⟨x,hx⟩:=LK (bt s j) t.length
      rw [hx]
      exact Tot.ite (fun _=>Tot.now trivial) fun _=>nx
  have l0:∀ d i,i+d=t.length→Tot Mc (fun k=>aK.l0 k t (i:Nat)):=by
    intro d
    induction d with
    | zero =>
      intro i hi
      refine Tot.step (fun k=>by simp only [aK.l0];rfl) ?_
      exact Tot.ite (fun h=>by omega) fun _=>Tot.ite (fun _=>Tot.now trivial) fun _=>Tot.now trivial
    | succ d ih =>
      intro i hi
      refine Tot.step (fun k=>by simp only [aK.l0];rfl) ?_
      have nx:=ih (i+1) (by omega)
      rw [← wrapN (i:=i) (n:=t.length) (by omega) ht] at nx
      exact Tot.yes (by omega) (Tot.yes (by omega) (l1 i _ (hs _) nx _ 0 (Nat.zero_add _)))
  exact l0 t.length 0 (by omega)
section
variable (t:List ByteArray) (lo gl:ByteArray) (code:List iG) (ht:t.length≤Mx) (hs:∀ i:Int,(dV ByteArray.empty t i).size≤Mx)
include ht hs
end
end Go.Proofs.YtbmhmlgfpijmhaaDoor.P
end
section
namespace Go.Proofs.YtbmhmlgfpijmhaaDoor.P
open Go.RowKit Go.Proofs.af.bG Go.Proofs.af.dD Go.Proofs.af.dM
theorem rW (s:ByteArray) (i n:Int):ed.f (bt s i) n=some (kX (bt s i) n):=by
  have h:=uq s i
  unfold ed.f kX
  by_cases h1:bt s i < 48
  · rw [if_pos h1,if_neg (by omega)]
  · rw [if_neg h1,show (bt s i - 48) % 256=bt s i - 48 from by omega]
    by_cases h2:bt s i - 48 < n
    · rw [if_neg (show ¬ bt s i - 48 ≥ n from by omega),if_pos (show 48≤bt s i from by omega),if_pos h2]
    · rw [if_pos (show bt s i - 48 ≥ n from by omega),if_pos (show 48≤bt s i from by omega),if_neg h2]
theorem zh (t:List ByteArray) (ht:t.length≤9223372036854775807) (hs:∀ i:Int,(dV ByteArray.empty t i).size≤9223372036854775807):Ev (fun k=>aK.f k t) (jM t):=by
  have l1:∀ (i:Nat) (s:ByteArray) (r:Bool),s.size≤9223372036854775807→Ev (fun k=>aK.l0 k t (wrap64 ((i:Int)+1))) r →
      Ev (fun k=>aK.l1 k t (i:Nat) s 0) (okB s t.length && (if (s.size:Int) < 1 then false else if (s.size:Int) > 6 then false else r)):=by
    intro i s r hsz hr
    have:=ng (g:=fun k j=>aK.l1 k t (i:Nat) s (j:Nat)) (fun j=>if (bt s j == 105 || decide (0≤kX (bt s j) t.length)) then none else some false) s.size (if (s.size:Int) < 1 then false else if (s.size:Int) > 6 then false else r)
      (fun j hj hb q hq=>?_) (fun j hj b hb=>?_) (fun _=>?_) s.size 0 (by omega) (fun j hj=>by omega)
    · rw [rM s.size (fun j=>bt s j == 105 || decide (0≤kX (bt s j) t.length))] at this
      exact this
    · refine Ev.step (fun k=>?_) hq
      simp only [aK.l1]
      rw [if_pos (by omega),if_pos (by omega),wrapN (i:=j) (n:=s.size) hj hsz]
      by_cases h:bt s j=105
      · rw [if_pos h]
      · rw [if_neg h,rW]
        simp only [Option.bind_some]
        have h2:0≤kX (bt s j) t.length:=by
          have:=hb
          simp [h] at this
          exact this
        rw [if_neg (by omega)]
    · have hb':¬ bt s j=105∧¬ 0≤kX (bt s j) t.length∧b=false:=by
        by_cases h:bt s j=105
        · simp [h] at hb
        · by_cases h2:0≤kX (bt s j) t.length
          · simp [h2] at hb
          · simp [h,h2] at hb
            exact ⟨h,h2,hb⟩
      obtain ⟨h1,h2,rfl⟩:=hb'
      refine Ev.step (f:=fun _=>some false) (fun k=>?_) (Ev.now false)
      simp only [aK.l1]
      rw [if_pos (by omega),if_pos (by omega),if_neg h1,rW]
      simp only [Option.bind_some]
      rw [if_pos (by omega)]
    · refine Ev.step (fun k=>by simp only [aK.l1];rfl) ?_
      refine Ev.congr (fun k=>if_neg (by omega)) ?_
      exact Ev.ite (fun _=>Ev.now _) fun _=>Ev.ite (fun _=>Ev.now _) fun _=>hr
  have:=ng (g:=fun k i=>aK.l0 k t (i:Nat)) (fun i=>if tH (dV ByteArray.empty t i) t.length then none else some false) t.length (decide (1≤t.length) && decide (t.length≤8))
    (fun i hi hb q hq=>?_) (fun i hi b hb=>?_) (fun _=>?_) t.length 0 (by omega) (fun j hj=>by omega)
  · rw [rM t.length (fun i=>tH (dV ByteArray.empty t i) t.length)] at this
    exact this
  · have ho:tH (dV ByteArray.empty t i) t.length=true:=by
      cases h:tH (dV ByteArray.empty t i) t.length <;> simp [h] at hb ⊢
    unfold tH at ho
    simp only [Bool.and_eq_true,decide_eq_true_eq] at ho
    obtain ⟨⟨h1,h2⟩,h3⟩:=ho
    refine Ev.step (f:=fun k=>aK.l1 k t (i:Nat) (dV ByteArray.empty t i) 0) (fun k=>?_) ?_
    · simp only [aK.l0]
      rw [if_pos (by omega),if_pos (by omega)]
    · have:=l1 i (dV ByteArray.empty t i) q (hs _) (by rw [wrapN hi ht];exact hq)
      rw [h3,Bool.true_and,if_neg (by omega),if_neg (by omega)] at this
      exact this
  · have ho:tH (dV ByteArray.empty t i) t.length=false∧b=false:=by
      cases h:tH (dV ByteArray.empty t i) t.length <;> simp [h] at hb
      exact ⟨rfl,hb⟩
    obtain ⟨ho,rfl⟩:=ho
    refine Ev.step (f:=fun k=>aK.l1 k t (i:Nat) (dV ByteArray.empty t i) 0) (fun k=>?_) ?_
    · simp only [aK.l0]
      rw [if_pos (by omega),if_pos (by omega)]
    ·
      have tot:=Gq t ht hs
      have nx:∃ r,Ev (fun k=>aK.l0 k t (wrap64 ((i:Int)+1))) r:=by
        rw [wrapN hi ht]
        have l0:∀ d j,j+d=t.length→∃ r,Ev (fun k=>aK.l0 k t (j:Nat)) r:=by
          intro d
          induction d with
          | zero =>
            intro j hj
            refine ⟨(decide (1≤t.length) && decide (t.length≤8)),Ev.step (f:=fun _=>some _) (fun k=>?_) (Ev.now _)⟩
            simp only [aK.l0]
            rw [if_neg (by omega)]
            by_cases h:1≤t.length
            · rw [if_pos (by omega),decide_eq_true h,Bool.true_and]
              congr 1
              exact decide_eq_decide.2 (by omega)
            · rw [if_neg (by omega),decide_eq_false h,Bool.false_and]
          | succ d ih =>
            intro j hj
            obtain ⟨r,hr⟩:=ih (j+1) (by omega)
            have:=l1 j (dV ByteArray.empty t j) r (hs _) (by rw [wrapN (i:=j) (n:=t.length) (by omega) ht];exact hr)
            refine ⟨_,Ev.step (fun k=>?_) this⟩
            simp only [aK.l0]
            rw [if_pos (by omega),if_pos (by omega)]
        exact l0 (t.length - (i+1)) (i+1) (by omega)
      obtain ⟨r,hr⟩:=nx
      have:=l1 i (dV ByteArray.empty t i) r (hs _) hr
      refine Ev.out this ?_
      unfold tH at ho
      by_cases h1:((dV ByteArray.empty t i).size:Int) < 1
      · rw [if_pos h1,Bool.and_false]
      · by_cases h2:((dV ByteArray.empty t i).size:Int) > 6
        · rw [if_neg h1,if_pos h2,Bool.and_false]
        · rw [decide_eq_true (by omega),decide_eq_true (by omega)] at ho
          simp at ho
          rw [ho,Bool.false_and]
  · refine Ev.step (f:=fun _=>some (decide (1≤t.length) && decide (t.length≤8))) (fun k=>?_) (Ev.now _)
    simp only [aK.l0]
    rw [if_neg (by omega)]
    by_cases h:1≤t.length
    · rw [if_pos (by omega),decide_eq_true h,Bool.true_and]
      congr 1
      exact decide_eq_decide.2 (by omega)
    · rw [if_neg (by omega),decide_eq_false h,Bool.false_and]
theorem BX (t:List ByteArray) (s:ByteArray) (ht:t.length≤9223372036854775807) (hts:∀ i:Int,(dV ByteArray.empty t i).size≤9223372036854775807) (hs:s.size≤9223372036854775807):Ev (fun k=>aW.f k t s) (rf t s):=by
  have:=ng (g:=fun k i=>aW.l0 k t s (i:Nat)) (fun i=>if decide (0≤kX (bt s i) t.length) then none else some false) s.size (jM t)
    (fun i hi hb q hq=>?_) (fun i hi b hb=>?_) (fun _=>?_) s.size 0 (by omega) (fun j hj=>by omega)
  · rw [rM s.size (fun i=>decide (0≤kX (bt s i) t.length))] at this
    exact this
  · have h2:0≤kX (bt s i) t.length:=by
      by_cases h:0≤kX (bt s i) t.length
      · exact h
      · simp [h] at hb
    refine Ev.step (fun k=>?_) hq
    simp only [aW.l0]
    rw [if_pos (by omega),if_pos (by omega),wrapN hi hs,rW]
    simp only [Option.bind_some]
    rw [if_neg (by omega)]
  · have h2:¬ 0≤kX (bt s i) t.length∧b=false:=by
      by_cases h:0≤kX (bt s i) t.length
      · simp [h] at hb
      · simp [h] at hb
        exact ⟨h,hb⟩
    obtain ⟨h2,rfl⟩:=h2
    refine Ev.step (f:=fun _=>some false) (fun k=>?_) (Ev.now false)
    simp only [aW.l0]
    rw [if_pos (by omega),if_pos (by omega),rW]
    simp only [Option.bind_some]
    rw [if_pos (by omega)]
  · refine Ev.step (f:=fun k=>(aK.f k t).bind fun z=>some z) (fun k=>?_) (Ev.bind (zh t ht hts) (Ev.now _))
    simp only [aW.l0]
    rw [if_neg (by omega)]
section
variable (t:List ByteArray) (ht:t.length≤9223372036854775807) (hs:∀ i:Int,(dV ByteArray.empty t i).size≤9223372036854775807)
include ht hs
theorem Vr (s:ByteArray) (a:Int) (h0:0≤a) (h1:a≤255):Ev (fun k=>fJ.f k t s a) (df t s a):=by
  have e1:wrap64 a=a:=by unfold wrap64;omega
  have e2:wrap64 (a+1)=a+1:=by unfold wrap64;omega
  by_cases h:a < s.size
  · obtain ⟨n,rfl⟩:=Int.eq_ofNat_of_zero_le h0
    have hn:n < s.size:=by omega
    have hr:=BX t (s.extract n (n+1)) ht hs (by rw [nN s n hn];omega)
    have er:rf t (s.extract n (n+1))=(decide (0≤kX (bt s (n:Int)) t.length) && jM t):=by
      unfold rf
      rw [nN s n hn]
      congr 1
      show (List.range 1).all _=_
      simp only [List.range_one,List.all_cons,List.all_nil,Bool.and_true]
      rw [show ((0:Nat):Int)=0 from rfl,xQ s n hn]
    rw [er] at hr
    refine Ev.congr (f:=fun k=>(aW.f k t (s.extract n (n+1))).bind fun z=>if z=true then some ((bt s n - 48) % 256) else some (-1)) (fun k=>?_) (Ev.bind hr ?_)
    · unfold fJ.f
      rw [e1,e2,if_neg (by omega),if_pos (by omega),if_pos (by omega),if_pos (by omega)]
      rw [show ((n:Int)+1).toNat=n+1 from by omega,Int.toNat_natCast]
      congr 1
      funext z
      by_cases hb:z=true
      · rw [if_pos hb,if_pos hb,if_pos (by omega),if_pos (by omega)]
      · rw [if_neg hb,if_neg hb]
    · unfold df
      rw [if_pos h]
      cases hb:(decide (0≤kX (bt s (n:Int)) t.length) && jM t)
      · rw [if_neg (by decide),if_neg (by decide)]
        exact Ev.now _
      · rw [if_pos rfl,if_pos rfl]
        have:=Fh.1 (of_decide_eq_true (Bool.and_eq_true _ _ ▸ hb).1)
        have hr:=uq s n
        rw [show (bt s (n:Int) - 48) % 256=bt s n - 48 from by omega]
        exact Ev.now _
  · refine Ev.congr (f:=fun _=>some (-1)) (fun k=>?_) (by unfold df;rw [if_neg h];exact Ev.now _)
    unfold fJ.f
    rw [e1,if_pos (by omega)]
theorem wB (lo gl:ByteArray) (code:List iG) (a:Int) (h0:0≤a) (h1:a≤255):Ev (fun k=>bM.f k t lo gl code a) (df t lo a):=Ev.bind (Vr t ht hs lo a h0 h1) (Ev.now _)
theorem Iw (i:Int):Ev (fun k=>dn.f k t i) (jm t i):=by
  have is:Ev (fun k=>eF.f k t i) (jM t && (decide (0≤i) && decide (i < t.length))):=by
    refine Ev.bind (zh t ht hs) ?_
    refine Ev.out (Ev.ite (fun _=>Ev.ite (fun _=>Ev.now (decide (i < (t.length:Int)))) fun _=>Ev.now false) fun _=>Ev.now false) ?_
    cases jM t
    · rfl
    · rw [if_pos rfl,Bool.true_and]
      by_cases h:i ≥ 0
      · rw [if_pos h,decide_eq_true (show 0≤i from h),Bool.true_and]
      · rw [if_neg h,decide_eq_false (show ¬ 0≤i from h),Bool.false_and]
  refine Ev.bind is ?_
  unfold jm Nh
  by_cases h:(jM t && (decide (0≤i) && decide (i < t.length)))=true
  · have h':=h
    simp only [Bool.and_eq_true,decide_eq_true_eq] at h'
    rw [if_pos h,if_pos h]
    exact Ev.congr (fun k=>(if_pos h'.2.1).trans (if_pos h'.2.2)) (Ev.now _)
  · rw [if_neg h,if_neg h]
    exact Ev.now _
end
end Go.Proofs.YtbmhmlgfpijmhaaDoor.P
end
