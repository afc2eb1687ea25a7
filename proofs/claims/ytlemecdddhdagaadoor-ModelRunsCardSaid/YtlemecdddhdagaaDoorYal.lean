/- Parts of the proof of ModelRuns: what the functions that it reaches compute, and plain facts about that. -/
import Derived.Test.YtlemecdddhdagaaDoorYak
import Derived.Lib.SliceRun
import Derived.Test.YtlemecdddhdagaaDoorYaj
import Derived.Deep.LoopGhost
import Derived.Laws.Rows
import Derived.Test.YtlemecdddhdagaaDoorYab
set_option linter.unusedVariables false
set_option linter.unusedSimpArgs false
section
namespace Go.Proofs.YtlemecdddhdagaaDoor.P
open Go.RowKit Go.Proofs.af.bD Go.Proofs.af.dB Go.Proofs.af.dM
def Pj (t:List ByteArray) (lo:ByteArray) (a:Int):Option Int:=if 0≤a∧a≤255 then some (jy t (dw t lo a)) else none
section
variable (sz:Int→Option Int) (s:St) (a b c:Nat) (n:Int)
theorem adV:rF sz s 1 a b c n=if a < 8 then some ({ bump s with x:=upd s.x a n },0) else none:=by unfold rF;rfl
theorem adU:rF sz s 2 a b c n=if a < 8∧b < 8∧c < 8 then some ({ bump s with x:=upd s.x a (wrap64 (s.x b+s.x c)) },0) else none:=by unfold rF;rfl
theorem adT:rF sz s 3 a b c n=some ({ bump s with pc:=n },0):=by unfold rF;rfl
theorem adS:rF sz s 4 a b c n=if a < 8 then if s.x a=0 then some ({ bump s with pc:=n },0) else some (bump s,0) else none:=by unfold rF;rfl
theorem adR:rF sz s 5 a b c n=if a < 8 then (sz a).bind fun z=>if 0≤z∧z≤1000000 then some ({ bump s with aW:=s.aW++[List.replicate z.toNat 0],p:=upd s.p a ((s.aW.length:Int)+1) },0) else none else none:=by unfold rF;rfl
theorem adQ:rF sz s 6 a b c n=if a < 8 then some ({ bump s with p:=upd s.p a 0 },0) else none:=by unfold rF;rfl
theorem adP:rF sz s 7 a b c n=if a < 8∧b < 8 then some ({ bump s with p:=upd s.p a (s.p b) },0) else none:=by unfold rF;rfl
theorem adO:rF sz s 8 a b c n=if a < 8∧b < 8 then if s.p b=0 then some (bump s,9) else if BI s (s.p b) n then some ({ bump s with x:=upd s.x a (rd (rowOf s (s.p b)) n) },0) else none else none:=by unfold rF;rfl
theorem adN:rF sz s 9 a b c n=if a < 8∧b < 8 then if s.p a=0 then some (bump s,9) else if BI s (s.p a) n then some ({ bump s with aW:=s.aW.set (s.p a - 1).toNat ((rowOf s (s.p a)).set n.toNat (s.x b)) },0) else none else none:=by unfold rF;rfl
theorem aaB:rF sz s 10 a b c n=if a < 8∧b < 8 then if s.p b=0 then some (bump s,9) else if BI s (s.p b) n then some ({ bump s with p:=upd s.p a (rd (rowOf s (s.p b)) n) },0) else none else none:=by unfold rF;rfl
theorem aaA:rF sz s 11 a b c n=if a < 8∧b < 8 then if s.p a=0 then some (bump s,9) else if BI s (s.p a) n then some ({ bump s with aW:=s.aW.set (s.p a - 1).toNat ((rowOf s (s.p a)).set n.toNat (s.p b)) },0) else none else none:=by unfold rF;rfl
theorem aaz:rF sz s 12 a b c n=if a < 8∧b < 4 then some ({ bump s with p:=upd s.p a (s.g b) },0) else none:=by unfold rF;rfl
theorem aay:rF sz s 13 a b c n=if a < 4∧b < 8 then some ({ bump s with g:=upd s.g a (s.p b) },0) else none:=by unfold rF;rfl
theorem aax:rF sz s 14 a b c n=if a < 8 then some ({ bump s with out:=s.out++[s.x a] },0) else none:=by unfold rF;rfl
theorem aaw:rF sz s 15 a b c n=if a < 8∧b < 8∧c < 8 then some ({ bump s with x:=upd s.x a (if s.p b=s.p c then 1 else 0) },0) else none:=by unfold rF;rfl
end
structure Next (t:List ByteArray) (lo gl:ByteArray) (len n:Nat) (x:iw) (s s':St) (e:Int):Prop where
  code:e=0 ∨ e=9
  bad:e ≠ 0→s'=bump s
  inv:∃ ty',Inv t lo gl (n+1) s' ty'
  pc:e=0→0≤s'.pc∧s'.pc≤len
  steps:s'.steps=wrap64 (s.steps+1)
  out:s'.out=s.out++(if x.f0=14 then [s.x x.f1.toNat] else [])
  aW:s'.aW.length=s.aW.length+(if x.f0=5 then 1 else 0)
theorem PU {t:List ByteArray} {lo:ByteArray} (hl:lo.size≤8) {a:Int} (h:0≤dw t lo a):a < 8∧a < lo.size:=by
  unfold dw at h
  split at h
  · omega
  · omega
theorem aaC {sz:Int→Option Int} {s:St} {i:iw} (h1:0≤i.f1) (h2:0≤i.f2) (h3:0≤i.f3) (h4:s.aW.length≤1000000) (h5:s.out.length≤1000000):OC sz s i=rF sz s i.f0 i.f1.toNat i.f2.toNat i.f3.toNat i.f4:=if_pos ⟨h1,h2,h3,h4,h5⟩
theorem step_ok {t:List ByteArray} {lo gl:ByteArray} {len n:Nat} {s:St} {ty:List Int} {x:iw} (hr:jW t=true) (hlo:lo.size≤8) (hgl:gl.size≤4) (hx:Fine t lo gl len x)
    (w1:0≤x.f1∧x.f1≤255) (w2:0≤x.f2∧x.f2≤255) (w3:0≤x.f3∧x.f3≤255) (hI:Inv t lo gl n s ty) (hn:n≤1000000) (hlen:len≤200) (h0:0≤s.pc) (h1:s.pc < len) :
    ∃ s' e,OC (Pj t lo) s x=some (s',e)∧Next t lo gl len n x s s' e:=by
  have hpc:wrap64 (s.pc+1)=s.pc+1:=by unfold wrap64;omega
  have hb:(bump s).pc=s.pc+1:=hpc
  have hfew:=hI.few
  rw [aaC w1.1 w2.1 w3.1 (by omega) (by omega)]
  obtain ⟨op,fa,fb,fc,n4⟩:=x
  obtain ⟨a,rfl⟩:=Int.eq_ofNat_of_zero_le w1.1
  obtain ⟨b,rfl⟩:=Int.eq_ofNat_of_zero_le w2.1
  obtain ⟨c,rfl⟩:=Int.eq_ofNat_of_zero_le w3.1
  simp only at w1 w2 w3 ⊢
  simp only [Int.toNat_natCast]
  have hop:=hx.op
  simp only at hop
  have hsz:∀ τ:Int,0≤jy t τ∧jy t τ≤6:=fun τ=>by
    by_cases hτ:0≤τ
    · obtain ⟨m,rfl⟩:=Int.eq_ofNat_of_zero_le hτ
      have:=FD hr m
      unfold jy at this ⊢
      omega
    · unfold jy OU
      rw [if_neg (by simp only [decide_eq_false hτ,Bool.false_and,Bool.and_false];decide)]
      exact ⟨by decide,by decide⟩
  have loc:∀ a:Nat,0≤dw t lo a→a < 8:=fun a h=>by have:=(PU hlo h).1;omega
  have glb:∀ a:Nat,0≤dw t gl a→a < 4:=fun a h=>by
    have:((a:Nat):Int) < gl.size:=by
      unfold dw at h
      split at h
      · assumption
      · omega
    omega
  have obj:∀ (b:Nat),0≤dw t lo b→s.p b ≠ 0→1≤s.p b∧s.p b≤s.aW.length∧((s.p b - 1).toNat < ty.length)∧ty.getD (s.p b - 1).toNat (-1)=dw t lo b∧((rowOf s (s.p b)).length:Int)=jy t (dw t lo b):=fun b hb hne=>by
    rcases hI.p b hb with h|⟨q1,q2,q3⟩
    · exact absurd h hne
    · have hl:=hI.len
      have hlt:(s.p b - 1).toNat < ty.length:=by omega
      have:=hI.size _ hlt
      rw [q3] at this
      exact ⟨q1,by omega,hlt,q3,this⟩
  obtain h|h|h|h|h|h|h|h|h|h|h|h|h|h|h:op=1 ∨ op=2 ∨ op=3 ∨ op=4 ∨ op=5 ∨ op=6 ∨ op=7 ∨ op=8 ∨ op=9 ∨ op=10 ∨ op=11 ∨ op=12 ∨ op=13 ∨ op=14 ∨ op=15:=by omega
  all_goals subst h
  · have q:=hx.one (.inl rfl)
    simp only at q
    rw [adV,if_pos (by omega)]
    exact ⟨_,_,rfl,.inl rfl,fun h=>absurd rfl h,⟨ty,hI.as rfl rfl rfl (by show s.out.length≤_;omega)⟩,fun _=>by show 0≤(bump s).pc∧(bump s).pc≤_;omega,rfl,(List.append_nil _).symm,rfl⟩
  · have q:=hx.add rfl
    simp only at q
    rw [adU,if_pos (by omega)]
    exact ⟨_,_,rfl,.inl rfl,fun h=>absurd rfl h,⟨ty,hI.as rfl rfl rfl (by show s.out.length≤_;omega)⟩,fun _=>by show 0≤(bump s).pc∧(bump s).pc≤_;omega,rfl,(List.append_nil _).symm,rfl⟩
  · have q:=hx.jump (.inl rfl)
    rw [adT]
    exact ⟨_,_,rfl,.inl rfl,fun h=>absurd rfl h,⟨ty,hI.as rfl rfl rfl (by show s.out.length≤_;omega)⟩,fun _=>q,rfl,(List.append_nil _).symm,rfl⟩
  · have q:=hx.jump (.inr rfl)
    have q1:=hx.one (.inr (.inl rfl))
    simp only at q1
    rw [adS,if_pos (by omega)]
    split
    · exact ⟨_,_,rfl,.inl rfl,fun h=>absurd rfl h,⟨ty,hI.as rfl rfl rfl (by show s.out.length≤_;omega)⟩,fun _=>q,rfl,(List.append_nil _).symm,rfl⟩
    · exact ⟨_,_,rfl,.inl rfl,fun h=>absurd rfl h,⟨ty,hI.as rfl rfl rfl (by show s.out.length≤_;omega)⟩,fun _=>by omega,rfl,(List.append_nil _).symm,rfl⟩
  · have q:=hx.new (.inl rfl)
    simp only at q
    have hs:=hsz (dw t lo a)
    rw [adR,if_pos (loc a q),Pj,if_pos ⟨w1.1,w1.2⟩,Option.bind_some,if_pos (by omega)]
    exact ⟨_,_,rfl,.inl rfl,fun h=>absurd rfl h,⟨_,hI.new a _ rfl rfl hs.1 rfl rfl rfl⟩,fun _=>by show 0≤(bump s).pc∧(bump s).pc≤_;omega,rfl,(List.append_nil _).symm,List.length_append⟩
  · have q:=hx.new (.inr rfl)
    simp only at q
    rw [adQ,if_pos (loc a q)]
    exact ⟨_,_,rfl,.inl rfl,fun h=>absurd rfl h,⟨ty,hI.TA a 0 rfl rfl rfl rfl (.inl rfl)⟩,fun _=>by show 0≤(bump s).pc∧(bump s).pc≤_;omega,rfl,(List.append_nil _).symm,rfl⟩
  · obtain ⟨q,q2⟩:=hx.move rfl
    simp only at q q2
    rw [adP,if_pos ⟨loc a q,loc b (q2 ▸ q)⟩]
    exact ⟨_,_,rfl,.inl rfl,fun h=>absurd rfl h,⟨ty,hI.TA a _ rfl rfl rfl rfl (q2 ▸ hI.p b (q2 ▸ q))⟩,fun _=>by show 0≤(bump s).pc∧(bump s).pc≤_;omega,rfl,(List.append_nil _).symm,rfl⟩
  · obtain ⟨q1,q2,q3,q4⟩:=hx.ab4 rfl
    simp only at q1 q2 q3 q4
    rw [adO,if_pos ⟨by omega,loc b q2⟩]
    by_cases hz:s.p b=0
    · rw [if_pos hz]
      exact ⟨_,_,rfl,.inr rfl,fun _=>rfl,⟨ty,hI.as rfl rfl rfl (by show s.out.length≤_;omega)⟩,fun h=>absurd h (by decide),rfl,(List.append_nil _).symm,rfl⟩
    · obtain ⟨y1,y2,y3,y4,y5⟩:=obj b q2 hz
      rw [if_neg hz,if_pos ⟨y1,y2,q3,by omega⟩]
      exact ⟨_,_,rfl,.inl rfl,fun h=>absurd rfl h,⟨ty,hI.as rfl rfl rfl (by show s.out.length≤_;omega)⟩,fun _=>by show 0≤(bump s).pc∧(bump s).pc≤_;omega,rfl,(List.append_nil _).symm,rfl⟩
  · obtain ⟨q1,q2,q3,q4,q5⟩:=hx.Zu rfl
    simp only at q1 q2 q3 q4 q5
    obtain ⟨m,rfl⟩:=Int.eq_ofNat_of_zero_le q3
    rw [adN,if_pos ⟨loc a q2,by omega⟩]
    by_cases hz:s.p a=0
    · rw [if_pos hz]
      exact ⟨_,_,rfl,.inr rfl,fun _=>rfl,⟨ty,hI.as rfl rfl rfl (by show s.out.length≤_;omega)⟩,fun h=>absurd h (by decide),rfl,(List.append_nil _).symm,rfl⟩
    · obtain ⟨y1,y2,y3,y4,y5⟩:=obj a q2 hz
      rw [if_neg hz,if_pos ⟨y1,y2,q3,by omega⟩]
      exact ⟨_,_,rfl,.inl rfl,fun h=>absurd rfl h,⟨ty,hI.abM (s.p a - 1).toNat m _ y3 (by rw [y4];exact q4) rfl rfl rfl rfl (fun h=>by rw [y4] at h;omega)⟩,fun _=>by show 0≤(bump s).pc∧(bump s).pc≤_;omega,rfl,(List.append_nil _).symm,List.length_set⟩
  · obtain ⟨q1,q2,q3,q4,q5⟩:=hx.ab3 rfl
    simp only at q1 q2 q3 q4 q5
    obtain ⟨m,rfl⟩:=Int.eq_ofNat_of_zero_le q3
    rw [aaB,if_pos ⟨loc a q1,loc b q2⟩]
    by_cases hz:s.p b=0
    · rw [if_pos hz]
      exact ⟨_,_,rfl,.inr rfl,fun _=>rfl,⟨ty,hI.as rfl rfl rfl (by show s.out.length≤_;omega)⟩,fun h=>absurd h (by decide),rfl,(List.append_nil _).symm,rfl⟩
    · obtain ⟨y1,y2,y3,y4,y5⟩:=obj b q2 hz
      rw [if_neg hz,if_pos ⟨y1,y2,q3,by omega⟩]
      have hv:=hI.obj (s.p b - 1).toNat m y3 (by rw [y4];omega)
      rw [y4,← q5] at hv
      exact ⟨_,_,rfl,.inl rfl,fun h=>absurd rfl h,⟨ty,hI.TA a _ rfl rfl rfl rfl hv⟩,fun _=>by show 0≤(bump s).pc∧(bump s).pc≤_;omega,rfl,(List.append_nil _).symm,rfl⟩
  · obtain ⟨q1,q2,q3,q4,q5⟩:=hx.Zt rfl
    simp only at q1 q2 q3 q4 q5
    obtain ⟨m,rfl⟩:=Int.eq_ofNat_of_zero_le q3
    rw [aaA,if_pos ⟨loc a q2,loc b q1⟩]
    by_cases hz:s.p a=0
    · rw [if_pos hz]
      exact ⟨_,_,rfl,.inr rfl,fun _=>rfl,⟨ty,hI.as rfl rfl rfl (by show s.out.length≤_;omega)⟩,fun h=>absurd h (by decide),rfl,(List.append_nil _).symm,rfl⟩
    · obtain ⟨y1,y2,y3,y4,y5⟩:=obj a q2 hz
      rw [if_neg hz,if_pos ⟨y1,y2,q3,by omega⟩]
      exact ⟨_,_,rfl,.inl rfl,fun h=>absurd rfl h,⟨ty,hI.abM (s.p a - 1).toNat m _ y3 (by rw [y4];exact q4) rfl rfl rfl rfl (fun _=>by rw [y4,← q5];exact hI.p b q1)⟩,fun _=>by show 0≤(bump s).pc∧(bump s).pc≤_;omega,rfl,(List.append_nil _).symm,List.length_set⟩
  · obtain ⟨q1,q2⟩:=hx.ab5 rfl
    simp only at q1 q2
    rw [aaz,if_pos ⟨loc a q1,glb b (q2 ▸ q1)⟩]
    exact ⟨_,_,rfl,.inl rfl,fun h=>absurd rfl h,⟨ty,hI.TA a _ rfl rfl rfl rfl (q2 ▸ hI.g b (q2 ▸ q1))⟩,fun _=>by show 0≤(bump s).pc∧(bump s).pc≤_;omega,rfl,(List.append_nil _).symm,rfl⟩
  · obtain ⟨q1,q2⟩:=hx.Zv rfl
    simp only at q1 q2
    rw [aay,if_pos ⟨glb a (q2 ▸ q1),loc b q1⟩]
    exact ⟨_,_,rfl,.inl rfl,fun h=>absurd rfl h,⟨ty,hI.alV a _ rfl rfl rfl rfl (q2 ▸ hI.p b q1)⟩,fun _=>by show 0≤(bump s).pc∧(bump s).pc≤_;omega,rfl,(List.append_nil _).symm,rfl⟩
  · have q:=hx.one (.inr (.inr rfl))
    simp only at q
    rw [aax,if_pos (by omega)]
    exact ⟨_,_,rfl,.inl rfl,fun h=>absurd rfl h,⟨ty,hI.as rfl rfl rfl (by show (s.out++[s.x a]).length≤_;simp;omega)⟩,fun _=>by show 0≤(bump s).pc∧(bump s).pc≤_;omega,rfl,rfl,rfl⟩
  · obtain ⟨q1,q2,q3⟩:=hx.same rfl
    simp only at q1 q2 q3
    rw [aaw,if_pos ⟨by omega,loc b q2,loc c (q3 ▸ q2)⟩]
    exact ⟨_,_,rfl,.inl rfl,fun h=>absurd rfl h,⟨ty,hI.as rfl rfl rfl (by show s.out.length≤_;omega)⟩,fun _=>by show 0≤(bump s).pc∧(bump s).pc≤_;omega,rfl,(List.append_nil _).symm,rfl⟩
end Go.Proofs.YtlemecdddhdagaaDoor.P
end
section
namespace Go.Proofs.YtlemecdddhdagaaDoor.P
open Go.RowKit Go.Proofs.af.bD Go.Proofs.af.dB Go.Proofs.af.dM
structure Ok (t:List ByteArray) (lo gl:ByteArray) (code:List iw):Prop where
  right:jW t=true
  SC:lo.size≤8
  gl4:gl.size≤4
  len:1≤code.length∧code.length≤200
  fine:∀ j:Nat,j < code.length→Fine t lo gl code.length (code.getD j z55)
  wf:Wf code
theorem abV {t:List ByteArray} {lo gl:ByteArray} {code:List iw} (h:(oh t lo gl code).2=0) (hw:Wf code):Ok t lo gl code:=by
  obtain ⟨h1,h2,h3⟩:=(OH t lo gl code).1 h
  obtain ⟨q1,q2,q3,q4,q5⟩:=Gp h1
  exact ⟨q1,q4,q5,h2,fun j hj=>XO (h3 j hj),hw⟩
section
variable {t:List ByteArray} {lo gl:ByteArray} {code:List iw}
theorem Ok.step (h:Ok t lo gl code) {n:Nat} {s:St} {ty:List Int} (hI:Inv t lo gl n s ty) (hn:n≤1000000) (h0:0≤s.pc) (h1:s.pc < code.length) :
    ∃ s' e,OC (Pj t lo) s (aA code s.pc)=some (s',e)∧Next t lo gl code.length n (aA code s.pc) s s' e:=by
  have hw:=h.wf s.pc.toNat
  exact step_ok h.right h.SC h.gl4 (h.fine s.pc.toNat (by omega)) hw.1 hw.2.1 hw.2.2 hI hn h.len.2 h0 h1
theorem abL (ht:t.length≤9223372036854775807):∃ K,∀ k,K≤k→∀ a,dO (Pj t lo a) (ND k t lo gl code a):=by
  have one:∀ a:Nat,a < 256→∃ K,∀ k,K≤k→ND k t lo gl code a=some (jy t (dw t lo a)):=fun a ha =>
    Ev.bind (zu t lo gl code a ht (by omega) (by omega)) (Pn t _ ht)
  have many:∀ m:Nat,m≤256→∃ K,∀ k,K≤k→∀ a:Nat,a < m→ND k t lo gl code a=some (jy t (dw t lo a)):=fun m=>by
    induction m with
    | zero=>exact fun _=>⟨0,fun _ _ a ha=>absurd ha (Nat.not_lt_zero a)⟩
    | succ m ih =>
      intro hm
      obtain ⟨K1,h1⟩:=ih (by omega)
      obtain ⟨K2,h2⟩:=one m (by omega)
      refine ⟨max K1 K2,fun k hk a ha=>?_⟩
      by_cases ham:a=m
      · rw [ham]
        exact h2 k (by omega)
      · exact h1 k (by omega) a (by omega)
  obtain ⟨K,hK⟩:=many 256 (Nat.le_refl _)
  refine ⟨K,fun k hk a r hr=>?_⟩
  unfold Pj at hr
  split at hr
  · rename_i ha
    obtain ⟨b,rfl⟩:=Int.eq_ofNat_of_zero_le ha.1
    rw [hK k hk b (by omega)]
    exact hr
  · cases hr
theorem Zw (ht:t.length≤9223372036854775807) (hs:lo.size+gl.size≤9223372036854775807) (hc:code.length≤9223372036854775807) (hw:Wf code) (hok:(oh t lo gl code).2=0) {f:Int} (hf:0≤f) {K:Nat} {r:List Int × Int} (hr:rX (Pj t lo) code K zV f=some r) :
    Ev (fun k=>fU.f k t lo gl code f) r:=by
  obtain ⟨K1,h1⟩:=ET t lo gl code ht hs hc hw
  obtain ⟨K2,h2⟩:=abL (t:=t) (lo:=lo) (gl:=gl) (code:=code) ht
  refine Ev.of (k:=max (max K1 K2) (K+1)) (fun k=>fU.mono _ _ _ _ _ k) ?_
  have e1:=h1 (max (max K1 K2) (K+1)) (by omega)
  have e2:=h2 (max (max K1 K2) (K+1)) (by omega)
  have e3:K+1≤max (max K1 K2) (K+1):=by omega
  generalize max (max K1 K2) (K+1)=M at e1 e2 e3 ⊢
  have q:rX (ND M t lo gl code) code (K+1) zV f=some r:=vC e2 code K zV f r hr
  have q2:rX (ND M t lo gl code) code M zV f=some r:=yD (g:=fun k=>rX (ND M t lo gl code) code k zV f) (fun k=>vC (fun a=>dO.refl _) code k zV f) e3 q
  unfold fU.f
  rw [show bC.f M t lo gl code=some (oh t lo gl code) from e1,Option.bind_some,if_pos hok,if_neg (by omega)]
  exact q2
theorem TD (ht:t.length≤9223372036854775807) (hs:lo.size+gl.size≤9223372036854775807) (hc:code.length≤9223372036854775807) (hw:Wf code) (hok:(oh t lo gl code).2 ≠ 0) (f:Int) :
    Ev (fun k=>fU.f k t lo gl code f) ([],2):=by
  refine Ev.bind (ET t lo gl code ht hs hc hw) ?_
  exact Ev.congr (fun k=>if_neg hok) (Ev.now _)
end
end Go.Proofs.YtlemecdddhdagaaDoor.P
end
section
namespace Go.Proofs.YtlemecdddhdagaaDoor.P
open Go.RowKit Go.Proofs.af.bD Go.Proofs.af.dB Go.Proofs.af.dM
attribute [local go_sem ↓] Go.wp_at_zero Go.wp_at_succ
theorem zX {α:Type} (d:Kd α) (e:Nat) (W:World) (base:Nat) (ok:Nat→Prop) (hbase:base≤W.heap.size) (hok:ok W.heap.size):d.R e (W.alloc (.cells #[] e)) base ok (.slice (some ⟨W.heap.size,0,none⟩) 0 0) []:=by
  refine ⟨fun k hk=>?_,[],?_,⟨by simp,fun j p h=>by simp at h⟩⟩
  · have:W.heap.size=k:=by simpa [Value.ownBlock] using hk
    exact this ▸ hok
  · have:=World.ownsRow_lit (base:=base) (e:=e) (size:=d.sz) W #[] 0 hbase (by decide) (by simp)
    simpa using this
abbrev Hd:=Option Addr × Nat × Nat
def Oy (h:Hd):Value:=.slice h.1 h.2.1 h.2.2
abbrev kH:Kd Hd:=Kd.scalar Oy (fun _=>rfl)
theorem Ee:(Tryd.prog.info? 28).map (fun i=>(i.zero,i.size,i.bytes))=some (some (.slice none 0 0),kH.sz,24):=by kernel_rfl
end Go.Proofs.YtlemecdddhdagaaDoor.P
end
section
namespace Go.Proofs.YtlemecdddhdagaaDoor.P
open Go.RowKit Go.Proofs.af.bD Go.Proofs.af.dB Go.Proofs.af.dM
attribute [local go_sem ↓] Go.wp_at_zero Go.wp_at_succ
structure MX (base:Nat) (s:St) (vO vU:Value) (w:World):Prop where
  aW:Kd.S uJ 28 w base (fun k=>some k ≠ vU.ownBlock) vO s.aW
  out:Kd.R (Kd.int .i64) 2 w base (fun _=>True) vU s.out
structure OL (G B1 B2:Nat) (s:St) (vO vU:Value) (hs0:List Hd) (i:Nat) (hs:List Hd) (L:Nat→Nat) (w wr:World):Prop where
  st:lC G s vO vU wr
  row:kH.R 28 wr B1 (fun k=>k < B2) vO hs
  len:hs.length=s.aW.length
  out:Kd.R (Kd.int .i64) 2 wr G (fun k=>G < k∧k < B1) vU s.out
  ord:G < B1∧B1≤B2
  L0:L 0=B2
  up:∀ j,L j≤L (j+1)
  top:L i≤wr.heap.size
  mine:∀ j (hj:j < s.aW.length),j < i→∃ h,hs[j]? = some h∧Kd.R (Kd.int .i64) 2 wr G (fun k=>L j≤k∧k < L (j+1)) (Oy h) s.aW[j]
  todo:∀ j,i≤j→hs[j]? = hs0[j]?
  below:Below G w wr
section
variable {G B1 B2:Nat} {s:St} {vO vU:Value} {hs0:List Hd} {i:Nat} {hs:List Hd} {L:Nat→Nat} {w wr w3:World}
theorem OL.move (h:OL G B1 B2 s vO vU hs0 i hs L w wr) (hb:Below wr.heap.size wr w3):OL G B1 B2 s vO vU hs0 i hs L w w3:=by
  have hG:=h.st.lt
  refine ⟨h.st.of_block (hb.block G hG),Kd.kL h.row (fun k _ hk=>hb.block k hk),h.len,Kd.kL h.out (fun k _ hk=>hb.block k hk),h.ord,h.L0,h.up,Nat.le_trans h.top hb.size,fun j hj hji=>?_,h.todo,h.below.trans (hb.mono (by omega))⟩
  obtain ⟨q,q1,q2⟩:=h.mine j hj hji
  exact ⟨q,q1,Kd.kL q2 (fun k _ hk=>hb.block k hk)⟩
end
end Go.Proofs.YtlemecdddhdagaaDoor.P
end
section
namespace Go.Proofs.YtlemecdddhdagaaDoor.P
open Go.RowKit Go.Proofs.af.bD Go.Proofs.af.dB Go.Proofs.af.dM
attribute [local go_sem ↓] Go.wp_at_zero Go.wp_at_succ
structure Small (s:St):Prop where
  aW:s.aW.length≤1000000
  out:s.out.length≤1000000
  each:∀ j (hj:j < s.aW.length),(s.aW[j]).length≤1000000
theorem NI {w:World} {g t:Nat} {old:Array Value} (hg:w.heap[g]? = some (.cells old t (0,0))) (cs:Array Value):(w.setRow g cs).heap[g]? = some (.cells cs t (0,0)):=by
  simp [World.setRow,Array.getElem?_modify,hg]
theorem jV {w:World} {g:Nat} (cs:Array Value) (k:Nat) (hk:k ≠ g):(w.setRow g cs).heap[k]? = w.heap[k]?:=by
  simp only [World.setRow,Array.getElem?_modify]
  rw [if_neg (by omega)]
theorem dF {B g:Nat} {w0 w:World} (hb:Below B w0 w) (hBg:B≤g) (cs:Array Value):Below B w0 (w.setRow g cs) :=
  hb.trans ⟨rfl,rfl,rfl,by simp [World.setRow],fun k hk=>jV cs k (by omega)⟩
theorem MX.setRow {base g:Nat} {s:St} {vO vU:Value} {w:World} {old:Array Value} (h:MX base s vO vU w) (hg:w.heap[g]? = some (.cells old 39 (0,0))) (cs:Array Value):MX base s vO vU (w.setRow g cs):=by
  refine ⟨Kd.EX (Kd.Jd (Kd.X0 h.aW hg (by intro q hq;simp [Kd.slice,Kd.int,Kd.scalar] at hq;omega)) (fun k hk _=>jV cs k hk.2)) (fun k hk=>hk.1),Kd.kS (Kd.kL (Kd.rU h.out hg (by intro q hq;simp [Kd.int,Kd.scalar] at hq;omega)) (fun k hk _=>jV cs k hk.2)) (fun k hk=>trivial)⟩
end Go.Proofs.YtlemecdddhdagaaDoor.P
end
section
namespace Go.Proofs.YtlemecdddhdagaaDoor.P
open Go.RowKit Go.Proofs.af.bD Go.Proofs.af.dB Go.Proofs.af.dM
attribute [local go_sem ↓] Go.wp_at_zero Go.wp_at_succ
def uF (sz:Int→Option Int) (code:List iw) (chk:Int) (s:St):Option (St × Bool × Int) :=
  if chk=0 then
    if s.pc < 0 then some (s,false,2)
    else if (code.length:Int) < s.pc then some (s,false,2)
    else if s.pc=code.length then some (s,true,0)
    else (OC sz s (aA code s.pc)).bind fun t=>if t.2=0 then some (t.1,false,0) else some (s,false,t.2)
  else some (s,false,2)
def IE.f (k:Nat) (l0:List ByteArray) (a1 a2:ByteArray) (l3:List iw) (s:St):Option (St × Bool × Int) :=
  (bC.f k l0 a1 a2 l3).bind fun c=>uF (ND k l0 a1 a2 l3) l3 c.2 s
theorem iG {P:Program} {fn:Func} {p u v:Tmp} {ty:TypeId} (h:fn.results=#[.cell p ty,.tmp u,.tmp v]) (tmps:Array Value) (w:World) (g:Nat) (t:TypeId) (cs:Array Value) (fr:Nat × Nat) (d:TypeDesc)
    (hp:tmps.getD p undef=.pointer (some ⟨g,0,none⟩)) (hg:w.heap[g]? = some (.cells cs t fr))
    (hu:P.underlying ty=some d) (hd:(match d with | .struct _ | .array _ _=>true | _=>false)=true) (hi:(P.info? ty).map (·.size)=some cs.size) :
    (results fn tmps).run P w=.ok (.tuple #[.agg cs,tmps.getD u undef,tmps.getD v undef]) w:=by
  have hp':tmps[p]?.getD undef=.pointer (some ⟨g,0,none⟩):=by simpa using hp
  simp [results,h,hp',asAddr,run_loadVar_row w g t ty cs fr d hg hu hd hi]
theorem Rows.v {base b:Nat} {s:St} {vO vU:Value} {w:World} (h:Rows base b s vO vU w):MX base s vO vU w :=
  ⟨Kd.EX h.aW (fun _ hk=>hk.2),Kd.kS h.out (fun _ _=>trivial)⟩
end Go.Proofs.YtlemecdddhdagaaDoor.P
end
section
namespace Go.Proofs.YtlemecdddhdagaaDoor.P
open Go.RowKit Go.Proofs.af.bD Go.Proofs.af.dB Go.Proofs.af.dM
open Classical in
noncomputable def stepS (k:Nat) (l0:List ByteArray) (a1 a2:ByteArray) (l3:List iw) (s:St):Option (St × Bool × Int):=if Small s then IE.f k l0 a1 a2 l3 s else none
end Go.Proofs.YtlemecdddhdagaaDoor.P
end
section
namespace Go.Proofs.YtlemecdddhdagaaDoor.P
open Go.RowKit Go.Proofs.af.bD Go.Proofs.af.dB Go.Proofs.af.dM
open Classical in
noncomputable def step0 (t:List ByteArray) (lo gl:ByteArray) (code:List iw) (s:St):Option (St × Bool × Int):=if Small s then uF (Pj t lo) code (oh t lo gl code).2 s else none
section
variable {t:List ByteArray} {lo gl:ByteArray} {code:List iw}
theorem H6 {sz sz':Int→Option Int} (h:∀ a,dO (sz a) (sz' a)) (c:Int) (s:St):dO (uF sz code c s) (uF sz' code c s):=by
  unfold uF
  repeat' first
      | (with_reducible exact dO.refl _)
      | (with_reducible refine dO.ite ?_ ?_)
      | (with_reducible refine dO.bind (GG h _ _) (fun _=>?_))
theorem Inv.small (hr:jW t=true) {n:Nat} {s:St} {ty:List Int} (h:Inv t lo gl n s ty) (hn:n≤1000000):Small s:=by
  have:=h.few
  have hl:=h.len
  refine ⟨by omega,by omega,fun j hj=>?_⟩
  have q:=h.size j (by omega)
  rw [List.getD_eq_getElem?_getD,List.getElem?_eq_getElem hj,Option.getD_some] at q
  have:jy t (ty.getD j (-1))≤6:=by
    by_cases hτ:0≤ty.getD j (-1)
    · obtain ⟨m,hm⟩:=Int.eq_ofNat_of_zero_le hτ
      rw [hm]
      exact FD hr m
    · unfold jy OU
      rw [if_neg (by simp only [decide_eq_false hτ,Bool.false_and,Bool.and_false];decide)]
      decide
  omega
theorem CS (hk0:(oh t lo gl code).2=0) {s s':St} {e:Int} (hsm:Small s) (h0:0≤s.pc) (hlt:s.pc < code.length) (hd:OC (Pj t lo) s (aA code s.pc)=some (s',e)):step0 t lo gl code s=if e=0 then some (s',false,0) else some (s,false,e):=by
  unfold step0 uF
  rw [if_pos hsm,if_pos hk0,if_neg (show ¬ s.pc < 0 by omega),if_neg (show ¬ (code.length:Int) < s.pc by omega),if_neg (show ¬ s.pc=code.length by omega),hd,Option.bind_some]
theorem CU (hk0:(oh t lo gl code).2=0) {s:St} (hsm:Small s) (h0:s.pc=code.length):step0 t lo gl code s=some (s,true,0):=by
  unfold step0 uF
  rw [if_pos hsm,if_pos hk0,if_neg (show ¬ s.pc < 0 by omega),if_neg (show ¬ (code.length:Int) < s.pc by omega),if_pos h0]
end
end Go.Proofs.YtlemecdddhdagaaDoor.P
end
section
namespace Go.Proofs.YtlemecdddhdagaaDoor.P
open Go.RowKit Go.Proofs.af.bD Go.Proofs.af.dB Go.Proofs.af.dM
attribute [local go_sem ↓] Go.wp_at_zero Go.wp_at_succ
def kE (step:St→Option (St × Bool × Int)) (fuel:Int):Nat→St→Int→Option (St × Int)
  | 0,_,_=>none
  | n+1,s,i =>
    if i≤fuel then (step s).bind fun t =>
      if t.2.1=true then some (s,t.2.2) else if t.2.2=0 then (if i < fuel then kE step fuel n t.1 (wrap64 (i+1)) else kE step fuel n s (wrap64 (i+1))) else some (s,t.2.2)
    else some (s,10)
end Go.Proofs.YtlemecdddhdagaaDoor.P
end
section
namespace Go.Proofs.YtlemecdddhdagaaDoor.P
open Go.RowKit Go.Proofs.af.bD Go.Proofs.af.dB Go.Proofs.af.dM
theorem uf {step step':St→Option (St × Bool × Int)} (h:∀ s,dO (step s) (step' s)) (fuel:Int):∀ (k:Nat) (s:St) (i:Int),dO (kE step fuel k s i) (kE step' fuel (k+1) s i)
  | 0,_,_=>dO.none _
  | k+1,s,i=>by
    rw [kE,kE]
    repeat' first
      | (with_reducible exact uf h fuel k _ _)
      | (with_reducible exact dO.refl _)
      | (with_reducible refine dO.ite ?_ ?_)
      | (with_reducible refine dO.bind (h _) (fun _=>?_))
section
variable {t:List ByteArray} {lo gl:ByteArray} {code:List iw}
theorem CX (sz:Int→Option Int) {s s':St} {e:Int} (k:Nat) (f:Int) (h0:0≤s.pc) (hlt:s.pc < code.length) (hd:OC sz s (aA code s.pc)=some (s',e)) (hle:s.out.length≤s'.out.length):rX sz code (k+1) s f=if e=0 then if f=0 then some (s'.out.take s.out.length,10) else rX sz code k s' (wrap64 (f - 1)) else some (s'.out.take s.out.length,e):=by
  rw [rX,if_pos hlt,if_pos h0,hd,Option.bind_some,if_pos hle]
theorem FM (sz:Int→Option Int) {s:St} (k:Nat) (f:Int) (hlt:¬ s.pc < code.length):rX sz code (k+1) s f=some (s.out,0):=by
  rw [rX,if_neg hlt]
theorem oP {step:St→Option (St × Bool × Int)} {fuel i:Int} {s s1:St} {d:Bool} {e:Int} (k:Nat) (hi:i≤fuel) (hs:step s=some (s1,d,e)):kE step fuel (k+1) s i=if d=true then some (s,e) else if e=0 then (if i < fuel then kE step fuel k s1 (wrap64 (i+1)) else kE step fuel k s (wrap64 (i+1))) else some (s,e):=by
  rw [kE,if_pos hi,hs,Option.bind_some]
theorem Ik {step:St→Option (St × Bool × Int)} {fuel i:Int} {s:St} (k:Nat) (hi:¬ i≤fuel):kE step fuel (k+1) s i=some (s,10):=by
  rw [kE,if_neg hi]
theorem H7 (h:Ok t lo gl code) (hk0:(oh t lo gl code).2=0) (fuel:Nat) (hfu:fuel≤255):∀ (f:Nat) (s:St) (n:Nat) (ty:List Int) (i k k':Nat),Inv t lo gl n s ty→n+f≤900000→0≤s.pc→s.pc≤code.length→s.steps=i→i+f=fuel→f < k→f+1 < k' →
    ∃ l e s',rX (Pj t lo) code k s f=some (l,e)∧kE (step0 t lo gl code) fuel k' s i=some (s',e)∧s'.out=l∧s'.steps≤fuel∧l.length≤n+f:=by
  intro f
  induction f with
  | zero =>
    intro s n ty i k k' hI hn h0 h1 hst hif hk hk'
    obtain ⟨k,rfl⟩:∃ j,k=j+1:=⟨k - 1,by omega⟩
    obtain ⟨k',rfl⟩:∃ j,k'=j+1+1:=⟨k' - 2,by omega⟩
    have hsm:=hI.small h.right (by omega)
    have hfew:=hI.few
    by_cases hlt:s.pc < code.length
    · obtain ⟨s',e,hd,hN⟩:=h.step hI (by omega) h0 hlt
      have hout:s'.out.take s.out.length=s.out:=by rw [hN.out];simp
      have hle:s.out.length≤s'.out.length:=by rw [hN.out];simp
      rw [CX _ k _ h0 hlt hd hle,hout]
      have hs0:=CS hk0 hsm h0 hlt hd
      by_cases he:e=0
      · rw [if_pos he] at hs0 ⊢
        rw [if_pos (show ((0:Nat):Int)=0 by rfl),oP (k' + 1) (by omega) hs0,if_neg (by simp),if_pos rfl,if_neg (by omega),show wrap64 ((i:Int)+1)=((i+1:Nat):Int) by unfold wrap64;omega,Ik k' (by omega)]
        exact ⟨_,_,s,rfl,rfl,rfl,by omega,by omega⟩
      · rw [if_neg he] at hs0 ⊢
        rw [oP (k' + 1) (by omega) hs0,if_neg (by simp),if_neg he]
        exact ⟨_,_,s,rfl,rfl,rfl,by omega,by omega⟩
    · rw [FM _ k _ hlt,oP (k' + 1) (by omega) (CU hk0 hsm (by omega)),if_pos rfl]
      exact ⟨_,_,s,rfl,rfl,rfl,by omega,by omega⟩
  | succ f ih =>
    intro s n ty i k k' hI hn h0 h1 hst hif hk hk'
    obtain ⟨k,rfl⟩:∃ j,k=j+1:=⟨k - 1,by omega⟩
    obtain ⟨k',rfl⟩:∃ j,k'=j+1:=⟨k' - 1,by omega⟩
    have hsm:=hI.small h.right (by omega)
    have hfew:=hI.few
    by_cases hlt:s.pc < code.length
    · obtain ⟨s',e,hd,hN⟩:=h.step hI (by omega) h0 hlt
      have hout:s'.out.take s.out.length=s.out:=by rw [hN.out];simp
      have hle:s.out.length≤s'.out.length:=by rw [hN.out];simp
      rw [CX _ k _ h0 hlt hd hle,hout]
      have hs0:=CS hk0 hsm h0 hlt hd
      by_cases he:e=0
      · obtain ⟨ty',hI'⟩:=hN.inv
        obtain ⟨l,e1,s2,q1,q2,q3,q4,q5⟩:=ih s' (n+1) ty' (i+1) k k' hI' (by omega) (hN.pc he).1 (hN.pc he).2 (by rw [hN.steps,hst];unfold wrap64;omega) (by omega) (by omega) (by omega)
        rw [if_pos he] at hs0 ⊢
        rw [if_neg (by omega),show wrap64 (((f+1:Nat):Int) - 1)=(f:Int) by unfold wrap64;omega,oP k' (by omega) hs0,if_neg (by simp),if_pos rfl,if_pos (by omega),show wrap64 ((i:Int)+1)=((i+1:Nat):Int) by unfold wrap64;omega]
        exact ⟨l,e1,s2,q1,q2,q3,q4,by omega⟩
      · rw [if_neg he] at hs0 ⊢
        rw [oP k' (by omega) hs0,if_neg (by simp),if_neg he]
        exact ⟨_,_,s,rfl,rfl,rfl,by omega,by omega⟩
    · rw [FM _ k _ hlt,oP k' (by omega) (CU hk0 hsm (by omega)),if_pos rfl]
      exact ⟨_,_,s,rfl,rfl,rfl,by omega,by omega⟩
end
end Go.Proofs.YtlemecdddhdagaaDoor.P
end
section
namespace Go.Proofs.YtlemecdddhdagaaDoor.P
open Go.RowKit Go.Proofs.af.bD Go.Proofs.af.dB Go.Proofs.af.dM
attribute [local go_sem] lq lg mG mF jY jX lh kZ
theorem adF (d:Nat) (w:World) (x0 y0:Int) (x1 y1:Int) (x2 y2:Int) (x3 y3:Int) (x4 y4:Int) :
  (Op.equalIn (d+2) 55 (.agg #[.int .u8 x0,.int .u8 x1,.int .u8 x2,.int .u8 x3,.int .i64 x4]) (.agg #[.int .u8 y0,.int .u8 y1,.int .u8 y2,.int .u8 y3,.int .i64 y4])).run Tryd.prog w=.ok (x0 == y0 && (x1 == y1 && (x2 == y2 && (x3 == y3 && (x4 == y4))))) w:=by
 refine aap Tryd.underlying55 (by kernel_rfl) ?_
 refine xP (by rfl) (by go_simp;rfl) (by go_simp;rfl) (by go_simp) ?_
 refine xP (by rfl) (by go_simp;rfl) (by go_simp;rfl) (by go_simp) ?_
 refine xP (by rfl) (by go_simp;rfl) (by go_simp;rfl) (by go_simp) ?_
 refine xP (by rfl) (by go_simp;rfl) (by go_simp;rfl) (by go_simp) ?_
 exact QU (by rfl) (by go_simp;rfl) (by go_simp;rfl) (by go_simp)
theorem rJ {w:World} {g:Nat} {a0 a1 a2 a3:Value} {t:TypeId} (h:w.heap[g]? = some (.cells #[a0,a1,a2,a3] t (0,0))):w.cell? ⟨g,0,none⟩=some a0∧w.cell? ⟨g,1,none⟩=some a1∧w.cell? ⟨g,2,none⟩=some a2∧w.cell? ⟨g,3,none⟩=some a3∧w.frozen? ⟨g,0,none⟩=false∧w.frozen? ⟨g,1,none⟩=false∧w.frozen? ⟨g,2,none⟩=false∧w.frozen? ⟨g,3,none⟩=false:=⟨(ax h 0).trans rfl,(ax h 1).trans rfl,(ax h 2).trans rfl,(ax h 3).trans rfl,aC h 0,aC h 1,aC h 2,aC h 3⟩
theorem jZ {w:World} {g:Nat} {a0 a1 a2 a3 a4:Value} {t:TypeId} (h:w.heap[g]? = some (.cells #[a0,a1,a2,a3,a4] t (0,0))):w.cell? ⟨g,0,none⟩=some a0∧w.cell? ⟨g,1,none⟩=some a1∧w.cell? ⟨g,2,none⟩=some a2∧w.cell? ⟨g,3,none⟩=some a3∧w.cell? ⟨g,4,none⟩=some a4∧w.frozen? ⟨g,0,none⟩=false∧w.frozen? ⟨g,1,none⟩=false∧w.frozen? ⟨g,2,none⟩=false∧w.frozen? ⟨g,3,none⟩=false∧w.frozen? ⟨g,4,none⟩=false:=⟨(ax h 0).trans rfl,(ax h 1).trans rfl,(ax h 2).trans rfl,(ax h 3).trans rfl,(ax h 4).trans rfl,aC h 0,aC h 1,aC h 2,aC h 3,aC h 4⟩
end Go.Proofs.YtlemecdddhdagaaDoor.P
end
section
namespace Go.Proofs.YtlemecdddhdagaaDoor.P
open Go.RowKit Go.Proofs.af.bD Go.Proofs.af.dB Go.Proofs.af.dM
attribute [local go_sem] lq lg mG mF jY jX lh kZ
def eF.f (a0:Int) (a1:Int):Option (Int):=if a0 < 48 then (some (-1)) else (if ((a0 - 48) % 256) ≥ a1 then (some (-1)) else (some ((a0 - 48) % 256)))
set_option maxHeartbeats 8000000 in
set_option maxRecDepth 100000 in
theorem eF.calls (a0:Int) (a1:Int) (r:Int) (w:World) (h:eF.f a0 a1=some r) :
  Calls Tryd.prog 43 #[.int .u8 a0,.int .i64 a1] w fun e w'=>e=.returned (.int .i64 r)∧aT w w':=by
 have H:(if a0 < 48 then (some (-1)) else (if ((a0 - 48) % 256) ≥ a1 then (some (-1)) else (some ((a0 - 48) % 256))))=some r:=h
 clear h
 by_cases c3:a0 < 48
 ·
  rw [if_pos c3] at H
  have ou:decide (a0 < 48)=true:=decide_eq_true c3
  clear c3
  obtain rfl:=Option.some.inj H
  go_enter Tryd.func43,Tryd.ntmps43
  go_wp2
  go_ret
  exact ⟨by first|rfl|(simp;done)|(simp [*];done),by repeat (first|exact aT.refl _|apply aT.step)⟩
 ·
  rw [if_neg c3] at H
  have ou:decide (a0 < 48)=false:=decide_eq_false c3
  clear c3
  by_cases c4:((a0 - 48) % 256) ≥ a1
  ·
   rw [if_pos c4] at H
   have oq:decide (a1≤((a0 - 48) % 256))=true:=decide_eq_true c4
   clear c4
   obtain rfl:=Option.some.inj H
   go_enter Tryd.func43,Tryd.ntmps43
   go_wp2
   go_ret
   exact ⟨by first|rfl|(simp;done)|(simp [*];done),by repeat (first|exact aT.refl _|apply aT.step)⟩
  ·
   rw [if_neg c4] at H
   have oq:decide (a1≤((a0 - 48) % 256))=false:=decide_eq_false c4
   clear c4
   obtain rfl:=Option.some.inj H
   go_enter Tryd.func43,Tryd.ntmps43
   go_wp2
   go_ret
   exact ⟨by first|rfl|(simp;done)|(simp [*];done),by repeat (first|exact aT.refl _|apply aT.step)⟩
mutual
def aK.l0:Nat→List ByteArray→Int→Option (Bool)
 | 0,_,_=>none
 | k+1,x0,x3=>if x3 < (x0.length:Int) then (if 0≤x3 then (aK.l1 k x0 x3 (dY ByteArray.empty x0 x3) 0) else (none)) else (if (x0.length:Int) ≥ 1 then (some (decide ((x0.length:Int)≤8))) else (some false))
def aK.l1:Nat→List ByteArray→Int→ByteArray→Int→Option (Bool)
 | 0,_,_,_,_=>none
 | k+1,x0,x3,x4,x5=>if x5 < (x4.size:Int) then (if 0≤x5 then (if (bt x4 x5)=105 then (aK.l1 k x0 x3 x4 (wrap64 (x5+1))) else ((eF.f (bt x4 x5) (x0.length:Int)).bind fun t102=>(if t102 < 0 then (some false) else (aK.l1 k x0 x3 x4 (wrap64 (x5+1)))))) else (none)) else (if (x4.size:Int) < 1 then (some false) else (if (x4.size:Int) > 6 then (some false) else (aK.l0 k x0 (wrap64 (x3+1)))))
end
def aK.f (k:Nat) (l0:List ByteArray):Option (Bool):=aK.l0 k l0 0
theorem aK.iD:∀ k,(∀ y0 y1,dO (aK.l0 k y0 y1) (aK.l0 (k+1) y0 y1))∧(∀ y0 y1 y2 y3,dO (aK.l1 k y0 y1 y2 y3) (aK.l1 (k+1) y0 y1 y2 y3))
 | 0=>⟨fun _ _ r h=>by simp [aK.l0] at h,fun _ _ _ _ r h=>by simp [aK.l1] at h⟩
 | k+1=>by
  obtain ⟨lS,ih1⟩:=aK.iD k
  refine ⟨?_,?_⟩
  ·
   intro y0 y1
   unfold aK.l0
   repeat' with_reducible first|apply lS|apply ih1|exact dO.refl _|exact dO.none _|refine dO.ite ?_ ?_|refine dO.bind ?_ (fun _=>?_)
  ·
   intro y0 y1 y2 y3
   unfold aK.l1
   repeat' with_reducible first|apply lS|apply ih1|exact dO.refl _|exact dO.none _|refine dO.ite ?_ ?_|refine dO.bind ?_ (fun _=>?_)
theorem aK.mono:∀ a0 k,dO (aK.f k a0) (aK.f (k+1) a0):=by
 intro a0 k
 obtain ⟨lS,ih1⟩:=aK.iD k
 unfold aK.f
 repeat' with_reducible first|apply lS|apply ih1|exact dO.refl _|exact dO.none _|refine dO.ite ?_ ?_|refine dO.bind ?_ (fun _=>?_)
set_option maxHeartbeats 8000000 in
set_option maxRecDepth 100000 in
theorem aK.calls (k:Nat) (A0:Option Addr) (c0:Nat) (l0:List ByteArray) (r:Bool) (w:World) (hr0:Kd.C Kd.string w A0 l0.length l0) (hc0:l0.length≤c0) (h:aK.f k l0=some r) :
  Calls Tryd.prog 44 #[.slice A0 l0.length c0] w fun e w'=>e=.returned (.bool r)∧aT w w':=by
 have HR0:=ae.mk hr0
 have sZ:=ae.mk hc0
 clear hr0 hc0
 have H:(aK.l0 k l0 0)=some r:=h
 clear h
 have H':=ae.mk H
 clear H
 go_enter Tryd.func44,Tryd.ntmps44
 go_wp2
 go_loopg [3] k (fun kq v3 w'=>∃ (kD:Int),v3=.int .i64 kD∧ae (aK.l0 kq l0 kD=some r)∧ae (kq≤k)∧aT w w')
 case atStart=>exact ⟨(0),(by first|rfl|(simp;done)|(simp [*];done)),H',⟨Nat.le_refl _⟩,by repeat (first|exact aT.refl _|apply aT.step)⟩
 case round =>
  clear H'
  obtain ⟨kD,rfl,HA,qO,⟨m1,rfl⟩⟩:=hrel
  cases gk with
  | zero=>exact absurd HA.out (by simp [aK.l0])
  | succ k1 =>
   have H:=HA.out
   clear HA
   simp only [aK.l0] at H
   by_cases c2:kD < (l0.length:Int)
   ·
    rw [if_pos c2] at H
    have EW:decide (kD < (l0.length:Int))=true:=decide_eq_true c2
    clear c2
    by_cases c3:0≤kD
    ·
     rw [if_pos c3] at H
     have ou:decide (0≤kD)=true:=decide_eq_true c3
     clear c3
     have H':=ae.mk H
     clear H
     have Iz:0≤(kD:Int):=of_decide_eq_true (by first|(with_reducible assumption)|assumption)
     have Ii:kD < (l0.length:Int):=of_decide_eq_true (by first|(with_reducible assumption)|assumption)
     obtain ⟨aeK,aau,Uh⟩:=Kd.kN HR0.out kD Iz Ii
     cases aau
     replace Iz:=eq_true Iz
     replace Ii:=eq_true Ii
     go_wp2
     go_loopg [5] k1 (fun kq v5 w'=>∃ (nX:Int),v5=.int .i64 nX∧ae (aK.l1 kq l0 kD (dY ByteArray.empty l0 kD) nX=some r)∧ae (kq≤k1)∧aT w w')
     case atStart=>exact ⟨(0),(by first|rfl|(simp;done)|(simp [*];done)),H',⟨Nat.le_refl _⟩,by repeat (first|exact aT.refl _|apply aT.step)⟩
     case round =>
      clear H'
      obtain ⟨nX,rfl,HA,wK,⟨m2,rfl⟩⟩:=hrel
      cases gk with
      | zero=>exact absurd HA.out (by simp [aK.l1])
      | succ k2 =>
       have H:=HA.out
       clear HA
       simp only [aK.l1] at H
       by_cases c4:nX < ((dY ByteArray.empty l0 kD).size:Int)
       ·
        rw [if_pos c4] at H
        have oq:decide (nX < ((dY ByteArray.empty l0 kD).size:Int))=true:=decide_eq_true c4
        clear c4
        by_cases c5:0≤nX
        ·
         rw [if_pos c5] at H
         have rG:decide (0≤nX)=true:=decide_eq_true c5
         clear c5
         by_cases c7:(bt (dY ByteArray.empty l0 kD) nX)=105
         ·
          rw [if_pos c7] at H
          have oM:((bt (dY ByteArray.empty l0 kD) nX) == 105)=true:=beq_iff_eq.mpr c7
          have xR:((bt (dY ByteArray.empty l0 kD) nX) != 105)=false:=bne_eq_false_iff_eq.mpr c7
          clear c7
          have H':=ae.mk H
          clear H
          have p6:0≤(nX:Int):=of_decide_eq_true (by first|(with_reducible assumption)|assumption)
          have q6:nX < ((dY ByteArray.empty l0 kD).size:Int):=of_decide_eq_true (by first|(with_reducible assumption)|assumption)
          have hx6:=kR (dY ByteArray.empty l0 kD) nX
          replace p6:=eq_true p6
          replace q6:=eq_true q6
          go_wp2
          go_roundg k2
          case measure=>have:=qO.out;have:=wK.out;omega
          case rel=>exact ⟨(wrap64 (nX+1)),(by first|rfl|(simp;done)|(simp [*];done)),H',⟨by have:=qO.out;have:=wK.out;omega⟩,by repeat (first|exact aT.refl _|apply aT.step)⟩
         ·
          rw [if_neg c7] at H
          have oM:((bt (dY ByteArray.empty l0 kD) nX) == 105)=false:=beq_eq_false_iff_ne.mpr c7
          have xR:((bt (dY ByteArray.empty l0 kD) nX) != 105)=true:=bne_iff_ne.mpr c7
          replace H:=Option.bind_eq_some_iff.mp H
          obtain ⟨t102,OT,H⟩:=H
          replace H:(if t102 < 0 then (some false) else (aK.l1 k2 l0 kD (dY ByteArray.empty l0 kD) (wrap64 (nX+1))))=some r:=H
          have A9:=ae.mk OT
          clear OT
          by_cases c10:t102 < 0
          ·
           rw [if_pos c10] at H
           have pR:decide (t102 < 0)=true:=decide_eq_true c10
           clear c10
           obtain rfl:=Option.some.inj H
           have p6:0≤(nX:Int):=of_decide_eq_true (by first|(with_reducible assumption)|assumption)
           have q6:nX < ((dY ByteArray.empty l0 kD).size:Int):=of_decide_eq_true (by first|(with_reducible assumption)|assumption)
           have hx6:=kR (dY ByteArray.empty l0 kD) nX
           replace p6:=eq_true p6
           replace q6:=eq_true q6
           have p8:0≤(nX:Int):=of_decide_eq_true (by first|(with_reducible assumption)|assumption)
           have q8:nX < ((dY ByteArray.empty l0 kD).size:Int):=of_decide_eq_true (by first|(with_reducible assumption)|assumption)
           have hx8:=kR (dY ByteArray.empty l0 kD) nX
           replace p8:=eq_true p8
           replace q8:=eq_true q8
           go_wp2_with (first|(go_at_call 43;(with_reducible refine (eF.calls (bt (dY ByteArray.empty l0 kD) nX) (l0.length:Int) t102 _ A9.out).mono ?_);rintro e w' ⟨rfl,⟨nd,rfl⟩⟩))
           go_ret
           exact ⟨by first|rfl|(simp;done)|(simp [*];done),by repeat (first|exact aT.refl _|apply aT.step)⟩
          ·
           rw [if_neg c10] at H
           have pR:decide (t102 < 0)=false:=decide_eq_false c10
           clear c10
           have H':=ae.mk H
           clear H
           have p6:0≤(nX:Int):=of_decide_eq_true (by first|(with_reducible assumption)|assumption)
           have q6:nX < ((dY ByteArray.empty l0 kD).size:Int):=of_decide_eq_true (by first|(with_reducible assumption)|assumption)
           have hx6:=kR (dY ByteArray.empty l0 kD) nX
           replace p6:=eq_true p6
           replace q6:=eq_true q6
           have p8:0≤(nX:Int):=of_decide_eq_true (by first|(with_reducible assumption)|assumption)
           have q8:nX < ((dY ByteArray.empty l0 kD).size:Int):=of_decide_eq_true (by first|(with_reducible assumption)|assumption)
           have hx8:=kR (dY ByteArray.empty l0 kD) nX
           replace p8:=eq_true p8
           replace q8:=eq_true q8
           go_wp2_with (first|(go_at_call 43;(with_reducible refine (eF.calls (bt (dY ByteArray.empty l0 kD) nX) (l0.length:Int) t102 _ A9.out).mono ?_);rintro e w' ⟨rfl,⟨nd,rfl⟩⟩))
           go_roundg k2
           case measure=>have:=qO.out;have:=wK.out;omega
           case rel=>exact ⟨(wrap64 (nX+1)),(by first|rfl|(simp;done)|(simp [*];done)),H',⟨by have:=qO.out;have:=wK.out;omega⟩,by repeat (first|exact aT.refl _|apply aT.step)⟩
        ·
         rw [if_neg c5] at H
         exact absurd H (by simp)
       ·
        rw [if_neg c4] at H
        have oq:decide (nX < ((dY ByteArray.empty l0 kD).size:Int))=false:=decide_eq_false c4
        clear c4
        by_cases c11:((dY ByteArray.empty l0 kD).size:Int) < 1
        ·
         rw [if_pos c11] at H
         have uU:decide (((dY ByteArray.empty l0 kD).size:Int) < 1)=true:=decide_eq_true c11
         have DD:decide ((dY ByteArray.empty l0 kD).size < 1)=true:=decide_eq_true (by omega)
         clear c11
         obtain rfl:=Option.some.inj H
         go_wp2
         go_ret
         exact ⟨by first|rfl|(simp;done)|(simp [*];done),by repeat (first|exact aT.refl _|apply aT.step)⟩
        ·
         rw [if_neg c11] at H
         have uU:decide (((dY ByteArray.empty l0 kD).size:Int) < 1)=false:=decide_eq_false c11
         have DD:decide ((dY ByteArray.empty l0 kD).size < 1)=false:=decide_eq_false (by omega)
         clear c11
         by_cases c12:((dY ByteArray.empty l0 kD).size:Int) > 6
         ·
          rw [if_pos c12] at H
          have wY:decide (6 < ((dY ByteArray.empty l0 kD).size:Int))=true:=decide_eq_true c12
          have Ri:decide (6 < (dY ByteArray.empty l0 kD).size)=true:=decide_eq_true (by omega)
          clear c12
          obtain rfl:=Option.some.inj H
          go_wp2
          go_ret
          exact ⟨by first|rfl|(simp;done)|(simp [*];done),by repeat (first|exact aT.refl _|apply aT.step)⟩
         ·
          rw [if_neg c12] at H
          have wY:decide (6 < ((dY ByteArray.empty l0 kD).size:Int))=false:=decide_eq_false c12
          have Ri:decide (6 < (dY ByteArray.empty l0 kD).size)=false:=decide_eq_false (by omega)
          clear c12
          have H':=ae.mk H
          clear H
          go_wp2
          go_roundg k2
          case measure=>have:=qO.out;have:=wK.out;omega
          case rel=>exact ⟨(wrap64 (kD+1)),(by first|rfl|(simp;done)|(simp [*];done)),H',⟨by have:=qO.out;have:=wK.out;omega⟩,by repeat (first|exact aT.refl _|apply aT.step)⟩
    ·
     rw [if_neg c3] at H
     exact absurd H (by simp)
   ·
    rw [if_neg c2] at H
    have EW:decide (kD < (l0.length:Int))=false:=decide_eq_false c2
    clear c2
    by_cases c13:(l0.length:Int) ≥ 1
    ·
     rw [if_pos c13] at H
     have mQ:decide (1≤(l0.length:Int))=true:=decide_eq_true c13
     have xU:decide (1≤l0.length)=true:=decide_eq_true (by omega)
     clear c13
     obtain rfl:=Option.some.inj H
     go_wp2
     go_ret
     exact ⟨by first|rfl|(simp;done)|(simp [*];done),by repeat (first|exact aT.refl _|apply aT.step)⟩
    ·
     rw [if_neg c13] at H
     have mQ:decide (1≤(l0.length:Int))=false:=decide_eq_false c13
     have xU:decide (1≤l0.length)=false:=decide_eq_false (by omega)
     clear c13
     obtain rfl:=Option.some.inj H
     go_wp2
     go_ret
     exact ⟨by first|rfl|(simp;done)|(simp [*];done),by repeat (first|exact aT.refl _|apply aT.step)⟩
def aX.l0:Nat→List ByteArray→ByteArray→Int→Option (Bool)
 | 0,_,_,_=>none
 | k+1,x0,x1,x5=>if x5 < (x1.size:Int) then (if 0≤x5 then ((eF.f (bt x1 x5) (x0.length:Int)).bind fun t103=>(if t103 < 0 then (some false) else (aX.l0 k x0 x1 (wrap64 (x5+1))))) else (none)) else ((aK.f k x0).bind fun t104=>(some t104))
def aX.f (k:Nat) (l0:List ByteArray) (a1:ByteArray):Option (Bool):=aX.l0 k l0 a1 0
theorem aX.iD:∀ k,(∀ y0 y1 y2,dO (aX.l0 k y0 y1 y2) (aX.l0 (k+1) y0 y1 y2))
 | 0=>fun _ _ _ r h=>by simp [aX.l0] at h
 | k+1=>by
  have lS:=aX.iD k
  ·
   intro y0 y1 y2
   unfold aX.l0
   repeat' with_reducible first|apply lS|apply aK.mono|exact dO.refl _|exact dO.none _|refine dO.ite ?_ ?_|refine dO.bind ?_ (fun _=>?_)
theorem aX.mono:∀ a0 a1 k,dO (aX.f k a0 a1) (aX.f (k+1) a0 a1):=by
 intro a0 a1 k
 have lS:=aX.iD k
 unfold aX.f
 repeat' with_reducible first|apply lS|apply aK.mono|exact dO.refl _|exact dO.none _|refine dO.ite ?_ ?_|refine dO.bind ?_ (fun _=>?_)
set_option maxHeartbeats 8000000 in
set_option maxRecDepth 100000 in
theorem aX.calls (k:Nat) (A0:Option Addr) (c0:Nat) (l0:List ByteArray) (a1:ByteArray) (r:Bool) (w:World) (hr0:Kd.C Kd.string w A0 l0.length l0) (hc0:l0.length≤c0) (h:aX.f k l0 a1=some r) :
  Calls Tryd.prog 27 #[.slice A0 l0.length c0,.string a1] w fun e w'=>e=.returned (.bool r)∧aT w w':=by
 have HR0:=ae.mk hr0
 have sZ:=ae.mk hc0
 clear hr0 hc0
 have H:(aX.l0 k l0 a1 0)=some r:=h
 clear h
 have H':=ae.mk H
 clear H
 go_enter Tryd.func27,Tryd.ntmps27
 go_wp2
 go_loopg [5] k (fun kq v5 w'=>∃ (jm:Int),v5=.int .i64 jm∧ae (aX.l0 kq l0 a1 jm=some r)∧ae (kq≤k)∧aT w w')
 case atStart=>exact ⟨(0),(by first|rfl|(simp;done)|(simp [*];done)),H',⟨Nat.le_refl _⟩,by repeat (first|exact aT.refl _|apply aT.step)⟩
 case round =>
  clear H'
  obtain ⟨jm,rfl,HA,qO,⟨m1,rfl⟩⟩:=hrel
  cases gk with
  | zero=>exact absurd HA.out (by simp [aX.l0])
  | succ k1 =>
   have H:=HA.out
   clear HA
   simp only [aX.l0] at H
   by_cases c3:jm < (a1.size:Int)
   ·
    rw [if_pos c3] at H
    have ou:decide (jm < (a1.size:Int))=true:=decide_eq_true c3
    clear c3
    by_cases c4:0≤jm
    ·
     rw [if_pos c4] at H
     have oq:decide (0≤jm)=true:=decide_eq_true c4
     clear c4
     replace H:=Option.bind_eq_some_iff.mp H
     obtain ⟨t103,Nw,H⟩:=H
     replace H:(if t103 < 0 then (some false) else (aX.l0 k1 l0 a1 (wrap64 (jm+1))))=some r:=H
     have A6:=ae.mk Nw
     clear Nw
     by_cases c7:t103 < 0
     ·
      rw [if_pos c7] at H
      have oM:decide (t103 < 0)=true:=decide_eq_true c7
      clear c7
      obtain rfl:=Option.some.inj H
      have p5:0≤(jm:Int):=of_decide_eq_true (by first|(with_reducible assumption)|assumption)
      have q5:jm < (a1.size:Int):=of_decide_eq_true (by first|(with_reducible assumption)|assumption)
      have hx5:=kR a1 jm
      replace p5:=eq_true p5
      replace q5:=eq_true q5
      go_wp2_with (first|((with_reducible refine bz (f:=43) rfl ?_);refine dS (some 17) rfl rfl Tryd.func43 (by kernel_rfl) rfl #[.int .u8 (bt a1 jm),.int .i64 (l0.length:Int)] rfl (by (try simp only [List.map_toArray,List.map_cons,List.map_nil]);first|done|rfl|(simp only [List.length_drop,List.length_take];rfl)) ?_;(with_reducible refine (eF.calls (bt a1 jm) (l0.length:Int) t103 _ A6.out).mono ?_);rintro e w' ⟨rfl,⟨nd,rfl⟩⟩;refine ⟨_,rfl,?_⟩))
      go_ret
      exact ⟨by first|rfl|(simp;done)|(simp [*];done),by repeat (first|exact aT.refl _|apply aT.step)⟩
     ·
      rw [if_neg c7] at H
      have oM:decide (t103 < 0)=false:=decide_eq_false c7
      clear c7
      have H':=ae.mk H
      clear H
      have p5:0≤(jm:Int):=of_decide_eq_true (by first|(with_reducible assumption)|assumption)
      have q5:jm < (a1.size:Int):=of_decide_eq_true (by first|(with_reducible assumption)|assumption)
      have hx5:=kR a1 jm
      replace p5:=eq_true p5
      replace q5:=eq_true q5
      go_wp2_with (first|((with_reducible refine bz (f:=43) rfl ?_);refine dS (some 17) rfl rfl Tryd.func43 (by kernel_rfl) rfl #[.int .u8 (bt a1 jm),.int .i64 (l0.length:Int)] rfl (by (try simp only [List.map_toArray,List.map_cons,List.map_nil]);first|done|rfl|(simp only [List.length_drop,List.length_take];rfl)) ?_;(with_reducible refine (eF.calls (bt a1 jm) (l0.length:Int) t103 _ A6.out).mono ?_);rintro e w' ⟨rfl,⟨nd,rfl⟩⟩;refine ⟨_,rfl,?_⟩))
      go_roundg k1
      case measure=>have:=qO.out;omega
      case rel=>exact ⟨(wrap64 (jm+1)),(by first|rfl|(simp;done)|(simp [*];done)),H',⟨by have:=qO.out;omega⟩,by repeat (first|exact aT.refl _|apply aT.step)⟩
    ·
     rw [if_neg c4] at H
     exact absurd H (by simp)
   ·
    rw [if_neg c3] at H
    have ou:decide (jm < (a1.size:Int))=false:=decide_eq_false c3
    clear c3
    replace H:=Option.bind_eq_some_iff.mp H
    obtain ⟨t104,Zf,H⟩:=H
    replace H:(some t104)=some r:=H
    have A8:=ae.mk Zf
    clear Zf
    obtain rfl:=Option.some.inj H
    go_wp2_with (first|((with_reducible refine bz (f:=44) rfl ?_);refine dS (some 20) rfl rfl Tryd.func44 (by kernel_rfl) rfl #[.slice A0 l0.length c0] rfl (by (try simp only [List.map_toArray,List.map_cons,List.map_nil]);first|done|rfl|(simp only [List.length_drop,List.length_take];rfl)) ?_;(with_reducible refine (aK.calls k1 _ _ l0 t104 _ ?bZ ?dh A8.out).mono ?_);(case bZ=>repeat (first|exact HR0.out|(with_reducible refine Kd.bP ?_ _)|(with_reducible refine Kd.bQ ?_ _)|(with_reducible refine Kd.dD ?_)));(case dh=>exact sZ.out);rintro e w' ⟨rfl,⟨nd,rfl⟩⟩;refine ⟨_,rfl,?_⟩))
    go_ret
    exact ⟨by first|rfl|(simp;done)|(simp [*];done),by repeat (first|exact aT.refl _|apply aT.step)⟩
def jE.f (a0:Int):Option (ByteArray × ByteArray):=if a0=11 then (some ((⟨#[115,116,111,114,101,112]⟩:ByteArray),(⟨#[97,110,98]⟩:ByteArray))) else (if a0=12 then (some ((⟨#[108,111,97,100,103]⟩:ByteArray),(⟨#[97,98]⟩:ByteArray))) else (if a0=13 then (some ((⟨#[115,116,111,114,101,103]⟩:ByteArray),(⟨#[97,98]⟩:ByteArray))) else (if a0=14 then (some ((⟨#[112,114,105,110,116]⟩:ByteArray),(⟨#[97]⟩:ByteArray))) else (if a0=15 then (some ((⟨#[115,97,109,101]⟩:ByteArray),(⟨#[97,98,99]⟩:ByteArray))) else (some ((⟨#[]⟩:ByteArray),(⟨#[]⟩:ByteArray)))))))
set_option maxHeartbeats 8000000 in
set_option maxRecDepth 100000 in
theorem jE.calls (a0:Int) (r1:ByteArray) (r2:ByteArray) (w:World) (h:jE.f a0=some (r1,r2)) :
  Calls Tryd.prog 63 #[.int .u8 a0] w fun e w'=>e=.returned (.tuple #[.string r1,.string r2])∧aT w w':=by
 have H:(if a0=11 then (some ((⟨#[115,116,111,114,101,112]⟩:ByteArray),(⟨#[97,110,98]⟩:ByteArray))) else (if a0=12 then (some ((⟨#[108,111,97,100,103]⟩:ByteArray),(⟨#[97,98]⟩:ByteArray))) else (if a0=13 then (some ((⟨#[115,116,111,114,101,103]⟩:ByteArray),(⟨#[97,98]⟩:ByteArray))) else (if a0=14 then (some ((⟨#[112,114,105,110,116]⟩:ByteArray),(⟨#[97]⟩:ByteArray))) else (if a0=15 then (some ((⟨#[115,97,109,101]⟩:ByteArray),(⟨#[97,98,99]⟩:ByteArray))) else (some ((⟨#[]⟩:ByteArray),(⟨#[]⟩:ByteArray))))))))=some (r1,r2):=h
 clear h
 by_cases c2:a0=11
 ·
  rw [if_pos c2] at H
  have EW:(a0 == 11)=true:=beq_iff_eq.mpr c2
  have aaO:(a0 != 11)=false:=bne_eq_false_iff_eq.mpr c2
  clear c2
  simp only [Option.some.injEq,Prod.mk.injEq] at H
  obtain ⟨rfl,rfl⟩:=H
  go_enter Tryd.func63,Tryd.ntmps63
  go_wp2
  go_ret2
  exact ⟨by first|rfl|(simp;done)|(simp [*];done),by repeat (first|exact aT.refl _|apply aT.step)⟩
 ·
  rw [if_neg c2] at H
  have EW:(a0 == 11)=false:=beq_eq_false_iff_ne.mpr c2
  have aaO:(a0 != 11)=true:=bne_iff_ne.mpr c2
  by_cases c3:a0=12
  ·
   rw [if_pos c3] at H
   have ou:(a0 == 12)=true:=beq_iff_eq.mpr c3
   have zi:(a0 != 12)=false:=bne_eq_false_iff_eq.mpr c3
   clear c3
   simp only [Option.some.injEq,Prod.mk.injEq] at H
   obtain ⟨rfl,rfl⟩:=H
   go_enter Tryd.func63,Tryd.ntmps63
   go_wp2
   go_ret2
   exact ⟨by first|rfl|(simp;done)|(simp [*];done),by repeat (first|exact aT.refl _|apply aT.step)⟩
  ·
   rw [if_neg c3] at H
   have ou:(a0 == 12)=false:=beq_eq_false_iff_ne.mpr c3
   have zi:(a0 != 12)=true:=bne_iff_ne.mpr c3
   by_cases c4:a0=13
   ·
    rw [if_pos c4] at H
    have oq:(a0 == 13)=true:=beq_iff_eq.mpr c4
    have I7:(a0 != 13)=false:=bne_eq_false_iff_eq.mpr c4
    clear c4
    simp only [Option.some.injEq,Prod.mk.injEq] at H
    obtain ⟨rfl,rfl⟩:=H
    go_enter Tryd.func63,Tryd.ntmps63
    go_wp2
    go_ret2
    exact ⟨by first|rfl|(simp;done)|(simp [*];done),by repeat (first|exact aT.refl _|apply aT.step)⟩
   ·
    rw [if_neg c4] at H
    have oq:(a0 == 13)=false:=beq_eq_false_iff_ne.mpr c4
    have I7:(a0 != 13)=true:=bne_iff_ne.mpr c4
    by_cases c5:a0=14
    ·
     rw [if_pos c5] at H
     have rG:(a0 == 14)=true:=beq_iff_eq.mpr c5
     have OM:(a0 != 14)=false:=bne_eq_false_iff_eq.mpr c5
     clear c5
     simp only [Option.some.injEq,Prod.mk.injEq] at H
     obtain ⟨rfl,rfl⟩:=H
     go_enter Tryd.func63,Tryd.ntmps63
     go_wp2
     go_ret2
     exact ⟨by first|rfl|(simp;done)|(simp [*];done),by repeat (first|exact aT.refl _|apply aT.step)⟩
    ·
     rw [if_neg c5] at H
     have rG:(a0 == 14)=false:=beq_eq_false_iff_ne.mpr c5
     have OM:(a0 != 14)=true:=bne_iff_ne.mpr c5
     by_cases c6:a0=15
     ·
      rw [if_pos c6] at H
      have oH:(a0 == 15)=true:=beq_iff_eq.mpr c6
      have yC:(a0 != 15)=false:=bne_eq_false_iff_eq.mpr c6
      clear c6
      simp only [Option.some.injEq,Prod.mk.injEq] at H
      obtain ⟨rfl,rfl⟩:=H
      go_enter Tryd.func63,Tryd.ntmps63
      go_wp2
      go_ret2
      exact ⟨by first|rfl|(simp;done)|(simp [*];done),by repeat (first|exact aT.refl _|apply aT.step)⟩
     ·
      rw [if_neg c6] at H
      have oH:(a0 == 15)=false:=beq_eq_false_iff_ne.mpr c6
      have yC:(a0 != 15)=true:=bne_iff_ne.mpr c6
      simp only [Option.some.injEq,Prod.mk.injEq] at H
      obtain ⟨rfl,rfl⟩:=H
      go_enter Tryd.func63,Tryd.ntmps63
      go_wp2
      go_ret2
      exact ⟨by first|rfl|(simp;done)|(simp [*];done),by repeat (first|exact aT.refl _|apply aT.step)⟩
def fG.f (a0:Int):Option (ByteArray × ByteArray):=if a0=1 then (some ((⟨#[115,101,116]⟩:ByteArray),(⟨#[97,110]⟩:ByteArray))) else (if a0=2 then (some ((⟨#[97,100,100]⟩:ByteArray),(⟨#[97,98,99]⟩:ByteArray))) else (if a0=3 then (some ((⟨#[106,117,109,112]⟩:ByteArray),(⟨#[110]⟩:ByteArray))) else (if a0=4 then (some ((⟨#[122,101,114,111]⟩:ByteArray),(⟨#[97,110]⟩:ByteArray))) else (if a0=5 then (some ((⟨#[110,101,119]⟩:ByteArray),(⟨#[97]⟩:ByteArray))) else (if a0=6 then (some ((⟨#[110,105,108]⟩:ByteArray),(⟨#[97]⟩:ByteArray))) else (if a0=7 then (some ((⟨#[109,111,118,101]⟩:ByteArray),(⟨#[97,98]⟩:ByteArray))) else (if a0=8 then (some ((⟨#[108,111,97,100,105]⟩:ByteArray),(⟨#[97,98,110]⟩:ByteArray))) else (if a0=9 then (some ((⟨#[115,116,111,114,101,105]⟩:ByteArray),(⟨#[97,110,98]⟩:ByteArray))) else (if a0=10 then (some ((⟨#[108,111,97,100,112]⟩:ByteArray),(⟨#[97,98,110]⟩:ByteArray))) else ((jE.f a0).bind fun G6=>(some (G6.1,G6.2))))))))))))
set_option maxHeartbeats 8000000 in
set_option maxRecDepth 100000 in
theorem fG.calls (a0:Int) (r1:ByteArray) (r2:ByteArray) (w:World) (h:fG.f a0=some (r1,r2)) :
  Calls Tryd.prog 45 #[.int .u8 a0] w fun e w'=>e=.returned (.tuple #[.string r1,.string r2])∧aT w w':=by
 have H:(if a0=1 then (some ((⟨#[115,101,116]⟩:ByteArray),(⟨#[97,110]⟩:ByteArray))) else (if a0=2 then (some ((⟨#[97,100,100]⟩:ByteArray),(⟨#[97,98,99]⟩:ByteArray))) else (if a0=3 then (some ((⟨#[106,117,109,112]⟩:ByteArray),(⟨#[110]⟩:ByteArray))) else (if a0=4 then (some ((⟨#[122,101,114,111]⟩:ByteArray),(⟨#[97,110]⟩:ByteArray))) else (if a0=5 then (some ((⟨#[110,101,119]⟩:ByteArray),(⟨#[97]⟩:ByteArray))) else (if a0=6 then (some ((⟨#[110,105,108]⟩:ByteArray),(⟨#[97]⟩:ByteArray))) else (if a0=7 then (some ((⟨#[109,111,118,101]⟩:ByteArray),(⟨#[97,98]⟩:ByteArray))) else (if a0=8 then (some ((⟨#[108,111,97,100,105]⟩:ByteArray),(⟨#[97,98,110]⟩:ByteArray))) else (if a0=9 then (some ((⟨#[115,116,111,114,101,105]⟩:ByteArray),(⟨#[97,110,98]⟩:ByteArray))) else (if a0=10 then (some ((⟨#[108,111,97,100,112]⟩:ByteArray),(⟨#[97,98,110]⟩:ByteArray))) else ((jE.f a0).bind fun G6=>(some (G6.1,G6.2)))))))))))))=some (r1,r2):=h
 clear h
 by_cases c2:a0=1
 ·
  rw [if_pos c2] at H
  have EW:(a0 == 1)=true:=beq_iff_eq.mpr c2
  have aaO:(a0 != 1)=false:=bne_eq_false_iff_eq.mpr c2
  clear c2
  simp only [Option.some.injEq,Prod.mk.injEq] at H
  obtain ⟨rfl,rfl⟩:=H
  go_enter Tryd.func45,Tryd.ntmps45
  go_wp2
  go_ret2
  exact ⟨by first|rfl|(simp;done)|(simp [*];done),by repeat (first|exact aT.refl _|apply aT.step)⟩
 ·
  rw [if_neg c2] at H
  have EW:(a0 == 1)=false:=beq_eq_false_iff_ne.mpr c2
  have aaO:(a0 != 1)=true:=bne_iff_ne.mpr c2
  by_cases c3:a0=2
  ·
   rw [if_pos c3] at H
   have ou:(a0 == 2)=true:=beq_iff_eq.mpr c3
   have zi:(a0 != 2)=false:=bne_eq_false_iff_eq.mpr c3
   clear c3
   simp only [Option.some.injEq,Prod.mk.injEq] at H
   obtain ⟨rfl,rfl⟩:=H
   go_enter Tryd.func45,Tryd.ntmps45
   go_wp2
   go_ret2
   exact ⟨by first|rfl|(simp;done)|(simp [*];done),by repeat (first|exact aT.refl _|apply aT.step)⟩
  ·
   rw [if_neg c3] at H
   have ou:(a0 == 2)=false:=beq_eq_false_iff_ne.mpr c3
   have zi:(a0 != 2)=true:=bne_iff_ne.mpr c3
   by_cases c4:a0=3
   ·
    rw [if_pos c4] at H
    have oq:(a0 == 3)=true:=beq_iff_eq.mpr c4
    have I7:(a0 != 3)=false:=bne_eq_false_iff_eq.mpr c4
    clear c4
    simp only [Option.some.injEq,Prod.mk.injEq] at H
    obtain ⟨rfl,rfl⟩:=H
    go_enter Tryd.func45,Tryd.ntmps45
    go_wp2
    go_ret2
    exact ⟨by first|rfl|(simp;done)|(simp [*];done),by repeat (first|exact aT.refl _|apply aT.step)⟩
   ·
    rw [if_neg c4] at H
    have oq:(a0 == 3)=false:=beq_eq_false_iff_ne.mpr c4
    have I7:(a0 != 3)=true:=bne_iff_ne.mpr c4
    by_cases c5:a0=4
    ·
     rw [if_pos c5] at H
     have rG:(a0 == 4)=true:=beq_iff_eq.mpr c5
     have OM:(a0 != 4)=false:=bne_eq_false_iff_eq.mpr c5
     clear c5
     simp only [Option.some.injEq,Prod.mk.injEq] at H
     obtain ⟨rfl,rfl⟩:=H
     go_enter Tryd.func45,Tryd.ntmps45
     go_wp2
     go_ret2
     exact ⟨by first|rfl|(simp;done)|(simp [*];done),by repeat (first|exact aT.refl _|apply aT.step)⟩
    ·
     rw [if_neg c5] at H
     have rG:(a0 == 4)=false:=beq_eq_false_iff_ne.mpr c5
     have OM:(a0 != 4)=true:=bne_iff_ne.mpr c5
     by_cases c6:a0=5
     ·
      rw [if_pos c6] at H
      have oH:(a0 == 5)=true:=beq_iff_eq.mpr c6
      have yC:(a0 != 5)=false:=bne_eq_false_iff_eq.mpr c6
      clear c6
      simp only [Option.some.injEq,Prod.mk.injEq] at H
      obtain ⟨rfl,rfl⟩:=H
      go_enter Tryd.func45,Tryd.ntmps45
      go_wp2
      go_ret2
      exact ⟨by first|rfl|(simp;done)|(simp [*];done),by repeat (first|exact aT.refl _|apply aT.step)⟩
     ·
      rw [if_neg c6] at H
      have oH:(a0 == 5)=false:=beq_eq_false_iff_ne.mpr c6
      have yC:(a0 != 5)=true:=bne_iff_ne.mpr c6
      by_cases c7:a0=6
      ·
       rw [if_pos c7] at H
       have oM:(a0 == 6)=true:=beq_iff_eq.mpr c7
       have xR:(a0 != 6)=false:=bne_eq_false_iff_eq.mpr c7
       clear c7
       simp only [Option.some.injEq,Prod.mk.injEq] at H
       obtain ⟨rfl,rfl⟩:=H
       go_enter Tryd.func45,Tryd.ntmps45
       go_wp2
       go_ret2
       exact ⟨by first|rfl|(simp;done)|(simp [*];done),by repeat (first|exact aT.refl _|apply aT.step)⟩
      ·
       rw [if_neg c7] at H
       have oM:(a0 == 6)=false:=beq_eq_false_iff_ne.mpr c7
       have xR:(a0 != 6)=true:=bne_iff_ne.mpr c7
       by_cases c8:a0=7
       ·
        rw [if_pos c8] at H
        have pM:(a0 == 7)=true:=beq_iff_eq.mpr c8
        have zh:(a0 != 7)=false:=bne_eq_false_iff_eq.mpr c8
        clear c8
        simp only [Option.some.injEq,Prod.mk.injEq] at H
        obtain ⟨rfl,rfl⟩:=H
        go_enter Tryd.func45,Tryd.ntmps45
        go_wp2
        go_ret2
        exact ⟨by first|rfl|(simp;done)|(simp [*];done),by repeat (first|exact aT.refl _|apply aT.step)⟩
       ·
        rw [if_neg c8] at H
        have pM:(a0 == 7)=false:=beq_eq_false_iff_ne.mpr c8
        have zh:(a0 != 7)=true:=bne_iff_ne.mpr c8
        by_cases c9:a0=8
        ·
         rw [if_pos c9] at H
         have EU:(a0 == 8)=true:=beq_iff_eq.mpr c9
         have XW:(a0 != 8)=false:=bne_eq_false_iff_eq.mpr c9
         clear c9
         simp only [Option.some.injEq,Prod.mk.injEq] at H
         obtain ⟨rfl,rfl⟩:=H
         go_enter Tryd.func45,Tryd.ntmps45
         go_wp2
         go_ret2
         exact ⟨by first|rfl|(simp;done)|(simp [*];done),by repeat (first|exact aT.refl _|apply aT.step)⟩
        ·
         rw [if_neg c9] at H
         have EU:(a0 == 8)=false:=beq_eq_false_iff_ne.mpr c9
         have XW:(a0 != 8)=true:=bne_iff_ne.mpr c9
         by_cases c10:a0=9
         ·
          rw [if_pos c10] at H
          have pR:(a0 == 9)=true:=beq_iff_eq.mpr c10
          have MO:(a0 != 9)=false:=bne_eq_false_iff_eq.mpr c10
          clear c10
          simp only [Option.some.injEq,Prod.mk.injEq] at H
          obtain ⟨rfl,rfl⟩:=H
          go_enter Tryd.func45,Tryd.ntmps45
          go_wp2
          go_ret2
          exact ⟨by first|rfl|(simp;done)|(simp [*];done),by repeat (first|exact aT.refl _|apply aT.step)⟩
         ·
          rw [if_neg c10] at H
          have pR:(a0 == 9)=false:=beq_eq_false_iff_ne.mpr c10
          have MO:(a0 != 9)=true:=bne_iff_ne.mpr c10
          by_cases c11:a0=10
          ·
           rw [if_pos c11] at H
           have uU:(a0 == 10)=true:=beq_iff_eq.mpr c11
           have DD:(a0 != 10)=false:=bne_eq_false_iff_eq.mpr c11
           clear c11
           simp only [Option.some.injEq,Prod.mk.injEq] at H
           obtain ⟨rfl,rfl⟩:=H
           go_enter Tryd.func45,Tryd.ntmps45
           go_wp2
           go_ret2
           exact ⟨by first|rfl|(simp;done)|(simp [*];done),by repeat (first|exact aT.refl _|apply aT.step)⟩
          ·
           rw [if_neg c11] at H
           have uU:(a0 == 10)=false:=beq_eq_false_iff_ne.mpr c11
           have DD:(a0 != 10)=true:=bne_iff_ne.mpr c11
           replace H:=Option.bind_eq_some_iff.mp H
           obtain ⟨⟨t105,t106⟩,Sz,H⟩:=H
           replace H:(some (t105,t106))=some (r1,r2):=H
           have A12:=ae.mk Sz
           clear Sz
           simp only [Option.some.injEq,Prod.mk.injEq] at H
           obtain ⟨rfl,rfl⟩:=H
           go_enter Tryd.func45,Tryd.ntmps45
           go_wp2_with (first|((with_reducible refine bz (f:=63) rfl ?_);refine dS (some 26) rfl rfl Tryd.func63 (by kernel_rfl) rfl #[.int .u8 a0] rfl (by (try simp only [List.map_toArray,List.map_cons,List.map_nil]);first|done|rfl|(simp only [List.length_drop,List.length_take];rfl)) ?_;(with_reducible refine (jE.calls a0 t105 t106 _ A12.out).mono ?_);rintro e w' ⟨rfl,⟨nd,rfl⟩⟩;refine ⟨_,rfl,?_⟩))
           go_ret2
           exact ⟨by first|rfl|(simp;done)|(simp [*];done),by repeat (first|exact aT.refl _|apply aT.step)⟩
end Go.Proofs.YtlemecdddhdagaaDoor.P
end
