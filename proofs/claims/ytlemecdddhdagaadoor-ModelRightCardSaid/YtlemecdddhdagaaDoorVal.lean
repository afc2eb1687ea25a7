/- Parts of the proof of ModelRight: what the functions that it reaches compute, and plain facts about that. -/
import Derived.Test.YtlemecdddhdagaaDoorVak
import Derived.Lib.SliceRun
import Derived.Test.YtlemecdddhdagaaDoorVaj
import Derived.Deep.LoopGhost
import Derived.Laws.Rows
set_option linter.unusedVariables false
set_option linter.unusedSimpArgs false
section
namespace Go.Proofs.YtlemecdddhdagaaDoor.P
open Go.RowKit Go.Proofs.ag.bI Go.Proofs.ag.dM Go.Proofs.ag.dZ
def Yg (t:List ByteArray) (lo:ByteArray) (a:Int):Option Int:=if 0≤a∧a≤255 then some (jl t (df t lo a)) else none
section
variable (sz:Int→Option Int) (s:St) (a b c:Nat) (n:Int)
theorem acx:uu sz s 1 a b c n=if a < 8 then some ({ bump s with x:=upd s.x a n },0) else none:=by unfold uu;rfl
theorem acw:uu sz s 2 a b c n=if a < 8∧b < 8∧c < 8 then some ({ bump s with x:=upd s.x a (wrap64 (s.x b+s.x c)) },0) else none:=by unfold uu;rfl
theorem acv:uu sz s 3 a b c n=some ({ bump s with pc:=n },0):=by unfold uu;rfl
theorem acu:uu sz s 4 a b c n=if a < 8 then if s.x a=0 then some ({ bump s with pc:=n },0) else some (bump s,0) else none:=by unfold uu;rfl
theorem acs:uu sz s 5 a b c n=if a < 8 then (sz a).bind fun z=>if 0≤z∧z≤1000000 then some ({ bump s with bM:=s.bM++[List.replicate z.toNat 0],p:=upd s.p a ((s.bM.length:Int)+1) },0) else none else none:=by unfold uu;rfl
theorem acr:uu sz s 6 a b c n=if a < 8 then some ({ bump s with p:=upd s.p a 0 },0) else none:=by unfold uu;rfl
theorem acp:uu sz s 7 a b c n=if a < 8∧b < 8 then some ({ bump s with p:=upd s.p a (s.p b) },0) else none:=by unfold uu;rfl
theorem aco:uu sz s 8 a b c n=if a < 8∧b < 8 then if s.p b=0 then some (bump s,9) else if Nl s (s.p b) n then some ({ bump s with x:=upd s.x a (rd (rowOf s (s.p b)) n) },0) else none else none:=by unfold uu;rfl
theorem acn:uu sz s 9 a b c n=if a < 8∧b < 8 then if s.p a=0 then some (bump s,9) else if Nl s (s.p a) n then some ({ bump s with bM:=s.bM.set (s.p a - 1).toNat ((rowOf s (s.p a)).set n.toNat (s.x b)) },0) else none else none:=by unfold uu;rfl
theorem Zk:uu sz s 10 a b c n=if a < 8∧b < 8 then if s.p b=0 then some (bump s,9) else if Nl s (s.p b) n then some ({ bump s with p:=upd s.p a (rd (rowOf s (s.p b)) n) },0) else none else none:=by unfold uu;rfl
theorem Zj:uu sz s 11 a b c n=if a < 8∧b < 8 then if s.p a=0 then some (bump s,9) else if Nl s (s.p a) n then some ({ bump s with bM:=s.bM.set (s.p a - 1).toNat ((rowOf s (s.p a)).set n.toNat (s.p b)) },0) else none else none:=by unfold uu;rfl
theorem Zi:uu sz s 12 a b c n=if a < 8∧b < 4 then some ({ bump s with p:=upd s.p a (s.g b) },0) else none:=by unfold uu;rfl
theorem Zh:uu sz s 13 a b c n=if a < 4∧b < 8 then some ({ bump s with g:=upd s.g a (s.p b) },0) else none:=by unfold uu;rfl
theorem Zg:uu sz s 14 a b c n=if a < 8 then some ({ bump s with out:=s.out++[s.x a] },0) else none:=by unfold uu;rfl
theorem Zf:uu sz s 15 a b c n=if a < 8∧b < 8∧c < 8 then some ({ bump s with x:=upd s.x a (if s.p b=s.p c then 1 else 0) },0) else none:=by unfold uu;rfl
end
structure Next (t:List ByteArray) (lo gl:ByteArray) (len n:Nat) (x:gZ) (s s':St) (e:Int):Prop where
  code:e=0 ∨ e=9
  bad:e ≠ 0→s'=bump s
  inv:∃ ty',Inv t lo gl (n+1) s' ty'
  pc:e=0→0≤s'.pc∧s'.pc≤len
  steps:s'.steps=wrap64 (s.steps+1)
  out:s'.out=s.out++(if x.f0=14 then [s.x x.f1.toNat] else [])
  bM:s'.bM.length=s.bM.length+(if x.f0=5 then 1 else 0)
theorem Oo {t:List ByteArray} {lo:ByteArray} (hl:lo.size≤8) {a:Int} (h:0≤df t lo a):a < 8∧a < lo.size:=by
  unfold df at h
  split at h
  · omega
  · omega
theorem Zl {sz:Int→Option Int} {s:St} {i:gZ} (h1:0≤i.f1) (h2:0≤i.f2) (h3:0≤i.f3) (h4:s.bM.length≤1000000) (h5:s.out.length≤1000000):Ns sz s i=uu sz s i.f0 i.f1.toNat i.f2.toNat i.f3.toNat i.f4:=if_pos ⟨h1,h2,h3,h4,h5⟩
theorem step_ok {t:List ByteArray} {lo gl:ByteArray} {len n:Nat} {s:St} {ty:List Int} {x:gZ} (hr:jw t=true) (hlo:lo.size≤8) (hgl:gl.size≤4) (hx:Fine t lo gl len x)
    (w1:0≤x.f1∧x.f1≤255) (w2:0≤x.f2∧x.f2≤255) (w3:0≤x.f3∧x.f3≤255) (hI:Inv t lo gl n s ty) (hn:n≤1000000) (hlen:len≤200) (h0:0≤s.pc) (h1:s.pc < len) :
    ∃ s' e,Ns (Yg t lo) s x=some (s',e)∧Next t lo gl len n x s s' e:=by
  have hpc:wrap64 (s.pc+1)=s.pc+1:=by unfold wrap64;omega
  have hb:(bump s).pc=s.pc+1:=hpc
  have hfew:=hI.few
  rw [Zl w1.1 w2.1 w3.1 (by omega) (by omega)]
  obtain ⟨op,fa,fb,fc,n4⟩:=x
  obtain ⟨a,rfl⟩:=Int.eq_ofNat_of_zero_le w1.1
  obtain ⟨b,rfl⟩:=Int.eq_ofNat_of_zero_le w2.1
  obtain ⟨c,rfl⟩:=Int.eq_ofNat_of_zero_le w3.1
  simp only at w1 w2 w3 ⊢
  simp only [Int.toNat_natCast]
  have hop:=hx.op
  simp only at hop
  have hsz:∀ τ:Int,0≤jl t τ∧jl t τ≤6:=fun τ=>by
    by_cases hτ:0≤τ
    · obtain ⟨m,rfl⟩:=Int.eq_ofNat_of_zero_le hτ
      have:=Eu hr m
      unfold jl at this ⊢
      omega
    · unfold jl LY
      rw [if_neg (by simp only [decide_eq_false hτ,Bool.false_and,Bool.and_false];decide)]
      exact ⟨by decide,by decide⟩
  have loc:∀ a:Nat,0≤df t lo a→a < 8:=fun a h=>by have:=(Oo hlo h).1;omega
  have glb:∀ a:Nat,0≤df t gl a→a < 4:=fun a h=>by
    have:((a:Nat):Int) < gl.size:=by
      unfold df at h
      split at h
      · assumption
      · omega
    omega
  have obj:∀ (b:Nat),0≤df t lo b→s.p b ≠ 0→1≤s.p b∧s.p b≤s.bM.length∧((s.p b - 1).toNat < ty.length)∧ty.getD (s.p b - 1).toNat (-1)=df t lo b∧((rowOf s (s.p b)).length:Int)=jl t (df t lo b):=fun b hb hne=>by
    rcases hI.p b hb with h|⟨q1,q2,q3⟩
    · exact absurd h hne
    · have hl:=hI.len
      have hlt:(s.p b - 1).toNat < ty.length:=by omega
      have:=hI.size _ hlt
      rw [q3] at this
      exact ⟨q1,by omega,hlt,q3,this⟩
  obtain h|h|h|h|h|h|h|h|h|h|h|h|h|h|h:op=1 ∨ op=2 ∨ op=3 ∨ op=4 ∨ op=5 ∨ op=6 ∨ op=7 ∨ op=8 ∨ op=9 ∨ op=10 ∨ op=11 ∨ op=12 ∨ op=13 ∨ op=14 ∨ op=15:=by omega
  all_goals subst h
  · have q:=hx.one (.inl rfl)
    simp only at q
    rw [acx,if_pos (by omega)]
    exact ⟨_,_,rfl,.inl rfl,fun h=>absurd rfl h,⟨ty,hI.as rfl rfl rfl (by show s.out.length≤_;omega)⟩,fun _=>by show 0≤(bump s).pc∧(bump s).pc≤_;omega,rfl,(List.append_nil _).symm,rfl⟩
  · have q:=hx.add rfl
    simp only at q
    rw [acw,if_pos (by omega)]
    exact ⟨_,_,rfl,.inl rfl,fun h=>absurd rfl h,⟨ty,hI.as rfl rfl rfl (by show s.out.length≤_;omega)⟩,fun _=>by show 0≤(bump s).pc∧(bump s).pc≤_;omega,rfl,(List.append_nil _).symm,rfl⟩
  · have q:=hx.jump (.inl rfl)
    rw [acv]
    exact ⟨_,_,rfl,.inl rfl,fun h=>absurd rfl h,⟨ty,hI.as rfl rfl rfl (by show s.out.length≤_;omega)⟩,fun _=>q,rfl,(List.append_nil _).symm,rfl⟩
  · have q:=hx.jump (.inr rfl)
    have q1:=hx.one (.inr (.inl rfl))
    simp only at q1
    rw [acu,if_pos (by omega)]
    split
    · exact ⟨_,_,rfl,.inl rfl,fun h=>absurd rfl h,⟨ty,hI.as rfl rfl rfl (by show s.out.length≤_;omega)⟩,fun _=>q,rfl,(List.append_nil _).symm,rfl⟩
    · exact ⟨_,_,rfl,.inl rfl,fun h=>absurd rfl h,⟨ty,hI.as rfl rfl rfl (by show s.out.length≤_;omega)⟩,fun _=>by omega,rfl,(List.append_nil _).symm,rfl⟩
  · have q:=hx.new (.inl rfl)
    simp only at q
    have hs:=hsz (df t lo a)
    rw [acs,if_pos (loc a q),Yg,if_pos ⟨w1.1,w1.2⟩,Option.bind_some,if_pos (by omega)]
    exact ⟨_,_,rfl,.inl rfl,fun h=>absurd rfl h,⟨_,hI.new a _ rfl rfl hs.1 rfl rfl rfl⟩,fun _=>by show 0≤(bump s).pc∧(bump s).pc≤_;omega,rfl,(List.append_nil _).symm,List.length_append⟩
  · have q:=hx.new (.inr rfl)
    simp only at q
    rw [acr,if_pos (loc a q)]
    exact ⟨_,_,rfl,.inl rfl,fun h=>absurd rfl h,⟨ty,hI.Q5 a 0 rfl rfl rfl rfl (.inl rfl)⟩,fun _=>by show 0≤(bump s).pc∧(bump s).pc≤_;omega,rfl,(List.append_nil _).symm,rfl⟩
  · obtain ⟨q,q2⟩:=hx.move rfl
    simp only at q q2
    rw [acp,if_pos ⟨loc a q,loc b (q2 ▸ q)⟩]
    exact ⟨_,_,rfl,.inl rfl,fun h=>absurd rfl h,⟨ty,hI.Q5 a _ rfl rfl rfl rfl (q2 ▸ hI.p b (q2 ▸ q))⟩,fun _=>by show 0≤(bump s).pc∧(bump s).pc≤_;omega,rfl,(List.append_nil _).symm,rfl⟩
  · obtain ⟨q1,q2,q3,q4⟩:=hx.aaH rfl
    simp only at q1 q2 q3 q4
    rw [aco,if_pos ⟨by omega,loc b q2⟩]
    by_cases hz:s.p b=0
    · rw [if_pos hz]
      exact ⟨_,_,rfl,.inr rfl,fun _=>rfl,⟨ty,hI.as rfl rfl rfl (by show s.out.length≤_;omega)⟩,fun h=>absurd h (by decide),rfl,(List.append_nil _).symm,rfl⟩
    · obtain ⟨y1,y2,y3,y4,y5⟩:=obj b q2 hz
      rw [if_neg hz,if_pos ⟨y1,y2,q3,by omega⟩]
      exact ⟨_,_,rfl,.inl rfl,fun h=>absurd rfl h,⟨ty,hI.as rfl rfl rfl (by show s.out.length≤_;omega)⟩,fun _=>by show 0≤(bump s).pc∧(bump s).pc≤_;omega,rfl,(List.append_nil _).symm,rfl⟩
  · obtain ⟨q1,q2,q3,q4,q5⟩:=hx.Yi rfl
    simp only at q1 q2 q3 q4 q5
    obtain ⟨m,rfl⟩:=Int.eq_ofNat_of_zero_le q3
    rw [acn,if_pos ⟨loc a q2,by omega⟩]
    by_cases hz:s.p a=0
    · rw [if_pos hz]
      exact ⟨_,_,rfl,.inr rfl,fun _=>rfl,⟨ty,hI.as rfl rfl rfl (by show s.out.length≤_;omega)⟩,fun h=>absurd h (by decide),rfl,(List.append_nil _).symm,rfl⟩
    · obtain ⟨y1,y2,y3,y4,y5⟩:=obj a q2 hz
      rw [if_neg hz,if_pos ⟨y1,y2,q3,by omega⟩]
      exact ⟨_,_,rfl,.inl rfl,fun h=>absurd rfl h,⟨ty,hI.aav (s.p a - 1).toNat m _ y3 (by rw [y4];exact q4) rfl rfl rfl rfl (fun h=>by rw [y4] at h;omega)⟩,fun _=>by show 0≤(bump s).pc∧(bump s).pc≤_;omega,rfl,(List.append_nil _).symm,List.length_set⟩
  · obtain ⟨q1,q2,q3,q4,q5⟩:=hx.aaG rfl
    simp only at q1 q2 q3 q4 q5
    obtain ⟨m,rfl⟩:=Int.eq_ofNat_of_zero_le q3
    rw [Zk,if_pos ⟨loc a q1,loc b q2⟩]
    by_cases hz:s.p b=0
    · rw [if_pos hz]
      exact ⟨_,_,rfl,.inr rfl,fun _=>rfl,⟨ty,hI.as rfl rfl rfl (by show s.out.length≤_;omega)⟩,fun h=>absurd h (by decide),rfl,(List.append_nil _).symm,rfl⟩
    · obtain ⟨y1,y2,y3,y4,y5⟩:=obj b q2 hz
      rw [if_neg hz,if_pos ⟨y1,y2,q3,by omega⟩]
      have hv:=hI.obj (s.p b - 1).toNat m y3 (by rw [y4];omega)
      rw [y4,← q5] at hv
      exact ⟨_,_,rfl,.inl rfl,fun h=>absurd rfl h,⟨ty,hI.Q5 a _ rfl rfl rfl rfl hv⟩,fun _=>by show 0≤(bump s).pc∧(bump s).pc≤_;omega,rfl,(List.append_nil _).symm,rfl⟩
  · obtain ⟨q1,q2,q3,q4,q5⟩:=hx.Yh rfl
    simp only at q1 q2 q3 q4 q5
    obtain ⟨m,rfl⟩:=Int.eq_ofNat_of_zero_le q3
    rw [Zj,if_pos ⟨loc a q2,loc b q1⟩]
    by_cases hz:s.p a=0
    · rw [if_pos hz]
      exact ⟨_,_,rfl,.inr rfl,fun _=>rfl,⟨ty,hI.as rfl rfl rfl (by show s.out.length≤_;omega)⟩,fun h=>absurd h (by decide),rfl,(List.append_nil _).symm,rfl⟩
    · obtain ⟨y1,y2,y3,y4,y5⟩:=obj a q2 hz
      rw [if_neg hz,if_pos ⟨y1,y2,q3,by omega⟩]
      exact ⟨_,_,rfl,.inl rfl,fun h=>absurd rfl h,⟨ty,hI.aav (s.p a - 1).toNat m _ y3 (by rw [y4];exact q4) rfl rfl rfl rfl (fun _=>by rw [y4,← q5];exact hI.p b q1)⟩,fun _=>by show 0≤(bump s).pc∧(bump s).pc≤_;omega,rfl,(List.append_nil _).symm,List.length_set⟩
  · obtain ⟨q1,q2⟩:=hx.aaI rfl
    simp only at q1 q2
    rw [Zi,if_pos ⟨loc a q1,glb b (q2 ▸ q1)⟩]
    exact ⟨_,_,rfl,.inl rfl,fun h=>absurd rfl h,⟨ty,hI.Q5 a _ rfl rfl rfl rfl (q2 ▸ hI.g b (q2 ▸ q1))⟩,fun _=>by show 0≤(bump s).pc∧(bump s).pc≤_;omega,rfl,(List.append_nil _).symm,rfl⟩
  · obtain ⟨q1,q2⟩:=hx.Yj rfl
    simp only at q1 q2
    rw [Zh,if_pos ⟨glb a (q2 ▸ q1),loc b q1⟩]
    exact ⟨_,_,rfl,.inl rfl,fun h=>absurd rfl h,⟨ty,hI.akj a _ rfl rfl rfl rfl (q2 ▸ hI.p b q1)⟩,fun _=>by show 0≤(bump s).pc∧(bump s).pc≤_;omega,rfl,(List.append_nil _).symm,rfl⟩
  · have q:=hx.one (.inr (.inr rfl))
    simp only at q
    rw [Zg,if_pos (by omega)]
    exact ⟨_,_,rfl,.inl rfl,fun h=>absurd rfl h,⟨ty,hI.as rfl rfl rfl (by show (s.out++[s.x a]).length≤_;simp;omega)⟩,fun _=>by show 0≤(bump s).pc∧(bump s).pc≤_;omega,rfl,rfl,rfl⟩
  · obtain ⟨q1,q2,q3⟩:=hx.same rfl
    simp only at q1 q2 q3
    rw [Zf,if_pos ⟨by omega,loc b q2,loc c (q3 ▸ q2)⟩]
    exact ⟨_,_,rfl,.inl rfl,fun h=>absurd rfl h,⟨ty,hI.as rfl rfl rfl (by show s.out.length≤_;omega)⟩,fun _=>by show 0≤(bump s).pc∧(bump s).pc≤_;omega,rfl,(List.append_nil _).symm,rfl⟩
end Go.Proofs.YtlemecdddhdagaaDoor.P
end
section
namespace Go.Proofs.YtlemecdddhdagaaDoor.P
open Go.RowKit Go.Proofs.ag.bI Go.Proofs.ag.dM Go.Proofs.ag.dZ
structure Ok (t:List ByteArray) (lo gl:ByteArray) (code:List gZ):Prop where
  right:jw t=true
  lo8:lo.size≤8
  gl4:gl.size≤4
  len:1≤code.length∧code.length≤200
  fine:∀ j:Nat,j < code.length→Fine t lo gl code.length (code.getD j z55)
  wf:Wf code
theorem aaC {t:List ByteArray} {lo gl:ByteArray} {code:List gZ} (h:(oL t lo gl code).2=0) (hw:Wf code):Ok t lo gl code:=by
  obtain ⟨h1,h2,h3⟩:=(Cm t lo gl code).1 h
  obtain ⟨q1,q2,q3,q4,q5⟩:=yh h1
  exact ⟨q1,q4,q5,h2,fun j hj=>Wp (h3 j hj),hw⟩
section
variable {t:List ByteArray} {lo gl:ByteArray} {code:List gZ}
theorem Ok.step (h:Ok t lo gl code) {n:Nat} {s:St} {ty:List Int} (hI:Inv t lo gl n s ty) (hn:n≤1000000) (h0:0≤s.pc) (h1:s.pc < code.length) :
    ∃ s' e,Ns (Yg t lo) s (aA code s.pc)=some (s',e)∧Next t lo gl code.length n (aA code s.pc) s s' e:=by
  have hw:=h.wf s.pc.toNat
  exact step_ok h.right h.lo8 h.gl4 (h.fine s.pc.toNat (by omega)) hw.1 hw.2.1 hw.2.2 hI hn h.len.2 h0 h1
theorem aau (ht:t.length≤9223372036854775807):∃ K,∀ k,K≤k→∀ a,dN (Yg t lo a) (NL k t lo gl code a):=by
  have one:∀ a:Nat,a < 256→∃ K,∀ k,K≤k→NL k t lo gl code a=some (jl t (df t lo a)):=fun a ha =>
    Ev.bind (yO t lo gl code a ht (by omega) (by omega)) (NQ t _ ht)
  have many:∀ m:Nat,m≤256→∃ K,∀ k,K≤k→∀ a:Nat,a < m→NL k t lo gl code a=some (jl t (df t lo a)):=fun m=>by
    induction m with
    | zero=>exact fun _=>⟨0,fun _ _ a ha=>absurd ha (Nat.not_lt_zero a)⟩
    | succ m ih =>
      intro hm
      obtain ⟨K1,h1⟩:=ih (by omega)
      obtain ⟨K2,h2⟩:=one m (by omega)
      refine ⟨max K1 K2,fun k hk a ha=>?_⟩
      by_cases ham:a=m
      · rw [ham]
        exact h2 k (by omega)
      · exact h1 k (by omega) a (by omega)
  obtain ⟨K,hK⟩:=many 256 (Nat.le_refl _)
  refine ⟨K,fun k hk a r hr=>?_⟩
  unfold Yg at hr
  split at hr
  · rename_i ha
    obtain ⟨b,rfl⟩:=Int.eq_ofNat_of_zero_le ha.1
    rw [hK k hk b (by omega)]
    exact hr
  · cases hr
end
end Go.Proofs.YtlemecdddhdagaaDoor.P
end
section
namespace Go.Proofs.YtlemecdddhdagaaDoor.P
open Go.RowKit Go.Proofs.ag.bI Go.Proofs.ag.dM Go.Proofs.ag.dZ
attribute [local go_sem ↓] Go.wp_at_zero Go.wp_at_succ
def Form (v:Value) (n:Nat):Prop:=(v=.slice none 0 0∧n=0) ∨ ∃ ad c,v=.slice (some ad) n c
theorem H5 {α:Type} {d:Kd α} {e base:Nat} {ok:Nat→Prop} {w:World} {v:Value} {xs:List α} (h:d.R e w base ok v xs):Form v xs.length:=by
  obtain ⟨inner,ho⟩:=Kd.FW h
  rcases ho.2 with ⟨hv,h0⟩|⟨g,cap',cur,hv,_⟩
  · exact .inl ⟨hv,h0⟩
  · exact .inr ⟨_,_,hv⟩
theorem KZ {α:Type} (d:Kd α) (e:Nat) (W:World) (base:Nat) (ok:Nat→Prop) (hbase:base≤W.heap.size) (hok:ok W.heap.size):d.R e (W.alloc (.cells #[] e)) base ok (.slice (some ⟨W.heap.size,0,none⟩) 0 0) []:=by
  refine ⟨fun k hk=>?_,[],?_,⟨by simp,fun j p h=>by simp at h⟩⟩
  · have:W.heap.size=k:=by simpa [Value.ownBlock] using hk
    exact this ▸ hok
  · have:=World.ownsRow_lit (base:=base) (e:=e) (size:=d.sz) W #[] 0 hbase (by decide) (by simp)
    simpa using this
set_option maxRecDepth 100000 in
set_option maxHeartbeats 3200000 in
theorem Cj (v:Value) (xs:List Int) (hF:Form v xs.length) (w:World) (hC:∀ A n c,v=.slice A n c→Kd.C (Kd.int .i64) w A xs.length xs) (hl:xs.length≤1000000) :
    Calls Tryd.prog 39 #[v] w fun e w'=>∃ v',e=.returned v'∧Kd.R (Kd.int .i64) 2 w' w.heap.size (fun _=>True) v' xs∧Below w.heap.size w w':=by
  rcases hF with ⟨rfl,h0⟩|⟨ad,c,rfl⟩
  · obtain rfl:xs=[]:=List.length_eq_zero_iff.1 h0
    clear hC
    have qn:∀ (w:World) (a:Option Addr) (n c n' c':Nat),(binOp .eql 28 (.slice a n c) (.slice none n' c')).run Tryd.prog w=.ok (.bool a.isNone) w:=fun w a n c n' c'=>Lib.run_eql_slice_nil w _ _ a n c n' c' Tryd.underlying28
    go_enter Tryd.func39,Tryd.ntmps39
    go_wp2
    go_ret
    exact ⟨_,rfl,Kd.yx _ _ _ _ _,Below.refl _ _⟩
  · have HC:=ae.mk (Kd.bT (hC _ _ _ rfl) (.cells #[] 2))
    clear hC
    have HO:=ae.mk (KZ (Kd.int .i64) 2 w w.heap.size (fun _=>True) (Nat.le_refl _) trivial)
    have HB:=ae.mk ((Below.refl w.heap.size w).alloc (Nat.le_refl _) (.cells #[] 2))
    have qn:∀ (w:World) (a:Option Addr) (n c n' c':Nat),(binOp .eql 28 (.slice a n c) (.slice none n' c')).run Tryd.prog w=.ok (.bool a.isNone) w:=fun w a n c n' c'=>Lib.run_eql_slice_nil w _ _ a n c n' c' Tryd.underlying28
    go_enter Tryd.func39,Tryd.ntmps39
    go_wp2_with (first|((with_reducible refine xg (b:=.append) (xs:=#[.tmp 5,.tmp 6]) rfl ?_);at_builtin;refine Kd.vY (Kd.int .i64) (w0:=w) w.heap.size rfl (.tmp 5) (.tmp 6) 28 2 (.int .i64 0) 8 rfl Tryd.underlying28 Oy rfl (by decide) (by omega) _ [] xs _ _ _ (fun _=>True) (fun _=>False) rfl rfl HO.out HC.out (fun _ _ h=>h) (fun _ h=>h.elim) (fun _ _=>trivial) HB.out (by simp) (by simp;omega) ?_;intro v1 w1 hR1 hB1 hg1 E5;replace hR1:=Go.Lib.hid hR1;replace hB1:=Lib.hid hB1;clear hg1 E5))
    go_ret
    exact ⟨_,rfl,hR1.out,hB1.out⟩
abbrev Hd:=Option Addr × Nat × Nat
def qR (h:Hd):Value:=.slice h.1 h.2.1 h.2.2
abbrev kH:Kd Hd:=Kd.scalar qR (fun _=>rfl)
def toH:Value→Hd
  | .slice A n c=>(A,n,c)
  | _=>(none,0,0)
theorem aaw {inner:List Value} {j:Nat} (hj:j < inner.length):(inner.drop (j * 1)).take 1=[inner[j]]:=by
  rw [Nat.mul_one,List.drop_eq_getElem_cons hj]
  rfl
theorem OY {base:Nat} {ok:Nat→Prop} {w:World} {v:Value} {xs:List (List Int)} (h:wG.R 28 w base ok v xs) :
    ∃ hs:List Hd,hs.length=xs.length∧kH.R 28 w base ok v hs∧∀ j (hj:j < xs.length),∃ h,hs[j]? = some h∧Form (qR h) (xs[j]).length∧Kd.R (Kd.int .i64) 2 w base (fun k=>ok k∧some k ≠ v.ownBlock) (qR h) xs[j]:=by
  obtain ⟨h0,inner,ho,hr⟩:=h
  have hlen:inner.length=xs.length:=by have:=hr.1;rw [this];exact Nat.mul_one _
  have each:∀ j (hj:j < xs.length),∃ (hi:j < inner.length),Kd.R (Kd.int .i64) 2 w base (fun k=>ok k∧some k ≠ v.ownBlock) inner[j] xs[j]:=fun j hj=>by
    have hi:j < inner.length:=by omega
    have q:=hr.2 j xs[j] (List.getElem?_eq_getElem hj)
    rw [show wG.sz=1 from rfl,aaw hi] at q
    obtain ⟨u,hu,hR⟩:=q
    have:inner[j]=u:=by injection hu
    exact ⟨hi,this ▸ hR⟩
  have back:∀ j (hi:j < inner.length),qR (toH inner[j])=inner[j]:=fun j hi=>by
    obtain ⟨_,hR⟩:=each j (by omega)
    obtain ⟨A,c,e⟩:=Kd.jr hR
    rw [e]
    rfl
  have hin:(inner.map toH).map qR=inner:=by
    refine List.ext_getElem (by simp) fun j h1 h2=>?_
    simp only [List.getElem_map]
    exact back j h2
  refine ⟨inner.map toH,by simp [hlen],⟨h0,inner,by rw [List.length_map,hlen];exact ho,⟨by rw [List.length_map];exact (Nat.mul_one _).symm,fun j p hj=>?_⟩⟩,fun j hj=>?_⟩
  · rw [List.getElem?_map] at hj
    obtain ⟨u,hu,rfl⟩:=Option.map_eq_some_iff.1 hj
    obtain ⟨hi,rfl⟩:=List.getElem?_eq_some_iff.1 hu
    show (inner.drop (j * 1)).take 1=[qR (toH inner[j])]
    rw [aaw hi,back j hi]
  · obtain ⟨hi,hR⟩:=each j hj
    refine ⟨toH inner[j],by rw [List.getElem?_map,List.getElem?_eq_getElem hi];rfl,?_,?_⟩
    · rw [back j hi]
      exact H5 hR
    · rw [back j hi]
      exact hR
theorem Q7 {base:Nat} {ok:Nat→Prop} {w:World} {v:Value} {xs:List (List Int)} {hs:List Hd} (h:kH.R 28 w base ok v hs) (hl:hs.length=xs.length) (L:Nat→Nat) (hL:∀ j,L j≤L (j+1)) (hv:∀ k,v.ownBlock=some k→k < L 0) (hok:∀ k,L 0≤k→ok k)
    (each:∀ j (hj:j < xs.length),∃ h,hs[j]? = some h∧Kd.R (Kd.int .i64) 2 w base (fun k=>L j≤k∧k < L (j+1)) (qR h) xs[j]):Kd.S wG 28 w base ok v xs:=by
  obtain ⟨h0,inner,ho,hr⟩:=h
  have mono:∀ i j,i≤j→L i≤L j:=fun i j hij=>by
    induction hij with
    | refl=>exact Nat.le_refl _
    | step _ ih=>exact Nat.le_trans ih (hL _)
  have hlen:inner.length=xs.length:=by have:=hr.1;rw [this,hl];exact Nat.mul_one _
  obtain ⟨f,hf⟩:=Kd.N8 (d:=wG) (w:=w) (base:=base) (ok:=fun k=>ok k∧some k ≠ v.ownBlock) (xs:=xs) (inner:=inner) (fun j k=>L j≤k∧k < L (j+1)) (fun i j k h1 h2=>by
      rcases Nat.lt_trichotomy i j with h|h|h
      · have:=mono (i+1) j h
        omega
      · exact h
      · have:=mono (j+1) i h
        omega) (fun j k hk=>⟨hok k (Nat.le_trans (mono 0 j (Nat.zero_le _)) hk.1),fun he=>by have:=hv k he.symm;have:=mono 0 j (Nat.zero_le _);omega⟩) (by rw [hlen];exact (Nat.mul_one _).symm) (fun j x hx=>by
      obtain ⟨hj,rfl⟩:=List.getElem?_eq_some_iff.1 hx
      obtain ⟨h,hh,hR⟩:=each j hj
      have q:=hr.2 j h hh
      exact ⟨qR h,q,hR⟩)
  exact ⟨f,h0,inner,by rw [List.length_zipIdx,← hl];exact ho,hf⟩
theorem RI:(Tryd.prog.info? 28).map (fun i=>(i.zero,i.size,i.bytes))=some (some (.slice none 0 0),kH.sz,24):=by kernel_rfl
set_option maxRecDepth 100000 in
set_option maxHeartbeats 3200000 in
theorem FB (v:Value) (xs:List Hd) (hF:Form v xs.length) (w:World) (hC:∀ A n c,v=.slice A n c→Kd.C kH w A xs.length xs) (hl:xs.length≤1000000) :
    Calls Tryd.prog 40 #[v] w fun e w'=>∃ v',e=.returned v'∧Kd.R kH 28 w' w.heap.size (fun _=>True) v' xs∧Below w.heap.size w w':=by
  rcases hF with ⟨rfl,h0⟩|⟨ad,c,rfl⟩
  · obtain rfl:xs=[]:=List.length_eq_zero_iff.1 h0
    clear hC
    have qn:∀ (w:World) (a:Option Addr) (n c n' c':Nat),(binOp .eql 37 (.slice a n c) (.slice none n' c')).run Tryd.prog w=.ok (.bool a.isNone) w:=fun w a n c n' c'=>Lib.run_eql_slice_nil w _ _ a n c n' c' Tryd.underlying37
    go_enter Tryd.func40,Tryd.ntmps40
    go_wp2
    go_ret
    exact ⟨_,rfl,Kd.yx _ _ _ _ _,Below.refl _ _⟩
  · have HC:=ae.mk (Kd.bT (hC _ _ _ rfl) (.cells #[] 28))
    clear hC
    have HO:=ae.mk (KZ kH 28 w w.heap.size (fun _=>True) (Nat.le_refl _) trivial)
    have HB:=ae.mk ((Below.refl w.heap.size w).alloc (Nat.le_refl _) (.cells #[] 28))
    have qn:∀ (w:World) (a:Option Addr) (n c n' c':Nat),(binOp .eql 37 (.slice a n c) (.slice none n' c')).run Tryd.prog w=.ok (.bool a.isNone) w:=fun w a n c n' c'=>Lib.run_eql_slice_nil w _ _ a n c n' c' Tryd.underlying37
    go_enter Tryd.func40,Tryd.ntmps40
    go_wp2_with (first|((with_reducible refine xg (b:=.append) (xs:=#[.tmp 5,.tmp 6]) rfl ?_);at_builtin;refine Kd.vY kH (w0:=w) w.heap.size rfl (.tmp 5) (.tmp 6) 37 28 (.slice none 0 0) 24 rfl Tryd.underlying37 RI rfl (by decide) (by omega) _ [] xs _ _ _ (fun _=>True) (fun _=>False) rfl rfl HO.out HC.out (fun _ _ h=>h) (fun _ h=>h.elim) (fun _ _=>trivial) HB.out (by simp) (by simp;omega) ?_;intro v1 w1 hR1 hB1 hg1 E5;replace hR1:=Go.Lib.hid hR1;replace hB1:=Lib.hid hB1;clear hg1 E5))
    go_ret
    exact ⟨_,rfl,hR1.out,hB1.out⟩
end Go.Proofs.YtlemecdddhdagaaDoor.P
end
section
namespace Go.Proofs.YtlemecdddhdagaaDoor.P
open Go.RowKit Go.Proofs.ag.bI Go.Proofs.ag.dM Go.Proofs.ag.dZ
attribute [local go_sem ↓] Go.wp_at_zero Go.wp_at_succ
structure oh (base:Nat) (s:St) (vO vU:Value) (w:World):Prop where
  bM:Kd.S wG 28 w base (fun k=>some k ≠ vU.ownBlock) vO s.bM
  out:Kd.R (Kd.int .i64) 2 w base (fun _=>True) vU s.out
structure OL (G B1 B2:Nat) (s:St) (vO vU:Value) (hs0:List Hd) (i:Nat) (hs:List Hd) (L:Nat→Nat) (w wr:World):Prop where
  st:kF G s vO vU wr
  row:kH.R 28 wr B1 (fun k=>k < B2) vO hs
  len:hs.length=s.bM.length
  out:Kd.R (Kd.int .i64) 2 wr G (fun k=>G < k∧k < B1) vU s.out
  ord:G < B1∧B1≤B2
  L0:L 0=B2
  up:∀ j,L j≤L (j+1)
  top:L i≤wr.heap.size
  mine:∀ j (hj:j < s.bM.length),j < i→∃ h,hs[j]? = some h∧Kd.R (Kd.int .i64) 2 wr G (fun k=>L j≤k∧k < L (j+1)) (qR h) s.bM[j]
  todo:∀ j,i≤j→hs[j]? = hs0[j]?
  below:Below G w wr
section
variable {G B1 B2:Nat} {s:St} {vO vU:Value} {hs0:List Hd} {i:Nat} {hs:List Hd} {L:Nat→Nat} {w wr w3:World}
theorem OL.move (h:OL G B1 B2 s vO vU hs0 i hs L w wr) (hb:Below wr.heap.size wr w3):OL G B1 B2 s vO vU hs0 i hs L w w3:=by
  have hG:=h.st.lt
  refine ⟨h.st.of_block (hb.block G hG),Kd.lC h.row (fun k _ hk=>hb.block k hk),h.len,Kd.lC h.out (fun k _ hk=>hb.block k hk),h.ord,h.L0,h.up,Nat.le_trans h.top hb.size,fun j hj hji=>?_,h.todo,h.below.trans (hb.mono (by omega))⟩
  obtain ⟨q,q1,q2⟩:=h.mine j hj hji
  exact ⟨q,q1,Kd.lC q2 (fun k _ hk=>hb.block k hk)⟩
theorem yM {L:Nat→Nat} (up:∀ j,L j≤L (j+1)):∀ i j,i≤j→L i≤L j:=fun i j hij=>by
  induction hij with
  | refl=>exact Nat.le_refl _
  | step _ ih=>exact Nat.le_trans ih (up _)
theorem OL.next {g cO:Nat} (h:OL G B1 B2 s (.slice (some ⟨g,0,none⟩) s.bM.length cO) vU hs0 i hs L w wr) (hi:i < s.bM.length) (hb:Below wr.heap.size wr w3) (h':Hd) (hv:Kd.R (Kd.int .i64) 2 w3 wr.heap.size (fun _=>True) (qR h') s.bM[i]) :
    OL G B1 B2 s (.slice (some ⟨g,0,none⟩) s.bM.length cO) vU hs0 (i+1) (hs.set i h') (fun j=>if j≤i then L j else w3.heap.size) w (w3.setCell ⟨g,i,none⟩ (qR h')):=by
  have h3:=h.move hb
  obtain ⟨hG1,hB⟩:=h.ord
  have hgB:B1≤g∧g < B2:=⟨Kd.AL h.row g (by simp [Value.ownBlock]),h.row.1 g (by simp [Value.ownBlock])⟩
  have hLi:B2≤L i:=h.L0 ▸ yM h.up 0 i (Nat.zero_le _)
  have far:∀ k,k ≠ g→(w3.setCell ⟨g,i,none⟩ (qR h')).heap[k]? = w3.heap[k]?:=fun k hk=>Below.heap_setCell w3 ⟨g,i,none⟩ _ k hk
  have hput:=Kd.ZJ (h1:=fun _=>rfl) h3.row (i:Int) h'
  rw [Int.toNat_natCast] at hput
  have hsz:=hb.size
  refine ⟨h3.st.of_block (far G (by omega)),hput,by rw [List.length_set];exact h.len,Kd.lC h3.out (fun k hk _=>far k (by omega)),h.ord,by show (if 0≤i then L 0 else _)=_;rw [if_pos (Nat.zero_le _)];exact h.L0,fun j=>?_,?_,fun j hj hji=>?_,fun j hj=>?_,h3.below.setCell (p:=⟨g,i,none⟩) (by show G≤g;omega) _⟩
  · show (if j≤i then L j else _)≤if j+1≤i then L (j+1) else _
    have ht:=h.top
    have hm:=h.up j
    by_cases h1:j+1≤i
    · rw [if_pos (by omega),if_pos h1]
      exact hm
    · by_cases h2:j≤i
      · rw [if_pos h2,if_neg h1]
        have:=yM h.up j i h2
        omega
      · rw [if_neg h2,if_neg h1]
        exact Nat.le_refl _
  · show (if i+1≤i then _ else w3.heap.size)≤_
    rw [if_neg (by omega)]
    simp [World.setCell]
  · by_cases aku:j < i
    · obtain ⟨q,q1,q2⟩:=h3.mine j hj aku
      refine ⟨q,by rw [List.getElem?_set_ne (by omega)];exact q1,?_⟩
      have hLj:B2≤L j:=h.L0 ▸ yM h.up 0 j (Nat.zero_le _)
      refine Kd.jO (Kd.lC q2 (fun k hk _=>far k (by omega))) (fun k hk=>?_)
      show (if j≤i then L j else _)≤k∧k < if j+1≤i then L (j+1) else _
      rw [if_pos (by omega),if_pos (by omega)]
      exact hk
    · obtain rfl:j=i:=by omega
      refine ⟨h',List.getElem?_set_self (by rw [h.len];exact hj),?_⟩
      have ht:=h.top
      have hv2:=Kd.lC (w1:=w3.setCell ⟨g,j,none⟩ (qR h')) (Kd.mQ hv) (fun k hk _=>far k (by have:=hk.2.1;omega))
      refine Kd.jh (Kd.jO hv2 (fun k hk=>?_)) (by have:=h.st.lt;omega)
      show (if j≤j then L j else _)≤k∧k < if j+1≤j then L (j+1) else _
      rw [if_pos (Nat.le_refl _),if_neg (by omega)]
      exact ⟨by have:=hk.2.1;omega,hk.2.2.1⟩
  · rw [List.getElem?_set_ne (by omega)]
    exact h.todo j (by omega)
theorem OL.done (h:OL G B1 B2 s vO vU hs0 s.bM.length hs L w wr):oh G s vO vU wr:=by
  refine ⟨?_,Kd.jO h.out (fun _ _=>trivial)⟩
  have hord:=h.ord
  refine Q7 (Kd.jh (Kd.jO (Kd.mQ h.row) (ok':=fun k=>some k ≠ vU.ownBlock) (fun k hk he=>by have:=h.out.1 k he.symm;have:=hk.2.1;omega)) (by omega)) h.len L h.up (fun k hk=>?_) (fun k hk he=>?_) (fun j hj=>h.mine j hj hj)
  · have:=h.row.1 k hk
    rw [h.L0]
    exact this
  · have:=h.out.1 k he.symm
    have:=h.L0
    omega
end
end Go.Proofs.YtlemecdddhdagaaDoor.P
end
section
namespace Go.Proofs.YtlemecdddhdagaaDoor.P
open Go.RowKit Go.Proofs.ag.bI Go.Proofs.ag.dM Go.Proofs.ag.dZ
attribute [local go_sem ↓] Go.wp_at_zero Go.wp_at_succ
structure Small (s:St):Prop where
  bM:s.bM.length≤1000000
  out:s.out.length≤1000000
  each:∀ j (hj:j < s.bM.length),(s.bM[j]).length≤1000000
theorem II {i:Nat} (h:i≤1000000):wrap64 ((i:Int)+1)=((i+1:Nat):Int):=by
  unfold wrap64
  omega
theorem kX {w:World} {g t:Nat} {old:Array Value} (hg:w.heap[g]? = some (.cells old t (0,0))) (cs:Array Value):(w.setRow g cs).heap[g]? = some (.cells cs t (0,0)):=by
  simp [World.setRow,Array.getElem?_modify,hg]
theorem sN {w:World} {g:Nat} (cs:Array Value) (k:Nat) (hk:k ≠ g):(w.setRow g cs).heap[k]? = w.heap[k]?:=by
  simp only [World.setRow,Array.getElem?_modify]
  rw [if_neg (by omega)]
theorem jq {B g:Nat} {w0 w:World} (hb:Below B w0 w) (hBg:B≤g) (cs:Array Value):Below B w0 (w.setRow g cs) :=
  hb.trans ⟨rfl,rfl,rfl,by simp [World.setRow],fun k hk=>sN cs k (by omega)⟩
theorem oh.setRow {base g:Nat} {s:St} {vO vU:Value} {w:World} {old:Array Value} (h:oh base s vO vU w) (hg:w.heap[g]? = some (.cells old 39 (0,0))) (cs:Array Value):oh base s vO vU (w.setRow g cs):=by
  refine ⟨Kd.xQ (Kd.AA (Kd.KU h.bM hg (by intro q hq;simp [Kd.slice,Kd.int,Kd.scalar] at hq;omega)) (fun k hk _=>sN cs k hk.2)) (fun k hk=>hk.1),Kd.jO (Kd.lC (Kd.tH h.out hg (by intro q hq;simp [Kd.int,Kd.scalar] at hq;omega)) (fun k hk _=>sN cs k hk.2)) (fun k hk=>trivial)⟩
set_option maxRecDepth 100000 in
set_option maxHeartbeats 3200000 in
theorem qE (s:St) (vO vU:Value) (bO bU:Nat) (okO Ru:Nat→Prop) (w:World) (hS:Kd.S wG 28 w bO okO vO s.bM) (hU:Kd.R (Kd.int .i64) 2 w bU Ru vU s.out) (hsm:Small s) :
    Calls Tryd.prog 23 #[.agg (cellsS s vO vU)] w fun e w'=>∃ qI qH,e=.returned (.agg (cellsS s qI qH))∧oh w.heap.size s qI qH w'∧Below w.heap.size w w':=by
  obtain ⟨hs0,hl0,hH0,hE0⟩:=OY (Kd.WJ hS)
  obtain ⟨G,hG⟩:∃ G,w.heap.size=G:=⟨_,rfl⟩
  obtain ⟨wa,hwa⟩:∃ wa,(w.alloc (.cells (cellsS s vO vU) 39)).alloc (.cells #[.int .i64 0,.int .i64 0,.int .i64 0,.int .i64 0,.int .i64 0,.int .i64 0,.int .i64 0,.int .i64 0,.int .i64 0,.int .i64 0,.int .i64 0,.int .i64 0,.int .i64 0,.int .i64 0,.int .i64 0,.int .i64 0,.int .i64 0,.int .i64 0,.int .i64 0,.int .i64 0,.slice none 0 0,.slice none 0 0,.int .i64 0,.int .i64 0] 39)=wa:=⟨_,rfl⟩
  have hBa:Below w.heap.size w wa:=by rw [← hwa];exact ((Below.refl _ w).alloc (Nat.le_refl _) _).alloc (by simp) _
  have hsa:wa.heap.size=G+2:=by rw [← hwa,← hG];simp
  have hst:kF G s vO vU wa:=⟨by
    rw [← hwa,← hG]
    rw [Below.heap_alloc _ _ _ (by simp)]
    exact heap_alloc_new w _⟩
  have hret:wa.heap[G+1]? = some (.cells #[.int .i64 0,.int .i64 0,.int .i64 0,.int .i64 0,.int .i64 0,.int .i64 0,.int .i64 0,.int .i64 0,.int .i64 0,.int .i64 0,.int .i64 0,.int .i64 0,.int .i64 0,.int .i64 0,.int .i64 0,.int .i64 0,.int .i64 0,.int .i64 0,.int .i64 0,.int .i64 0,.slice none 0 0,.slice none 0 0,.int .i64 0,.int .i64 0] 39 (0,0)):=by
    have:=heap_alloc_new (w.alloc (.cells (cellsS s vO vU) 39)) (.cells #[.int .i64 0,.int .i64 0,.int .i64 0,.int .i64 0,.int .i64 0,.int .i64 0,.int .i64 0,.int .i64 0,.int .i64 0,.int .i64 0,.int .i64 0,.int .i64 0,.int .i64 0,.int .i64 0,.int .i64 0,.int .i64 0,.int .i64 0,.int .i64 0,.int .i64 0,.int .i64 0,.slice none 0 0,.slice none 0 0,.int .i64 0,.int .i64 0] 39)
    rw [hwa] at this
    rw [← hG]
    simpa using this
  have HS:=ae.mk hst
  have HR:=ae.mk hret
  have HB:=ae.mk hBa
  have c21:wa.cell? ⟨G,21,none⟩=some vU:=hst.cell 21
  have f21:wa.frozen? ⟨G,21,none⟩=false:=hst.fr 21
  have HU:=ae.mk (Kd.ja hU hBa)
  have HH:=ae.mk hH0
  have HE:=ae.mk hE0
  have hFU:=H5 hU
  have hFO:=H5 hH0
  rw [hl0] at hFO
  clear hst hret hBa hU hS hH0 hE0
  go_enter Tryd.func23,Tryd.ntmps23
  go_upto_region 999 with (fail)
  refine (Cj vU s.out hFU wa (fun A n c e=>by subst e;exact (Kd.eG HU.out).2.2) hsm.out).mono ?_
  rintro e w1 ⟨NF,rfl,hU1,hB1⟩
  have HU1:=Lib.hid hU1
  have HB1:=Lib.hid hB1
  have g21:w1.frozen? ⟨G,21,none⟩=false:=(hB1.frozen (p:=⟨G,21,none⟩) (by show G < _;omega)).trans f21
  have apa:w1.cell? ⟨G,21,none⟩=some vU:=(hB1.cell (p:=⟨G,21,none⟩) (by show G < _;omega)).trans c21
  obtain ⟨AU,cU,rfl⟩:=Kd.jr hU1
  have Nv:=ae.mk ((HS.out.of_block (hB1.block G (by omega))).IW (.slice AU s.out.length cU) s.out)
  obtain ⟨w2,hw2⟩:∃ w2,w1.setCell ⟨G,21,none⟩ (.slice AU s.out.length cU)=w2:=⟨_,rfl⟩
  have c20:w2.cell? ⟨G,20,none⟩=some vO:=by rw [← hw2];exact Nv.out.cell 20
  have f20:w2.frozen? ⟨G,20,none⟩=false:=by rw [← hw2];exact Nv.out.fr 20
  clear hU1 hB1 HU f21 c21
  have hs2':wa.heap.size≤w2.heap.size:=by have:=HB1.out.size;rw [← hw2];simpa [World.setCell] using this
  go_upto_region 999 with (fail)
  have akW:Below G w w2:=by
    rw [← hw2]
    have q:=HB.out.trans (HB1.out.mono (show w.heap.size≤wa.heap.size by omega))
    rw [hG] at q
    exact q.setCell (p:=⟨G,21,none⟩) (Nat.le_refl _) _
  have hs2:wa.heap.size≤w2.heap.size:=by
    have:=HB1.out.size
    rw [← hw2]
    simpa [World.setCell] using this
  have HU2:=ae.mk (show Kd.R (Kd.int .i64) 2 w2 G (fun k=>G < k∧k < w2.heap.size) (.slice AU s.out.length cU) s.out from by
    rw [← hw2]
    refine Kd.jh (Kd.jO (Kd.lC (Kd.mQ HU1.out) (fun k hk _=>Below.heap_setCell w1 ⟨G,21,none⟩ _ k (by have:=hk.2.1;intro he;simp only at he;omega))) (fun k hk=>⟨by have:=hk.2.1;omega,by have:=hk.2.2.1;simpa [World.setCell] using this⟩)) (by omega))
  have HS2:=ae.mk (show kF G s vO (.slice AU s.out.length cU) w2 from by rw [← hw2];exact Nv.out)
  have HR2:=ae.mk (show w2.heap[G+1]? = wa.heap[G+1]? from by rw [← hw2];exact (Below.heap_setCell w1 ⟨G,21,none⟩ _ (G+1) (by show G+1 ≠ G;omega)).trans (HB1.out.block (G+1) (by omega)))
  have HHw:=Lib.hid akW
  have HCO:=Lib.hid (show ∀ A n c,vO=.slice A n c→Kd.C kH w A hs0.length hs0 from fun A n c e=>by subst e;exact (Kd.eG HH.out).2.2)
  rw [← hl0] at hFO
  refine (FB vO hs0 hFO w2 (fun A n c e=>Kd.bK (HCO.out A n c e) (by rw [hG];exact HHw.out)) (by have:=hsm.bM;omega)).mono ?_
  rintro e w3 ⟨NG,rfl,hO3,hB3⟩
  obtain ⟨AO,cO,e3⟩:=Kd.jr hO3
  rw [hl0] at e3
  subst e3
  have g20:w3.frozen? ⟨G,20,none⟩=false:=(hB3.frozen (p:=⟨G,20,none⟩) (by show G < _;omega)).trans f20
  have akY:w3.cell? ⟨G,20,none⟩=some vO:=(hB3.cell (p:=⟨G,20,none⟩) (by show G < _;omega)).trans c20
  have hs3:=hB3.size
  obtain ⟨w4,hw4⟩:∃ w4,w3.setCell ⟨G,20,none⟩ (.slice AO s.bM.length cO)=w4:=⟨_,rfl⟩
  have hs4:w4.heap.size=w3.heap.size:=by rw [← hw4];simp [World.setCell]
  have Wq:∀ k,k ≠ G→w4.heap[k]? = w3.heap[k]?:=fun k hk=>by rw [← hw4];exact Below.heap_setCell w3 ⟨G,20,none⟩ _ k hk
  have HL0:ae (OL G w2.heap.size w4.heap.size s (.slice AO s.bM.length cO) (.slice AU s.out.length cU) hs0 0 hs0 (fun _=>w4.heap.size) w w4):=by
    refine ⟨⟨?_,?_,hl0,?_,⟨by omega,by omega⟩,rfl,fun _=>Nat.le_refl _,Nat.le_refl _,fun j _ hj=>absurd hj (Nat.not_lt_zero j),fun _ _=>rfl,?_⟩⟩
    · rw [← hw4]
      exact (HS2.out.of_block (hB3.block G (by omega))).EK _ s.bM
    · refine Kd.jO (Kd.lC (Kd.mQ hO3) (fun k hk _=>Wq k (by have:=hk.2.1;omega))) (fun k hk=>by have:=hk.2.2.1;omega)
    · exact Kd.lC (Kd.lC HU2.out (fun k _ hk=>hB3.block k hk)) (fun k hk _=>Wq k (by have:=hk.1;omega))
    · rw [← hw4]
      exact (HHw.out.trans (hB3.mono (by omega))).setCell (p:=⟨G,20,none⟩) (Nat.le_refl _) _
  have HR4:=ae.mk ((Wq (G+1) (by omega)).trans ((hB3.block (G+1) (by omega)).trans (HR2.out.trans HR.out)))
  have k20:w4.cell? ⟨G,20,none⟩=some (.slice AO s.bM.length cO):=HL0.out.st.cell 20
  clear hO3 hB3 f20 c20 HS2 HU2 HR2 Nv HU1 HB1 HS HR HB hFU hFO Wq hs3 hs2
  go_wp2
  have HF:=Lib.hid (show ∀ (i:Nat) (hi:i < s.bM.length),∃ hd,hs0[i]? = some hd∧Form (qR hd) (s.bM[i]).length∧∀ (wy:World),Below G w wy→∀ A n c,qR hd=.slice A n c→Kd.C (Kd.int .i64) wy A (s.bM[i]).length s.bM[i] from fun i hi=>by
    obtain ⟨hd,q1,q2,q3⟩:=HE.out i hi
    exact ⟨hd,q1,q2,fun wy hb A n c e=>Kd.bK (by rw [e] at q3;exact (Kd.eG q3).2.2) (by rw [hG];exact hb)⟩)
  have ako:G+2≤w2.heap.size:=by have:=hs2';omega
  clear HE HH HCO HHw hwa hw2 hw4 hl0
  go_loopg [16] s.bM.length (fun kq iv wr=>∃ (i:Nat) (hs:List Hd) (L:Nat→Nat),kq+i=s.bM.length∧iv=.int .i64 i∧ae (OL G w2.heap.size w4.heap.size s (.slice AO s.bM.length cO) (.slice AU s.out.length cU) hs0 i hs L w wr)∧ae (wr.heap[G+1]? = w4.heap[G+1]?))
  case atStart=>exact ⟨0,_,_,Nat.add_zero _,rfl,HL0,⟨rfl⟩⟩
  case round =>
  clear HL0 k20 g20 akY
  obtain ⟨i,hs,L,hki,rfl,HL,HK⟩:=hrel
  have k20:wr.cell? ⟨G,20,none⟩=some (.slice AO s.bM.length cO):=HL.out.st.cell 20
  cases gk with
  | zero =>
    obtain rfl:i=s.bM.length:=by omega
    have hlt:decide ((s.bM.length:Int) < (s.bM.length:Int))=false:=decide_eq_false (by omega)
    have hblk:=HL.out.st.blk
    have hrt:=HK.out.trans HR4.out
    have hone:(cellsS s (.slice AO s.bM.length cO) (.slice AU s.out.length cU)).all (·.oneCell')=true:=by simp [cellsS,Value.oneCell']
    clear k20
    go_wp2_with (first|((with_reducible refine dL (N:=28) rfl ?_);refine wpList_load_row rfl 39 (.tmp 1) rfl G rfl 39 (cellsS s (.slice AO s.bM.length cO) (.slice AU s.out.length cU)) (0,0) _ hblk Tryd.underlying39 rfl (by kernel_rfl) ?_)|(skip;refine wpList_store_row rfl 39 (.tmp 2) (.tmp 28) rfl (G+1) (cellsS s (.slice AO s.bM.length cO) (.slice AU s.out.length cU)) rfl rfl 39 _ hrt (by kernel_rfl) rfl hone ?_))
    have hdone:=Lib.hid (HL.out.done.setRow hrt (cellsS s (.slice AO s.bM.length cO) (.slice AU s.out.length cU)))
    have hbel:=Lib.hid (jq HL.out.below (show G≤G+1 by omega) (cellsS s (.slice AO s.bM.length cO) (.slice AU s.out.length cU)))
    have hnew:=kX hrt (cellsS s (.slice AO s.bM.length cO) (.slice AU s.out.length cU))
    (try simp only [Exit.inBlock,Exit.then])
    refine bodyPost_ret (results_cell_row rfl _ _ (G+1) 39 _ (0,0) _ rfl hnew Tryd.underlying39 rfl (by kernel_rfl)) rfl ?_
    rw [hG]
    exact ⟨_,_,rfl,hdone.out,hbel.out⟩
  | succ gk =>
    have hi:i < s.bM.length:=by omega
    have hlt:decide ((i:Int) < (s.bM.length:Int))=true:=decide_eq_true (by omega)
    obtain ⟨g,cO',e3,hg1,hg2,_⟩:=Kd.Eg HL.out.row (by rw [HL.out.len];omega)
    rw [HL.out.len] at e3
    obtain ⟨rfl,rfl⟩:AO=some ⟨g,0,none⟩∧cO=cO':=by injection e3 with e4 e5 e6;exact ⟨e4,e6⟩
    clear e3
    have hlen:=HL.out.len
    have YL:=(Kd.Eh (h1:=fun _=>rfl) ((none,0,0):Hd) HL.out.row (i:Int) (by omega) (by omega)).1
    obtain ⟨hd,hd1,hd2⟩:=HF.out i hi
    have e0:dW ((none,0,0):Hd) hs (i:Int)=hd:=by
      have q:=HL.out.todo i (Nat.le_refl _)
      rw [hd1] at q
      show hs.getD (i:Int).toNat _=_
      rw [Int.toNat_natCast,List.getD_eq_getElem?_getD,q]
      rfl
    rw [e0,Int.toNat_natCast] at YL
    have HF2:=Lib.hid hd2
    have hG3:G+2≤w2.heap.size:=ako
    have j0:(0≤(i:Int))=True:=eq_true (by omega)
    have j1:((i:Int) < (s.bM.length:Int))=True:=eq_true (by omega)
    have e2:=Lib.hid (show wrap64 ((i:Int)+1)=((i+1:Nat):Int) from II (by have:=hsm.bM;omega))
    obtain ⟨hdv,hhd⟩:∃ v,qR hd=v:=⟨_,rfl⟩
    rw [hhd] at YL
    clear hd1 hd2 e0 hlen HF
    have HHD:=Lib.hid hhd
    clear hhd
    go_wp2
    have hhd:=HHD.out
    subst hhd
    refine wp_region_noPanic ?_
    refine o5 (n:=7) (S:=fun w'=>w'.cell? ⟨G,20,none⟩=some (.slice (some ⟨g,0,none⟩) s.bM.length cO)) (ds:=[6]) #[false,false,false,false,false,false,false] (by kernel_rfl) rfl rfl k20 (fun hHeld=>?_)
    clear k20 YL
    have HL2:=ae.mk (HL.out.move (tq (Below.refl _ wr)))
    have AZ:=ae.mk (show wr.drew.heap[G+1]? = w4.heap[G+1]? from HK.out)
    clear HL HK
    generalize wr.drew=wy at HL2 AZ hHeld ⊢
    refine dX (i:=0) (N:=some 21) (v:=?_) (a':=?_) #[true,false,false,false,false,false,false] rfl rfl (by kernel_rfl) (fun _ _ _ h=>h) (Or.inl ⟨by rfl,?_⟩) ?_ ?_
    rotate_left
    · intro w'
      go_simp
      with_reducible rfl
    rotate_left
    · simp only [Act.put,List.setIfInBounds_toArray,List.set_cons_zero,List.set_cons_succ,bG,bJ]
      rfl
    refine jg (i:=1) (N:=some 22) (v:=?_) (a':=?_) #[true,true,false,false,false,false,false] rfl rfl (by kernel_rfl) (fun _ _ _ h=>h) (Or.inl ⟨by rfl,?_⟩) hHeld ?_ ?_
    rotate_left
    · rintro w' Wh
      go_simp
      with_reducible rfl
    rotate_left
    · simp only [Act.put,List.setIfInBounds_toArray,List.set_cons_zero,List.set_cons_succ,bG,bJ]
      rfl
    refine dX (i:=2) (N:=some 23) (v:=?_) (a':=?_) #[true,true,true,false,false,false,false] rfl rfl (by kernel_rfl) (fun _ _ _ h=>h) (Or.inl ⟨by rfl,?_⟩) ?_ ?_
    rotate_left
    · intro w'
      go_simp
      with_reducible rfl
    rotate_left
    · simp only [Act.put,List.setIfInBounds_toArray,List.set_cons_zero,List.set_cons_succ,bG,bJ]
      rfl
    refine dX (i:=3) (N:=some 24) (v:=?_) (a':=?_) #[true,true,true,true,false,false,false] rfl rfl (by kernel_rfl) (fun _ _ _ h=>h) (Or.inl ⟨by rfl,?_⟩) ?_ ?_
    rotate_left
    · intro w'
      go_simp
      with_reducible rfl
    rotate_left
    · simp only [Act.put,List.setIfInBounds_toArray,List.set_cons_zero,List.set_cons_succ,bG,bJ]
      rfl
    refine o6 (i:=4) (N:=some 25) #[true,true,true,true,true,false,false] rfl rfl (by kernel_rfl) (by decide) (fun K hK=>?_)
    refine oI Tryd.func39 (by kernel_rfl) rfl #[qR hd] (by rfl) rfl rfl (by (try simp only [List.map_toArray,List.map_cons,List.map_nil]);rfl) ?_
    refine (Cj (qR hd) s.bM[i] HF2.out.1 wy (HF2.out.2 wy HL2.out.below) (hsm.each i hi)).mono ?_
    rintro e w3 ⟨v3,rfl,hR3,hB3⟩
    obtain ⟨A3,c3,e3⟩:=Kd.jr hR3
    obtain ⟨h3,hh3⟩:∃ h3:Hd,v3=qR h3:=⟨(A3,s.bM[i].length,c3),e3⟩
    subst hh3
    have HN:=ae.mk (HL2.out.next hi hB3 h3 hR3)
    have H3:=ae.mk (HL2.out.move hB3)
    have hG5:G+1 < wy.heap.size:=by have h1:=yM HL2.out.up 0 i (Nat.zero_le _);have h2:=HL2.out.L0;have h3:=HL2.out.top;have h4:=HL2.out.ord;omega
    have AY:=ae.mk (show (w3.setCell ⟨g,i,none⟩ (qR h3)).heap[G+1]? = w4.heap[G+1]? from (Below.heap_setCell w3 ⟨g,i,none⟩ _ (G+1) (by show G+1 ≠ g;omega)).trans ((hB3.block (G+1) hG5).trans AZ.out))
    have k20:w3.cell? ⟨G,20,none⟩=some (.slice (some ⟨g,0,none⟩) s.bM.length cO):=H3.out.st.cell 20
    have YL:=Kd.Eh (h1:=fun _=>rfl) ((none,0,0):Hd) H3.out.row (i:Int) (by omega) (by omega)
    have YK:=YL.1
    have aaL:=YL.2
    rw [Int.toNat_natCast] at YK aaL
    clear YL HL2 AZ hB3 hR3 hHeld e3
    refine ⟨_,rfl,?_⟩
    refine hK.out _ _ k20 (fun hHeld=>?_)
    clear hK K
    refine jm (a':=?_) ?_ ?_
    rotate_left
    · show Act.put _ (some 25) _=_
      simp only [Act.put,List.setIfInBounds_toArray,List.set_cons_zero,List.set_cons_succ,bG,bJ]
      rfl
    refine dX (i:=5) (N:=some 26) (v:=?_) (a':=?_) #[true,true,true,true,true,true,false] rfl rfl (by kernel_rfl) (fun _ _ _ h=>h) (Or.inl ⟨by rfl,?_⟩) ?_ ?_
    rotate_left
    · intro w'
      go_simp
      with_reducible rfl
    rotate_left
    · simp only [Act.put,List.setIfInBounds_toArray,List.set_cons_zero,List.set_cons_succ,bG,bJ]
      rfl
    refine zX (i:=6) (N:=none) #[true,true,true,true,true,true,true] rfl rfl (by kernel_rfl) (by decide) (fun K hK=>?_)
    refine BJ (w1:=w3.setCell ⟨g,i,none⟩ (qR h3)) (by rfl) rfl ?_ ?_
    · unfold qR at YK ⊢
      go_simp
    refine hK.out _ _ ?_
    clear hK K YK aaL hHeld k20
    refine rH (by kernel_rfl) ?_
    refine NoPanic.normal ?_
    have e2':=e2.out
    clear e2
    go_wp2
    go_roundg gk
    case measure=>omega
    case rel=>exact ⟨i+1,_,_,by omega,by first|rw [e2']|rfl,HN,AY⟩
end Go.Proofs.YtlemecdddhdagaaDoor.P
end
section
namespace Go.Proofs.YtlemecdddhdagaaDoor.P
open Go.RowKit Go.Proofs.ag.bI Go.Proofs.ag.dM Go.Proofs.ag.dZ
attribute [local go_sem ↓] Go.wp_at_zero Go.wp_at_succ
def vJ (sz:Int→Option Int) (code:List gZ) (chk:Int) (s:St):Option (St × Bool × Int) :=
  if chk=0 then
    if s.pc < 0 then some (s,false,2)
    else if (code.length:Int) < s.pc then some (s,false,2)
    else if s.pc=code.length then some (s,true,0)
    else (Ns sz s (aA code s.pc)).bind fun t=>if t.2=0 then some (t.1,false,0) else some (s,false,t.2)
  else some (s,false,2)
def nU.f (k:Nat) (l0:List ByteArray) (a1 a2:ByteArray) (l3:List gZ) (s:St):Option (St × Bool × Int) :=
  (bz.f k l0 a1 a2 l3).bind fun c=>vJ (NL k l0 a1 a2 l3) l3 c.2 s
theorem kD {P:Program} {fn:Func} {p u v:Tmp} {ty:TypeId} (h:fn.results=#[.cell p ty,.tmp u,.tmp v]) (tmps:Array Value) (w:World) (g:Nat) (t:TypeId) (cs:Array Value) (fr:Nat × Nat) (d:TypeDesc)
    (hp:tmps.getD p undef=.pointer (some ⟨g,0,none⟩)) (hg:w.heap[g]? = some (.cells cs t fr))
    (hu:P.underlying ty=some d) (hd:(match d with | .struct _ | .array _ _=>true | _=>false)=true) (hi:(P.info? ty).map (·.size)=some cs.size) :
    (results fn tmps).run P w=.ok (.tuple #[.agg cs,tmps.getD u undef,tmps.getD v undef]) w:=by
  have hp':tmps[p]?.getD undef=.pointer (some ⟨g,0,none⟩):=by simpa using hp
  simp [results,h,hp',asAddr,run_loadVar_row w g t ty cs fr d hg hu hd hi]
theorem oh.lower {base base':Nat} {s:St} {vO vU:Value} {w:World} (h:oh base s vO vU w) (hb:base'≤base):oh base' s vO vU w:=⟨Kd.WH h.bM hb,Kd.jh h.out hb⟩
theorem oh.rows {base b:Nat} {s:St} {vO vU:Value} {w:World} {old:Array Value} (h:oh base s vO vU w) (hg:w.heap[b]? = some (.cells old 39 (0,0))):Rows base b s vO vU w :=
  ⟨Kd.xQ (Kd.KU h.bM hg (by intro q hq;simp [Kd.slice,Kd.int,Kd.scalar] at hq;omega)) (fun k hk=>⟨hk.2,hk.1⟩),Kd.jO (Kd.tH h.out hg (by intro q hq;simp [Kd.int,Kd.scalar] at hq;omega)) (fun k hk=>hk.2)⟩
theorem Rows.v {base b:Nat} {s:St} {vO vU:Value} {w:World} (h:Rows base b s vO vU w):oh base s vO vU w :=
  ⟨Kd.xQ h.bM (fun _ hk=>hk.2),Kd.jO h.out (fun _ _=>trivial)⟩
theorem cells_one {s:St} {base:Nat} {vO vU:Value} {w:World} (h:oh base s vO vU w):(cellsS s vO vU).all (·.oneCell')=true:=by
  obtain ⟨A,c,rfl⟩:=Kd.zu h.bM
  obtain ⟨B,d,rfl⟩:=Kd.jr h.out
  simp [cellsS,Value.oneCell']
set_option maxRecDepth 100000 in
set_option maxHeartbeats 3200000 in
theorem nU.calls (k:Nat) (A0:Option Addr) (c0:Nat) (l0:List ByteArray) (a1 a2:ByteArray) (A3:Option Addr) (c3:Nat) (l3:List gZ) (s s':St) (d:Bool) (r2:Int) (vO vU:Value) (bO bU:Nat) (okO Ru:Nat→Prop) (w:World) (hr0:Kd.C Kd.string w A0 l0.length l0) (hc0:l0.length≤c0) (hr3:Kd.C tZ w A3 l3.length l3) (hc3:l3.length≤c3) (kZ:Kd.C Kd.string w qx ku.length ku)
    (hS:Kd.S wG 28 w bO okO vO s.bM) (hU:Kd.R (Kd.int .i64) 2 w bU Ru vU s.out) (hsm:Small s) (h:nU.f k l0 a1 a2 l3 s=some (s',d,r2)) :
    Calls Tryd.prog 14 #[.agg #[.slice A0 l0.length c0,.string a1,.string a2,.slice A3 l3.length c3],.agg (cellsS s vO vU)] w fun e w'=>∃ qI qH,e=.returned (.tuple #[.agg (cellsS s' qI qH),.bool d,.int .i64 r2])∧oh w.heap.size s' qI qH w'∧Below w.heap.size w w':=by
  obtain ⟨⟨e1,e2⟩,Pm,h1⟩:=Option.bind_eq_some_iff.1 h
  obtain ⟨G,hG⟩:∃ G,w.heap.size=G:=⟨_,rfl⟩
  obtain ⟨wb,hwb⟩:∃ wb,((w.alloc (.cells #[.slice A0 l0.length c0,.string a1,.string a2,.slice A3 l3.length c3] 25)).alloc (.cells (cellsS s vO vU) 39)).alloc (.cells #[.int .i64 0,.int .i64 0,.int .i64 0,.int .i64 0,.int .i64 0,.int .i64 0,.int .i64 0,.int .i64 0,.int .i64 0,.int .i64 0,.int .i64 0,.int .i64 0,.int .i64 0,.int .i64 0,.int .i64 0,.int .i64 0,.int .i64 0,.int .i64 0,.int .i64 0,.int .i64 0,.slice none 0 0,.slice none 0 0,.int .i64 0,.int .i64 0] 39)=wb:=⟨_,rfl⟩
  have hB1:Below w.heap.size w wb:=by rw [← hwb];exact (((Below.refl _ w).alloc (Nat.le_refl _) _).alloc (by simp) _).alloc (by simp;omega) _
  have hs1:wb.heap.size=G+3:=by rw [← hwb,← hG];simp
  have hb0:wb.heap[G]? = some (.cells #[.slice A0 l0.length c0,.string a1,.string a2,.slice A3 l3.length c3] 25 (0,0)):=by
    rw [← hwb,← hG,Below.heap_alloc _ _ _ (by simp;omega),Below.heap_alloc _ _ _ (by simp)]
    exact heap_alloc_new w _
  have hb1:wb.heap[G+1]? = some (.cells (cellsS s vO vU) 39 (0,0)):=by
    have:=heap_alloc_new (w.alloc (.cells #[.slice A0 l0.length c0,.string a1,.string a2,.slice A3 l3.length c3] 25)) (.cells (cellsS s vO vU) 39)
    rw [← hwb,Below.heap_alloc _ _ _ (by simp;omega),← hG]
    simpa using this
  have hb2:wb.heap[G+2]? = some (.cells #[.int .i64 0,.int .i64 0,.int .i64 0,.int .i64 0,.int .i64 0,.int .i64 0,.int .i64 0,.int .i64 0,.int .i64 0,.int .i64 0,.int .i64 0,.int .i64 0,.int .i64 0,.int .i64 0,.int .i64 0,.int .i64 0,.int .i64 0,.int .i64 0,.int .i64 0,.int .i64 0,.slice none 0 0,.slice none 0 0,.int .i64 0,.int .i64 0] 39 (0,0)):=by
    have:=heap_alloc_new ((w.alloc (.cells #[.slice A0 l0.length c0,.string a1,.string a2,.slice A3 l3.length c3] 25)).alloc (.cells (cellsS s vO vU) 39)) (.cells #[.int .i64 0,.int .i64 0,.int .i64 0,.int .i64 0,.int .i64 0,.int .i64 0,.int .i64 0,.int .i64 0,.int .i64 0,.int .i64 0,.int .i64 0,.int .i64 0,.int .i64 0,.int .i64 0,.int .i64 0,.int .i64 0,.int .i64 0,.int .i64 0,.int .i64 0,.int .i64 0,.slice none 0 0,.slice none 0 0,.int .i64 0,.int .i64 0] 39)
    rw [hwb] at this
    rw [← hG]
    simpa using this
  have p0:wb.cell? ⟨G,0,none⟩=some (.slice A0 l0.length c0):=by simp [World.cell?,hb0]
  have p1:wb.cell? ⟨G,1,none⟩=some (.string a1):=by simp [World.cell?,hb0]
  have p2:wb.cell? ⟨G,2,none⟩=some (.string a2):=by simp [World.cell?,hb0]
  have p3:wb.cell? ⟨G,3,none⟩=some (.slice A3 l3.length c3):=by simp [World.cell?,hb0]
  have HH:=ae.mk h1
  have HR0:=ae.mk (Kd.bK hr0 hB1)
  have HR3:=ae.mk (Kd.bK hr3 hB1)
  have wJ:=ae.mk (Kd.bK kZ hB1)
  have HS:=ae.mk (Kd.tC hS hB1)
  have HU:=ae.mk (Kd.ja hU hB1)
  have XX:=ae.mk Pm
  have HB1:=ae.mk hB1
  have K0:=ae.mk hb0
  have K1:=ae.mk hb1
  have K2:=ae.mk hb2
  clear h1 h hr0 hr3 kZ Pm hB1 hS hU hb0 hb1 hb2
  go_enter Tryd.func14,Tryd.ntmps14
  go_upto_region 999 with (fail)
  refine (bz.calls k A0 c0 l0 a1 a2 A3 c3 l3 e1 e2 wb HR0.out hc0 HR3.out hc3 wJ.out XX.out).mono ?_
  rintro e W1 ⟨rfl,hbb⟩
  replace HR0:=ae.mk (Kd.bK HR0.out hbb)
  replace HR3:=ae.mk (Kd.bK HR3.out hbb)
  replace HS:=ae.mk (Kd.tC HS.out hbb)
  replace HU:=ae.mk (Kd.ja HU.out hbb)
  have k0:=(hbb.block G (by omega)).trans K0.out
  have k1:=(hbb.block (G+1) (by omega)).trans K1.out
  replace K2:=ae.mk ((hbb.block (G+2) (by omega)).trans K2.out)
  have hs2:G+3≤W1.heap.size:=by have:=hbb.size;omega
  replace HB1:=ae.mk (show Below w.heap.size w W1 from HB1.out.trans (hbb.mono (by omega)))
  have q0:W1.cell? ⟨G,0,none⟩=some (.slice A0 l0.length c0):=by simp [World.cell?,k0]
  have q1:W1.cell? ⟨G,1,none⟩=some (.string a1):=by simp [World.cell?,k0]
  have q2:W1.cell? ⟨G,2,none⟩=some (.string a2):=by simp [World.cell?,k0]
  have q3:W1.cell? ⟨G,3,none⟩=some (.slice A3 l3.length c3):=by simp [World.cell?,k0]
  have qc:W1.cell? ⟨G+1,22,none⟩=some (.int .i64 s.pc):=by simp [World.cell?,k1,cellsS]
  have XR:=ae.mk k1
  clear hbb wJ XX p0 p1 p2 p3 hwb k0 k1 K0 K1
  by_cases he2:e2=0
  case neg =>
    have hb2:(e2 == 0)=false:=beq_eq_false_iff_ne.2 he2
    have hb3:(e2 != 0)=true:=by simp [he2]
    have qQ:ae (some (s,false,(2:Int))=some (s',d,r2)):=⟨by have q:=HH.out;unfold vJ at q;rwa [if_neg he2] at q⟩
    obtain ⟨rfl,q⟩:=Prod.mk.inj (Option.some.inj qQ.out)
    obtain ⟨rfl,rfl⟩:=Prod.mk.inj q
    clear HH qQ q
    have kk:=XR.out
    go_upto_region 999 with ((with_reducible refine dL (N:=31) rfl ?_);refine wpList_load_row rfl 39 (.tmp 3) rfl (G+1) rfl 39 (cellsS s vO vU) (0,0) _ kk Tryd.underlying39 rfl (by kernel_rfl) ?_)
    refine (qE s vO vU bO bU okO Ru W1 HS.out HU.out hsm).mono ?_
    rintro e wq ⟨qI,qH,rfl,hV,zo⟩
    have kz:=(zo.block (G+1+1) (by omega)).trans K2.out
    have hone:=cells_one hV
    have hdone:=Lib.hid ((hV.setRow kz (cellsS s qI qH)).lower (show w.heap.size≤W1.heap.size by omega))
    have hbel:=Lib.hid (jq (HB1.out.trans (zo.mono (show w.heap.size≤W1.heap.size by omega))) (show w.heap.size≤G+1+1 by omega) (cellsS s qI qH))
    have hnew:=kX kz (cellsS s qI qH)
    clear hV zo kk
    go_wp2_with (skip;refine wpList_store_row rfl 39 (.tmp 4) (.tmp 32) rfl (G+1+1) (cellsS s qI qH) rfl rfl 39 _ kz (by kernel_rfl) rfl hone ?_)
    (try simp only [Exit.inBlock,Exit.then])
    refine bodyPost_ret (kD rfl _ _ (G+1+1) 39 _ (0,0) _ rfl hnew Tryd.underlying39 rfl (by kernel_rfl)) rfl ?_
    exact ⟨_,_,rfl,hdone.out,hbel.out⟩
  subst he2
  have qQ:ae ((if s.pc < 0 then some (s,false,(2:Int)) else if (l3.length:Int) < s.pc then some (s,false,(2:Int)) else if s.pc=l3.length then some (s,true,(0:Int)) else (Ns (NL k l0 a1 a2 l3) s (aA l3 s.pc)).bind fun t=>if t.2=0 then some (t.1,false,(0:Int)) else some (s,false,t.2))=some (s',d,r2)):=⟨by have q:=HH.out;unfold vJ at q;rwa [if_pos rfl] at q⟩
  clear HH
  by_cases hp0:s.pc < 0
  case pos =>
    have hd0:decide (s.pc < 0)=true:=decide_eq_true hp0
    replace qQ:=ae.mk ((if_pos hp0).symm.trans qQ.out)
    obtain ⟨rfl,q⟩:=Prod.mk.inj (Option.some.inj qQ.out)
    obtain ⟨rfl,rfl⟩:=Prod.mk.inj q
    clear qQ q hp0
    have kk:=XR.out
    go_upto_region 999 with ((with_reducible refine dL (N:=31) rfl ?_);refine wpList_load_row rfl 39 (.tmp 3) rfl (G+1) rfl 39 (cellsS s vO vU) (0,0) _ kk Tryd.underlying39 rfl (by kernel_rfl) ?_)
    refine (qE s vO vU bO bU okO Ru W1 HS.out HU.out hsm).mono ?_
    rintro e wq ⟨qI,qH,rfl,hV,zo⟩
    have kz:=(zo.block (G+1+1) (by omega)).trans K2.out
    have hone:=cells_one hV
    have hdone:=Lib.hid ((hV.setRow kz (cellsS s qI qH)).lower (show w.heap.size≤W1.heap.size by omega))
    have hbel:=Lib.hid (jq (HB1.out.trans (zo.mono (show w.heap.size≤W1.heap.size by omega))) (show w.heap.size≤G+1+1 by omega) (cellsS s qI qH))
    have hnew:=kX kz (cellsS s qI qH)
    clear hV zo kk
    go_wp2_with (skip;refine wpList_store_row rfl 39 (.tmp 4) (.tmp 32) rfl (G+1+1) (cellsS s qI qH) rfl rfl 39 _ kz (by kernel_rfl) rfl hone ?_)
    (try simp only [Exit.inBlock,Exit.then])
    refine bodyPost_ret (kD rfl _ _ (G+1+1) 39 _ (0,0) _ rfl hnew Tryd.underlying39 rfl (by kernel_rfl)) rfl ?_
    exact ⟨_,_,rfl,hdone.out,hbel.out⟩
  case neg =>
  have hd0:decide (s.pc < 0)=false:=decide_eq_false hp0
  replace qQ:=ae.mk ((if_neg hp0).symm.trans qQ.out)
  by_cases hp1:(l3.length:Int) < s.pc
  case pos =>
    have hd1:decide ((l3.length:Int) < s.pc)=true:=decide_eq_true hp1
    have akF:decide (s.pc > (l3.length:Int))=true:=decide_eq_true hp1
    replace qQ:=ae.mk ((if_pos hp1).symm.trans qQ.out)
    obtain ⟨rfl,q⟩:=Prod.mk.inj (Option.some.inj qQ.out)
    obtain ⟨rfl,rfl⟩:=Prod.mk.inj q
    clear qQ q hp1 hp0
    have kk:=XR.out
    go_upto_region 999 with ((with_reducible refine dL (N:=31) rfl ?_);refine wpList_load_row rfl 39 (.tmp 3) rfl (G+1) rfl 39 (cellsS s vO vU) (0,0) _ kk Tryd.underlying39 rfl (by kernel_rfl) ?_)
    refine (qE s vO vU bO bU okO Ru W1 HS.out HU.out hsm).mono ?_
    rintro e wq ⟨qI,qH,rfl,hV,zo⟩
    have kz:=(zo.block (G+1+1) (by omega)).trans K2.out
    have hone:=cells_one hV
    have hdone:=Lib.hid ((hV.setRow kz (cellsS s qI qH)).lower (show w.heap.size≤W1.heap.size by omega))
    have hbel:=Lib.hid (jq (HB1.out.trans (zo.mono (show w.heap.size≤W1.heap.size by omega))) (show w.heap.size≤G+1+1 by omega) (cellsS s qI qH))
    have hnew:=kX kz (cellsS s qI qH)
    clear hV zo kk
    go_wp2_with (skip;refine wpList_store_row rfl 39 (.tmp 4) (.tmp 32) rfl (G+1+1) (cellsS s qI qH) rfl rfl 39 _ kz (by kernel_rfl) rfl hone ?_)
    (try simp only [Exit.inBlock,Exit.then])
    refine bodyPost_ret (kD rfl _ _ (G+1+1) 39 _ (0,0) _ rfl hnew Tryd.underlying39 rfl (by kernel_rfl)) rfl ?_
    exact ⟨_,_,rfl,hdone.out,hbel.out⟩
  case neg =>
  have hd1:decide ((l3.length:Int) < s.pc)=false:=decide_eq_false hp1
  have akF:decide (s.pc > (l3.length:Int))=false:=decide_eq_false hp1
  replace qQ:=ae.mk ((if_neg hp1).symm.trans qQ.out)
  by_cases hp2:s.pc=(l3.length:Int)
  case pos =>
    have hd2:(s.pc == (l3.length:Int))=true:=beq_iff_eq.2 hp2
    have hd3:decide (s.pc=(l3.length:Int))=true:=decide_eq_true hp2
    replace qQ:=ae.mk ((if_pos hp2).symm.trans qQ.out)
    obtain ⟨rfl,q⟩:=Prod.mk.inj (Option.some.inj qQ.out)
    obtain ⟨rfl,rfl⟩:=Prod.mk.inj q
    clear qQ q hp1 hp0 hp2 hd3
    have kk:=XR.out
    go_upto_region 999 with ((with_reducible refine dL (N:=39) rfl ?_);refine wpList_load_row rfl 39 (.tmp 3) rfl (G+1) rfl 39 (cellsS s vO vU) (0,0) _ kk Tryd.underlying39 rfl (by kernel_rfl) ?_)
    refine (qE s vO vU bO bU okO Ru W1 HS.out HU.out hsm).mono ?_
    rintro e wq ⟨qI,qH,rfl,hV,zo⟩
    have kz:=(zo.block (G+1+1) (by omega)).trans K2.out
    have hone:=cells_one hV
    have hdone:=Lib.hid ((hV.setRow kz (cellsS s qI qH)).lower (show w.heap.size≤W1.heap.size by omega))
    have hbel:=Lib.hid (jq (HB1.out.trans (zo.mono (show w.heap.size≤W1.heap.size by omega))) (show w.heap.size≤G+1+1 by omega) (cellsS s qI qH))
    have hnew:=kX kz (cellsS s qI qH)
    clear hV zo kk
    go_wp2_with (skip;refine wpList_store_row rfl 39 (.tmp 4) (.tmp 40) rfl (G+1+1) (cellsS s qI qH) rfl rfl 39 _ kz (by kernel_rfl) rfl hone ?_)
    (try simp only [Exit.inBlock,Exit.then])
    refine bodyPost_ret (kD rfl _ _ (G+1+1) 39 _ (0,0) _ rfl hnew Tryd.underlying39 rfl (by kernel_rfl)) rfl ?_
    exact ⟨_,_,rfl,hdone.out,hbel.out⟩
  case neg =>
  have hd2:(s.pc == (l3.length:Int))=false:=beq_eq_false_iff_ne.2 hp2
  replace qQ:=ae.mk ((if_neg hp2).symm.trans qQ.out)
  obtain ⟨⟨s5,e5⟩,hD,hfin⟩:=Option.bind_eq_some_iff.1 qQ.out
  simp only at hfin
  have HD:=ae.mk hD
  have alC:=ae.mk hfin
  have hpos:0≤s.pc:=by omega
  have hlt:s.pc < l3.length:=by omega
  clear hD hfin qQ hp0 hp1 hp2
  have kk:=XR.out
  go_upto_region 999 with ((with_reducible refine dL (N:=41) rfl ?_);refine wpList_load_row rfl 39 (.tmp 3) rfl (G+1) rfl 39 (cellsS s vO vU) (0,0) _ kk Tryd.underlying39 rfl (by kernel_rfl) ?_)
  refine (qE s vO vU bO bU okO Ru W1 HS.out HU.out hsm).mono ?_
  rintro e wq ⟨qI,qH,rfl,hV,zo⟩
  have hcell:cellsS s qI qH=cellsS s qI qH:=rfl
  obtain ⟨b,hb⟩:∃ b,wq.heap.size=b:=⟨_,rfl⟩
  obtain ⟨wz,hwz⟩:∃ wz,wq.alloc (.cells #[.int .i64 0,.int .i64 0,.int .i64 0,.int .i64 0,.int .i64 0,.int .i64 0,.int .i64 0,.int .i64 0,.int .i64 0,.int .i64 0,.int .i64 0,.int .i64 0,.int .i64 0,.int .i64 0,.int .i64 0,.int .i64 0,.int .i64 0,.int .i64 0,.int .i64 0,.int .i64 0,.slice none 0 0,.slice none 0 0,.int .i64 0,.int .i64 0] 39)=wz:=⟨_,rfl⟩
  have hzb:wz.heap[b]? = some (.cells #[.int .i64 0,.int .i64 0,.int .i64 0,.int .i64 0,.int .i64 0,.int .i64 0,.int .i64 0,.int .i64 0,.int .i64 0,.int .i64 0,.int .i64 0,.int .i64 0,.int .i64 0,.int .i64 0,.int .i64 0,.int .i64 0,.int .i64 0,.int .i64 0,.int .i64 0,.int .i64 0,.slice none 0 0,.slice none 0 0,.int .i64 0,.int .i64 0] 39 (0,0)):=by rw [← hwz,← hb];exact heap_alloc_new wq _
  have hBz:Below W1.heap.size W1 wz:=by rw [← hwz];exact zo.alloc zo.size _
  have hVz:oh W1.heap.size s qI qH wz:=by rw [← hwz];exact ⟨Kd.KX hV.bM _,Kd.lC hV.out (fun k _ hk=>Below.heap_alloc wq _ k hk)⟩
  have Xk:W1.heap.size≤b:=by rw [← hb];exact zo.size
  have hone:=cells_one hV
  have HV:=ae.mk ((hVz.setRow hzb (cellsS s qI qH)).rows (kX hzb (cellsS s qI qH)))
  have HST:=ae.mk (show kF b s qI qH (wz.setRow b (cellsS s qI qH)) from ⟨kX hzb _⟩)
  have HB:=ae.mk (jq hBz Xk (cellsS s qI qH))
  clear hV zo hVz hBz kk hcell
  obtain ⟨ad,hA,d0,d1,d2,d3,d4⟩:=Az (Kd.bK HR3.out HB.out) s.pc hpos hlt
  subst hA
  have j0:(0≤s.pc)=True:=eq_true hpos
  have j1:(s.pc < (l3.length:Int))=True:=eq_true hlt
  have Q0:=Lib.hid q0
  have Q1:=Lib.hid q1
  have Q2:=Lib.hid q2
  have Q3:=Lib.hid q3
  have QC:=Lib.hid qc
  have HLT:=Lib.hid hlt
  clear q0 q1 q2 q3 qc hpos hlt
  go_wp2_with (skip;refine wpList_store_row rfl 39 (.tmp 9) (.tmp 42) rfl b (cellsS s qI qH) rfl rfl 39 _ hzb (by kernel_rfl) rfl hone ?_)
  clear hzb hone hwz
  generalize wz.setRow b (cellsS s qI qH)=wr at HV HST HB d0 d1 d2 d3 d4 ⊢
  have p0:wr.cell? ⟨G,0,none⟩=some (.slice A0 l0.length c0):=(HB.out.cell (p:=⟨G,0,none⟩) (by show G < _;omega)).trans Q0.out
  have p1:wr.cell? ⟨G,1,none⟩=some (.string a1):=(HB.out.cell (p:=⟨G,1,none⟩) (by show G < _;omega)).trans Q1.out
  have p2:wr.cell? ⟨G,2,none⟩=some (.string a2):=(HB.out.cell (p:=⟨G,2,none⟩) (by show G < _;omega)).trans Q2.out
  have p3:wr.cell? ⟨G,3,none⟩=some (.slice (some ad) l3.length c3):=(HB.out.cell (p:=⟨G,3,none⟩) (by show G < _;omega)).trans Q3.out
  have cpc:wr.cell? ⟨G+1,22,none⟩=some (.int .i64 s.pc):=(HB.out.cell (p:=⟨G+1,22,none⟩) (by show G+1 < _;omega)).trans QC.out
  have HM:=ae.mk (show uD W1.heap.size b s wr from ⟨Xk,_,_,HST.out,HV.out⟩)
  clear HV HST
  refine wp_region_noPanic ?_
  refine o5 (n:=9) (S:=fun w'=>w'.cell? ⟨G,0,none⟩=some (.slice A0 l0.length c0)∧w'.cell? ⟨G,1,none⟩=some (.string a1)∧w'.cell? ⟨G,2,none⟩=some (.string a2)∧w'.cell? ⟨G,3,none⟩=some (.slice (some ad) l3.length c3)∧w'.cell? ⟨G+1,22,none⟩=some (.int .i64 s.pc)∧w'.cell? (ad.add (s.pc.toNat * 5))=some (.int .u8 (aA l3 s.pc).f0)∧w'.cell? ⟨(ad.add (s.pc.toNat * 5)).block,(ad.add (s.pc.toNat * 5)).off+1,none⟩=some (.int .u8 (aA l3 s.pc).f1)∧w'.cell? ⟨(ad.add (s.pc.toNat * 5)).block,(ad.add (s.pc.toNat * 5)).off+2,none⟩=some (.int .u8 (aA l3 s.pc).f2)∧w'.cell? ⟨(ad.add (s.pc.toNat * 5)).block,(ad.add (s.pc.toNat * 5)).off+3,none⟩=some (.int .u8 (aA l3 s.pc).f3)∧w'.cell? ⟨(ad.add (s.pc.toNat * 5)).block,(ad.add (s.pc.toNat * 5)).off+4,none⟩=some (.int .i64 (aA l3 s.pc).f4)) (ds:=[7,8]) #[false,false,false,false,false,false,false,false,false] (by kernel_rfl) rfl rfl ⟨p0,p1,p2,p3,cpc,d0,d1,d2,d3,d4⟩ (fun hHeld=>?_)
  clear p0 p1 p2 p3 cpc d0 d1 d2 d3 d4
  have ZU:=ae.mk (HM.out.drew)
  have HB2:=ae.mk (show Below W1.heap.size W1 wr.drew from HB.out.drew)
  clear HM HB
  generalize wr.drew=wy at ZU HB2 hHeld ⊢
  refine jg (i:=0) (N:=some 43) (v:=?_) (a':=?_) #[true,false,false,false,false,false,false,false,false] rfl rfl (by kernel_rfl) (fun _ _ _ h=>h) (Or.inl ⟨by rfl,?_⟩) hHeld ?_ ?_
  rotate_left
  · rintro w' ⟨YF,Yy,Yx,Yw,Hg,Zr,Zq,Zp,Zo,Zn⟩
    go_simp
    with_reducible rfl
  rotate_left
  · simp only [Act.put,List.setIfInBounds_toArray,List.set_cons_zero,List.set_cons_succ,bG,bJ]
    rfl
  refine dX (i:=1) (N:=some 44) (v:=?_) (a':=?_) #[true,true,false,false,false,false,false,false,false] rfl rfl (by kernel_rfl) (fun _ _ _ h=>h) (Or.inl ⟨by rfl,?_⟩) ?_ ?_
  rotate_left
  · intro w'
    go_simp
    with_reducible rfl
  rotate_left
  · simp only [Act.put,List.setIfInBounds_toArray,List.set_cons_zero,List.set_cons_succ,bG,bJ]
    rfl
  refine jg (i:=2) (N:=some 45) (v:=?_) (a':=?_) #[true,true,true,false,false,false,false,false,false] rfl rfl (by kernel_rfl) (fun _ _ _ h=>h) (Or.inl ⟨by rfl,?_⟩) hHeld ?_ ?_
  rotate_left
  · rintro w' ⟨YF,Yy,Yx,Yw,Hg,Zr,Zq,Zp,Zo,Zn⟩
    go_simp
    with_reducible rfl
  rotate_left
  · simp only [Act.put,List.setIfInBounds_toArray,List.set_cons_zero,List.set_cons_succ,bG,bJ]
    rfl
  refine dX (i:=3) (N:=some 46) (v:=?_) (a':=?_) #[true,true,true,true,false,false,false,false,false] rfl rfl (by kernel_rfl) (fun _ _ _ h=>h) (Or.inl ⟨by rfl,?_⟩) ?_ ?_
  rotate_left
  · intro w'
    go_simp
    with_reducible rfl
  rotate_left
  · simp only [Act.put,List.setIfInBounds_toArray,List.set_cons_zero,List.set_cons_succ,bG,bJ]
    rfl
  refine jg (i:=4) (N:=some 47) (v:=?_) (a':=?_) #[true,true,true,true,true,false,false,false,false] rfl rfl (by kernel_rfl) (fun _ _ _ h=>h) (Or.inl ⟨by rfl,?_⟩) hHeld ?_ ?_
  rotate_left
  · rintro w' ⟨YF,Yy,Yx,Yw,Hg,Zr,Zq,Zp,Zo,Zn⟩
    go_simp
    with_reducible rfl
  rotate_left
  · simp only [Act.put,List.setIfInBounds_toArray,List.set_cons_zero,List.set_cons_succ,bG,bJ]
    rfl
  refine dX (i:=5) (N:=some 48) (v:=?_) (a':=?_) #[true,true,true,true,true,true,false,false,false] rfl rfl (by kernel_rfl) (fun _ _ _ h=>h) (Or.inl ⟨by rfl,?_⟩) ?_ ?_
  rotate_left
  · intro w'
    go_simp
    with_reducible rfl
  rotate_left
  · simp only [Act.put,List.setIfInBounds_toArray,List.set_cons_zero,List.set_cons_succ,bG,bJ]
    rfl
  refine jg (i:=6) (N:=some 49) (v:=?_) (a':=?_) #[true,true,true,true,true,true,true,false,false] rfl rfl (by kernel_rfl) (fun _ _ _ h=>h) (Or.inl ⟨by rfl,?_⟩) hHeld ?_ ?_
  rotate_left
  · rintro w' ⟨YF,Yy,Yx,Yw,Hg,Zr,Zq,Zp,Zo,Zn⟩
    go_simp
    with_reducible rfl
  rotate_left
  · simp only [Act.put,List.setIfInBounds_toArray,List.set_cons_zero,List.set_cons_succ,bG,bJ]
    rfl
  refine zX (i:=7) (N:=some 50) #[true,true,true,true,true,true,true,true,false] rfl rfl (by kernel_rfl) (by decide) (fun K hK=>?_)
  refine oI Tryd.func22 (by kernel_rfl) rfl #[.pointer (some ⟨b,0,none⟩),.agg #[.slice A0 l0.length c0,.string a1,.string a2,.slice (some ad) l3.length c3],.agg #[.int .u8 (aA l3 s.pc).f0,.int .u8 (aA l3 s.pc).f1,.int .u8 (aA l3 s.pc).f2,.int .u8 (aA l3 s.pc).f3,.int .i64 (aA l3 s.pc).f4]] (by rfl) rfl rfl (by (try simp only [List.map_toArray,List.map_cons,List.map_nil]);rfl) ?_
  refine (PT HB2.out HR0.out hc0 HR3.out hc3 ZU.out (aA l3 s.pc) HD.out).mono ?_
  rintro e w5 ⟨rfl,YX,hb5⟩
  have HM5:=ae.mk YX
  have Lh:=ae.mk (HB2.out.trans hb5)
  clear ZU HB2 YX hb5 hHeld
  refine ⟨_,rfl,?_⟩
  refine hK.out _ _ ?_
  clear hK K
  refine jm (a':=?_) ?_ ?_
  rotate_left
  · show Act.put _ (some 50) _=_
    simp only [Act.put,List.setIfInBounds_toArray,List.set_cons_zero,List.set_cons_succ,bG,bJ]
    rfl
  refine zX (i:=8) (N:=some 10) #[true,true,true,true,true,true,true,true,true] rfl rfl (by kernel_rfl) (by decide) (fun K hK=>?_)
  refine zF (w1:=w5) (v:=.int .i64 e5) (by rfl) rfl (by go_simp) ?_
  refine hK.out _ _ ?_
  clear hK K
  refine jm (a':=?_) ?_ ?_
  rotate_left
  · show Act.put _ (some 10) _=_
    simp only [Act.put,List.setIfInBounds_toArray,List.set_cons_zero,List.set_cons_succ,bG,bJ]
    rfl
  refine rH (by kernel_rfl) ?_
  refine NoPanic.normal ?_
  obtain ⟨abe,vO5,vU5,hst5,uk⟩:=HM5.out
  have XW:=alC.out
  by_cases OZ:e5=0
  case pos =>
    replace XW:=(if_pos OZ).symm.trans XW
    subst OZ
    obtain ⟨rfl,q⟩:=Prod.mk.inj (Option.some.inj XW)
    obtain ⟨rfl,rfl⟩:=Prod.mk.inj q
    have kk:=hst5.blk
    have kz:=(Lh.out.block (G+1+1) (by omega)).trans K2.out
    have hV:=uk.v
    have hone:=cells_one hV
    have hdone:=Lib.hid ((hV.setRow kz (cellsS s5 vO5 vU5)).lower (show w.heap.size≤W1.heap.size by omega))
    have hbel:=Lib.hid (jq (HB1.out.trans (Lh.out.mono (show w.heap.size≤W1.heap.size by omega))) (show w.heap.size≤G+1+1 by omega) (cellsS s5 vO5 vU5))
    have hnew:=kX kz (cellsS s5 vO5 vU5)
    clear hV hst5 uk XW q
    go_wp2_with (first|((with_reducible refine dL (N:=56) rfl ?_);refine wpList_load_row rfl 39 (.tmp 9) rfl b rfl 39 (cellsS s5 vO5 vU5) (0,0) _ kk Tryd.underlying39 rfl (by kernel_rfl) ?_)|(skip;refine wpList_store_row rfl 39 (.tmp 4) (.tmp 56) rfl (G+1+1) (cellsS s5 vO5 vU5) rfl rfl 39 _ kz (by kernel_rfl) rfl hone ?_))
    (try simp only [Exit.inBlock,Exit.then])
    refine bodyPost_ret (kD rfl _ _ (G+1+1) 39 _ (0,0) _ rfl hnew Tryd.underlying39 rfl (by kernel_rfl)) rfl ?_
    have q1:=hdone.out
    have q2:=hbel.out
    rw [hG] at q1 q2
    exact ⟨_,_,rfl,q1,q2⟩
  case neg =>
    have hb2:(e5 == 0)=false:=beq_eq_false_iff_ne.2 OZ
    have hb3:(e5 != 0)=true:=by simp [OZ]
    replace XW:=(if_neg OZ).symm.trans XW
    obtain ⟨rfl,q⟩:=Prod.mk.inj (Option.some.inj XW)
    obtain ⟨rfl,rfl⟩:=Prod.mk.inj q
    clear XW q hst5 uk
    replace HS:=ae.mk (Kd.tC HS.out Lh.out)
    replace HU:=ae.mk (Kd.ja HU.out Lh.out)
    replace XR:=ae.mk ((Lh.out.block (G+1) (by omega)).trans XR.out)
    replace K2:=ae.mk ((Lh.out.block (G+2) (by omega)).trans K2.out)
    replace HB1:=ae.mk (HB1.out.trans (Lh.out.mono (show w.heap.size≤W1.heap.size by omega)))
    have hs5:G+3≤w5.heap.size:=by have:=Lh.out.size;omega
    have kk:=XR.out
    go_upto_region 999 with ((with_reducible refine dL (N:=53) rfl ?_);refine wpList_load_row rfl 39 (.tmp 3) rfl (G+1) rfl 39 (cellsS s vO vU) (0,0) _ kk Tryd.underlying39 rfl (by kernel_rfl) ?_)
    refine (qE s vO vU bO bU okO Ru w5 HS.out HU.out hsm).mono ?_
    rintro e wq ⟨qI,qH,rfl,hV,zo⟩
    have kz:=(zo.block (G+1+1) (by omega)).trans K2.out
    have hone:=cells_one hV
    have hdone:=Lib.hid ((hV.setRow kz (cellsS s qI qH)).lower (show w.heap.size≤w5.heap.size by omega))
    have hbel:=Lib.hid (jq (HB1.out.trans (zo.mono (show w.heap.size≤w5.heap.size by omega))) (show w.heap.size≤G+1+1 by omega) (cellsS s qI qH))
    have hnew:=kX kz (cellsS s qI qH)
    clear hV zo kk
    go_wp2_with (skip;refine wpList_store_row rfl 39 (.tmp 4) (.tmp 54) rfl (G+1+1) (cellsS s qI qH) rfl rfl 39 _ kz (by kernel_rfl) rfl hone ?_)
    (try simp only [Exit.inBlock,Exit.then])
    refine bodyPost_ret (kD rfl _ _ (G+1+1) 39 _ (0,0) _ rfl hnew Tryd.underlying39 rfl (by kernel_rfl)) rfl ?_
    exact ⟨_,_,rfl,hdone.out,hbel.out⟩
end Go.Proofs.YtlemecdddhdagaaDoor.P
end
section
namespace Go.Proofs.YtlemecdddhdagaaDoor.P
open Go.RowKit Go.Proofs.ag.bI Go.Proofs.ag.dM Go.Proofs.ag.dZ
open Classical in
noncomputable def stepS (k:Nat) (l0:List ByteArray) (a1 a2:ByteArray) (l3:List gZ) (s:St):Option (St × Bool × Int):=if Small s then nU.f k l0 a1 a2 l3 s else none
theorem Es {k:Nat} {l0:List ByteArray} {a1 a2:ByteArray} {l3:List gZ} {s:St} {r:St × Bool × Int} (h:stepS k l0 a1 a2 l3 s=some r):Small s∧nU.f k l0 a1 a2 l3 s=some r:=by
  unfold stepS at h
  split at h
  · exact ⟨‹_›,h⟩
  · cases h
end Go.Proofs.YtlemecdddhdagaaDoor.P
end
