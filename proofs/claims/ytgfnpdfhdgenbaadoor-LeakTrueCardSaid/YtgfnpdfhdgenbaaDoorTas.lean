/- Parts of the proof of LeakTrue: what the functions that it reaches compute, and plain facts about that. -/
import Derived.Test.YtgfnpdfhdgenbaaDoorTar
import Derived.StillTailTactics
import Derived.Deep.LoopGhost
import Derived.Test.YtgfnpdfhdgenbaaDoorTap
set_option linter.unusedVariables false
set_option linter.unusedSimpArgs false
section
namespace Go.Proofs.YtgfnpdfhdgenbaaDoor.P
open Go.RowKit Go.Proofs.ae.bf Go.Proofs.ae.bY Go.Proofs.ae.cZ
structure aad (t:List ByteArray) (lo gl:ByteArray) (len n:Nat) (ty:List Int) (x:gY) (s s':St) (e:Int):Prop where
  code:e=0 ∨ e=9
  bad:e ≠ 0→s'=bump s
  inv:Inv t lo gl (n+1) s' (if x.f0=5 then ty++[bP t lo x.f1] else ty)
  pc:e=0→0≤s'.pc∧s'.pc≤len
  steps:s'.steps=wrap64 (s.steps+1)
  out:s'.out=s.out++(if x.f0=14 then [s.x x.f1.toNat] else [])
  aK:s'.aK.length=s.aK.length+(if x.f0=5 then 1 else 0)
theorem Qa {t:List ByteArray} {lo gl:ByteArray} {len n:Nat} {s:St} {ty:List Int} {x:gY} (hr:jH t=true) (hlo:lo.size≤8) (hgl:gl.size≤4) (hx:Fine t lo gl len x)
    (w1:0≤x.f1∧x.f1≤255) (w2:0≤x.f2∧x.f2≤255) (w3:0≤x.f3∧x.f3≤255) (hI:Inv t lo gl n s ty) (hn:n≤1000000) (hlen:len≤200) (h0:0≤s.pc) (h1:s.pc < len) :
    ∃ s' e,PD (P9 t lo) s x=some (s',e)∧aad t lo gl len n ty x s s' e:=by
  have hpc:wrap64 (s.pc+1)=s.pc+1:=by unfold wrap64;omega
  have hb:(bump s).pc=s.pc+1:=hpc
  have hfew:=hI.few
  rw [Ic w1.1 w2.1 w3.1 (by omega) (by omega)]
  obtain ⟨op,fa,fb,fc,n4⟩:=x
  obtain ⟨a,rfl⟩:=Int.eq_ofNat_of_zero_le w1.1
  obtain ⟨b,rfl⟩:=Int.eq_ofNat_of_zero_le w2.1
  obtain ⟨c,rfl⟩:=Int.eq_ofNat_of_zero_le w3.1
  simp only at w1 w2 w3 ⊢
  simp only [Int.toNat_natCast]
  have hop:=hx.op
  simp only at hop
  have hsz:∀ τ:Int,0≤iH t τ∧iH t τ≤6:=fun τ=>by
    by_cases hτ:0≤τ
    · obtain ⟨m,rfl⟩:=Int.eq_ofNat_of_zero_le hτ
      have:=uX hr m
      unfold iH at this ⊢
      omega
    · unfold iH Py
      rw [if_neg (by simp only [decide_eq_false hτ,Bool.false_and,Bool.and_false];decide)]
      exact ⟨by decide,by decide⟩
  have loc:∀ a:Nat,0≤bP t lo a→a < 8:=fun a h=>by have:=(qR hlo h).1;omega
  have Zh:∀ a:Nat,0≤bP t gl a→a < 4:=fun a h=>by
    have:((a:Nat):Int) < gl.size:=by
      unfold bP at h
      split at h
      · assumption
      · omega
    omega
  have obj:∀ (b:Nat),0≤bP t lo b→s.p b ≠ 0→1≤s.p b∧s.p b≤s.aK.length∧((s.p b - 1).toNat < ty.length)∧ty.getD (s.p b - 1).toNat (-1)=bP t lo b∧((rowOf s (s.p b)).length:Int)=iH t (bP t lo b):=fun b hb hne=>by
    rcases hI.p b hb with h|⟨q1,q2,q3⟩
    · exact absurd h hne
    · have hl:=hI.len
      have hlt:(s.p b - 1).toNat < ty.length:=by omega
      have:=hI.size _ hlt
      rw [q3] at this
      exact ⟨q1,by omega,hlt,q3,this⟩
  obtain h|h|h|h|h|h|h|h|h|h|h|h|h|h|h:op=1 ∨ op=2 ∨ op=3 ∨ op=4 ∨ op=5 ∨ op=6 ∨ op=7 ∨ op=8 ∨ op=9 ∨ op=10 ∨ op=11 ∨ op=12 ∨ op=13 ∨ op=14 ∨ op=15:=by omega
  all_goals subst h
  · have q:=hx.one (.inl rfl)
    simp only at q
    rw [Ov,if_pos (by omega)]
    exact ⟨_,_,rfl,.inl rfl,fun h=>absurd rfl h,(by dsimp only;rw [if_neg (show ¬ ((1:Int)=5) from by decide)];exact hI.as rfl rfl rfl (by show s.out.length≤_;omega)),fun _=>by show 0≤(bump s).pc∧(bump s).pc≤_;omega,rfl,(List.append_nil _).symm,rfl⟩
  · have q:=hx.add rfl
    simp only at q
    rw [Ou,if_pos (by omega)]
    exact ⟨_,_,rfl,.inl rfl,fun h=>absurd rfl h,(by dsimp only;rw [if_neg (show ¬ ((2:Int)=5) from by decide)];exact hI.as rfl rfl rfl (by show s.out.length≤_;omega)),fun _=>by show 0≤(bump s).pc∧(bump s).pc≤_;omega,rfl,(List.append_nil _).symm,rfl⟩
  · have q:=hx.jump (.inl rfl)
    rw [Ot]
    exact ⟨_,_,rfl,.inl rfl,fun h=>absurd rfl h,(by dsimp only;rw [if_neg (show ¬ ((3:Int)=5) from by decide)];exact hI.as rfl rfl rfl (by show s.out.length≤_;omega)),fun _=>q,rfl,(List.append_nil _).symm,rfl⟩
  · have q:=hx.jump (.inr rfl)
    have q1:=hx.one (.inr (.inl rfl))
    simp only at q1
    rw [Oq,if_pos (by omega)]
    split
    · exact ⟨_,_,rfl,.inl rfl,fun h=>absurd rfl h,(by dsimp only;rw [if_neg (show ¬ ((4:Int)=5) from by decide)];exact hI.as rfl rfl rfl (by show s.out.length≤_;omega)),fun _=>q,rfl,(List.append_nil _).symm,rfl⟩
    · exact ⟨_,_,rfl,.inl rfl,fun h=>absurd rfl h,(by dsimp only;rw [if_neg (show ¬ ((4:Int)=5) from by decide)];exact hI.as rfl rfl rfl (by show s.out.length≤_;omega)),fun _=>by omega,rfl,(List.append_nil _).symm,rfl⟩
  · have q:=hx.new (.inl rfl)
    simp only at q
    have hs:=hsz (bP t lo a)
    rw [Ol,if_pos (loc a q),P9,if_pos ⟨w1.1,w1.2⟩,Option.bind_some,if_pos (by omega)]
    exact ⟨_,_,rfl,.inl rfl,fun h=>absurd rfl h,(by dsimp only;rw [if_pos rfl];exact hI.new a _ rfl rfl hs.1 rfl rfl rfl),fun _=>by show 0≤(bump s).pc∧(bump s).pc≤_;omega,rfl,(List.append_nil _).symm,List.length_append⟩
  · have q:=hx.new (.inr rfl)
    simp only at q
    rw [Oj,if_pos (loc a q)]
    exact ⟨_,_,rfl,.inl rfl,fun h=>absurd rfl h,(by dsimp only;rw [if_neg (show ¬ ((6:Int)=5) from by decide)];exact hI.wK a 0 rfl rfl rfl rfl (.inl rfl)),fun _=>by show 0≤(bump s).pc∧(bump s).pc≤_;omega,rfl,(List.append_nil _).symm,rfl⟩
  · obtain ⟨q,q2⟩:=hx.move rfl
    simp only at q q2
    rw [Oi,if_pos ⟨loc a q,loc b (q2 ▸ q)⟩]
    exact ⟨_,_,rfl,.inl rfl,fun h=>absurd rfl h,(by dsimp only;rw [if_neg (show ¬ ((7:Int)=5) from by decide)];exact hI.wK a _ rfl rfl rfl rfl (q2 ▸ hI.p b (q2 ▸ q))),fun _=>by show 0≤(bump s).pc∧(bump s).pc≤_;omega,rfl,(List.append_nil _).symm,rfl⟩
  · obtain ⟨q1,q2,q3,q4⟩:=hx.UJ rfl
    simp only at q1 q2 q3 q4
    rw [Oh,if_pos ⟨by omega,loc b q2⟩]
    by_cases hz:s.p b=0
    · rw [if_pos hz]
      exact ⟨_,_,rfl,.inr rfl,fun _=>rfl,(by dsimp only;rw [if_neg (show ¬ ((8:Int)=5) from by decide)];exact hI.as rfl rfl rfl (by show s.out.length≤_;omega)),fun h=>absurd h (by decide),rfl,(List.append_nil _).symm,rfl⟩
    · obtain ⟨y1,y2,y3,y4,y5⟩:=obj b q2 hz
      rw [if_neg hz,if_pos ⟨y1,y2,q3,by omega⟩]
      exact ⟨_,_,rfl,.inl rfl,fun h=>absurd rfl h,(by dsimp only;rw [if_neg (show ¬ ((8:Int)=5) from by decide)];exact hI.as rfl rfl rfl (by show s.out.length≤_;omega)),fun _=>by show 0≤(bump s).pc∧(bump s).pc≤_;omega,rfl,(List.append_nil _).symm,rfl⟩
  · obtain ⟨q1,q2,q3,q4,q5⟩:=hx.FW rfl
    simp only at q1 q2 q3 q4 q5
    obtain ⟨m,rfl⟩:=Int.eq_ofNat_of_zero_le q3
    rw [Og,if_pos ⟨loc a q2,by omega⟩]
    by_cases hz:s.p a=0
    · rw [if_pos hz]
      exact ⟨_,_,rfl,.inr rfl,fun _=>rfl,(by dsimp only;rw [if_neg (show ¬ ((9:Int)=5) from by decide)];exact hI.as rfl rfl rfl (by show s.out.length≤_;omega)),fun h=>absurd h (by decide),rfl,(List.append_nil _).symm,rfl⟩
    · obtain ⟨y1,y2,y3,y4,y5⟩:=obj a q2 hz
      rw [if_neg hz,if_pos ⟨y1,y2,q3,by omega⟩]
      exact ⟨_,_,rfl,.inl rfl,fun h=>absurd rfl h,(by dsimp only;rw [if_neg (show ¬ ((9:Int)=5) from by decide)];exact hI.FZ (s.p a - 1).toNat m _ y3 (by rw [y4];exact q4) rfl rfl rfl rfl (fun h=>by rw [y4] at h;omega)),fun _=>by show 0≤(bump s).pc∧(bump s).pc≤_;omega,rfl,(List.append_nil _).symm,List.length_set⟩
  · obtain ⟨q1,q2,q3,q4,q5⟩:=hx.Nw rfl
    simp only at q1 q2 q3 q4 q5
    obtain ⟨m,rfl⟩:=Int.eq_ofNat_of_zero_le q3
    rw [Ib,if_pos ⟨loc a q1,loc b q2⟩]
    by_cases hz:s.p b=0
    · rw [if_pos hz]
      exact ⟨_,_,rfl,.inr rfl,fun _=>rfl,(by dsimp only;rw [if_neg (show ¬ ((10:Int)=5) from by decide)];exact hI.as rfl rfl rfl (by show s.out.length≤_;omega)),fun h=>absurd h (by decide),rfl,(List.append_nil _).symm,rfl⟩
    · obtain ⟨y1,y2,y3,y4,y5⟩:=obj b q2 hz
      rw [if_neg hz,if_pos ⟨y1,y2,q3,by omega⟩]
      have hv:=hI.obj (s.p b - 1).toNat m y3 (by rw [y4];omega)
      rw [y4,← q5] at hv
      exact ⟨_,_,rfl,.inl rfl,fun h=>absurd rfl h,(by dsimp only;rw [if_neg (show ¬ ((10:Int)=5) from by decide)];exact hI.wK a _ rfl rfl rfl rfl hv),fun _=>by show 0≤(bump s).pc∧(bump s).pc≤_;omega,rfl,(List.append_nil _).symm,rfl⟩
  · obtain ⟨q1,q2,q3,q4,q5⟩:=hx.FV rfl
    simp only at q1 q2 q3 q4 q5
    obtain ⟨m,rfl⟩:=Int.eq_ofNat_of_zero_le q3
    rw [Ia,if_pos ⟨loc a q2,loc b q1⟩]
    by_cases hz:s.p a=0
    · rw [if_pos hz]
      exact ⟨_,_,rfl,.inr rfl,fun _=>rfl,(by dsimp only;rw [if_neg (show ¬ ((11:Int)=5) from by decide)];exact hI.as rfl rfl rfl (by show s.out.length≤_;omega)),fun h=>absurd h (by decide),rfl,(List.append_nil _).symm,rfl⟩
    · obtain ⟨y1,y2,y3,y4,y5⟩:=obj a q2 hz
      rw [if_neg hz,if_pos ⟨y1,y2,q3,by omega⟩]
      exact ⟨_,_,rfl,.inl rfl,fun h=>absurd rfl h,(by dsimp only;rw [if_neg (show ¬ ((11:Int)=5) from by decide)];exact hI.FZ (s.p a - 1).toNat m _ y3 (by rw [y4];exact q4) rfl rfl rfl rfl (fun _=>by rw [y4,← q5];exact hI.p b q1)),fun _=>by show 0≤(bump s).pc∧(bump s).pc≤_;omega,rfl,(List.append_nil _).symm,List.length_set⟩
  · obtain ⟨q1,q2⟩:=hx.Ny rfl
    simp only at q1 q2
    rw [H9,if_pos ⟨loc a q1,Zh b (q2 ▸ q1)⟩]
    exact ⟨_,_,rfl,.inl rfl,fun h=>absurd rfl h,(by dsimp only;rw [if_neg (show ¬ ((12:Int)=5) from by decide)];exact hI.wK a _ rfl rfl rfl rfl (q2 ▸ hI.g b (q2 ▸ q1))),fun _=>by show 0≤(bump s).pc∧(bump s).pc≤_;omega,rfl,(List.append_nil _).symm,rfl⟩
  · obtain ⟨q1,q2⟩:=hx.FX rfl
    simp only at q1 q2
    rw [H8,if_pos ⟨Zh a (q2 ▸ q1),loc b q1⟩]
    exact ⟨_,_,rfl,.inl rfl,fun h=>absurd rfl h,(by dsimp only;rw [if_neg (show ¬ ((13:Int)=5) from by decide)];exact hI.Qb a _ rfl rfl rfl rfl (q2 ▸ hI.p b q1)),fun _=>by show 0≤(bump s).pc∧(bump s).pc≤_;omega,rfl,(List.append_nil _).symm,rfl⟩
  · have q:=hx.one (.inr (.inr rfl))
    simp only at q
    rw [H7,if_pos (by omega)]
    exact ⟨_,_,rfl,.inl rfl,fun h=>absurd rfl h,(by dsimp only;rw [if_neg (show ¬ ((14:Int)=5) from by decide)];exact hI.as rfl rfl rfl (by show (s.out++[s.x a]).length≤_;simp;omega)),fun _=>by show 0≤(bump s).pc∧(bump s).pc≤_;omega,rfl,rfl,rfl⟩
  · obtain ⟨q1,q2,q3⟩:=hx.same rfl
    simp only at q1 q2 q3
    rw [H6,if_pos ⟨by omega,loc b q2,loc c (q3 ▸ q2)⟩]
    exact ⟨_,_,rfl,.inl rfl,fun h=>absurd rfl h,(by dsimp only;rw [if_neg (show ¬ ((15:Int)=5) from by decide)];exact hI.as rfl rfl rfl (by show s.out.length≤_;omega)),fun _=>by show 0≤(bump s).pc∧(bump s).pc≤_;omega,rfl,(List.append_nil _).symm,rfl⟩
theorem DL {α:Type} (g:Nat→Nat→Option α) (r:Nat→α):∀ n,(∀ j,j < n→Ev (g j) (r j))→∃ K,∀ k,K≤k→∀ j,j < n→g j k=some (r j)
  | 0,_=>⟨0,fun _ _ j hj=>absurd hj (Nat.not_lt_zero j)⟩
  | n+1,h=>by
    obtain ⟨K1,h1⟩:=DL g r n fun j hj=>h j (by omega)
    obtain ⟨K2,h2⟩:=h n (by omega)
    refine ⟨max K1 K2,fun k hk j hj=>?_⟩
    by_cases e:j=n
    · rw [e];exact h2 k (by omega)
    · exact h1 k (by omega) j (by omega)
theorem Lu {t:List ByteArray} {s:ByteArray} {a:Int} (h:0≤bP t s a):bP t s a < 8∧48≤bt s a∧bP t s a=bt s a - 48∧a < s.size:=by
  unfold bP at h ⊢
  split at h
  · rename_i ha
    rw [if_pos ha]
    split at h
    · rename_i hb
      rw [if_pos hb]
      simp only [Bool.and_eq_true,decide_eq_true_eq] at hb
      have hd:=xA hb.1
      have hr:=hb.2
      unfold jH at hr
      simp only [Bool.and_eq_true,decide_eq_true_eq] at hr
      exact ⟨by omega,by omega,rfl,ha⟩
    · omega
  · omega
section
variable {t:List ByteArray} {lo gl:ByteArray} {code:List gY} {lk:Int→Bool} {Y:Tb}
theorem zk (h:Ok t lo gl code) (hwf:Wf code) (hk0:(nX t lo gl code).2=0) (hnews:D5 lo code Y) (hcl:Closed lo.size (code.length+1) code Y) (k:Nat) (hstep:∀ s,eu (step0 t lo gl code s) (xe k t lo gl code s))
    (WQ:∀ q:Nat,q < code.length→bH.f k t lo gl code (q:Int)=some (lk q)) (hlk:∀ q:Nat,q < code.length→(∃ y ∈ code,(y.f0=11 ∨ y.f0=13)∧0≤y.f2∧y.f2 < lo.size∧Y y.f2.toNat q=true)→lk q=true)
    (hto:∀ τ f:Nat,τ < 8→f < 6→dJ.f k t (τ:Int) (f:Int)=some (AQ t τ f)) :
    ∀ (n:Nat) (s:St) (cnt:Nat) (ty made:List Int),Inv t lo gl cnt s ty→Ak t lo gl code lk Y s ty made→(∀ q:Nat,q < ty.length→0≤rd ty q∧rd ty q < 8)→cnt+n≤256→0≤s.pc→s.pc≤code.length→Fz k t lo gl code lk Y (xe k t lo gl code) n s made ty
  | 0,_,_,_,_,_,_,_,_,_,_=>trivial
  | n+1,s,cnt,ty,made,hI,hL,hty,hn,h0,h1=>by
    have hfew:=hI.few
    have hrow:∀ q:Nat,q < s.aK.length→((s.aK.getD q []).length:Int)=iH t (ty.getD q (-1))∧(s.aK.getD q []).length≤6:=by
      intro q hq
      have hl:=hI.len
      have e:=hI.size q (by omega)
      have hrd:=hty q (by omega)
      have e2:rd ty q=ty.getD q (-1):=by
        unfold rd
        rw [Int.toNat_natCast,List.getD_eq_getElem?_getD,List.getD_eq_getElem?_getD,List.getElem?_eq_getElem (by omega)]
        rfl
      rw [e2] at hrd
      obtain ⟨m,hm⟩:=Int.eq_ofNat_of_zero_le hrd.1
      have:=uX h.right m
      rw [hm] at e ⊢
      unfold iH at e this ⊢
      exact ⟨e,by omega⟩
    refine ⟨⟨fun q hq=>?_,fun a ha hk=>?_,fun j _=>hL.TP j,fun q hq hq2 f hf=>?_,⟨by omega,fun q hq=>(hrow q hq).2⟩,hI.len⟩,?_⟩
    · obtain ⟨p1,p2⟩:=hL.place q hq
      obtain ⟨m,hm⟩:=Int.eq_ofNat_of_zero_le p1
      rw [hm]
      exact WQ m (by omega)
    · have hk2:=hk
      unfold jV at hk2
      simp only [Bool.and_eq_true,decide_eq_true_eq] at hk2
      obtain ⟨i,hi⟩:=Int.eq_ofNat_of_zero_le (show 0≤s.p a - 1 by omega)
      have hpl:=hL.place i (by omega)
      rw [← hi] at hpl
      exact ⟨hpl.1,by omega,hL.loc a ha hk⟩
    · have e2:rd ty q=ty.getD q (-1):=by
        unfold rd
        rw [Int.toNat_natCast,List.getD_eq_getElem?_getD,List.getD_eq_getElem?_getD,List.getElem?_eq_getElem hq2]
        rfl
      have hrd:=hty q hq2
      obtain ⟨m,hm⟩:=Int.eq_ofNat_of_zero_le hrd.1
      have hf6:=(hrow q hq).2
      refine ⟨AQ t m f,?_,fun hr=>hL.Pz q hq f ?_⟩
      · rw [hm]
        exact hto m f (by omega) (by omega)
      · rw [← e2,hm]
        exact hr
    · by_cases hlt:s.pc < code.length
      case neg=>exact ⟨s,true,0,hstep s _ (KX hk0 (hI.small h.right (by omega)) (by omega)),fun q=>by cases q.1⟩
      obtain ⟨p,hp⟩:=Int.eq_ofNat_of_zero_le h0
      have hpl:p < code.length:=by omega
      have hx:aC code s.pc=code.getD p z45:=by rw [hp];rfl
      have hwx:=h.wf p
      have hwu:=hwf p
      obtain ⟨s',e,hd,hN⟩:=Qa h.right h.I9 h.gl4 (h.fine p hpl) hwx.1 hwx.2.1 hwx.2.2 hI (by omega) h.len.2 h0 hlt
      have hst:=KW hk0 (hI.small h.right (by omega)) h0 hlt (by rw [hx];exact hd)
      have hd2:=hd
      rw [Ic hwx.1.1 hwx.2.1.1 hwx.2.2.1 (by omega) (by omega)] at hd2
      have hmem:code.getD p z45 ∈ code:=by
        rw [List.getD_eq_getElem?_getD,List.getElem?_eq_getElem hpl]
        exact List.getElem_mem hpl
      have NM:=h.fine p hpl
      rw [hx]
      generalize hxe:code.getD p z45=x at hd hN hd2 hmem NM hwx hwu ⊢
      have e1:x.f1=(x.f1.toNat:Int):=by have:=hwx.1.1;omega
      have e2:x.f2=(x.f2.toNat:Int):=by have:=hwx.2.1.1;omega
      have e3:x.f3=(x.f3.toNat:Int):=by have:=hwx.2.2.1;omega
      have hK:=Nz h.I9 NM hmem hxe hp hpl e1 e2 e3 rfl hI hL hnews hcl hlk hd2
      by_cases he:e=0
      case neg =>
        rw [if_neg he] at hst
        exact ⟨s,false,e,hstep s _ hst,fun q=>absurd q.2 he⟩
      rw [if_pos he] at hst
      refine ⟨s',false,0,hstep s _ hst,fun _=>⟨by have:=hN.inv.few.1;omega,?_⟩⟩
      have hpc:=hN.pc he
      rcases hK with ⟨k1,k2⟩|⟨k1,k2,k3⟩
      · rw [if_neg (by omega)]
        have h5:x.f0 ≠ 5:=fun h5=>by have:=hN.aK;rw [if_pos h5] at this;omega
        have hinv:=hN.inv
        rw [if_neg h5] at hinv
        exact zk h hwf hk0 hnews hcl k hstep WQ hlk hto n s' (cnt+1) ty made hinv k2 hty (by omega) hpc.1 hpc.2
      · rw [if_pos (by omega)]
        have hinv:=hN.inv
        rw [if_pos k1] at hinv
        have hna:=NM.new (Or.inl k1)
        obtain ⟨r1,r2,r3,r4⟩:=Lu hna
        rw [← r3]
        refine ⟨⟨⟨h0,hlt⟩,by rw [hx,hxe];exact ⟨hwx.1.1,r4⟩,by rw [hx,hxe];exact r2⟩,?_⟩
        refine zk h hwf hk0 hnews hcl k hstep WQ hlk hto n s' (cnt+1) (ty++[bP t lo x.f1]) (made++[s.pc]) hinv (k3 _) (fun q hq=>?_) (by omega) hpc.1 hpc.2
        by_cases hq2:q < ty.length
        · rw [xU (by omega) (by omega)]
          exact hty q hq2
        · obtain rfl:q=ty.length:=by simp at hq;omega
          rw [BM]
          exact ⟨hna,r1⟩
end
theorem Ac (t:List ByteArray) (lo gl:ByteArray) (code:List gY) (many:Nat) (ht:t.length≤9223372036854775807) (hts:∀ i:Int,(eG ByteArray.empty t i).size≤9223372036854775807) (hs:lo.size+gl.size≤9223372036854775807) (hc:code.length≤9223372036854775807) (hw:Wf code) (hm:many≤255) :
    ∃ k,leakTrue.ok k t lo gl code many:=by
  have hw6:Z7 code:=fun i=>⟨(hw i).2.1,(hw i).2.2.1,(hw i).2.2.2.1⟩
  have hwn:WfN code:=fun i=>(hw i).2.2.2.2
  obtain ⟨few,⟨K1,h1⟩,_⟩:=TT t lo gl code ht
  obtain ⟨K2,h2⟩:=Ue
  obtain ⟨K3,h3⟩:=ER t lo gl code ht hts hc hw6 hwn (by omega) (by omega)
  by_cases hgood:few=true∧code.length≤60∧(nX t lo gl code).2=0
  case neg =>
    obtain ⟨k,hk⟩:∃ k,k=K1+K2+K3:=⟨_,rfl⟩
    refine ⟨k,h2 k (by omega),false,?_,fun q=>by cases q⟩
    unfold gq.f
    have e1:bM.f k t lo gl code=some few:=h1 k (by omega)
    have e3:au.f k t lo gl code=some (nX t lo gl code):=h3 k (by omega)
    rw [e1,Option.bind_some]
    by_cases hf:few=true
    · rw [if_pos hf]
      by_cases h60:(code.length:Int) > 60
      · rw [if_pos h60]
      · rw [if_neg h60,e3,Option.bind_some]
        have:¬ (nX t lo gl code).2=0:=fun q=>hgood ⟨hf,by omega,q⟩
        rw [beq_eq_false_iff_ne.2 this]
    · rw [if_neg hf]
  case pos =>
  obtain ⟨hf,h60,hok⟩:=hgood
  have hOk:=YH hok hw6
  obtain ⟨Y,⟨K4,h4⟩,hY⟩:=Qr t lo gl code hOk.I9 h60 hw
  have hnews:=Qq lo code Y hY
  obtain ⟨ky,hky⟩:=hY
  have hcl:=uy lo.size (code.length+1) code ky _ Y hky
  obtain ⟨K5,h5⟩:=KU (t:=t) (lo:=lo) (gl:=gl) (code:=code) ht hts hs hc hw6 hwn
  obtain ⟨K6,h6⟩:=DL (fun j k=>bH.f k t lo gl code (j:Nat)) (fun j=>scan (badL lo.size Y code j) false code.length 0) code.length (fun q hq=>Qu t lo gl code Y hc hw ⟨K4,h4⟩ q hq)
  obtain ⟨K7,h7⟩:=DL (fun j k=>dJ.f k t ((j / 6:Nat):Int) ((j % 6:Nat):Int)) (fun j=>AQ t ((j / 6:Nat):Int) ((j % 6:Nat):Int)) 48 (fun j _=>MO t ht hts _ _)
  obtain ⟨k,hk⟩:∃ k,k=K1+K2+K3+K4+K5+K6+K7:=⟨_,rfl⟩
  refine ⟨k,h2 k (by omega),true,?_,fun _=>⟨hOk.I9,h60,Y,h4 k (by omega),fun m=>scan (badL lo.size Y code m.toNat) false code.length 0,?_⟩⟩
  · unfold gq.f
    have e1:bM.f k t lo gl code=some few:=h1 k (by omega)
    have e3:au.f k t lo gl code=some (nX t lo gl code):=h3 k (by omega)
    rw [e1,Option.bind_some,if_pos hf,if_neg (by omega),e3,Option.bind_some,hok]
    rfl
  · refine zk hOk hw hok hnews hcl k (h5 k (by omega)) (fun q hq=>h6 k (by omega) q hq) (fun q hq hex=>?_) (fun τ f hτ hf=>?_) many Vw 0 [] [] inv0 (agP t lo gl code _ Y) (fun q hq=>absurd hq (Nat.not_lt_zero q)) (by omega) (Int.le_refl _) (by show (0:Int)≤_;omega)
    · obtain ⟨y,hy,ho,h0,h1,hyq⟩:=hex
      obtain ⟨j,hj⟩:=List.getElem?_of_mem hy
      obtain ⟨g1,g2⟩:=KA hj
      refine GG g2 ?_
      rw [g1,Int.toNat_natCast]
      unfold hits
      rw [hyq,decide_eq_true h1]
      rcases ho with ho|ho <;> simp [ho]
    · have:=h7 k (by omega) (τ * 6+f) (by omega)
      rw [show (τ * 6+f) / 6=τ by omega,show (τ * 6+f) % 6=f by omega] at this
      exact this
end Go.Proofs.YtgfnpdfhdgenbaaDoor.P
end
section
namespace Go.Proofs.YtgfnpdfhdgenbaaDoor.P
open Go.RowKit Go.Proofs.ae.bf Go.Proofs.ae.bY Go.Proofs.ae.cZ
structure wB (G c mb:Nat) (P S:Array Value) (vM vT:Value) (made types:List Int) (w0 w:World):Prop where
  ZQ:Bk w0 G P 25
  bs:Bk w c S 36
  bm:Bk w mb #[vM] 37
  md:Kd.R (Kd.int .i64) 3 w w0.heap.size (fun _=>True) vM made
  ty:Kd.R (Kd.int .i64) 3 w w0.heap.size (fun k=>True∧some k ≠ vM.ownBlock) vT types
  bel:Below w0.heap.size w0 w
  lo:w0.heap.size≤c∧c < mb
section
variable {G c mb:Nat} {P S:Array Value} {vM vT:Value} {made types:List Int} {w0 w w1:World}
theorem wB.bp (h:wB G c mb P S vM vT made types w0 w):Bk w G P 25:=h.ZQ.below h.bel
theorem wB.below (h:wB G c mb P S vM vT made types w0 w) (hb:Below w.heap.size w w1):wB G c mb P S vM vT made types w0 w1 :=
  ⟨h.ZQ,h.bs.below hb,h.bm.below hb,Kd.jF h.md hb,Kd.jF h.ty hb,h.bel.trans (hb.mono h.bel.size),h.lo⟩
theorem wB.drew (h:wB G c mb P S vM vT made types w0 w):wB G c mb P S vM vT made types w0 w.drew:=h.below (ak (Below.refl _ _))
theorem wB.write (h:wB G c mb P S vM vT made types w0 w) (cs:Array Value):wB G c mb P cs vM vT made types w0 (w.setRow c cs):=by
  obtain ⟨l1,l2⟩:=h.lo
  refine ⟨h.ZQ,h.bs.setRow cs,h.bm.fK cs (by omega),?_,?_,dm h.bel l1 cs,h.lo⟩
  · exact Kd.mg (Kd.kY (Kd.oU h.md h.bs (by intro q hq;simp [Kd.int,Kd.scalar] at hq;omega)) (fun k hk _=>jw cs k hk.2)) (fun k hk=>hk.1)
  · exact Kd.mg (Kd.kY (Kd.oU h.ty h.bs (by intro q hq;simp [Kd.int,Kd.scalar] at hq;omega)) (fun k hk _=>jw cs k hk.2)) (fun k hk=>hk.1)
theorem wB.Wy {vT':Value} {types':List Int} (h:wB G c mb P S vM vT made types w0 w) (hr:Kd.R (Kd.int .i64) 3 w1 w0.heap.size (fun k=>True∧some k ≠ vM.ownBlock) vT' types') (hb:Below w0.heap.size w0 w1) (hg:w.grownBy w1 vT.ownBlock):wB G c mb P S vM vT' made types' w0 w1:=by
  have far:∀ {g:Nat} {cs:Array Value} {t:TypeId},t ≠ 3→Bk w g cs t→Bk w1 g cs t:=fun ht hk=>hk.of (hg.block _ hk.lt (Kd.OV h.ty hk (Ne.symm ht)))
  exact ⟨h.ZQ,far (by decide) h.bs,far (by decide) h.bm,Kd.OW h.md rfl hg (fun k hk=>(h.ty.1 k hk).2),hr,hb,h.lo⟩
theorem wB.WA {Px:Value} {made':List Int} (h:wB G c mb P S vM vT made types w0 w) (hr:Kd.R (Kd.int .i64) 3 w1 w0.heap.size (fun _=>True) Px made') (hb:Below w0.heap.size w0 w1) (hg:w.grownBy w1 vM.ownBlock) (hat:Px.ownBlock=vM.ownBlock ∨ ∃ b,Px.ownBlock=some b∧w.heap.size≤b) :
    Bk w1 mb #[vM] 37∧wB G c mb P S Px vT made' types w0 (w1.setCell ⟨mb,0,none⟩ Px):=by
  obtain ⟨l1,l2⟩:=h.lo
  have far:∀ {g:Nat} {cs:Array Value} {t:TypeId},t ≠ 3→Bk w g cs t→Bk w1 g cs t:=fun ht hk=>hk.of (hg.block _ hk.lt (Kd.OV h.md hk (Ne.symm ht)))
  have bm1:Bk w1 mb #[vM] 37:=far (by decide) h.bm
  have ty1:=Kd.Uj h.ty hg hat
  refine ⟨bm1,h.ZQ,(far (by decide) h.bs).far 0 Px (by omega),?_,Kd.Vx hr bm1 (by intro q hq;simp [Kd.int,Kd.scalar] at hq;omega) 0 Px,Kd.Vx ty1 bm1 (by intro q hq;simp [Kd.int,Kd.scalar] at hq;omega) 0 Px,hb.setCell (p:=⟨mb,0,none⟩) (by show w0.heap.size≤mb;omega) Px,h.lo⟩
  have:=bm1.set 0 Px
  exact this
end
def xw.T1:Bool × List (List Nat × List Nat):=(true,[([],[]),([0],[0]),([1],[1]),([2],[2]),([2],[2]),([4,2],[2,4]),([3,5,2],[2,3,5]),([2,6],[2,6]),([7,2],[7]),([8],[8]),([8],[8]),([8],[8]),([11,8],[8,11]),([10,12,8],[8,10,12]),([13,8],[8,13]),([9,14,8,8],[8,9,14]),([15,8],[8,15]),([8,16],[8,16]),([17,15,0,1,2,3,4,5,6,7,8,9,10,11,12,13,14,15,16,17],[17])])
def xw.B1:List Nat:=[0,1,3,7,7,23,63,127,255,511,511,511,2559,7679,15871,32767,65535,131071,262143]
theorem xw.VW:oz .any (opsOf Tryd.f9 1)=xw.T1:=by kernel_rfl
theorem xw.OL:nM xw.T1.2 xw.B1=true:=by kernel_rfl
set_option maxRecDepth 100000 in
set_option maxHeartbeats 6400000 in
theorem rP (G c mb:Nat) (S:Array Value) (vM vT:Value) (made types:List Int) (k:Nat) (A0:Option Addr) (c0:Nat) (l0:List ByteArray) (a1 a2:ByteArray) (A3:Option Addr) (c3:Nat) (l3:List gY) (lk:Int→Bool) (o:Int) (w0 w:World)
    (hX:wB G c mb #[.slice A0 l0.length c0,.string a1,.string a2,.slice A3 l3.length c3] S vM vT made types w0 w) (hr0:Kd.C Kd.string w0 A0 l0.length l0) (hc0:l0.length≤c0) (hr3:Kd.C uU w0 A3 l3.length l3) (hc3:l3.length≤c3) (hlen:made.length≤1000) (hlk:∀ q:Nat,q < made.length→bH.f k l0 a1 a2 l3 (rd made q)=some (lk (rd made q))) :
    Calls Tryd.prog 9 #[.int .i64 o,.pointer (some ⟨mb,0,none⟩),.pointer (some ⟨G,0,none⟩)] w fun e w'=>e=.returned (.bool (jV made lk o))∧Below w.heap.size w w':=by
  have HR0:=af.mk hr0
  have HR3:=af.mk hr3
  have HX:=af.mk hX
  have cm:w.cell? ⟨mb,0,none⟩=some vM:=hX.bm.cell 0
  clear hr0 hr3 hX
  by_cases h0:0 < o
  case neg =>
    have e0:decide ((0:Int) < o)=false:=decide_eq_false h0
    have ek:jV made lk o=false:=by unfold jV;rw [decide_eq_false (fun q=>h0 q.1),Bool.false_and]
    rw [ek]
    clear ek h0 hlk
    go_enter Tryd.func9,Tryd.ntmps9
    go_wp2
    go_quiet (fail)
    rename_i nq
    go_wp2
    go_ret
    exact ⟨rfl,ag (Below.refl _ _) nq⟩
  have e0:decide ((0:Int) < o)=true:=decide_eq_true h0
  obtain ⟨Am,cm',rfl⟩:=Kd.oV HX.out.md
  by_cases h1:o≤made.length
  case neg =>
    have e1:decide (o≤(made.length:Int))=false:=decide_eq_false h1
    have ek:jV made lk o=false:=by unfold jV;rw [decide_eq_false (fun q=>h1 q.2),Bool.false_and]
    rw [ek]
    clear ek h0 h1 hlk
    go_enter Tryd.func9,Tryd.ntmps9
    go_wp2
    go_quiet (fail)
    rename_i nq
    go_wp2
    go_ret
    exact ⟨rfl,ag (Below.refl _ _) nq⟩
  obtain ⟨i,hi⟩:=Int.eq_ofNat_of_zero_le (show 0≤o - 1 by omega)
  obtain rfl:o=(i:Int)+1:=by omega
  have HLK:=Lib.hid (hlk i (by omega))
  obtain ⟨g,cap,ev,_,_,_⟩:=Kd.zL HX.out.md (by omega)
  rw [ev] at HX cm
  have e1:decide ((i:Int)+1≤(made.length:Int))=true:=decide_eq_true h1
  have e2:wrap64 (i:Int)=(i:Int):=by unfold wrap64;omega
  have j1:(i < made.length)=True:=eq_true (by omega)
  have ek:jV made lk ((i:Int)+1)=!lk (rd made i):=by
    unfold jV
    rw [decide_eq_true ⟨h0,h1⟩,Bool.true_and,show (i:Int)+1 - 1=(i:Int) by omega]
  rw [ek]
  clear ek hlk hi ev h0
  have HI:=Lib.hid (show i < made.length by omega)
  clear h1
  go_enter Tryd.func9,Tryd.ntmps9
  go_upto_region 1 with (fail)
  refine wp_region_noPanic ?_
  refine oJ (n:=19) (S:=fun w'=>wB G c mb #[.slice A0 l0.length c0,.string a1,.string a2,.slice A3 l3.length c3] S (.slice (some ⟨g,0,none⟩) made.length cap) vT made types w0 w'∧Below w.heap.size w w') (ds:=[]) #[false,false,false,false,false,false,false,false,false,false,false,false,false,false,false,false,false,false,false] (by kernel_rfl) rfl rfl ⟨HX.out.drew,ak (Below.refl _ _)⟩ (fun hHeld=>?_)
  refine kP xw.VW xw.OL (fun fH qy=>?_)
  clear HX
  generalize World.drew _=Wd at hHeld ⊢
  refine bW (i:=0) (N:=(some 5)) (v:=?_) (a':=?_) #[true,false,false,false,false,false,false,false,false,false,false,false,false,false,false,false,false,false,false] rfl rfl (bG fH.out (by kernel_rfl)) (fun _ _ _ h=>h) (Or.inl ⟨by rfl,?_⟩) ?_ ?_
  rotate_left
  · intro w'
    go_simp
    with_reducible rfl
  rotate_left
  · simp only [Act.put,List.setIfInBounds_toArray,List.set_cons_zero,List.set_cons_succ,aX,aY]
    rfl
  refine bW (i:=1) (N:=(some 6)) (v:=?_) (a':=?_) #[true,true,false,false,false,false,false,false,false,false,false,false,false,false,false,false,false,false,false] rfl rfl (bG fH.out (by kernel_rfl)) (fun _ _ _ h=>h) (Or.inl ⟨by rfl,?_⟩) ?_ ?_
  rotate_left
  · intro w'
    go_simp
    with_reducible rfl
  rotate_left
  · simp only [Act.put,List.setIfInBounds_toArray,List.set_cons_zero,List.set_cons_succ,aX,aY]
    rfl
  refine bW (i:=2) (N:=(some 7)) (v:=?_) (a':=?_) #[true,true,true,false,false,false,false,false,false,false,false,false,false,false,false,false,false,false,false] rfl rfl (bG fH.out (by kernel_rfl)) (fun _ _ _ h=>h) (Or.inl ⟨by rfl,?_⟩) ?_ ?_
  rotate_left
  · intro w'
    go_simp
    with_reducible rfl
  rotate_left
  · simp only [Act.put,List.setIfInBounds_toArray,List.set_cons_zero,List.set_cons_succ,aX,aY]
    rfl
  refine bW (i:=3) (N:=(some 8)) (v:=?_) (a':=?_) #[true,true,true,true,false,false,false,false,false,false,false,false,false,false,false,false,false,false,false] rfl rfl (bG fH.out (by kernel_rfl)) (fun _ _ _ h=>h) (Or.inl ⟨by rfl,?_⟩) ?_ ?_
  rotate_left
  · intro w'
    go_simp
    with_reducible rfl
  rotate_left
  · simp only [Act.put,List.setIfInBounds_toArray,List.set_cons_zero,List.set_cons_succ,aX,aY]
    rfl
  refine jf (i:=4) (N:=(some 9)) (v:=?_) (a':=?_) #[true,true,true,true,true,false,false,false,false,false,false,false,false,false,false,false,false,false,false] rfl rfl (gm fH.out qy.out (by kernel_rfl)) (fun _ _ _ h=>h) (Or.inl ⟨by rfl,?_⟩) hHeld ?_ ?_
  rotate_left
  · intro w' pg
    have c_:w'.cell? ⟨mb,0,none⟩=some (.slice (some ⟨g,0,none⟩) made.length cap):=pg.1.bm.cell 0
    go_simp
    with_reducible rfl
  rotate_left
  · simp only [Act.put,List.setIfInBounds_toArray,List.set_cons_zero,List.set_cons_succ,aX,aY]
    rfl
  refine bW (i:=5) (N:=(some 10)) (v:=?_) (a':=?_) #[true,true,true,true,true,true,false,false,false,false,false,false,false,false,false,false,false,false,false] rfl rfl (bG fH.out (by kernel_rfl)) (fun _ _ _ h=>h) (Or.inl ⟨by rfl,?_⟩) ?_ ?_
  rotate_left
  · intro w'
    go_simp
    with_reducible rfl
  rotate_left
  · simp only [Act.put,List.setIfInBounds_toArray,List.set_cons_zero,List.set_cons_succ,aX,aY]
    rfl
  refine bW (i:=6) (N:=(some 11)) (v:=?_) (a':=?_) #[true,true,true,true,true,true,true,false,false,false,false,false,false,false,false,false,false,false,false] rfl rfl (bG fH.out (by kernel_rfl)) (fun _ _ _ h=>h) (Or.inl ⟨by rfl,?_⟩) ?_ ?_
  rotate_left
  · intro w'
    go_simp
    with_reducible rfl
  rotate_left
  · simp only [Act.put,List.setIfInBounds_toArray,List.set_cons_zero,List.set_cons_succ,aX,aY]
    rfl
  refine bW (i:=7) (N:=(some 12)) (v:=?_) (a':=?_) #[true,true,true,true,true,true,true,true,false,false,false,false,false,false,false,false,false,false,false] rfl rfl (bG fH.out (by kernel_rfl)) (fun _ _ _ h=>h) (Or.inl ⟨by rfl,?_⟩) ?_ ?_
  rotate_left
  · intro w'
    go_simp
    with_reducible rfl
  rotate_left
  · simp only [Act.put,List.setIfInBounds_toArray,List.set_cons_zero,List.set_cons_succ,aX,aY]
    rfl
  refine bW (i:=8) (N:=(some 13)) (v:=?_) (a':=?_) #[true,true,true,true,true,true,true,true,true,false,false,false,false,false,false,false,false,false,false] rfl rfl (bG fH.out (by kernel_rfl)) (fun _ _ _ h=>h) (Or.inl ⟨by rfl,?_⟩) ?_ ?_
  rotate_left
  · intro w'
    go_simp
    with_reducible rfl
  rotate_left
  · simp only [Act.put,List.setIfInBounds_toArray,List.set_cons_zero,List.set_cons_succ,aX,aY]
    rfl
  refine jf (i:=9) (N:=(some 14)) (v:=.agg #[.slice A0 l0.length c0,.string a1,.string a2,.slice A3 l3.length c3]) (a':=?ana) #[true,true,true,true,true,true,true,true,true,true,false,false,false,false,false,false,false,false,false] rfl rfl (gm fH.out qy.out (by kernel_rfl)) (fun _ _ _ h=>h) (Or.inl ⟨by rfl,?agC⟩) hHeld ?ahe ?_
  case agC=>exact fun w' hw=>xQ 25 (.tmp 2) rfl G 0 rfl #[.slice A0 l0.length c0,.string a1,.string a2,.slice A3 l3.length c3] _ (hw.1.bp.range 0 _ (fun j hj=>by match j,hj with | 0,_ | 1,_ | 2,_ | 3,_=>rfl)) Tryd.underlying25 rfl (by kernel_rfl)
  case ahe =>
    simp only [Act.put,List.setIfInBounds_toArray,List.set_cons_zero,List.set_cons_succ,aX,aY]
    rfl
  refine jf (i:=10) (N:=(some 15)) (v:=?_) (a':=?_) #[true,true,true,true,true,true,true,true,true,true,true,false,false,false,false,false,false,false,false] rfl rfl (gm fH.out qy.out (by kernel_rfl)) (fun _ _ _ h=>h) (Or.inl ⟨by rfl,?_⟩) hHeld ?_ ?_
  rotate_left
  · intro w' pg
    have c_:w'.cell? ⟨mb,0,none⟩=some (.slice (some ⟨g,0,none⟩) made.length cap):=pg.1.bm.cell 0
    go_simp
    with_reducible rfl
  rotate_left
  · simp only [Act.put,List.setIfInBounds_toArray,List.set_cons_zero,List.set_cons_succ,aX,aY]
    rfl
  refine bW (i:=11) (N:=(some 16)) (v:=?_) (a':=?_) #[true,true,true,true,true,true,true,true,true,true,true,true,false,false,false,false,false,false,false] rfl rfl (bG fH.out (by kernel_rfl)) (fun _ _ _ h=>h) (Or.inl ⟨by rfl,?_⟩) ?_ ?_
  rotate_left
  · intro w'
    go_simp
    with_reducible rfl
  rotate_left
  · simp only [Act.put,List.setIfInBounds_toArray,List.set_cons_zero,List.set_cons_succ,aX,aY]
    rfl
  refine bW (i:=12) (N:=(some 17)) (v:=?_) (a':=?_) #[true,true,true,true,true,true,true,true,true,true,true,true,true,false,false,false,false,false,false] rfl rfl (bG fH.out (by kernel_rfl)) (fun _ _ _ h=>h) (Or.inl ⟨by rfl,?_⟩) ?_ ?_
  rotate_left
  · intro w'
    go_simp
    with_reducible rfl
  rotate_left
  · simp only [Act.put,List.setIfInBounds_toArray,List.set_cons_zero,List.set_cons_succ,aX,aY]
    rfl
  refine bW (i:=13) (N:=(some 18)) (v:=?_) (a':=?_) #[true,true,true,true,true,true,true,true,true,true,true,true,true,true,false,false,false,false,false] rfl rfl (bG fH.out (by kernel_rfl)) (fun _ _ _ h=>h) (Or.inl ⟨by rfl,?_⟩) ?_ ?_
  rotate_left
  · intro w'
    go_simp
    with_reducible rfl
  rotate_left
  · simp only [Act.put,List.setIfInBounds_toArray,List.set_cons_zero,List.set_cons_succ,aX,aY]
    rfl
  refine jf (i:=14) (N:=(some 19)) (v:=?_) (a':=?_) #[true,true,true,true,true,true,true,true,true,true,true,true,true,true,true,false,false,false,false] rfl rfl (gm fH.out qy.out (by kernel_rfl)) (fun _ _ _ h=>h) (Or.inl ⟨by rfl,?_⟩) hHeld ?_ ?_
  rotate_left
  · intro w' pg
    have c_:w'.cell? ⟨g,i,none⟩=some (.int .i64 (rd made i)):=(Kd.rZ 0 pg.1.md (i:Int) (by omega) (by have:=HI.out;omega)).1
    go_simp
    with_reducible rfl
  rotate_left
  · simp only [Act.put,List.setIfInBounds_toArray,List.set_cons_zero,List.set_cons_succ,aX,aY]
    rfl
  refine nN (i:=15) (N:=(some 20)) #[true,true,true,true,true,true,true,true,true,true,true,true,true,true,true,true,false,false,false] rfl rfl (jU fH.out (by kernel_rfl)) (by decide) (fun K hK=>?_)
  refine qm Tryd.func10 (by kernel_rfl) rfl #[.agg #[.slice A0 l0.length c0,.string a1,.string a2,.slice A3 l3.length c3],.int .i64 (rd made i)] (by rfl) rfl rfl (by (try simp only [List.map_toArray,List.map_cons,List.map_nil]);rfl) ?_
  refine (bH.calls k A0 c0 l0 a1 a2 A3 c3 l3 (rd made i) (lk (rd made i)) _ (Kd.bQ HR0.out hHeld.1.bel) hc0 (Kd.bQ HR3.out hHeld.1.bel) hc3 HLK.out).mono ?_
  rintro e_ w4 ⟨rfl,hb4⟩
  refine ⟨_,rfl,?_⟩
  refine hK.out _ _ ⟨hHeld.1.below hb4,hHeld.2.trans (hb4.mono hHeld.2.size)⟩ (fun hHeld=>?_)
  clear hK K hb4
  refine iT (a':=?_) ?_ ?_
  rotate_left
  · simp only [jm,Act.put,List.setIfInBounds_toArray,List.set_cons_zero,List.set_cons_succ,aX,aY]
    rfl
  refine bW (i:=16) (N:=(some 21)) (v:=?_) (a':=?_) #[true,true,true,true,true,true,true,true,true,true,true,true,true,true,true,true,true,false,false] rfl rfl (bG fH.out (by kernel_rfl)) (fun _ _ _ h=>h) (Or.inl ⟨by rfl,?_⟩) ?_ ?_
  rotate_left
  · intro w'
    go_simp
    with_reducible rfl
  rotate_left
  · simp only [Act.put,List.setIfInBounds_toArray,List.set_cons_zero,List.set_cons_succ,aX,aY]
    rfl
  refine bW (i:=17) (N:=(some 22)) (v:=?_) (a':=?_) #[true,true,true,true,true,true,true,true,true,true,true,true,true,true,true,true,true,true,false] rfl rfl (bG fH.out (by kernel_rfl)) (fun _ _ _ h=>h) (Or.inl ⟨by rfl,?_⟩) ?_ ?_
  rotate_left
  · intro w'
    go_simp
    with_reducible rfl
  rotate_left
  · simp only [Act.put,List.setIfInBounds_toArray,List.set_cons_zero,List.set_cons_succ,aX,aY]
    rfl
  refine bW (i:=18) (N:=(some 4)) (v:=?_) (a':=?_) #[true,true,true,true,true,true,true,true,true,true,true,true,true,true,true,true,true,true,true] rfl rfl (bG fH.out (by kernel_rfl)) (fun _ _ _ h=>h) (Or.inl ⟨by rfl,?_⟩) ?_ ?_
  rotate_left
  · intro w'
    go_simp
    with_reducible rfl
  rotate_left
  · simp only [Act.put,List.setIfInBounds_toArray,List.set_cons_zero,List.set_cons_succ,aX,aY]
    rfl
  refine qW (nV fH.out (by kernel_rfl)) ?_
  refine NoPanic.normal ?_
  (try simp only [Exit.then,Exit.inBlock])
  have HB:=Lib.hid hHeld.2
  clear hHeld
  go_wp2
  go_ret
  exact ⟨rfl,HB.out⟩
end Go.Proofs.YtgfnpdfhdgenbaaDoor.P
end
