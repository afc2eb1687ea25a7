/- Parts of the proof of ModelRight: what the functions that it reaches compute, and plain facts about that. -/
import Derived.Test.YtlemecdddhdagaaDoorVam
import Derived.Test.YtlemecdddhdagaaDoorVat
import Derived.Test.YtlemecdddhdagaaDoorVav
set_option linter.unusedVariables false
set_option linter.unusedSimpArgs false
section
namespace Go.Proofs.YtlemecdddhdagaaDoor.P
open Go.RowKit Go.Proofs.ag.bI Go.Proofs.ag.dM Go.Proofs.ag.dZ
theorem EF {f f':Int→Option Int} {l0:List ByteArray} {s:St} {str:ByteArray} {val:Nat→Int} {m:Nat} (hm:m≤255) (h:∀ a:Nat,a≤255→dN (f a) (f' a)) (hp:FY f l0 s str val m):FY f' l0 s str val m:=by
  refine ⟨hp.1,fun a ha=>?_⟩
  obtain ⟨q1,q2,q3,q4⟩:=hp.2 a ha
  refine ⟨q1,q2,q3,fun hv=>?_⟩
  obtain ⟨v,r1,r2⟩:=q4 hv
  exact ⟨v,h a (by have:=hp.1;omega) _ r1,r2⟩
theorem zL {step step':St→Option (St × Bool × Int)} {Lf Lf' Gf Gf':Int→Option Int} {l0:List ByteArray} {lo gl:ByteArray} (h:∀ s,dN (step s) (step' s)) (hL:∀ a:Nat,a≤255→dN (Lf a) (Lf' a)) (hG:∀ a:Nat,a≤255→dN (Gf a) (Gf' a)) :
    ∀ (n:Nat) (s:St),wI step Lf Gf l0 lo gl n s→wI step' Lf' Gf' l0 lo gl n s
  | 0,_,_=>trivial
  | n+1,s,⟨h0,h1,h2,t,d,e,hs,hr⟩=>⟨h0,EF (by omega) hL h1,EF (by omega) hG h2,t,d,e,h s _ hs,hr.imp id (fun x=>x.imp id (fun ⟨a,b,c,d,e,f⟩=>⟨a,b,c,d,e,zL h hL hG n t f⟩))⟩
section
variable {t:List ByteArray} {lo gl:ByteArray} {code:List gZ}
theorem named_ok (hr:jw t=true) (s:ByteArray) (a:Nat) (h:a < s.size) (hd:0≤kK (bt s a) t.length) :
    0≤df t s a∧df t s a < t.length∧(s[a]'h).toNat < 128:=by
  have h8:t.length≤8:=by
    unfold jw at hr
    simp only [Bool.and_eq_true,decide_eq_true_eq] at hr
    exact hr.2.2
  have hb:bt s a=((s[a]'h).toNat:Int):=by
    unfold bt
    rw [dif_pos (show ((a:Int)).toNat < s.size by omega)]
    rfl
  unfold df
  rw [if_pos (by omega),if_pos (by rw [hr,decide_eq_true hd];rfl)]
  unfold kK at hd
  split at hd
  · split at hd
    · omega
    · omega
  · omega
theorem NR (hr:jw t=true) (i:Int) (h0:0≤i) (h1:i < t.length):jl t i=(dW ByteArray.empty t i).size:=by
  unfold jl LY
  rw [if_pos (by rw [hr,decide_eq_true h0,decide_eq_true h1];rfl)]
theorem Ob (hr:jw t=true) {n:Nat} {s:St} {ty:List Int} (hI:Inv t lo gl n s ty) (str:ByteArray) (val:Nat→Int) (m:Nat) (hm:str.size≤m) (hd:∀ j,j < str.size→0≤kK (bt str j) t.length)
    (hv:∀ a:Nat,0≤df t str a→Bz ty (val a) (df t str a)):FY (fun a=>some (df t str a)) t s str val m:=by
  refine ⟨hm,fun a ha=>?_⟩
  obtain ⟨q0,q1,q2⟩:=named_ok hr str a ha (hd a ha)
  have hl:=hI.len
  rcases hv a q0 with hz|⟨h1,h2,h3⟩
  · exact ⟨q2,by omega,by omega,fun h=>by omega⟩
  · refine ⟨q2,by omega,by omega,fun _=>⟨_,rfl,q0,q1,?_⟩⟩
    have hs:=hI.size (val a - 1).toNat (by omega)
    rw [h3,NR hr _ q0 q1] at hs
    exact Int.ofNat.inj hs
theorem LH (h:Ok t lo gl code) (hk0:(oL t lo gl code).2=0):∀ (f:Nat) (s:St) (n:Nat) (ty:List Int),Inv t lo gl n s ty→n+f≤900000→0≤s.pc→s.pc≤code.length →
    wI (step0 t lo gl code) (fun a=>some (df t lo a)) (fun a=>some (df t gl a)) t lo gl f s:=by
  obtain ⟨_,hdl,hdg,_,_⟩:=yh ((Cm t lo gl code).1 hk0).1
  intro f
  induction f with
  | zero=>intro s n ty hI hn h0 h1;trivial
  | succ f ih =>
    intro s n ty hI hn h0 h1
    have hsm:=hI.small h.right (by omega)
    have hfew:=hI.few
    refine ⟨by omega,Ob h.right hI lo s.p 8 h.lo8 hdl hI.p,Ob h.right hI gl s.g 4 h.gl4 hdg hI.g,?_⟩
    by_cases hlt:s.pc < code.length
    · obtain ⟨s',e,hd,hN⟩:=h.step hI (by omega) h0 hlt
      have hs0:=LC hk0 hsm h0 hlt hd
      by_cases he:e=0
      · rw [if_pos he] at hs0
        obtain ⟨ty',hI'⟩:=hN.inv
        exact ⟨s',false,0,hs0,.inr (.inr ⟨rfl,rfl,hN.steps,by rw [hN.bM];omega,by rw [hN.out,List.length_append];omega,ih s' (n+1) ty' hI' (by omega) (hN.pc he).1 (hN.pc he).2⟩)⟩
      · rw [if_neg he] at hs0
        have h9:=hN.code.resolve_left he
        exact ⟨s,false,e,hs0,.inr (.inl ⟨rfl,h9,rfl⟩)⟩
    · exact ⟨s,true,0,LD hk0 hsm (by omega),.inl ⟨rfl,rfl,rfl⟩⟩
theorem IZ {g:Nat→Nat→Option Int} {v:Nat→Int} (one:∀ a:Nat,a < 256→∃ K,∀ k,K≤k→g k a=some (v a)):∀ m:Nat,m≤256→∃ K,∀ k,K≤k→∀ a:Nat,a < m→g k a=some (v a):=fun m=>by
  induction m with
  | zero=>exact fun _=>⟨0,fun _ _ a ha=>absurd ha (Nat.not_lt_zero a)⟩
  | succ m ih =>
    intro hm
    obtain ⟨K1,h1⟩:=ih (by omega)
    obtain ⟨K2,h2⟩:=one m (by omega)
    refine ⟨max K1 K2,fun k hk a ha=>?_⟩
    by_cases ham:a=m
    · rw [ham]
      exact h2 k (by omega)
    · exact h1 k (by omega) a (by omega)
end
theorem yF (t:List ByteArray) (lo gl:ByteArray) (code:List gZ) (f:Nat) (ht:t.length≤9223372036854775807) (hts:∀ i:Int,(dW ByteArray.empty t i).size≤9223372036854775807) (hs:lo.size+gl.size≤9223372036854775807) (hc:code.length≤9223372036854775807) (hw:Wf code) (hwn:WfN code) (hf:f≤255) :
    ∃ k,modelRight.ok k t lo gl code f:=by
  obtain ⟨q,hq⟩:=aca t lo gl code ht
  obtain ⟨K1,h1⟩:=hq
  obtain ⟨K2,h2⟩:=WG
  obtain ⟨K3,h3⟩:=NP ht hs hc hw
  obtain ⟨K4,h4⟩:=PX t lo gl code ht hts hc hw hwn (by omega) (by omega)
  obtain ⟨K5,h5⟩:=IZ (g:=fun k a=>dm.f k t lo gl code a) (v:=fun a=>df t lo a) (fun a ha=>wQ t ht hts lo gl code a (by omega) (by omega)) 256 (Nat.le_refl _)
  obtain ⟨K6,h6⟩:=IZ (g:=fun k a=>dQ.f k t lo gl code a) (v:=fun a=>df t gl a) (fun a ha=>DZ t ht hts lo gl code a (by omega) (by omega)) 256 (Nat.le_refl _)
  refine ⟨max (max (max K1 K2) (max K3 K4)) (max K5 K6),h2 _ (by omega),q,h1 _ (by omega),fun _=>⟨(oL t lo gl code).1,(oL t lo gl code).2,h4 _ (by omega),fun hbad=>?_,fun hok=>?_⟩⟩
  · refine ⟨FV,false,h3 _ (by omega) FV _ ?_⟩
    rw [step0,if_pos Yk,vJ,if_neg hbad]
  · refine zL (h3 _ (by omega)) (fun a ha=>?_) (fun a ha=>?_) _ _ (LH (aaC hok hw) hok _ FV 0 [] inv0 (by omega) (Int.le_refl _) (by show (0:Int)≤_;omega))
    · show dN _ (dm.f _ t lo gl code a)
      rw [h5 _ (by omega) a (by omega)]
      exact dN.refl _
    · show dN _ (dQ.f _ t lo gl code a)
      rw [h6 _ (by omega) a (by omega)]
      exact dN.refl _
end Go.Proofs.YtlemecdddhdagaaDoor.P
end
