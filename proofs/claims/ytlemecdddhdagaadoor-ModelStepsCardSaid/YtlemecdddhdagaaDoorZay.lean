/- Parts of the proof of ModelSteps: what the functions that it reaches compute, and plain facts about that. -/
import Derived.Test.YtlemecdddhdagaaDoorZax
import Derived.Test.YtlemecdddhdagaaDoorZam
import Derived.Test.YtlemecdddhdagaaDoorZat
set_option linter.unusedVariables false
set_option linter.unusedSimpArgs false
section
namespace Go.Proofs.YtlemecdddhdagaaDoor.P
open Go.RowKit Go.Proofs.af.bF Go.Proofs.af.dD Go.Proofs.af.dN
attribute [local go_sem ↓] Go.wp_at_zero Go.wp_at_succ
def modelRuns.ok (k:Nat) (l0:List ByteArray) (a1 a2:ByteArray) (l3:List iD) (fuel:Int):Prop :=
  gJ.f k=some true∧∃ fw,dw.f k l0 a1 a2 l3=some fw∧(fw=true→∃ rl re,gW.f k l0 a1 a2 l3 fuel=some (rl,re)∧aak.f k l0 a1 a2 l3 fuel=some (rl,re)∧rl.length≤1000000)
end Go.Proofs.YtlemecdddhdagaaDoor.P
end
section
namespace Go.Proofs.YtlemecdddhdagaaDoor.P
open Go.RowKit Go.Proofs.af.bF Go.Proofs.af.dD Go.Proofs.af.dN
section
variable {t:List ByteArray} {lo gl:ByteArray} {code:List iD}
theorem aad (ht:t.length≤9223372036854775807) (hts:∀ i:Int,(dZ ByteArray.empty t i).size≤9223372036854775807):∃ K,∀ k,K≤k→∀ a,dP (Ud t lo a) (szR k t lo gl code a):=by
  have one:∀ a:Nat,a < 256→∃ K,∀ k,K≤k→szR k t lo gl code a=some (jG t (dB t lo a)):=fun a ha =>
    Ev.bind (xU t ht hts lo gl code a (by omega) (by omega)) (Ko t ht hts _)
  have many:∀ m:Nat,m≤256→∃ K,∀ k,K≤k→∀ a:Nat,a < m→szR k t lo gl code a=some (jG t (dB t lo a)):=fun m=>by
    induction m with
    | zero=>exact fun _=>⟨0,fun _ _ a ha=>absurd ha (Nat.not_lt_zero a)⟩
    | succ m ih =>
      intro hm
      obtain ⟨K1,h1⟩:=ih (by omega)
      obtain ⟨K2,h2⟩:=one m (by omega)
      refine ⟨max K1 K2,fun k hk a ha=>?_⟩
      by_cases ham:a=m
      · rw [ham]
        exact h2 k (by omega)
      · exact h1 k (by omega) a (by omega)
  obtain ⟨K,hK⟩:=many 256 (Nat.le_refl _)
  refine ⟨K,fun k hk a=>?_⟩
  unfold Ud
  by_cases ha:0≤a∧a≤255
  · obtain ⟨m,rfl⟩:=Int.eq_ofNat_of_zero_le ha.1
    rw [if_pos ha,hK k hk m (by omega)]
    exact dP.refl _
  · rw [if_neg ha]
    exact dP.none _
theorem NY (ht:t.length≤9223372036854775807) (hts:∀ i:Int,(dZ ByteArray.empty t i).size≤9223372036854775807) (hs:lo.size+gl.size≤9223372036854775807) (hc:code.length≤9223372036854775807) (hw:Wf code) (hwn:WfN code):∃ K,∀ k,K≤k→∀ s,dP (step0 t lo gl code s) (zk k t lo gl code s):=by
  obtain ⟨K1,h1⟩:=Rz t lo gl code ht hts hc hw hwn (by omega) (by omega)
  obtain ⟨K2,h2⟩:=aad (t:=t) (lo:=lo) (gl:=gl) (code:=code) ht hts
  refine ⟨max K1 K2,fun k hk s=>?_⟩
  unfold step0 zk
  by_cases hsm:Small s
  case neg =>
    rw [if_neg hsm]
    exact dP.none _
  rw [if_pos hsm,if_pos hsm]
  have e1:az.f k t lo gl code=some (pI t lo gl code):=h1 k (by omega)
  rw [e1]
  exact Bd (h2 k (by omega)) _ s
theorem zi {step step' r r':St→Option (St × Bool × Int)} (h:∀ s,dP (step s) (step' s)) (h':∀ s,dP (r s) (r' s)):∀ (n:Nat) (s:St),xG step r n s→xG step' r' n s
  | 0,_,_=>trivial
  | n+1,s,⟨t,d,e,hs,hr,hm,hn⟩=>⟨t,d,e,h s _ hs,h' s _ hr,hm,fun q=>zi h h' n t (hn q)⟩
theorem N8 (h:Ok t lo gl code) (hk0:(pI t lo gl code).2=0):∀ (f:Nat) (s:St) (n:Nat) (ty:List Int),Inv t lo gl n s ty→n+f≤900000→0≤s.pc→s.pc≤code.length→xG (step0 t lo gl code) (step0 t lo gl code) f s:=by
  intro f
  induction f with
  | zero=>intro s n ty hI hn h0 h1;trivial
  | succ f ih =>
    intro s n ty hI hn h0 h1
    have hsm:=hI.small h.right (by omega)
    by_cases hlt:s.pc < code.length
    · obtain ⟨s',e,hd,hN⟩:=h.step hI (by omega) h0 hlt
      have hs0:=NZ hk0 hsm h0 hlt hd
      by_cases he:e=0
      · rw [if_pos he] at hs0
        obtain ⟨ty',hI'⟩:=hN.inv
        exact ⟨s',false,0,hs0,hs0,hI'.small h.right (by omega),fun _=>ih s' (n+1) ty' hI' (by omega) (hN.pc he).1 (hN.pc he).2⟩
      · rw [if_neg he] at hs0
        exact ⟨s,false,e,hs0,hs0,hsm,fun q=>absurd q.2 he⟩
    · exact ⟨s,true,0,Dv hk0 hsm (by omega),Dv hk0 hsm (by omega),hsm,fun q=>by cases q.1⟩
end
theorem zM (t:List ByteArray) (lo gl:ByteArray) (code:List iD) (f:Nat) (ht:t.length≤9223372036854775807) (hts:∀ i:Int,(dZ ByteArray.empty t i).size≤9223372036854775807) (hs:lo.size+gl.size≤9223372036854775807) (hc:code.length≤9223372036854775807) (hw:Wf code) (hwn:WfN code) :
    ∃ k,modelSteps.ok k t lo gl code f:=by
  obtain ⟨q,hq⟩:=aeA t lo gl code ht
  obtain ⟨K1,h1⟩:=hq
  obtain ⟨K2,h2⟩:=YA
  obtain ⟨K3,h3⟩:=PH ht hs hc hw
  obtain ⟨K4,h4⟩:=NY ht hts hs hc hw hwn
  refine ⟨max (max K1 K2) (max K3 K4),h2 _ (by omega),q,h1 _ (by omega),fun _=>zi (h3 _ (by omega)) (h4 _ (by omega)) _ _ ?_⟩
  by_cases hok:(pI t lo gl code).2=0
  · exact N8 (acR hok hw) hok _ Ea 0 [] inv0 (by omega) (Int.le_refl _) (by show (0:Int)≤_;omega)
  · have e:step0 t lo gl code Ea=some (Ea,false,2):=by rw [step0,if_pos PL,su,if_neg hok]
    exact ⟨Ea,false,2,e,e,PL,fun q=>by cases q.2⟩
end Go.Proofs.YtlemecdddhdagaaDoor.P
end
