/- Parts of the proof of ModelRight: what the functions that it reaches compute, and plain facts about that. -/
import Derived.Test.YtlemecdddhdagaaDoorVac
import Derived.Test.YtlemecdddhdagaaDoorVag
import Derived.Test.YtlemecdddhdagaaDoorVan
import Derived.Test.YtlemecdddhdagaaDoorVah
import Derived.Test.YtlemecdddhdagaaDoorVap
set_option linter.unusedVariables false
set_option linter.unusedSimpArgs false
section
namespace Go.Proofs.YtlemecdddhdagaaDoor.P
open Go Go.RowKit Go.Proofs.ag.bI Go.Proofs.ag.dM Go.Proofs.ag.dZ
def Bs (w:List UInt8):ByteArray:=⟨w.toArray⟩
theorem WR (s:ByteArray):Bs s.data.toList=s:=by cases s;rfl
theorem oz (w:List UInt8):(Bs w).toList=w:=by rw [ByteArray.toList_eq];rfl
theorem ji (w:List UInt8):(Bs w).size=w.length:=by simp [Bs,ByteArray.size]
theorem FO (w:List UInt8) (i:Nat) (c:UInt8) (h:w[i]? = some c):bt (Bs w) (i:Int)=(c.toNat:Int):=by
  obtain ⟨hl,hc⟩:=List.getElem?_eq_some_iff.1 h
  have hs:((i:Int)).toNat < (Bs w).size:=by rw [Int.toNat_natCast,ji];exact hl
  unfold bt
  rw [dif_pos hs]
  have:(Bs w)[((i:Int)).toNat]'hs=c:=by rw [← hc];rfl
  rw [this]
theorem uh (i:Nat) (h:i < 4611686018427387904):wrap64 ((i:Int)+1)=((i+1:Nat):Int):=by unfold wrap64;omega
theorem Aq (w:List UInt8) (a b:Nat):(Bs w).extract a b=Bs ((w.drop a).take (b - a)):=by
  rw [← WR ((Bs w).extract a b)]
  refine congrArg Bs ?_
  rw [ByteArray.data_extract,Array.toList_extract]
  rfl
def Dl (c:UInt8):Bool:=decide (48≤c.toNat∧c.toNat≤57)
def oZ (acc:Nat) (D:List UInt8):Nat:=D.foldl (fun a c=>a * 10+(c.toNat - 48)) acc
theorem uI (acc:Nat) (c:UInt8) (r:List UInt8):oZ acc (c :: r)=oZ (acc * 10+(c.toNat - 48)) r:=by
  unfold oZ
  rw [List.foldl_cons]
theorem BI (acc:Nat) (D:List UInt8) (c:UInt8):oZ acc (D++[c])=oZ acc D * 10+(c.toNat - 48):=by
  unfold oZ
  rw [List.foldl_append,List.foldl_cons,List.foldl_nil]
theorem Oq (a q:Nat):a * (q * 10)=a * 10 * q:=by rw [Nat.mul_comm q 10,← Nat.mul_assoc]
theorem IK:∀ (D:List UInt8),(∀ c ∈ D,Dl c=true)→∀ acc:Nat,oZ acc D < (acc+1) * 10 ^ D.length
  | [],_,acc=>by
    show acc < (acc+1) * 1
    omega
  | c :: r,h,acc=>by
    have h1:=IK r (fun x hx=>h x (List.mem_cons_of_mem _ hx)) (acc * 10+(c.toNat - 48))
    have hc:48≤c.toNat∧c.toNat≤57:=of_decide_eq_true (h c (List.mem_cons_self ..))
    rw [uI]
    have e:(acc+1) * 10 ^ (c :: r).length=(acc+1) * 10 * 10 ^ r.length:=by
      rw [List.length_cons,Nat.pow_succ]
      exact Oq _ _
    rw [e]
    refine Nat.lt_of_lt_of_le h1 ?_
    generalize 10 ^ r.length=q
    exact Nat.mul_le_mul_right q (by omega)
theorem ND (D:List UInt8) (acc:Nat):acc * 10 ^ D.length≤oZ acc D:=by
  induction D generalizing acc with
  | nil=>simp [oZ]
  | cons c r ih =>
    rw [uI]
    refine Nat.le_trans ?_ (ih _)
    rw [List.length_cons,Nat.pow_succ,Nat.mul_comm (10 ^ r.length) 10,← Nat.mul_assoc]
    exact Nat.mul_le_mul_right _ (by omega)
def Oz (neg:Bool) (u:Nat):Bool:=if neg then decide (u≤9223372036854775808) else decide (u < 9223372036854775808)
def WY (neg:Bool) (u:Nat):Int:=if neg then -(u:Int) else u
theorem bt0 (c:UInt8) (r:List UInt8):bt (Bs (c :: r)) 0=(c.toNat:Int):=FO (c :: r) 0 c rfl
theorem PW (D:List UInt8) (hD:D.length≤100000):∀ (d i:Nat),i+d=D.length→Ev (fun k=>aG.l0 k (Bs D) (i:Int)) ((D.drop i).all Dl)
  | 0,i,hi=>by
    rw [List.drop_eq_nil_of_le (by omega)]
    refine Ev.step (f:=fun _=>some true) (fun k=>?_) (Ev.now _)
    simp only [aG.l0]
    rw [ji,if_neg (by omega)]
  | d+1,i,hi=>by
    have hlt:i < D.length:=by omega
    have hc:D[i]? = some D[i]:=List.getElem?_eq_getElem hlt
    have hdr:D.drop i=D[i] :: D.drop (i+1):=List.drop_eq_getElem_cons hlt
    generalize D[i]=c at hc hdr
    have hb:=FO D i c hc
    rw [hdr,List.all_cons]
    have ih:=PW D hD d (i+1) (by omega)
    cases hd:Dl c with
    | true =>
      have h2:=hd
      simp only [Dl,decide_eq_true_eq] at h2
      rw [Bool.true_and]
      refine Ev.step (fun k=>?_) ih
      conv=>lhs;simp only [aG.l0]
      rw [ji,if_pos (by omega),if_pos (by omega),hb,if_neg (by omega),if_neg (by omega),uh i (by omega)]
    | false =>
      have h2:=hd
      simp only [Dl,decide_eq_false_iff_not] at h2
      rw [Bool.false_and]
      refine Ev.step (f:=fun _=>some false) (fun k=>?_) (Ev.now _)
      conv=>lhs;simp only [aG.l0]
      rw [ji,if_pos (by omega),if_pos (by omega),hb]
      by_cases h3:(c.toNat:Int) < 48
      · rw [if_pos h3]
      · rw [if_neg h3,if_pos (by omega)]
theorem Zm (w D:List UInt8) (hD:D.length≤100000):Ev (fun k=>aG.j1 k (Bs w) (Bs D)) (!D.isEmpty && !(D.head? == some 48 && decide (1 < D.length ∨ 1 < w.length)) && D.all Dl):=by
  cases D with
  | nil =>
    refine Ev.step (f:=fun k=>aG.j2 k (Bs []) true) (fun k=>?_) (Ev.step (f:=fun _=>some false) (fun k=>?_) (Ev.now _))
    · conv=>lhs;simp only [aG.j1]
      rw [oz,if_pos rfl]
    · simp only [aG.j2]
      rw [if_pos trivial]
  | cons c r =>
    have hb:=bt0 c r
    have h0:=PW (c :: r) hD (c :: r).length 0 (Nat.zero_add _)
    rw [List.drop_zero] at h0
    have fin:∀ b:Bool,Ev (fun k=>aG.j2 k (Bs (c :: r)) b) (!b && (c :: r).all Dl):=by
      intro b
      cases b with
      | true=>exact Ev.step (f:=fun _=>some false) (fun k=>by simp only [aG.j2];rw [if_pos trivial]) (Ev.now _)
      | false=>exact Ev.step (fun k=>by simp only [aG.j2];rw [if_neg (by simp)]) (by rw [Bool.not_false,Bool.true_and];exact h0)
    have hlen:(Bs (c :: r)).size=(c :: r).length:=ji _
    by_cases h48:c=48
    · subst h48
      by_cases hr:1 < ((48:UInt8) :: r).length
      · have:=fin true
        refine Ev.step (f:=fun k=>aG.j2 k (Bs (48 :: r)) true) (fun k=>?_) ?_
        · conv=>lhs;simp only [aG.j1]
          rw [oz,if_neg (by simp),hlen,if_pos (by simp only [List.length_cons];omega),hb,if_pos (by decide),if_pos (by omega)]
        · rw [show (!((48:UInt8) :: r).isEmpty && !(((48:UInt8) :: r).head? == some 48 && decide (1 < ((48:UInt8) :: r).length ∨ 1 < w.length)) && ((48:UInt8) :: r).all Dl)=(!true && ((48:UInt8) :: r).all Dl) from by rw [decide_eq_true (Or.inl hr)];simp]
          exact this
      · refine Ev.step (f:=fun k=>aG.j2 k (Bs (48 :: r)) (decide (1 < w.length))) (fun k=>?_) ?_
        · conv=>lhs;simp only [aG.j1]
          rw [oz,if_neg (by simp),hlen,if_pos (by simp only [List.length_cons];omega),hb,if_pos (by decide),if_neg (by omega),ji]
          congr 1
          exact decide_eq_decide.2 (by omega)
        · have hd:decide (1 < ((48:UInt8) :: r).length ∨ 1 < w.length)=decide (1 < w.length):=decide_eq_decide.2 ⟨fun h=>h.resolve_left hr,Or.inr⟩
          rw [hd]
          have:=fin (decide (1 < w.length))
          simpa using this
    · have hne:¬ (c.toNat:Int)=48:=fun h=>h48 (UInt8.toNat_inj.1 (by show c.toNat=48;omega))
      refine Ev.step (f:=fun k=>aG.j2 k (Bs (c :: r)) false) (fun k=>?_) ?_
      · conv=>lhs;simp only [aG.j1]
        rw [oz,if_neg (by simp),hlen,if_pos (by simp only [List.length_cons];omega),hb,if_neg hne]
      · have:=fin false
        have hcb:(c == 48)=false:=by simp [h48]
        simpa [hcb] using this
theorem IM (n:Nat) (h:n < 18446744073709551616):IntKind.u64.wrap (n:Int)=(n:Int):=by
  have:IntKind.u64.wrap (n:Int)=(n:Int) % 18446744073709551616:=rfl
  rw [this]
  omega
theorem Oj (D:List UInt8) (hD:D.length≤100000) (h:∀ c ∈ D,Dl c=true) (neg:Bool) (r:Int × Int) (hr:Ev (fun k=>aH.j2 k (Bs D) neg ((oZ 0 (D.take 19):Nat):Int)) r) :
    ∀ (d i:Nat),i+d=19→i≤D.length→Ev (fun k=>aH.l0 k (Bs D) neg ((oZ 0 (D.take i):Nat):Int) (i:Int)) r
  | 0,i,hi,hl=>by
    obtain rfl:i=19:=by omega
    refine Ev.step (fun k=>?_) hr
    conv=>lhs;simp only [aH.l0]
    rw [ji]
    by_cases hlt:(((19:Nat):Nat):Int) < (D.length:Int)
    · rw [if_pos hlt,if_neg (by omega)]
    · rw [if_neg hlt]
  | d+1,i,hi,hl=>by
    by_cases hlt:i < D.length
    · have hc:D[i]? = some D[i]:=List.getElem?_eq_getElem hlt
      have hm:=h D[i] (List.getElem_mem hlt)
      have htk:D.take (i+1)=D.take i++[D[i]]:=List.take_succ_eq_append_getElem hlt
      generalize D[i]=c at hc hm htk
      have hb:=FO D i c hc
      have hv:oZ 0 (D.take (i+1))=oZ 0 (D.take i) * 10+(c.toNat - 48):=by rw [htk,BI]
      have hlim:oZ 0 (D.take i) < 1000000000000000000:=by
        have h1:=IK (D.take i) (fun x hx=>h x (List.mem_of_mem_take hx)) 0
        have h2:(D.take i).length≤18:=by rw [List.length_take];omega
        have h3:10 ^ (D.take i).length≤10 ^ 18:=Nat.pow_le_pow_right (by omega) h2
        have h4:(10:Nat) ^ 18=1000000000000000000:=by decide
        omega
      have ih:=Oj D hD h neg r hr d (i+1) (by omega) (by omega)
      refine Ev.step (fun k=>?_) ih
      conv=>lhs;simp only [aH.l0]
      simp only [Dl,decide_eq_true_eq] at hm
      rw [ji,if_pos (by omega),if_pos (by omega),if_pos (by omega),hb,uh i (by omega)]
      rw [hv]
      generalize oZ 0 (D.take i)=v at hlim ⊢
      have u1:IntKind.u64.wrap ((v:Int) * 10)=((v * 10:Nat):Int):=by
        rw [show (v:Int) * 10=((v * 10:Nat):Int) from by omega]
        exact IM _ (by omega)
      have u2:IntKind.u64.wrap (((v * 10:Nat):Int)+((c.toNat:Int) - 48) % 256)=((v * 10+(c.toNat - 48):Nat):Int):=by
        rw [show ((v * 10:Nat):Int)+((c.toNat:Int) - 48) % 256=((v * 10+(c.toNat - 48):Nat):Int) from by omega]
        exact IM _ (by omega)
      rw [u1,u2]
    · have e:D.take i=D.take 19:=by
        rw [List.take_of_length_le (by omega),List.take_of_length_le (by omega)]
      rw [e]
      refine Ev.step (fun k=>?_) hr
      conv=>lhs;simp only [aH.l0]
      rw [ji,if_neg (by omega)]
theorem EM {c:UInt8} {r:List UInt8} (hc:Dl c=true) (h48:c ≠ 48):10 ^ r.length≤oZ 0 (c :: r):=by
  rw [uI]
  have hd:48≤c.toNat∧c.toNat≤57:=of_decide_eq_true hc
  have hne:c.toNat ≠ 48:=fun h=>h48 (UInt8.toNat_inj.1 h)
  have h1:=ND r (0 * 10+(c.toNat - 48))
  refine Nat.le_trans ?_ h1
  generalize 10 ^ r.length=q
  have:1 * q≤(0 * 10+(c.toNat - 48)) * q:=Nat.mul_le_mul_right q (by omega)
  omega
theorem WZ:(10:Nat) ^ 19=10000000000000000000:=by decide
theorem YH (D:List UInt8) (hD:D.length≤100000) (hd:∀ c ∈ D,Dl c=true) (hz:D.head? = some 48→D.length≤1) (neg:Bool) :
    Ev (fun k=>aH.j2 k (Bs D) neg ((oZ 0 (D.take 19):Nat):Int)) (if Oz neg (oZ 0 D) then (WY neg (oZ 0 D),0) else (0,3)):=by
  have j3t:∀ x:Int,∀ b:Bool,b=true→Ev (fun k=>aH.j3 k neg x b) (0,3):=by
    rintro x b rfl
    exact Ev.step (f:=fun _=>some _) (fun k=>by simp only [aH.j3];rw [if_pos trivial]) (Ev.now _)
  by_cases hl:19 < D.length
  · have hb:Oz neg (oZ 0 D)=false:=by
      cases D with
      | nil=>simp at hl
      | cons c r =>
        have h48:c ≠ 48:=by rintro rfl;have:=hz rfl;omega
        have h1:=EM (r:=r) (hd c (by simp)) h48
        have h2:(10:Nat) ^ 19≤10 ^ r.length:=Nat.pow_le_pow_right (by omega) (by rw [List.length_cons] at hl;omega)
        rw [WZ] at h2
        unfold Oz
        cases neg <;> simp <;> omega
    rw [hb,if_neg (by simp)]
    refine Ev.step (f:=fun k=>aH.j3 k neg ((oZ 0 (D.take 19):Nat):Int) (decide (((Bs D).size:Int) > 19))) (fun k=>?_) (j3t _ _ (decide_eq_true (by rw [ji];omega)))
    conv=>lhs;simp only [aH.j2]
    rw [if_pos (by rw [ji];omega)]
  · have htk:D.take 19=D:=List.take_of_length_le (by omega)
    rw [htk]
    generalize oZ 0 D=u
    by_cases h1:9223372036854775808 < u
    · have hb:Oz neg u=false:=by unfold Oz;cases neg <;> simp <;> omega
      rw [hb,if_neg (by simp)]
      refine Ev.step (f:=fun k=>aH.j3 k neg (u:Int) (decide ((u:Int) > 9223372036854775808))) (fun k=>?_) (j3t _ _ (decide_eq_true (by omega)))
      conv=>lhs;simp only [aH.j2]
      rw [if_neg (by rw [ji];omega),if_pos (by omega)]
    · by_cases h2:u=9223372036854775808
      · subst h2
        refine Ev.step (f:=fun k=>aH.j3 k neg (((9223372036854775808:Nat):Nat):Int) (!neg)) (fun k=>?_) ?_
        · conv=>lhs;simp only [aH.j2]
          rw [if_neg (by rw [ji];omega),if_neg (by omega),if_pos (by omega)]
        · cases neg with
          | false=>exact j3t _ _ rfl
          | true =>
            refine Ev.step (f:=fun _=>some _) (fun k=>?_) (Ev.now _)
            simp only [aH.j3]
            have hi:Oz true 9223372036854775808=true:=by decide
            have hw:wrap64 (-wrap64 ((9223372036854775808:Nat):Int))=WY true 9223372036854775808:=by unfold WY wrap64;rw [if_pos rfl];omega
            rw [if_neg (by simp),if_pos trivial,if_pos hi,hw]
      · have hb:Oz neg u=true:=by unfold Oz;cases neg <;> simp <;> omega
        rw [hb,if_pos rfl]
        refine Ev.step (f:=fun k=>aH.j3 k neg (u:Int) false) (fun k=>?_) (Ev.step (f:=fun _=>some _) (fun k=>?_) (Ev.now _))
        · conv=>lhs;simp only [aH.j2]
          rw [if_neg (by rw [ji];omega),if_neg (by omega),if_neg (by omega)]
        · simp only [aH.j3]
          have hw:wrap64 (u:Int)=u:=by unfold wrap64;omega
          rw [if_neg (by simp),hw]
          cases neg with
          | true =>
            have hw2:wrap64 (-(u:Int))=-(u:Int):=by unfold wrap64;omega
            rw [if_pos rfl,hw2]
            rfl
          | false=>rw [if_neg (by simp)];rfl
theorem Fq (d:Nat) (h:d < 10):(UInt8.ofNat (48+d)).toNat=48+d:=by
  have:(UInt8.ofNat (48+d)).toNat=(48+d) % 256:=UInt8.toNat_ofNat'
  omega
theorem Ci (n:Nat):∀ u:Nat,u≤n→(∀ c ∈ Lib.decDigits u,Dl c=true)∧Lib.decDigits u ≠ []∧oZ 0 (Lib.decDigits u)=u∧((Lib.decDigits u).head? = some 48→u=0):=by
  induction n with
  | zero =>
    intro u hu
    obtain rfl:u=0:=by omega
    rw [Lib.decDigits_one (by omega)]
    refine ⟨by decide,by decide,?_,fun _=>rfl⟩
    decide
  | succ n ih =>
    intro u hu
    by_cases h:u < 10
    · rw [Lib.decDigits_one h]
      have hd:=Fq u h
      refine ⟨?_,by simp,?_,?_⟩
      · intro c hc
        rw [List.mem_singleton.1 hc]
        unfold Dl
        rw [hd]
        exact decide_eq_true (by omega)
      · rw [uI,hd]
        show 0 * 10+(48+u - 48)=u
        omega
      · intro hh
        simp only [List.head?_cons,Option.some.injEq] at hh
        have:=congrArg UInt8.toNat hh
        rw [hd] at this
        have h48:(48:UInt8).toNat=48:=rfl
        omega
    · have ih':=ih (u / 10) (by omega)
      rw [Lib.decDigits,dif_neg h]
      have hd:=Fq (u % 10) (by omega)
      refine ⟨?_,by simp,?_,?_⟩
      · intro c hc
        rcases List.mem_append.1 hc with hc|hc
        · exact ih'.1 c hc
        · rw [List.mem_singleton.1 hc]
          unfold Dl
          rw [hd]
          exact decide_eq_true (by omega)
      · rw [BI,ih'.2.2.1,hd]
        omega
      · intro hh
        have:(Lib.decDigits (u / 10)++[UInt8.ofNat (48+u % 10)]).head? = (Lib.decDigits (u / 10)).head?:=by
          cases hq:Lib.decDigits (u / 10) with
          | nil=>exact absurd hq ih'.2.1
          | cons a b=>rfl
        rw [this] at hh
        have:=ih'.2.2.2 hh
        omega
theorem Wv (u:Nat) (h:u≤9223372036854775808):(Lib.decDigits u).length≤20:=by
  have hp:=Ci u u (Nat.le_refl _)
  cases hq:Lib.decDigits u with
  | nil=>simp
  | cons c r =>
    rw [hq] at hp
    by_cases h48:c=48
    · subst h48
      have h0:=hp.2.2.2 rfl
      subst h0
      rw [Lib.decDigits_one (by omega)] at hq
      rw [← hq]
      decide
    · have h1:=EM (r:=r) (hp.1 c (by simp)) h48
      rw [hp.2.2.1] at h1
      rw [List.length_cons]
      rcases Nat.lt_or_ge r.length 19 with h2|h2
      · omega
      · have h3:(10:Nat) ^ 19≤10 ^ r.length:=Nat.pow_le_pow_right (by omega) h2
        rw [WZ] at h3
        omega
theorem L8 (n:Int):∃ neg:Bool,Lib.itoa n=(if neg then 45 :: Lib.decDigits n.natAbs else Lib.decDigits n.natAbs)∧WY neg n.natAbs=n∧(neg=true→n < 0)∧(neg=false→0≤n):=by
  unfold Lib.itoa
  by_cases h:n < 0
  · rw [if_pos h]
    refine ⟨true,rfl,?_,fun _=>h,(fun h=>by cases h)⟩
    unfold WY
    rw [if_pos rfl]
    omega
  · rw [if_neg h]
    refine ⟨false,?_,?_,(fun h=>by cases h),fun _=>by omega⟩
    · rw [if_neg (by simp),show n.toNat=n.natAbs from by omega]
    · unfold WY
      rw [if_neg (by simp)]
      omega
theorem aaE (neg:Bool) (D:List UInt8) (hl:D.length≤10000) (hd:∀ c ∈ D,Dl c=true) (hne:D ≠ []) (hz:D.head? = some 48→D.length≤1∧neg=false) :
    Ev (fun k=>aH.f k (Bs (if neg then 45 :: D else D))) (if Oz neg (oZ 0 D) then (WY neg (oZ 0 D),0) else (0,3)):=by
  have hl0:=Oj D (by omega) hd neg _ (YH D (by omega) hd (fun h=>(hz h).1) neg) 19 0 rfl (Nat.zero_le _)
  have hj0:Ev (fun k=>aH.j0 k (Bs D) neg) (if Oz neg (oZ 0 D) then (WY neg (oZ 0 D),0) else (0,3)):=Ev.step (fun k=>by simp only [aH.j0];rfl) hl0
  have all:D.all Dl=true:=List.all_eq_true.2 hd
  have emp:D.isEmpty=false:=by cases D with
    | nil=>exact absurd rfl hne
    | cons c r=>rfl
  have good:∀ w:List UInt8,(D.head? = some 48→w.length≤1)→Ev (fun k=>aG.j1 k (Bs w) (Bs D)) true:=by
    intro w hw
    refine Ev.out (Zm w D (by omega)) ?_
    rw [all,emp,Bool.and_true,Bool.not_false,Bool.true_and]
    by_cases h:D.head? = some 48
    · rw [decide_eq_false (by have:=hw h;have:=(hz h).1;omega),Bool.and_false];rfl
    · rw [show (D.head? == some 48)=false from beq_eq_false_iff_ne.2 h,Bool.false_and];rfl
  cases neg with
  | true =>
    rw [if_pos rfl]
    have dg:Ev (fun k=>aG.f k (Bs (45 :: D))) true:=by
      refine Ev.congr (f:=fun k=>aG.j0 k (Bs (45 :: D)) (Bs (45 :: D)) (bt (Bs (45 :: D)) 0 == 45)) (fun k=>?_) ?_
      · unfold aG.f
        rw [ji,if_pos (by simp only [List.length_cons];omega),if_pos (by simp only [List.length_cons];omega)]
      · rw [bt0]
        refine Ev.step (fun k=>?_) (good (45 :: D) (fun h=>by cases (hz h).2))
        conv=>lhs;simp only [aG.j0]
        rw [ji,if_pos (by decide),if_pos (by simp only [List.length_cons];omega),Aq]
        congr 2
        simp
    unfold aH.f
    refine Ev.bind dg (Ev.congr (fun k=>if_pos rfl) ?_)
    refine Ev.congr (fun k=>if_pos (by rw [ji];simp only [List.length_cons];omega)) ?_
    rw [bt0]
    refine Ev.congr (fun k=>?_) hj0
    rw [if_pos (by decide),if_pos (by rw [ji];simp only [List.length_cons];omega),Aq,ji]
    have e1:List.take (((45:UInt8) :: D).length - 1) (List.drop 1 ((45:UInt8) :: D))=D:=by simp
    rw [e1]
    rfl
  | false =>
    rw [if_neg (by simp)]
    cases D with
    | nil=>exact absurd rfl hne
    | cons c r =>
      have hc:=hd c (by simp)
      simp only [Dl,decide_eq_true_eq] at hc
      have e45:((c.toNat:Int) == 45)=false:=beq_eq_false_iff_ne.2 (by omega)
      have dg:Ev (fun k=>aG.f k (Bs (c :: r))) true:=by
        refine Ev.congr (f:=fun k=>aG.j0 k (Bs (c :: r)) (Bs (c :: r)) (bt (Bs (c :: r)) 0 == 45)) (fun k=>?_) ?_
        · unfold aG.f
          rw [ji,if_pos (by simp only [List.length_cons];omega),if_pos (by simp only [List.length_cons];omega)]
        · rw [bt0,e45]
          refine Ev.step (fun k=>?_) (good (c :: r) (fun h=>(hz h).1))
          conv=>lhs;simp only [aG.j0]
          rw [if_neg (by simp)]
      unfold aH.f
      refine Ev.bind dg (Ev.congr (fun k=>if_pos rfl) ?_)
      refine Ev.congr (fun k=>if_pos (by rw [ji];simp only [List.length_cons];omega)) ?_
      rw [bt0,e45]
      refine Ev.congr (fun k=>?_) hj0
      rw [if_neg (by omega)]
theorem Ol (n:Int) (h0:-9223372036854775808≤n) (h1:n≤9223372036854775807):Ev (fun k=>aH.f k (Bs (Lib.itoa n))) (n,0):=by
  obtain ⟨neg,hi,hs,hn1,hn2⟩:=L8 n
  have hp:=Ci n.natAbs n.natAbs (Nat.le_refl _)
  have hl:=Wv n.natAbs (by omega)
  rw [hi]
  refine Ev.out (aaE neg _ (by omega) hp.1 hp.2.1 (fun h=>?_)) ?_
  · have h2:=hp.2.2.2 h
    refine ⟨?_,?_⟩
    · rw [h2,Lib.decDigits_one (by omega)];simp
    · cases neg with
      | true=>have:=hn1 rfl;omega
      | false=>rfl
  · rw [hp.2.2.1,if_pos,hs]
    unfold Oz
    cases neg with
    | true=>rw [if_pos rfl];exact decide_eq_true (by omega)
    | false=>rw [if_neg (by simp)];exact decide_eq_true (by have:=hn2 rfl;omega)
end Go.Proofs.YtlemecdddhdagaaDoor.P
end
section
namespace Go.Proofs.YtlemecdddhdagaaDoor.P
open Go Go.RowKit Go.Proofs.ag.bI Go.Proofs.ag.dM Go.Proofs.ag.dZ
def aat:List (List UInt8 × List UInt8):=[([115,101,116],[97,110]),([97,100,100],[97,98,99]),([106,117,109,112],[110]),([122,101,114,111],[97,110]),([110,101,119],[97]),([110,105,108],[97]),([109,111,118,101],[97,98]),([108,111,97,100,105],[97,98,110]),([115,116,111,114,101,105],[97,110,98]),([108,111,97,100,112],[97,98,110]),([115,116,111,114,101,112],[97,110,98]),([108,111,97,100,103],[97,98]),([115,116,111,114,101,103],[97,98]),([112,114,105,110,116],[97]),([115,97,109,101],[97,98,99])]
def Gh (i:Nat):List UInt8:=(aat.getD i ([],[])).1
def yN (i:Nat):List UInt8:=(aat.getD i ([],[])).2
theorem uJ (i:Nat) (hi:i < 15):fG.f ((i+1:Nat):Int)=some (Bs (Gh i),Bs (yN i)):=by
  have hh:i=0 ∨ i=1 ∨ i=2 ∨ i=3 ∨ i=4 ∨ i=5 ∨ i=6 ∨ i=7 ∨ i=8 ∨ i=9 ∨ i=10 ∨ i=11 ∨ i=12 ∨ i=13 ∨ i=14:=by omega
  rcases hh with rfl|rfl|rfl|rfl|rfl|rfl|rfl|rfl|rfl|rfl|rfl|rfl|rfl|rfl|rfl <;> rfl
theorem LG (o:Int) (h:o < 1 ∨ 15 < o):fG.f o=some (⟨#[]⟩,⟨#[]⟩):=by
  unfold fG.f jA.f
  rw [if_neg (by omega),if_neg (by omega),if_neg (by omega),if_neg (by omega),if_neg (by omega),if_neg (by omega),if_neg (by omega),if_neg (by omega),if_neg (by omega),if_neg (by omega),if_neg (by omega),if_neg (by omega),if_neg (by omega),if_neg (by omega),if_neg (by omega)]
  rfl
theorem aaF:∀ i:Fin 15,∀ j:Fin 15,i.val ≠ j.val→Gh i.val ≠ Gh j.val:=by decide
theorem Rw:∀ i:Fin 15,Gh i.val ≠ []:=by decide
theorem Ot:∀ i:Fin 15,(yN i.val).all (fun c=>c == 97 || c == 98 || c == 99 || c == 110)=true∧(yN i.val).length≤3:=by decide
def L4 (l:UInt8):Prop:=l=97 ∨ l=98 ∨ l=99 ∨ l=110
theorem I4 {i:Nat} (hi:i < 15):∀ c ∈ yN i,L4 c:=by
  intro c hc
  have:=List.all_eq_true.1 (Ot ⟨i,hi⟩).1 c hc
  simp only [Bool.or_eq_true,beq_iff_eq] at this
  unfold L4
  rcases this with ((h|h)|h)|h
  · exact .inl h
  · exact .inr (.inl h)
  · exact .inr (.inr (.inl h))
  · exact .inr (.inr (.inr h))
theorem Oa (L:List ByteArray) (i:Nat):dW ByteArray.empty L (i:Int)=L.getD i ByteArray.empty:=rfl
set_option linter.unusedSectionVars false
section
variable (a b c n:Int) (ha:0≤a∧a≤255) (hb:0≤b∧b≤255) (hc:0≤c∧c≤255) (hn:-9223372036854775808≤n∧n≤9223372036854775807)
def zS (l:UInt8):Int:=if l=97 then a else if l=98 then b else if l=99 then c else n
def uj (l:UInt8):ByteArray:=Bs (Lib.itoa (zS a b c n l))
def ui (s:Int × Int × Int × Int) (l:UInt8):Int × Int × Int × Int:=if l=97 then (a,s.2.1,s.2.2.1,s.2.2.2) else if l=98 then (s.1,b,s.2.2.1,s.2.2.2) else if l=99 then (s.1,s.2.1,c,s.2.2.2) else (s.1,s.2.1,s.2.2.1,n)
include ha hb hc hn
theorem yc (l:UInt8):-9223372036854775808≤zS a b c n l∧zS a b c n l≤9223372036854775807:=by
  unfold zS
  split
  · omega
  · split
    · omega
    · split <;> omega
theorem Yv (o:Int) (l:UInt8) (hl:L4 l):jB.f o a b c n (l.toNat:Int)=some (zS a b c n l):=by
  have w:∀ x:Int,0≤x∧x≤255→wrap64 x=x:=fun x h=>by unfold wrap64;omega
  unfold jB.f
  rw [w a ha,w b hb,w c hc]
  rcases hl with rfl|rfl|rfl|rfl <;> rfl
theorem I5 (o:Int) (nm lt:List UInt8) (hl:∀ c ∈ lt,L4 c) (hlen:lt.length≤3):∀ d i,i+d=lt.length →
    Ev (fun k=>bn.l0 k (Bs lt) (Bs nm :: (lt.take i).map (uj a b c n)) (i:Nat) o a b c n) (Bs nm :: lt.map (uj a b c n))
  | 0,i,hi=>by
    refine Ev.step (f:=fun _=>some _) (fun k=>?_) (Ev.now _)
    simp only [bn.l0]
    rw [ji,if_neg (by omega),List.take_of_length_le (by omega)]
  | d+1,i,hi=>by
    have hlt:i < lt.length:=by omega
    have hcc:lt[i]? = some lt[i]:=List.getElem?_eq_getElem hlt
    have hm:=hl lt[i] (List.getElem_mem hlt)
    have htk:lt.take (i+1)=lt.take i++[lt[i]]:=List.take_succ_eq_append_getElem hlt
    generalize lt[i]=l at hcc hm htk
    have ih:=I5 o nm lt hl hlen d (i+1) (by omega)
    rw [htk,List.map_append] at ih
    have hr:=yc a b c n ha hb hc hn l
    refine Ev.step (fun k=>?_) ih
    conv=>lhs;simp only [bn.l0]
    rw [ji,if_pos (by omega),if_pos (by omega),FO lt i l hcc,Yv a b c n ha hb hc hn o l hm,Option.bind_some]
    unfold jb.f
    rw [if_pos rfl,if_pos hr,Option.bind_some,if_pos (by simp only [List.length_cons,List.length_map,List.length_take];omega),uh i (by omega)]
    rfl
theorem X9 (o:Int) (s:Int × Int × Int × Int) (l:UInt8) (hl:L4 l):Ev (fun k=>aZ.f k o s.1 s.2.1 s.2.2.1 s.2.2.2 (l.toNat:Int) (zS a b c n l)) (o,(ui a b c n s l).1,(ui a b c n s l).2.1,(ui a b c n s l).2.2.1,(ui a b c n s l).2.2.2,true):=by
  rcases hl with rfl|rfl|rfl|rfl
  · show Ev (fun k=>aZ.f k o s.1 s.2.1 s.2.2.1 s.2.2.2 97 a) (o,a,s.2.1,s.2.2.1,s.2.2.2,true)
    refine Ev.congr (f:=fun k=>aZ.j0 k 97 a false o s.1 s.2.1 s.2.2.1 s.2.2.2) (fun k=>?_) (Ev.step (f:=fun _=>some _) (fun k=>?_) (Ev.now _))
    · unfold aZ.f
      rw [if_neg (by decide),if_neg (by omega),decide_eq_false (by omega)]
    · simp only [aZ.j0]
      rw [if_neg (by decide),if_pos trivial,show a % 256=a from by omega]
  · show Ev (fun k=>aZ.f k o s.1 s.2.1 s.2.2.1 s.2.2.2 98 b) (o,s.1,b,s.2.2.1,s.2.2.2,true)
    refine Ev.congr (f:=fun k=>aZ.j0 k 98 b false o s.1 s.2.1 s.2.2.1 s.2.2.2) (fun k=>?_) (Ev.step (f:=fun _=>some _) (fun k=>?_) (Ev.now _))
    · unfold aZ.f
      rw [if_neg (by decide),if_neg (by omega),decide_eq_false (by omega)]
    · simp only [aZ.j0]
      rw [if_neg (by decide),if_neg (by decide),if_pos trivial,show b % 256=b from by omega]
  · show Ev (fun k=>aZ.f k o s.1 s.2.1 s.2.2.1 s.2.2.2 99 c) (o,s.1,s.2.1,c,s.2.2.2,true)
    refine Ev.congr (f:=fun k=>aZ.j0 k 99 c false o s.1 s.2.1 s.2.2.1 s.2.2.2) (fun k=>?_) (Ev.step (f:=fun _=>some _) (fun k=>?_) (Ev.now _))
    · unfold aZ.f
      rw [if_neg (by decide),if_neg (by omega),decide_eq_false (by omega)]
    · simp only [aZ.j0]
      rw [if_neg (by decide),if_neg (by decide),if_neg (by decide),show c % 256=c from by omega]
  · exact Ev.now _
theorem IU (o:Int) (nm lt:List UInt8) (hl:∀ c ∈ lt,L4 c) (hlen:lt.length≤3):∀ d i (s:Int × Int × Int × Int),i+d=lt.length →
    Ev (fun k=>aJ.l1 k (Bs nm :: lt.map (uj a b c n)) (Bs lt) (i:Nat) o s.1 s.2.1 s.2.2.1 s.2.2.2)
      (o,((lt.drop i).foldl (ui a b c n) s).1,((lt.drop i).foldl (ui a b c n) s).2.1,((lt.drop i).foldl (ui a b c n) s).2.2.1,((lt.drop i).foldl (ui a b c n) s).2.2.2,true)
  | 0,i,s,hi=>by
    refine Ev.step (f:=fun _=>some _) (fun k=>?_) (Ev.now _)
    simp only [aJ.l1]
    rw [ji,if_neg (by omega),List.drop_of_length_le (by omega),List.foldl_nil]
  | d+1,i,s,hi=>by
    have hlt:i < lt.length:=by omega
    have hcc:lt[i]? = some lt[i]:=List.getElem?_eq_getElem hlt
    have hm:=hl lt[i] (List.getElem_mem hlt)
    have hdr:lt.drop i=lt[i] :: lt.drop (i+1):=List.drop_eq_getElem_cons hlt
    generalize lt[i]=l at hcc hm hdr
    have hrd:(Bs nm :: lt.map (uj a b c n)).getD (i+1) ByteArray.empty=uj a b c n l:=by
      rw [List.getD_eq_getElem?_getD,List.getElem?_cons_succ,List.getElem?_map,hcc]
      rfl
    have hr:=yc a b c n ha hb hc hn l
    rw [hdr,List.foldl_cons]
    refine Ev.step (f:=fun k=>(aH.f k (Bs (Lib.itoa (zS a b c n l)))).bind fun p=>(aZ.f k o s.1 s.2.1 s.2.2.1 s.2.2.2 (l.toNat:Int) p.1).bind fun q=>if p.2=0 then (if q.2.2.2.2.2=true then aJ.l1 k (Bs nm :: lt.map (uj a b c n)) (Bs lt) ((i+1:Nat):Int) q.1 q.2.1 q.2.2.1 q.2.2.2.1 q.2.2.2.2.1 else some (0,0,0,0,0,false)) else some (0,0,0,0,0,false)) (fun k=>?_) ?_
    · conv=>lhs;simp only [aJ.l1]
      rw [ji,if_pos (by omega),uh i (by omega),if_pos (by omega),if_pos (by simp only [List.length_cons,List.length_map];omega),Oa,hrd,FO lt i l hcc]
      refine congrArg (Option.bind _) (funext fun p=>?_)
      rw [if_pos (by omega)]
    · refine Ev.bind (Ol _ hr.1 hr.2) (Ev.bind (X9 a b c n ha hb hc hn o s l hm) ?_)
      exact IU o nm lt hl hlen d (i+1) (ui a b c n s l) (by omega)
theorem IV (j:Nat) (hj:j < 15):∀ d i,i+d=j →
    Ev (fun k=>aJ.l0 k (Bs (Gh j) :: (yN j).map (uj a b c n)) ((i+1:Nat):Int))
      (((j+1:Nat):Int),((yN j).foldl (ui a b c n) (0,0,0,0)).1,((yN j).foldl (ui a b c n) (0,0,0,0)).2.1,((yN j).foldl (ui a b c n) (0,0,0,0)).2.2.1,((yN j).foldl (ui a b c n) (0,0,0,0)).2.2.2,true)
  | 0,i,hi=>by
    obtain rfl:i=j:=by omega
    have hl:=(Ot ⟨i,hj⟩).2
    have l1:=IU a b c n ha hb hc hn ((i+1:Nat):Int) (Gh i) (yN i) (I4 hj) hl (yN i).length 0 (0,0,0,0) (Nat.zero_add _)
    rw [List.drop_zero] at l1
    refine Ev.step (f:=fun k=>aJ.j1 k (Bs (Gh i) :: (yN i).map (uj a b c n)) ((i+1:Nat):Int) (Bs (yN i)) false) (fun k=>?_) (Ev.step (fun k=>?_) l1)
    · conv=>lhs;simp only [aJ.l0]
      rw [if_pos (by omega),uJ i hj,Option.bind_some,if_pos (by simp only [List.length_cons];omega)]
      refine (if_pos rfl).trans ?_
      refine congrArg (aJ.j1 k _ _ _) ?_
      have hl':(yN i).length≤3:=hl
      rw [ji,uh _ (by omega),List.length_cons,List.length_map]
      simp
    · conv=>lhs;simp only [aJ.j1]
      rw [if_neg (by decide)]
      rfl
  | d+1,i,hi=>by
    have ih:=IV j hj d (i+1) (by omega)
    have hne:Gh j ≠ Gh i:=aaF ⟨j,hj⟩ ⟨i,by omega⟩ (by show j ≠ i;omega)
    refine Ev.step (f:=fun k=>aJ.j1 k (Bs (Gh j) :: (yN j).map (uj a b c n)) ((i+1:Nat):Int) (Bs (yN i)) true) (fun k=>?_) (Ev.step (fun k=>?_) ih)
    · conv=>lhs;simp only [aJ.l0]
      rw [if_pos (by omega),uJ i (by omega),Option.bind_some,if_pos (by simp only [List.length_cons];omega)]
      rw [if_neg]
      show ¬ (Bs (Gh j)).toList=(Bs (Gh i)).toList
      rw [oz,oz]
      exact hne
    · conv=>lhs;simp only [aJ.j1]
      rw [if_pos trivial,show (((i+1:Nat):Int)+1) % 256=((i+1+1:Nat):Int) from by omega]
end
theorem akZ (i:Nat) (hi:i < 15) (a b c n:Int) :
    (((i+1:Nat):Int) == ((i+1:Nat):Int) && (((yN i).foldl (ui a b c n) (0,0,0,0)).1 == a && (((yN i).foldl (ui a b c n) (0,0,0,0)).2.1 == b && (((yN i).foldl (ui a b c n) (0,0,0,0)).2.2.1 == c && ((yN i).foldl (ui a b c n) (0,0,0,0)).2.2.2 == n))))=qK ⟨((i+1:Nat):Int),a,b,c,n⟩:=by
  have z:∀ x:Int,((0:Int) == x)=(x == 0):=fun x=>by rw [Bool.beq_comm]
  have e:∀ x:Int,(x == x)=true:=fun x=>beq_self_eq_true x
  have hh:i=0 ∨ i=1 ∨ i=2 ∨ i=3 ∨ i=4 ∨ i=5 ∨ i=6 ∨ i=7 ∨ i=8 ∨ i=9 ∨ i=10 ∨ i=11 ∨ i=12 ∨ i=13 ∨ i=14:=by omega
  have go:∀ (A B C D:Bool) (F:Int × Int × Int × Int),(F.1=if A then a else 0)→(F.2.1=if B then b else 0)→(F.2.2.1=if C then c else 0)→(F.2.2.2=if D then n else 0) →
      (((i+1:Nat):Int) == ((i+1:Nat):Int) && (F.1 == a && (F.2.1 == b && (F.2.2.1 == c && F.2.2.2 == n))))=((B || b == 0) && (C || c == 0) && (D || n == 0) && (A || a == 0)):=by
    intro A B C D F h1 h2 h3 h4
    rw [h1,h2,h3,h4,e,Bool.true_and]
    have k:∀ (P:Bool) (x:Int),((if P then x else 0) == x)=(P || x == 0):=fun P x=>by
      cases P
      · rw [if_neg (by decide),z,Bool.false_or]
      · rw [if_pos rfl,e,Bool.true_or]
    rw [k,k,k,k]
    cases (A || a == 0) <;> cases (B || b == 0) <;> cases (C || c == 0) <;> cases (D || n == 0) <;> rfl
  rcases hh with rfl|rfl|rfl|rfl|rfl|rfl|rfl|rfl|rfl|rfl|rfl|rfl|rfl|rfl|rfl
  · exact go true false false true _ rfl rfl rfl rfl
  · exact go true true true false _ rfl rfl rfl rfl
  · exact go false false false true _ rfl rfl rfl rfl
  · exact go true false false true _ rfl rfl rfl rfl
  · exact go true false false false _ rfl rfl rfl rfl
  · exact go true false false false _ rfl rfl rfl rfl
  · exact go true true false false _ rfl rfl rfl rfl
  · exact go true true false true _ rfl rfl rfl rfl
  · exact go true true false true _ rfl rfl rfl rfl
  · exact go true true false true _ rfl rfl rfl rfl
  · exact go true true false true _ rfl rfl rfl rfl
  · exact go true true false false _ rfl rfl rfl rfl
  · exact go true true false false _ rfl rfl rfl rfl
  · exact go true false false false _ rfl rfl rfl rfl
  · exact go true true true false _ rfl rfl rfl rfl
theorem N7 (x:gZ) (ha:0≤x.f1∧x.f1≤255) (hb:0≤x.f2∧x.f2≤255) (hc:0≤x.f3∧x.f3≤255) (hn:-9223372036854775808≤x.f4∧x.f4≤9223372036854775807) :
    Ev (fun k=>dY.f k x.f0 x.f1 x.f2 x.f3 x.f4) (qK x):=by
  obtain ⟨o,a,b,c,n⟩:=x
  dsimp only at ha hb hc hn ⊢
  by_cases h:o < 1 ∨ 15 < o
  · refine Ev.congr (f:=fun _=>some false) (fun k=>?_) (Ev.out (Ev.now _) ?_)
    · unfold dY.f
      rw [LG o h,Option.bind_some]
      exact if_pos (oz [])
    · unfold qK
      dsimp only
      by_cases h1:o < 1
      · rw [if_pos h1]
      · rw [if_neg h1,if_pos (by omega)]
  · obtain ⟨m,rfl⟩:=Int.eq_ofNat_of_zero_le (show 0≤o by omega)
    obtain ⟨i,rfl⟩:∃ i,m=i+1:=⟨m - 1,by omega⟩
    have hi:i < 15:=by omega
    have hl:=(Ot ⟨i,hi⟩).2
    have hln:=I5 a b c n ha hb hc hn ((i+1:Nat):Int) (Gh i) (yN i) (I4 hi) hl (yN i).length 0 (Nat.zero_add _)
    have hrd:=IV a b c n ha hb hc hn i hi i 0 (Nat.zero_add _)
    have abf:Ev (fun k=>bn.f k ((i+1:Nat):Int) a b c n) (Bs (Gh i) :: (yN i).map (uj a b c n)):=by
      refine Ev.congr (fun k=>?_) hln
      unfold bn.f
      rw [uJ i hi,Option.bind_some]
      rfl
    have hread:Ev (fun k=>aJ.f k (Bs (Gh i) :: (yN i).map (uj a b c n))) _:=hrd
    refine Ev.congr (f:=fun k=>(bn.f k ((i+1:Nat):Int) a b c n).bind fun t140=>((aJ.f k t140).bind fun kE=>(if kE.2.2.2.2.2=true then (some (kE.1 == ((i+1:Nat):Int) && (kE.2.1 == a && (kE.2.2.1 == b && (kE.2.2.2.1 == c && (kE.2.2.2.2.1 == n)))))) else (some false)))) (fun k=>?_) (Ev.bind abf (Ev.bind hread ?_))
    · unfold dY.f
      rw [uJ i hi,Option.bind_some]
      refine if_neg ?_
      show ¬ (Bs (Gh i)).toList=_
      rw [oz]
      exact Rw ⟨i,hi⟩
    · refine Ev.congr (fun k=>if_pos rfl) (Ev.out (Ev.now _) ?_)
      exact akZ i hi a b c n
end Go.Proofs.YtlemecdddhdagaaDoor.P
end
