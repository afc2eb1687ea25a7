/- Parts of the proof of Both: what the functions that it reaches compute, and plain facts about that. -/
import Derived.Test.YtkclndkbccbhaaaDoorQah
import Derived.Test.YtkclndkbccbhaaaDoorQaj
import Derived.Test.YtkclndkbccbhaaaDoorTie
import Derived.WalkKit
import Derived.ProofKit
import Derived.OpenShut
import Derived.ShutString
import Derived.ChangeOld
import Derived.Below
import Derived.SliceStrings
import Derived.Deep.DeepHandedRow
import Derived.Lib.LaidTab
import Derived.Lib.SmallJoins
import Derived.LaidLaws
import Derived.Lay
import Derived.Test.YtkclndkbccbhaaaDoorQac
set_option linter.unusedVariables false
set_option linter.unusedSimpArgs false
section
namespace Go.Proofs.YtkclndkbccbhaaaDoor.P
open Go Go.RowKit Go.Proofs.az.dw Go.Proofs.az.gB Go.Proofs.az.gX
theorem QK {b:UInt8} (h:GM b=true):okc b=true:=by
  unfold GM at h
  unfold okc
  simp only [Bool.or_eq_true] at h ⊢
  exact Or.inl h
theorem sH {s:ByteArray} (h:lq s=true):s.data.toList.length≤30:=by
  unfold lq KX at h
  simp only [Bool.and_eq_true,decide_eq_true_eq] at h
  exact h.1
theorem GR {s:ByteArray} (h:lq s=true):∀ b ∈ s.data.toList,GM b=true:=by
  unfold lq KX at h
  simp only [Bool.and_eq_true,List.all_eq_true] at h
  exact h.2
theorem GN {s:ByteArray} (h:lq s=true):F6 s.data.toList=true:=by
  unfold F6
  simp only [Bool.and_eq_true,decide_eq_true_eq,List.all_eq_true]
  exact ⟨sH h,fun b hb=>QK (GR h b hb)⟩
theorem toList_data (s:ByteArray):s.toList=s.data.toList:=ByteArray.toList_eq s
theorem LU {s:ByteArray} (h:lq s=true):F6 (nR s).data.toList=true∧(nR s).data.toList ≠ []:=by
  unfold nR
  split
  · exact ⟨by decide,by decide⟩
  · rename_i e
    rw [toList_data] at e
    exact ⟨GN h,e⟩
theorem OM {c:UInt8} (h:MW c=true):okc c=true:=by
  unfold MW at h
  unfold okc
  simp only [Bool.or_eq_true]
  exact Or.inl (Or.inr h)
theorem Tj (n:Int) (h0:-9223372036854775808≤n) (h1:n≤9223372036854775807):F6 (Lib.itoa n)=true∧Lib.itoa n ≠ []:=by
  have hl:=(Fh n h0 h1).2.2
  obtain ⟨neg,hi,hs,hn1,hn2⟩:=GU n
  have hp:=BL n.natAbs n.natAbs (Nat.le_refl _)
  constructor
  · unfold F6
    simp only [Bool.and_eq_true,decide_eq_true_eq,List.all_eq_true]
    refine ⟨by omega,fun b hb=>?_⟩
    rw [hi] at hb
    cases neg with
    | true =>
      rw [if_pos rfl] at hb
      rcases List.mem_cons.1 hb with rfl|hb
      · decide
      · exact OM (hp.1 b hb)
    | false =>
      rw [if_neg (by simp)] at hb
      exact OM (hp.1 b hb)
  · rw [hi]
    cases neg with
    | true=>rw [if_pos rfl];simp
    | false=>rw [if_neg (by simp)];exact hp.2.1
theorem SV:∀ o:Fin 16,1≤o.val→F6 (nameOf o.val).data.toList=true∧(nameOf o.val).data.toList ≠ []∧(nameOf o.val).data.toList.length≤6∧(pX o.val).data.toList.length≤3:=by decide +kernel
def V7 (n:Int):Prop:=-9223372036854775808≤n∧n≤9223372036854775807
def Ql (x:jo):Prop:=(0≤x.f1∧x.f1≤255)∧(0≤x.f2∧x.f2≤255)∧(0≤x.f3∧x.f3≤255)∧(-9223372036854775808≤x.f4∧x.f4≤9223372036854775807)
theorem arg_num {x:jo} (h:Ql x) (ch:Nat):V7 (qg x.f1 x.f2 x.f3 x.f4 ch):=by
  obtain ⟨h1,h2,h3,h4⟩:=h
  unfold qg V7
  split
  · omega
  · split
    · omega
    · split <;> omega
theorem SN {x:jo} (h:jJ x=true):∃ o:Fin 16,x.f0=(o.val:Int)∧x.f0.toNat=o.val∧1≤o.val:=by
  have:=Gv h
  exact ⟨⟨x.f0.toNat,by omega⟩,by simp only;omega,rfl,by simp only;omega⟩
def nM (x:jo):List (List UInt8):=(nameOf x.f0.toNat).data.toList :: (pX x.f0.toNat).data.toList.map fun ch=>Lib.itoa (qg x.f1 x.f2 x.f3 x.f4 ch.toNat)
theorem Qv (x:jo):(nM x).map Bs=mr x:=by
  unfold nM mr vW
  rw [List.map_cons,oV,List.map_map]
  rfl
theorem Bv {x:jo} (h:jJ x=true) (hw:Ql x):nM x ≠ []∧(∀ w ∈ nM x,F6 w=true∧w ≠ [])∧zl (nM x)≤73:=by
  obtain ⟨o,ho,hn,h1⟩:=SN h
  obtain ⟨k1,k2,k3,k4⟩:=SV o h1
  unfold nM
  rw [hn]
  refine ⟨by simp,fun w hm=>?_,?_⟩
  · rcases List.mem_cons.1 hm with rfl|hm
    · exact ⟨k1,k2⟩
    · obtain ⟨ch,_,rfl⟩:=List.mem_map.1 hm
      have:=arg_num hw ch.toNat
      exact Tj _ this.1 this.2
  · rw [mQ]
    have:∀ hs:List UInt8,zl (hs.map fun ch=>Lib.itoa (qg x.f1 x.f2 x.f3 x.f4 ch.toNat))≤22 * hs.length:=by
      intro hs
      induction hs with
      | nil=>simp [zl]
      | cons ch r ih =>
        have a:=arg_num hw ch.toNat
        have:=(Fh _ a.1 a.2).2.2
        rw [List.map_cons,mQ,List.length_cons]
        omega
    have:=this (pX o.val).data.toList
    omega
def Ar (s:ByteArray):List (List UInt8):=[[116,121,112,101],s.data.toList]
def BJ (lo gl:ByteArray):List (List (List UInt8)):=[[[108,111,99,97,108,115],(nR lo).data.toList],[[103,108,111,98,97,108,115],(nR gl).data.toList]]
def LA (ts:List ByteArray) (lo gl:ByteArray) (cs:List jo):List (List (List UInt8)):=ts.map Ar++BJ lo gl++cs.map nM
theorem zf (ts:List ByteArray) (lo gl:ByteArray) (cs:List jo):conv (LA ts lo gl cs)=ni ts lo gl cs:=by
  have h1:(ts.map Ar).map (·.map Bs)=ts.map Au:=by
    rw [List.map_map]
    refine List.map_congr_left fun s _=>?_
    show [Bs _,Bs s.data.toList]=_
    rw [oV]
    rfl
  have h2:(BJ lo gl).map (·.map Bs)=pO lo gl:=by
    show [[Bs _,Bs (nR lo).data.toList],[Bs _,Bs (nR gl).data.toList]]=_
    rw [oV,oV]
    rfl
  have h3:(cs.map nM).map (·.map Bs)=cs.map mr:=by
    rw [List.map_map]
    exact List.map_congr_left fun x _=>Qv x
  unfold conv LA ni
  rw [List.map_append,List.map_append,h1,h2,h3]
theorem sQ (ts:List ByteArray) (lo gl:ByteArray) (cs:List jo):rQ ts lo gl cs=Bs (joinL (LA ts lo gl cs)):=by
  unfold rQ
  rw [← zf,Fg]
structure RD (ts:List ByteArray) (lo gl:ByteArray) (cs:List jo):Prop where
  typ:∀ s ∈ ts,QG s=true
  ins:∀ x ∈ cs,jJ x=true
  lok:lq lo=true
  gok:lq gl=true
  few:cs.length≤200
theorem xJ {ts:List ByteArray} {lo gl:ByteArray} {cs:List jo}:wB ts lo gl cs=true ↔ RD ts lo gl cs:=by
  unfold wB
  simp only [Bool.and_eq_true,List.all_eq_true,decide_eq_true_eq]
  exact ⟨fun h=>⟨h.1,h.2.1,h.2.2.1,h.2.2.2.1,h.2.2.2.2⟩,fun h=>⟨h.typ,h.ins,h.lok,h.gok,h.few⟩⟩
theorem AO {s:ByteArray} (h:QG s=true):lq s=true∧s.data.toList ≠ []:=by
  unfold QG at h
  simp only [Bool.and_eq_true,decide_eq_true_eq,toList_data] at h
  exact ⟨h.2,h.1⟩
theorem RV {s:ByteArray} (h:QG s=true):Ar s ≠ []∧∀ w ∈ Ar s,F6 w=true∧w ≠ []:=by
  have:=AO h
  refine ⟨by simp [Ar],fun w hm=>?_⟩
  unfold Ar at hm
  rcases List.mem_cons.1 hm with rfl|hm
  · exact ⟨by decide,by decide⟩
  · rcases List.mem_cons.1 hm with rfl|hm
    · exact ⟨GN this.1,this.2⟩
    · cases hm
theorem abu {ts:List ByteArray} {lo gl:ByteArray} {cs:List jo} (h:RD ts lo gl cs) (hw:∀ x ∈ cs,Ql x):∀ ws ∈ LA ts lo gl cs,ws ≠ []∧∀ w ∈ ws,F6 w=true∧w ≠ []:=by
  intro ws hm
  unfold LA at hm
  rw [List.mem_append,List.mem_append] at hm
  rcases hm with (hm|hm)|hm
  · obtain ⟨s,hs,rfl⟩:=List.mem_map.1 hm
    exact RV (h.typ s hs)
  · have a:=LU h.lok
    have b:=LU h.gok
    unfold BJ at hm
    rcases List.mem_cons.1 hm with rfl|hm
    · refine ⟨by simp,fun w hm=>?_⟩
      rcases List.mem_cons.1 hm with rfl|hm
      · exact ⟨by decide,by decide⟩
      · rcases List.mem_cons.1 hm with rfl|hm
        · exact a
        · cases hm
    · rcases List.mem_cons.1 hm with rfl|hm
      · refine ⟨by simp,fun w hm=>?_⟩
        rcases List.mem_cons.1 hm with rfl|hm
        · exact ⟨by decide,by decide⟩
        · rcases List.mem_cons.1 hm with rfl|hm
          · exact b
          · cases hm
      · cases hm
  · obtain ⟨x,hx,rfl⟩:=List.mem_map.1 hm
    have:=Bv (h.ins x hx) (hw x hx)
    exact ⟨this.1,this.2.1⟩
theorem Ot (a b:List (List (List UInt8))):tot (a++b)=tot a+tot b:=by
  unfold tot
  rw [List.map_append,List.sum_append]
def sizes (ts:List ByteArray):Nat:=(ts.map fun s=>s.size+1).sum
theorem ER (s:ByteArray) (ts:List ByteArray):sizes (s :: ts)=s.size+1+sizes ts:=by simp [sizes]
theorem vF:∀ ts:List ByteArray,(∀ s ∈ ts,QG s=true)→tot (ts.map Ar)=sizes ts+6 * ts.length∧2 * ts.length≤sizes ts
  | [],_=>⟨rfl,by decide⟩
  | s :: r,h=>by
    have ih:=vF r fun x hx=>h x (List.mem_cons_of_mem _ hx)
    have hs:=(AO (h s (List.mem_cons_self ..))).2
    have:1≤s.size:=by
      rw [size_data]
      cases hq:s.data.toList with
      | nil=>exact absurd hq hs
      | cons a b=>simp
    rw [List.map_cons,sO,ER,List.length_cons]
    have e:zl (Ar s)=5+(s.size+1):=by
      unfold Ar
      rw [mQ,mQ,size_data]
      simp [zl]
    omega
theorem Ku:∀ cs:List jo,(∀ x ∈ cs,jJ x=true)→(∀ x ∈ cs,Ql x)→tot (cs.map nM)≤74 * cs.length
  | [],_,_=>by simp [tot]
  | x :: r,h,hw=>by
    have ih:=Ku r (fun y hy=>h y (List.mem_cons_of_mem _ hy)) (fun y hy=>hw y (List.mem_cons_of_mem _ hy))
    have:=(Bv (h x (List.mem_cons_self ..)) (hw x (List.mem_cons_self ..))).2.2
    rw [List.map_cons,sO,List.length_cons]
    omega
theorem LV {s:ByteArray} (h:lq s=true):(nR s).data.toList.length≤30:=by
  unfold nR
  split
  · decide
  · exact sH h
theorem Ic {ts:List ByteArray} {lo gl:ByteArray} {cs:List jo} (h:RD ts lo gl cs) (hw:∀ x ∈ cs,Ql x) (hs:sizes ts≤500):tot (LA ts lo gl cs)≤18000:=by
  have a:=vF ts h.typ
  have b:=Ku cs h.ins hw
  have c:=h.few
  have d:=LV h.lok
  have e:=LV h.gok
  have f:tot (BJ lo gl)≤100:=by
    unfold BJ
    rw [sO,sO,mQ,mQ,mQ,mQ]
    simp only [tot,zl,List.map_nil,List.sum_nil,List.length_cons,List.length_nil]
    omega
  unfold LA
  rw [Ot,Ot]
  omega
theorem Sl {L:List (List (List UInt8))} (h:tot L≤18000):Small L :=
  ⟨by have:=Ij L;omega,fun x hx=>by have:=XH hx;have:=S9 x;omega⟩
theorem XM {ts:List ByteArray} {lo gl:ByteArray} {cs:List jo} (h:RD ts lo gl cs) (hw:∀ x ∈ cs,Ql x) (hs:sizes ts≤500):lW.f (ni ts lo gl cs)=some (rQ ts lo gl cs):=by
  have a:=Ic h hw hs
  rw [← zf,sQ]
  exact ach _ (Sl a) (by have:=yQ (LA ts lo gl cs);omega)
theorem SY {L:List (List (List UInt8))} (h:∀ ws ∈ L,ws ≠ []∧∀ w ∈ ws,F6 w=true∧w ≠ []) (ht:tot L≤18000):Ev (fun k=>dK.f k (Bs (joinL L))) (conv L,0,0):=by
  have a:=KW (Bs (joinL L)) (by rw [mJ];have:=yQ L;omega)
  unfold NP at a
  rw [ED,Wh (fun ws hm=>(h ws hm).1) (fun ws hm=>(h ws hm).2),OG] at a
  exact a
theorem KU:∀ k o:Fin 16,1≤o.val→k ≠ o→(nameOf k.val).data.toList ≠ (nameOf o.val).data.toList:=by decide +kernel
theorem KD (o:Fin 16) (ho:1≤o.val) (l:List ByteArray) (h0:ja ByteArray.empty l 0=nameOf o.val) (hl:l.length=(pX o.val).size+1):∀ (d k:Nat),k≤o.val→d+k=16 →
    EW d k l=(oI (pX o.val).data.toList l.tail (0,0,0,0)).map (Gx o.val)
  | 0,k,hk,hd=>by omega
  | d+1,k,hk,hd=>by
    unfold EW
    by_cases e:k=o.val
    · subst e
      rw [if_neg]
      intro h
      rcases h with h|h|h
      · omega
      · exact h (by rw [h0])
      · exact h hl
    · rw [if_pos]
      · exact KD o ho l h0 hl d (k+1) (by omega) (by omega)
      · right;left
        rw [h0,toList_data,toList_data]
        exact KU ⟨k,by omega⟩ o ho (fun h=>e (by rw [← h]))
theorem KR {n:Int} (h:V7 n):mf.f (rV n)=some (n,0):=by
  have a:=Fh n h.1 h.2
  have b:=adC (Lib.itoa n) (by omega)
  unfold ace at b
  rw [if_pos a.1,a.2.1] at b
  exact b
def Nh (x:jo) (hs:List UInt8) (q:Int × Int × Int × Int):Int × Int × Int × Int:=hs.foldl (fun q ch=>setArg ch.toNat (qg x.f1 x.f2 x.f3 x.f4 ch.toNat) q) q
theorem Cj {x:jo} (hw:Ql x):∀ (hs:List UInt8) (q:Int × Int × Int × Int),(∀ ch ∈ hs,ch=97 ∨ ch=98 ∨ ch=99 ∨ ch=110) →
    oI hs (hs.map fun ch=>rV (qg x.f1 x.f2 x.f3 x.f4 ch.toNat)) q=some (some (Nh x hs q))
  | [],q,_=>rfl
  | ch :: hs,q,h=>by
    have ih:=fun q=>Cj hw hs q (fun c hc=>h c (List.mem_cons_of_mem _ hc))
    rw [List.map_cons]
    conv=>lhs;unfold oI
    rw [KR (arg_num hw ch.toNat),Option.bind_some]
    simp only []
    rw [if_pos trivial]
    obtain ⟨h1,h2,h3,h4⟩:=hw
    rcases h ch (List.mem_cons_self ..) with rfl|rfl|rfl|rfl
    · rw [if_neg (by decide),if_pos (by show 0≤x.f1∧x.f1≤255;exact h1),ih]
      rfl
    · rw [if_neg (by decide),if_pos (by show 0≤x.f2∧x.f2≤255;exact h2),ih]
      rfl
    · rw [if_neg (by decide),if_pos (by show 0≤x.f3∧x.f3≤255;exact h3),ih]
      rfl
    · rw [if_pos (by decide),ih]
      rfl
theorem QT:∀ o:Fin 16,∀ ch ∈ (pX o.val).data.toList,ch=97 ∨ ch=98 ∨ ch=99 ∨ ch=110:=by decide +kernel
theorem Nk {x:jo} (h:jJ x=true):(hasB x.f0 98=true ∨ x.f2=0)∧(hasB x.f0 99=true ∨ x.f3=0)∧(hasB x.f0 110=true ∨ x.f4=0)∧(hasB x.f0 97=true ∨ x.f1=0):=by
  unfold jJ gu.f at h
  split at h
  · cases h
  · split at h
    · cases h
    · simp only [Option.getD_some,Bool.and_eq_true,Bool.or_eq_true,beq_iff_eq] at h
      exact ⟨h.1.1.1,h.1.1.2,h.1.2,h.2⟩
theorem Ig {x:jo} (h:jJ x=true) (o:Fin 16) (ho:x.f0=(o.val:Int)) (h1:1≤o.val):Nh x (pX o.val).data.toList (0,0,0,0)=(x.f1,x.f2,x.f3,x.f4):=by
  obtain ⟨z2,z3,z4,z1⟩:=Nk h
  rw [ho] at z1 z2 z3 z4
  obtain ⟨f0,f1,f2,f3,f4⟩:=x
  simp only at z1 z2 z3 z4 ho
  clear h
  have aaq:∀ n:Nat,n < 16→1≤n→(hasB (n:Int) 98=true ∨ f2=0)→(hasB (n:Int) 99=true ∨ f3=0)→(hasB (n:Int) 110=true ∨ f4=0)→(hasB (n:Int) 97=true ∨ f1=0)→Nh ⟨f0,f1,f2,f3,f4⟩ (pX n).data.toList (0,0,0,0)=(f1,f2,f3,f4):=by
    intro n hn h1 z2 z3 z4 z1
    have out:∀ {b:Bool} {n:Int},(b=true ∨ n=0)→b=false→n=0:=fun h hb=>by
      rcases h with h|h
      · rw [h] at hb;cases hb
      · exact h
    match n,hn,h1,z2,z3,z4,z1 with
    | 0,_,h1,_,_,_,_=>exact absurd h1 (by decide)
    | 1,_,_,z2,z3,z4,z1=>obtain rfl:=out z2 (by decide +kernel);obtain rfl:=out z3 (by decide +kernel);rfl
    | 2,_,_,z2,z3,z4,z1=>obtain rfl:=out z4 (by decide +kernel);rfl
    | 3,_,_,z2,z3,z4,z1=>obtain rfl:=out z2 (by decide +kernel);obtain rfl:=out z3 (by decide +kernel);obtain rfl:=out z1 (by decide +kernel);rfl
    | 4,_,_,z2,z3,z4,z1=>obtain rfl:=out z2 (by decide +kernel);obtain rfl:=out z3 (by decide +kernel);rfl
    | 5,_,_,z2,z3,z4,z1=>obtain rfl:=out z2 (by decide +kernel);obtain rfl:=out z3 (by decide +kernel);obtain rfl:=out z4 (by decide +kernel);rfl
    | 6,_,_,z2,z3,z4,z1=>obtain rfl:=out z2 (by decide +kernel);obtain rfl:=out z3 (by decide +kernel);obtain rfl:=out z4 (by decide +kernel);rfl
    | 7,_,_,z2,z3,z4,z1=>obtain rfl:=out z3 (by decide +kernel);obtain rfl:=out z4 (by decide +kernel);rfl
    | 8,_,_,z2,z3,z4,z1=>obtain rfl:=out z3 (by decide +kernel);rfl
    | 9,_,_,z2,z3,z4,z1=>obtain rfl:=out z3 (by decide +kernel);rfl
    | 10,_,_,z2,z3,z4,z1=>obtain rfl:=out z3 (by decide +kernel);rfl
    | 11,_,_,z2,z3,z4,z1=>obtain rfl:=out z3 (by decide +kernel);rfl
    | 12,_,_,z2,z3,z4,z1=>obtain rfl:=out z3 (by decide +kernel);obtain rfl:=out z4 (by decide +kernel);rfl
    | 13,_,_,z2,z3,z4,z1=>obtain rfl:=out z3 (by decide +kernel);obtain rfl:=out z4 (by decide +kernel);rfl
    | 14,_,_,z2,z3,z4,z1=>obtain rfl:=out z2 (by decide +kernel);obtain rfl:=out z3 (by decide +kernel);obtain rfl:=out z4 (by decide +kernel);rfl
    | 15,_,_,z2,z3,z4,z1=>obtain rfl:=out z4 (by decide +kernel);rfl
    | n+16,hn,_,_,_,_,_=>omega
  exact aaq o.val o.isLt h1 z2 z3 z4 z1
theorem EU {x:jo} (h:jJ x=true) (hw:Ql x):mV.f (mr x)=some (x.f0,x.f1,x.f2,x.f3,x.f4,true):=by
  obtain ⟨o,ho,hn,h1⟩:=SN h
  unfold mV.f
  rw [if_pos (by unfold mr vW;simp)]
  have e:mr x=nameOf o.val :: (pX o.val).data.toList.map fun ch=>rV (qg x.f1 x.f2 x.f3 x.f4 ch.toNat):=by
    unfold mr vW
    rw [hn]
  rw [e,KD o h1 _ rfl (by rw [List.length_cons,List.length_map,size_data]) 16 0 (by omega) rfl,List.tail_cons,Cj hw _ _ (QT o),Option.map_some,Ig h o ho h1]
  unfold Gx
  rw [← ho]
theorem BI (a:List (List ByteArray)) (x:List ByteArray) (b:List (List ByteArray)) (n:Nat) (hn:n=a.length):lM (a++x :: b) (n:Int)=x:=by
  subst hn
  exact SG _ _ _ (by simp)
theorem Kz (l:List (List ByteArray)) (ts:List ByteArray) (lo gl:ByteArray):∀ (cs:List jo) (d:Nat) (pre:List (List ByteArray)) (acc:List jo) (a:Nat),l=pre++cs.map mr→a=pre.length→cs.length < d→acc.length+cs.length≤200→(∀ x ∈ cs,jJ x=true)→(∀ x ∈ cs,Ql x) →
    rU l ts lo gl d a acc=some (ts,lo,gl,acc++cs,0,0)
  | [],d+1,pre,acc,a,hl,ha,hd,h2,hr,hw=>by
    unfold rU
    rw [if_neg (by rw [hl,ha];simp),List.append_nil]
  | [],0,pre,acc,a,hl,ha,hd,h2,hr,hw=>by cases hd
  | x :: cs,0,pre,acc,a,hl,ha,hd,h2,hr,hw=>by cases hd
  | x :: cs,d+1,pre,acc,a,hl,ha,hd,h2,hr,hw=>by
    have ih:=Kz l ts lo gl cs d (pre++[mr x]) (acc++[x]) (a+1) (by rw [hl];simp) (by rw [ha];simp) (by simp at hd;omega) (by simp at h2 ⊢;omega) (fun y hy=>hr y (List.mem_cons_of_mem _ hy)) (fun y hy=>hw y (List.mem_cons_of_mem _ hy))
    unfold rU
    rw [if_pos (by rw [hl,ha];simp),show lM l (a:Int)=mr x from by rw [hl,List.map_cons];exact BI _ _ _ _ ha,EU (hr x (List.mem_cons_self ..)) (hw x (List.mem_cons_self ..)),Option.bind_some]
    simp only []
    rw [if_pos trivial,if_pos (by simp at h2;omega),ih]
    simp
theorem Gw (l:List (List ByteArray)) (ts:List ByteArray) (lo gl:ByteArray) (bad:List ByteArray) (hb:mV.f bad=some (0,0,0,0,0,false)):∀ (cs:List jo) (d:Nat) (pre:List (List ByteArray)) (acc:List jo) (a:Nat),l=pre++cs.map mr++[bad]→a=pre.length→cs.length < d→acc.length+cs.length≤200→(∀ x ∈ cs,jJ x=true)→(∀ x ∈ cs,Ql x) →
    rU l ts lo gl d a acc=some (mW (a+cs.length))
  | [],d+1,pre,acc,a,hl,ha,hd,h2,hr,hw=>by
    unfold rU
    rw [if_pos (by rw [hl,ha];simp),show lM l (a:Int)=bad from by rw [hl,List.map_nil,List.append_nil];exact BI _ _ _ _ ha,hb,Option.bind_some]
    rfl
  | [],0,pre,acc,a,hl,ha,hd,h2,hr,hw=>by cases hd
  | x :: cs,0,pre,acc,a,hl,ha,hd,h2,hr,hw=>by cases hd
  | x :: cs,d+1,pre,acc,a,hl,ha,hd,h2,hr,hw=>by
    have ih:=Gw l ts lo gl bad hb cs d (pre++[mr x]) (acc++[x]) (a+1) (by rw [hl];simp) (by rw [ha];simp) (by simp at hd;omega) (by simp at h2 ⊢;omega) (fun y hy=>hr y (List.mem_cons_of_mem _ hy)) (fun y hy=>hw y (List.mem_cons_of_mem _ hy))
    unfold rU
    rw [if_pos (by rw [hl,ha];simp),show lM l (a:Int)=mr x from by rw [hl,List.map_cons,List.append_assoc,List.cons_append];exact BI _ _ _ _ ha,EU (hr x (List.mem_cons_self ..)) (hw x (List.mem_cons_self ..)),Option.bind_some]
    simp only []
    rw [if_pos trivial,if_pos (by simp at h2;omega),ih,List.length_cons]
    congr 2
    omega
theorem E8 (pre:List (List ByteArray)) (nm s:ByteArray) (post:List (List ByteArray)) (a:Nat) (ha:a=pre.length) (hs:lq s=true ∨ s.toList=[45]):wz (pre++[nm,s] :: post) a nm=some (s,true):=by
  unfold wz
  rw [if_pos (by rw [ha];simp),BI pre [nm,s] post a ha,if_pos (show [nm,s].length=2 from rfl),if_pos (show (ja ByteArray.empty [nm,s] 0).toList=nm.toList from rfl),show ja ByteArray.empty [nm,s] 1=s from rfl,Ii,Option.bind_some]
  rcases hs with hs|hs
  · rw [if_pos hs]
  · split <;> first|rfl|rw [if_pos hs]
theorem FC {s:ByteArray} (h:lq s=true):lq (nR s)=true ∨ (nR s).toList=[45]:=by
  unfold nR
  split
  · exact Or.inr (by rw [toList_data])
  · exact Or.inl h
theorem Fb {s:ByteArray} (h:lq s=true):(45:UInt8) ∉ s.data.toList:=fun hm=>absurd (GR h 45 hm) (by decide)
theorem Gu {s:ByteArray} (h:lq s=true):strings_TrimSuffix.f (nR s) ⟨#[45]⟩=some s:=by
  unfold nR
  split
  · rename_i e
    rw [toList_data] at e
    have:s=⟨#[]⟩:=by rw [← oV s,e];rfl
    subst this
    decide +kernel
  · rename_i e
    rw [toList_data] at e
    unfold strings_TrimSuffix.f stringslite_TrimSuffix.f stringslite_HasSuffix.f
    have h1:(⟨#[45]⟩:ByteArray).size=1:=rfl
    rw [h1]
    have hl:=sH h
    rw [← size_data] at hl
    have h2:1≤s.size:=by
      rw [size_data]
      cases hq:s.data.toList with
      | nil=>exact absurd hq e
      | cons a b=>simp
    have h3:wrap64 ((s.size:Int) - ((1:Nat):Int))=((s.size - 1:Nat):Int):=by unfold wrap64;omega
    rw [h3,if_pos (by omega),if_pos (by omega),if_pos (by omega)]
    have h4:((s.extract ((s.size - 1:Nat):Int).toNat s.size).toList == (⟨#[45]⟩:ByteArray).toList)=false:=by
      rw [beq_eq_false_iff_ne]
      intro hq
      have hq':(s.extract (s.size - 1) s.size).toList=[45]:=hq.trans (by decide +kernel)
      rw [← oV s,Fz,Hr] at hq'
      have:(45:UInt8) ∈ s.data.toList:=by
        have hm:(45:UInt8) ∈ (s.data.toList.drop ((Bs s.data.toList).size - 1)).take ((Bs s.data.toList).size - ((Bs s.data.toList).size - 1)):=by
          rw [hq']
          simp
        exact List.mem_of_mem_drop (List.mem_of_mem_take hm)
      exact Fb h this
    rw [h4]
    rfl
theorem SB (l:List (List ByteArray)) (ts:List ByteArray) (lo gl:ByteArray) (pre rest:List (List ByteArray)) (a:Nat) (hl:l=pre++(pO lo gl++rest)) (ha:a=pre.length) (h1:lq lo=true) (h2:lq gl=true) :
    sU l ts 2 a ⟨#[]⟩ ⟨#[]⟩=rU l ts lo gl (l.length+1) (a+2) []:=by
  have e1:wz l a ⟨#[108,111,99,97,108,115]⟩=some (nR lo,true):=by
    rw [hl]
    exact E8 pre _ _ _ a ha (FC h1)
  have e2:wz l (a+1) ⟨#[103,108,111,98,97,108,115]⟩=some (nR gl,true):=by
    rw [hl,show pre++(pO lo gl++rest)=(pre++[[⟨#[108,111,99,97,108,115]⟩,nR lo]])++[⟨#[103,108,111,98,97,108,115]⟩,nR gl] :: rest from by simp [pO]]
    exact E8 _ _ _ _ (a+1) (by rw [ha];simp) (FC h2)
  unfold sU
  rw [if_pos rfl,e1,Option.bind_some]
  simp only []
  rw [if_pos trivial,Gu h1,Option.bind_some,if_pos trivial]
  unfold sU
  rw [if_neg (by decide),e2,Option.bind_some]
  simp only []
  rw [if_pos trivial,Gu h2,Option.bind_some,if_neg (by decide)]
  rfl
theorem ET (l:List (List ByteArray)) (lo gl:ByteArray) (rest:List (List ByteArray)) (h1:lq lo=true) (h2:lq gl=true):∀ (ts:List ByteArray) (d:Nat) (pre:List (List ByteArray)) (acc:List ByteArray) (a:Nat),l=pre++(ts.map Au++(pO lo gl++rest))→a=pre.length→ts.length < d→(∀ s ∈ ts,QG s=true) →
    AA l d a acc=rU l (acc++ts) lo gl (l.length+1) (a+ts.length+2) []
  | [],0,pre,acc,a,hl,ha,hd,hs=>by cases hd
  | s :: ts,0,pre,acc,a,hl,ha,hd,hs=>by cases hd
  | [],d+1,pre,acc,a,hl,ha,hd,hs=>by
    have e:lM l (a:Int)=[⟨#[108,111,99,97,108,115]⟩,nR lo]:=by
      rw [hl]
      exact BI pre _ _ a ha
    unfold AA
    rw [if_pos (by rw [hl,ha];simp [pO]),e,if_pos (by simp),if_neg (by show ¬ (⟨#[108,111,99,97,108,115]⟩:ByteArray).toList=_;decide +kernel),SB l acc lo gl pre rest a hl ha h1 h2,List.append_nil]
    rfl
  | s :: ts,d+1,pre,acc,a,hl,ha,hd,hs=>by
    have ih:=ET l lo gl rest h1 h2 ts d (pre++[Au s]) (acc++[s]) (a+1) (by rw [hl];simp) (by rw [ha];simp) (by simp at hd;omega) (fun x hx=>hs x (List.mem_cons_of_mem _ hx))
    have hl':l=pre++[⟨#[116,121,112,101]⟩,s] :: (ts.map Au++(pO lo gl++rest)):=hl
    have e:lM l (a:Int)=[⟨#[116,121,112,101]⟩,s]:=by
      rw [hl']
      exact BI pre _ _ a ha
    have hk:=(AO (hs s (List.mem_cons_self ..))).1
    have en:wz l a ⟨#[116,121,112,101]⟩=some (s,true):=by
      rw [hl']
      exact E8 pre _ _ _ a ha (Or.inl hk)
    unfold AA
    rw [if_pos (by rw [hl',ha];simp),e,if_pos (by simp),if_pos (by show (⟨#[116,121,112,101]⟩:ByteArray).toList=_;decide +kernel),en,Option.bind_some]
    simp only []
    rw [if_pos trivial,if_neg (fun h=>Fb hk (by rw [← toList_data,h];simp)),ih]
    rw [List.append_assoc,List.singleton_append,List.length_cons,show a+1+ts.length+2=a+(ts.length+1)+2 from by omega]
theorem Cm (s:ByteArray) (l:List (List ByteArray)) (h:Ev (fun k=>dK.f k s) (l,0,0)) (hl:l.length≤1000000) {r:List ByteArray × ByteArray × ByteArray × List jo × Int × Int} (hr:AA l (l.length+1) 0 []=some r):Ev (fun k=>cu.f k s) r:=by
  unfold cu.f
  refine Ev.bind h ?_
  simp only []
  rw [if_pos trivial,if_pos hl,hr]
  exact Ev.now _
theorem Nz {ts:List ByteArray} {lo gl:ByteArray} {cs:List jo} (h:RD ts lo gl cs) (hw:∀ x ∈ cs,Ql x) (hs:sizes ts≤500):Ev (fun k=>cu.f k (rQ ts lo gl cs)) (ts,lo,gl,cs,0,0):=by
  have a:=Ic h hw hs
  have hl:(ni ts lo gl cs).length≤1000000:=by
    rw [← zf,ru]
    have:=Ij (LA ts lo gl cs)
    omega
  have b:=SY (abu h hw) a
  rw [← sQ,zf] at b
  refine Cm _ _ b hl ?_
  rw [ET (ni ts lo gl cs) lo gl (cs.map mr) h.lok h.gok ts _ [] [] 0 (by unfold ni;simp) rfl (by unfold ni;simp;omega) h.typ]
  exact Kz _ _ _ _ cs _ (ts.map Au++pO lo gl) [] _ rfl (by simp [pO]) (by unfold ni;simp;omega) (by simpa using h.few) h.ins hw
end Go.Proofs.YtkclndkbccbhaaaDoor.P
end
section
namespace Go.Proofs.YtkclndkbccbhaaaDoor.P
open Go.ChangeShapes Go.WideShapes Go.ChangeAt Go.RowKit Go.Joins Go.Proofs.az.dw Go.Proofs.az.gB Go.Proofs.az.gX
theorem own:ownKnob Tryd.prog.godebug=none:=by kernel_rfl
theorem ajY:Tryd.prog.globalNamed "lockstitch/code.ops"=some 0:=by kernel_rfl
theorem Vg:(Tryd.prog.globals[0]?).map (·.type)=some 58:=by kernel_rfl
theorem cells58:Tryd.prog.cellsOf 58=32:=by kernel_rfl
theorem aap:Tryd.prog.cellsOf 57=2:=by kernel_rfl
theorem cells9:Tryd.prog.cellsOf 9=1:=by kernel_rfl
theorem cells5:Tryd.prog.cellsOf 5=1:=by kernel_rfl
theorem cells2:Tryd.prog.cellsOf 2=1:=by kernel_rfl
theorem cells22:Tryd.prog.cellsOf 22=1:=by kernel_rfl
theorem cells23:Tryd.prog.cellsOf 23=1:=by kernel_rfl
theorem cells25:Tryd.prog.cellsOf 25=4:=by kernel_rfl
theorem cells35:Tryd.prog.cellsOf 35=5:=by kernel_rfl
def pairs:List (List UInt8 × List UInt8):=[([],[]),([115,101,116],[97,110]),([97,100,100],[97,98,99]),([106,117,109,112],[110]),([122,101,114,111],[97,110]),([110,101,119],[97]),([110,105,108],[97]),([109,111,118,101],[97,98]),([108,111,97,100,105],[97,98,110]),([115,116,111,114,101,105],[97,110,98]),([108,111,97,100,112],[97,98,110]),([115,116,111,114,101,112],[97,110,98]),([108,111,97,100,103],[97,98]),([115,116,111,114,101,103],[97,98]),([112,114,105,110,116],[97]),([115,97,109,101],[97,98,99])]
def KI {H:Type} (p:List UInt8 × List UInt8):DataW H:=.agg [.lit (.string p.1),.lit (.string p.2)]
def flat:List (List UInt8 × List UInt8)→List Value
  | []=>[]
  | p :: r=>.string ⟨p.1.toArray⟩ :: .string ⟨p.2.toArray⟩ :: flat r
theorem Qa:∀ (ps:List (List UInt8 × List UInt8)) (cs:List Value),cs.length=2 * ps.length →
    (∀ i p,ps[i]? = some p→cs[2 * i]? = some (.string ⟨p.1.toArray⟩)∧cs[2 * i+1]? = some (.string ⟨p.2.toArray⟩))→cs=flat ps
  | [],cs,hl,_=>by
    simp at hl
    exact hl
  | p :: r,c0 :: c1 :: cs,hl,h=>by
    obtain ⟨h0,h1⟩:=h 0 p rfl
    simp at h0 h1
    rw [Qa r cs (by simp at hl;omega) fun i q hq=>?_,h0,h1]
    · rfl
    · have:=h (i+1) q (by simpa using hq)
      rw [show 2 * (i+1)=2 * i+2 from by omega,show 2 * i+2+1=2 * i+1+2 from by omega] at this
      simpa using this
  | p :: r,[c0],hl,h=>by simp at hl;omega
  | p :: r,[],hl,h=>by simp at hl
theorem Qj {s:ByteArray} {l:List UInt8} (h:s.data.toList=l):s=⟨l.toArray⟩:=by
  cases s
  subst h
  simp
theorem Kv {H:Type} {enc:TypeId × Value→H} {w:World} {base:Nat} {sp:Nat→Bool} {held:Bool} {fuel:Nat} {cs:List Value} {p:List MemPlace}
    (h:DataW.trod enc Tryd.prog w base sp held fuel 58 cs=some (.agg (pairs.map KI),p)):cs=flat pairs:=by
  cases fuel with
  | zero=>simp [DataW.trod] at h
  | succ fuel =>
    simp only [DataW.trod,Tryd.underlying58,aap,cells58] at h
    split at h
    · rename_i hl
      obtain ⟨xs,hm,hx⟩:=Option.map_eq_some_iff.1 h
      have hxs:xs.map (·.1)=pairs.map (KI (H:=H)):=by
        have:=congrArg Prod.fst hx
        simpa using this
      refine Qa pairs cs hl fun i q hq=>?_
      have hi:i < 16:=(List.getElem?_eq_some_iff.1 hq).1
      obtain ⟨b,hb,hf⟩:=Lib.mapM_at hm i i (by simp [hi])
      have hb1:b.1=KI q:=by
        have:(xs.map (·.1))[i]? = some b.1:=by simp [hb]
        rw [hxs] at this
        simp [hq] at this
        exact this.symm
      obtain ⟨y0,y1,n,rfl,_,t0,t1⟩:=trod_struct2 Tryd.underlying57 hf
      simp only [cells9] at t0 t1
      obtain ⟨s0,e0,rfl,_⟩:=DataW.trod_string Tryd.underlying9 t0
      obtain ⟨s1,e1,rfl,_⟩:=DataW.trod_string Tryd.underlying9 t1
      unfold KI at hb1
      simp at hb1
      constructor
      · have:=congrArg (·[0]?) e0
        simp [List.getElem?_drop] at this
        rw [Nat.mul_comm,this,Qj hb1.1]
      · have:=congrArg (·[0]?) e1
        simp [List.getElem?_drop] at this
        rw [Nat.mul_comm,this,Qj hb1.2]
    · cases h
theorem XL {H:Type}:(Rows.laid_lockstitch_code_ops:DataW H)=.agg (pairs.map KI):=rfl
theorem Vh:flat pairs=opsL.map Value.string:=rfl
noncomputable def laidAll:List (String × DataW Unit):=[("math/bits.deBruijn32tab",Rows.laid_math_bits_deBruijn32tab),("math/bits.deBruijn64tab",Rows.laid_math_bits_deBruijn64tab),("internal/strconv.uint64pow10",Rows.laid_internal_strconv_uint64pow10),("unicode/utf8.acceptRanges",Rows.laid_unicode_utf8_acceptRanges),("strconv.ErrRange",Rows.laid_strconv_ErrRange),("strconv.ErrSyntax",Rows.laid_strconv_ErrSyntax),("lockstitch/code.ops",Rows.laid_lockstitch_code_ops),("unicode/utf8.first",Rows.laid_unicode_utf8_first)]
theorem AP {P:Program} {w:World} {n:String} {d:DataW Unit}:∀ {l:List (String × DataW Unit)} {ps:List MemPlace},DataW.LaidVars P w l ps→(n,d) ∈ l →
    ∃ g t cs fuel p,P.globalNamed n=some g∧(P.globals[g]?).map (·.type)=some t∧w.var? P n=some cs∧DataW.trod (fun _=>()) P w 0 (fun _=>true) false fuel t cs.toList=some (d,p)
  | [],_,_,h=>by cases h
  | (n',d') :: r,ps,⟨g,t,cs,fuel,p,q,h1,h2,h3,h4,h5,_⟩,h=>by
    rcases List.mem_cons.1 h with e|h
    · injection e with e1 e2
      subst e1 e2
      exact ⟨g,t,cs,fuel,p,h1,h2,h3,h4⟩
    · exact AP h5 h
theorem SK:(Rows.laid_internal_strconv_uint64pow10:DataW Unit)=Lib.tabData .u64 Lib.pow10Tab:=by kernel_rfl
theorem GV {w:World} {n:String} {nm:String} {d:DataW Unit} {ps:List MemPlace} (h:DataW.LaidVars Tryd.prog w laidAll ps) (hm:(n,.iface nm d) ∈ laidAll) {g ti:Nat} {ms:Array (String × TypeId)}
    (hg:Tryd.prog.globalNamed n=some g) (ht:(Tryd.prog.globals[g]?).map (·.type)=some ti) (hi:Tryd.prog.underlying ti=some (.interface ms)):∃ tp p,w.var? Tryd.prog n=some #[.iface tp p]:=by
  obtain ⟨g',t',cs,fuel,p,h1,h2,h3,h4⟩:=AP h hm
  obtain rfl:=Option.some.inj (hg.symm.trans h1)
  obtain rfl:=Option.some.inj (ht.symm.trans h2)
  obtain ⟨l⟩:=cs
  obtain ⟨_,u,v,rfl,_⟩:=iface_of_trod hi h4
  exact ⟨u,v,h3⟩
theorem VJ:Tryd.prog.cellsOf 110=20:=by kernel_rfl
theorem aao:Tryd.prog.cellsOf 93=1:=by kernel_rfl
theorem Vd:(Tryd.prog.globals[2]?).map (·.type)=some 110:=by kernel_rfl
theorem Ve:(Tryd.prog.globals[3]?).map (·.type)=some 66:=by kernel_rfl
theorem Vf:(Tryd.prog.globals[4]?).map (·.type)=some 66:=by kernel_rfl
set_option maxRecDepth 100000 in
theorem QE {W:World} {ps:List MemPlace} (h:DataW.LaidVars Tryd.prog W laidAll ps):Kd.C Kd.string W uZ opsL.length opsL:=by
  obtain ⟨g',t',cs,fuel,p,hg',ht',hvar,hd⟩:=AP (n:="lockstitch/code.ops") (d:=Rows.laid_lockstitch_code_ops) h (.tail _ (.tail _ (.tail _ (.tail _ (.tail _ (.tail _ (.head _)))))))
  obtain rfl:=Option.some.inj (ajY.symm.trans hg')
  obtain rfl:=Option.some.inj (Vg.symm.trans ht')
  rw [XL] at hd
  have e:=Kv hd
  rw [Vh] at e
  refine ⟨rfl,by decide,fun _=>⟨_,rfl,fun j p hj=>⟨[.string p],rfl,rfl,fun i u hu=>?_⟩⟩⟩
  have hi:i=0:=by
    have:=(List.getElem?_eq_some_iff.1 hu).1
    simp at this
    exact this
  subst hi
  simp at hu
  subst hu
  have:=World.var?_cell ajY hvar j
  show W.cell? ((⟨0,0,none⟩:Addr).add (j * 1+0))=_
  rw [show (⟨0,0,none⟩:Addr).add (j * 1+0)=⟨0,j,none⟩ from (by simp [Addr.add];omega),this,← Array.getElem?_toList,e,List.getElem?_map,hj]
  rfl
set_option maxRecDepth 100000 in
theorem table {W:World} (hL:laidMetH Tryd.prog laidAll W) (hsh:W.ShapedOpen Tryd.prog):Kd.C xu W xw mX.length mX:=by
  rw [MakeChecks.laidMetH_plain _ _ _ (by kernel_rfl)] at hL
  obtain ⟨ps,h,_⟩:=hL
  refine abX ⟨?_,Tryd.laysM146.s1_3 W hsh,GV h (.tail _ (.tail _ (.tail _ (.tail _ (.tail _ (.head _)))))) ajW Ve Tryd.underlying66,GV h (.tail _ (.tail _ (.tail _ (.tail _ (.head _))))) ajX Vf Tryd.underlying66,QE h⟩
  obtain ⟨g',t',cs,fuel,p,hg',ht',hvar,hd⟩:=AP (n:="internal/strconv.uint64pow10") (d:=Rows.laid_internal_strconv_uint64pow10) h (.tail _ (.tail _ (.head _)))
  obtain rfl:=Option.some.inj (gTab.symm.trans hg')
  obtain rfl:=Option.some.inj (Vd.symm.trans ht')
  rw [SK] at hd
  unfold Lib.TabIs
  rw [hvar,← Lib.cells_of_tab Tryd.underlying110 Tryd.underlying93 aao VJ hd]
noncomputable def laidWorld (os:Os):World:=World.laidAll Tryd.prog os laidAll
theorem laid_met (os:Os) (args:Array Value):laidMet Tryd.prog laidAll ((laidWorld os).forCall (fun _ _=>0) ⟨#[],args,[]⟩).memory :=
  laidMet_laidAll args (by kernel_rfl) (by kernel_rfl)
theorem Ce {H:Type} {t e:TypeId} {es sp:List (DataW H)} (ht:Tryd.prog.underlying t=some (.slice e)) (he:Tryd.prog.bytesOf e=16) (h:((DataW.slice es sp).weights Tryd.prog t).all (·≤reachBytes)=true):es.length≤140737488355328:=by
  have rb:reachBytes=140737488351232:=by decide
  simp only [DataW.weights,ht,he,List.all_cons,Bool.and_eq_true,decide_eq_true_eq] at h
  omega
section
variable {H:Type} {enc:TypeId × Value→H} {w:World} {base:Nat} {sp:Nat→Bool} {held:Bool}
theorem NK {fuel:Nat} {v:Value} {x:DataW H × List MemPlace} (h:DataW.trod enc Tryd.prog w base sp held fuel 22 [v]=some x) :
    ∃ (A:Option Addr) (c:Nat) (t:List ByteArray),v=.slice A t.length c∧t.length≤c∧Kd.C Kd.string w A t.length t∧((x.1.weights Tryd.prog 22).all (·≤reachBytes)=true→t.length≤140737488355328):=by
  rcases open_strings Tryd.underlying22 Tryd.underlying9 cells9 h with ⟨hcs,_⟩|⟨a,len,cap,ss,hcs,_,hl,hm,hss,hx,hcell,_⟩
  · injection hcs with hcs
    subst hcs
    exact ⟨none,0,[],rfl,Nat.le_refl _,⟨rfl,by decide,fun h=>absurd h (Nat.lt_irrefl _)⟩,fun _=>by simp⟩
  · injection hcs with hcs
    subst hcs
    have hle:len≤ss.length:=by rw [hss];split <;> omega
    have hlen:(ss.take len).length=len:=by rw [List.length_take];omega
    refine ⟨some a,cap,ss.take len,by rw [hlen],by rw [hlen];exact hl,⟨rfl,by rw [hlen];unfold maxLen at hm;omega,fun _=>⟨a,rfl,fun j p hj=>⟨[.string p],rfl,rfl,fun i u hu=>?_⟩⟩⟩,fun hz=>by
      rw [hx] at hz
      have:=Ce Tryd.underlying22 (by kernel_rfl) hz
      have h2:(strs (H:=H) (ss.take len)).length=(ss.take len).length:=by unfold strs;rw [List.length_map]
      rw [h2] at this
      exact this⟩
    have hjl:j < len:=by
      have:=(List.getElem?_eq_some_iff.1 hj).1
      omega
    have hi:i=0:=by
      have:=(List.getElem?_eq_some_iff.1 hu).1
      simp at this
      exact this
    subst hi
    simp at hu
    subst hu
    show w.cell? (a.add (j * 1+0))=_
    rw [show j * 1+0=j from by omega,hcell j (by omega),List.getD_eq_getElem?_getD]
    rw [List.getElem?_take,if_pos hjl] at hj
    rw [hj]
    rfl
def Wj (w:World) (a:Addr) (i:Nat) (x:jo):Prop :=
  (∀ q u,([.int .u8 x.f0,.int .u8 x.f1,.int .u8 x.f2,.int .u8 x.f3,.int .i64 x.f4]:List Value)[q]? = some u→w.cell? (a.add (i * 5+q))=some u) ∧
  Ql x
theorem acj {n:Int} (h:(Lit.int .i64 n).wf=true):-9223372036854775808≤n∧n≤9223372036854775807:=by
  simp only [Lit.wf,Bool.and_eq_true,decide_eq_true_eq] at h
  exact h
theorem RU {n:Int} (h:(Lit.int .u8 n).wf=true):0≤n∧n≤255:=by
  simp only [Lit.wf,Bool.and_eq_true,decide_eq_true_eq] at h
  exact h
theorem Ro {w:World} {base:Nat} {a:Addr} {n:Nat} {cs:List Value} (h:w.cells? base a n=some cs):cs.length=n∧∀ q,q < n→w.cell? (a.add q)=cs[q]?:=by
  unfold World.cells? at h
  split at h
  · exact ⟨by simpa using mapM_some_length h,fun q hq=>mapM_some_get h q q (by simp [hq])⟩
  · cases h
theorem EZ {cs:List Value} {k:Nat} {v:Value} (h:(cs.drop k).take 1=[v]):cs[k]? = some v:=by
  have:=congrArg (·[0]?) h
  simpa [List.getElem?_take,List.getElem?_drop] using this
theorem SL {fuel:Nat} {a:Addr} {i:Nat} {y:DataW H × List MemPlace} (h:(w.cells? base (a.add (i * 5)) 5).bind (DataW.trod enc Tryd.prog w base sp held fuel 35)=some y):∃ x,Wj w a i x:=by
  rw [Option.bind_eq_some_iff] at h
  obtain ⟨cs,hc,h⟩:=h
  obtain ⟨hl,hcell⟩:=Ro hc
  obtain ⟨xs,n,_,_,_,hxl,hf⟩:=DataW.trod_struct Tryd.underlying35 h
  match xs,hxl with
  | [y0,y1,y2,y3,y4],_ =>
    have f0:DataW.trod enc Tryd.prog w base sp held n 5 ((cs.drop 0).take (Tryd.prog.cellsOf 5))=some y0:=hf 0 _ rfl
    have f1:DataW.trod enc Tryd.prog w base sp held n 5 ((cs.drop 1).take (Tryd.prog.cellsOf 5))=some y1:=hf 1 _ rfl
    have f2:DataW.trod enc Tryd.prog w base sp held n 5 ((cs.drop 2).take (Tryd.prog.cellsOf 5))=some y2:=hf 2 _ rfl
    have f3:DataW.trod enc Tryd.prog w base sp held n 5 ((cs.drop 3).take (Tryd.prog.cellsOf 5))=some y3:=hf 3 _ rfl
    have f4:DataW.trod enc Tryd.prog w base sp held n 2 ((cs.drop 4).take (Tryd.prog.cellsOf 2))=some y4:=hf 4 _ rfl
    rw [cells5] at f0 f1 f2 f3
    rw [cells2] at f4
    obtain ⟨n0,e0,_,w0⟩:=DataW.trod_int Tryd.underlying5 f0
    obtain ⟨n1,e1,_,w1⟩:=DataW.trod_int Tryd.underlying5 f1
    obtain ⟨n2,e2,_,w2⟩:=DataW.trod_int Tryd.underlying5 f2
    obtain ⟨n3,e3,_,w3⟩:=DataW.trod_int Tryd.underlying5 f3
    obtain ⟨n4,e4,_,w4⟩:=DataW.trod_int Tryd.underlying2 f4
    refine ⟨⟨n0,n1,n2,n3,n4⟩,fun q u hu=>?_,RU w1,RU w2,RU w3,acj w4⟩
    rw [← Addr.add_add]
    match q,hu with
    | 0,hu=>rw [hcell 0 (by omega),EZ e0];exact hu
    | 1,hu=>rw [hcell 1 (by omega),EZ e1];exact hu
    | 2,hu=>rw [hcell 2 (by omega),EZ e2];exact hu
    | 3,hu=>rw [hcell 3 (by omega),EZ e3];exact hu
    | 4,hu=>rw [hcell 4 (by omega),EZ e4];exact hu
    | q+5,hu=>simp at hu
end
section
variable {H:Type} {enc:TypeId × Value→H} {w:World} {base:Nat} {sp:Nat→Bool} {held:Bool}
theorem QF {fuel:Nat} {v:Value} {x:DataW H × List MemPlace} (h:DataW.trod enc Tryd.prog w base sp held fuel 23 [v]=some x) :
    ∃ (A:Option Addr) (c:Nat) (code:List jo),v=.slice A code.length c∧code.length≤c∧Kd.C qV w A code.length code∧Wf code∧((x.1.weights Tryd.prog 23).all (·≤reachBytes)=true→code.length≤140737488355328):=by
  rcases DataW.trod_slice Tryd.underlying23 h with ⟨hcs,_⟩|⟨a,len,cap,elems,rest,n,_,hcs,hx,_,hl,hm,hlen0,hel,_⟩
  · injection hcs with hcs
    subst hcs
    exact ⟨none,0,[],rfl,Nat.le_refl _,⟨rfl,by decide,fun h=>absurd h (Nat.lt_irrefl _)⟩,(fun _ hx=>by cases hx),fun _=>by simp⟩
  · injection hcs with hcs
    subst hcs
    have each:∀ i,∃ x:jo,i < len→Wj w a i x:=fun i=>by
      by_cases hi:i < len
      · have:=hel i hi
        rw [cells35,List.getElem?_eq_getElem (by omega)] at this
        obtain ⟨x,hx⟩:=SL this
        exact ⟨x,fun _=>hx⟩
      · exact ⟨z35,fun h=>absurd h hi⟩
    let f:=fun i=>Classical.choose (each i)
    have hf:∀ i,i < len→Wj w a i (f i):=fun i=>Classical.choose_spec (each i)
    have hlen:((List.range len).map f).length=len:=by simp
    have get:∀ j p,((List.range len).map f)[j]? = some p→j < len∧p=f j:=fun j p hj=>by
      have:=(List.getElem?_eq_some_iff.1 hj).1
      rw [hlen] at this
      rw [List.getElem?_map,List.getElem?_range this] at hj
      exact ⟨this,(Option.some.inj hj).symm⟩
    refine ⟨some a,cap,(List.range len).map f,by rw [hlen],by rw [hlen];exact hl,⟨rfl,by rw [hlen];unfold maxLen at hm;omega,fun _=>⟨a,rfl,fun j p hj=>?_⟩⟩,fun y hy=>?_,fun hz=>?_⟩
    · obtain ⟨hjl,rfl⟩:=get j p hj
      exact ⟨_,rfl,acg w (f j),(hf j hjl).1⟩
    · obtain ⟨i,hi,rfl⟩:=List.mem_map.1 hy
      exact (hf i (List.mem_range.1 hi)).2
    · rw [hx] at hz
      have:=Ce Tryd.underlying23 (by kernel_rfl) hz
      rw [hlen]
      simpa [hlen0] using this
set_option maxRecDepth 100000 in
theorem GI {r:Reach} {b0:Nat} {v:Value} {d:DataW H} {p:List MemPlace} (hv:Value.okWide Tryd.prog w r b0 25 v) (h:DataW.Trod enc Tryd.prog w base sp held 25 v d p) (hz:(d.weights Tryd.prog 25).all (·≤reachBytes)=true) :
    ∃ (A0:Option Addr) (c0:Nat) (t:List ByteArray) (lo gl:ByteArray) (A3:Option Addr) (c3:Nat) (code:List jo),
      v=.agg #[.slice A0 t.length c0,.string lo,.string gl,.slice A3 code.length c3] ∧
      Kd.C Kd.string w A0 t.length t∧t.length≤c0∧Kd.C qV w A3 code.length code∧code.length≤c3∧Wf code∧t.length≤140737488355328∧code.length≤140737488355328:=by
  obtain ⟨cs,rfl,hsz⟩:=okWide_struct Tryd.underlying25 hv
  rw [cells25] at hsz
  obtain ⟨v0,v1,v2,v3,rfl⟩:=array4 hsz
  obtain ⟨fuel,h⟩:=h
  obtain ⟨y0,y1,y2,y3,n,he,_,f0,f1,f2,f3⟩:=trod_struct4 Tryd.underlying25 h
  injection he with he _
  subst he
  dsimp only at f0 f1 f2 f3
  rw [cells22] at f0
  rw [cells9] at f1 f2
  rw [cells23] at f3
  obtain ⟨A0,c0,t,rfl,ht,hT,z0⟩:=NK f0
  obtain ⟨lo,e1,_,_⟩:=DataW.trod_string Tryd.underlying9 f1
  obtain ⟨gl,e2,_,_⟩:=DataW.trod_string Tryd.underlying9 f2
  obtain ⟨A3,c3,code,rfl,hc,hC,hw,z3⟩:=QF f3
  have e1':v1=.string lo:=by
    have:[v1]=[Value.string lo]:=e1
    injection this
  have e2':v2=.string gl:=by
    have:[v2]=[Value.string gl]:=e2
    injection this
  subst e1' e2'
  simp only [DataW.weights,DataW.weightsEach,Tryd.underlying25,List.map,List.all_append,Bool.and_eq_true] at hz
  exact ⟨A0,c0,t,lo,gl,A3,c3,code,rfl,hT,ht,hC,hc,hw,z0 hz.1,z3 hz.2.2.2.1⟩
end
theorem EL {H:Type} {t:TypeId} {d:DataW H} {ts:List TypeId} {ds:List (DataW H)} (h:(DataW.weightsEach Tryd.prog (t :: ts) (d :: ds)).all (·≤reachBytes)=true):(d.weights Tryd.prog t).all (·≤reachBytes)=true∧(DataW.weightsEach Tryd.prog ts ds).all (·≤reachBytes)=true:=by
  simp only [DataW.weightsEach,List.all_append,Bool.and_eq_true] at h
  exact h
end Go.Proofs.YtkclndkbccbhaaaDoor.P
end
