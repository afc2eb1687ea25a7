/- Parts of the proof of CodeAgain: what the functions that it reaches compute, and plain facts about that. -/
import Derived.Test.YtkclndkbccbhaaaGreatDoorTah
import Derived.Test.YtkclndkbccbhaaaGreatDoorTak
import Derived.Test.YtkclndkbccbhaaaGreatDoorTie
import Derived.WalkKit
import Derived.ProofKit
import Derived.OpenShut
import Derived.ShutString
import Derived.ChangeOld
import Derived.Below
import Derived.SliceStrings
import Derived.Deep.DeepHandedRow
import Derived.Lib.LaidTab
import Derived.Lib.SmallJoins
import Derived.LaidLaws
import Derived.Lay
import Derived.Test.YtkclndkbccbhaaaGreatDoorTac
set_option linter.unusedVariables false
set_option linter.unusedSimpArgs false
section
namespace Go.Proofs.YtkclndkbccbhaaaGreatDoor.P
open Go Go.RowKit Go.Proofs.ae.bg Go.Proofs.ae.dw Go.Proofs.ae.dO
theorem Ju {b:UInt8} (h:BB b=true):H6 b=true:=by
  unfold BB at h
  unfold H6
  simp only [Bool.or_eq_true] at h ⊢
  exact Or.inl h
theorem BD {s:ByteArray} (h:jC s=true):s.data.toList.length≤30:=by
  unfold jC EF at h
  simp only [Bool.and_eq_true,decide_eq_true_eq] at h
  exact h.1
theorem BF {s:ByteArray} (h:jC s=true):∀ b ∈ s.data.toList,BB b=true:=by
  unfold jC EF at h
  simp only [Bool.and_eq_true,List.all_eq_true] at h
  exact h.2
theorem BC {s:ByteArray} (h:jC s=true):ve s.data.toList=true:=by
  unfold ve
  simp only [Bool.and_eq_true,decide_eq_true_eq,List.all_eq_true]
  exact ⟨BD h,fun b hb=>Ju (BF h b hb)⟩
theorem toList_data (s:ByteArray):s.toList=s.data.toList:=ByteArray.toList_eq s
theorem Fa {s:ByteArray} (h:jC s=true):ve (jK s).data.toList=true∧(jK s).data.toList ≠ []:=by
  unfold jK
  split
  · exact ⟨by decide,by decide⟩
  · rename_i e
    rw [toList_data] at e
    exact ⟨BC h,e⟩
theorem Ie {c:UInt8} (h:D8 c=true):H6 c=true:=by
  unfold D8 at h
  unfold H6
  simp only [Bool.or_eq_true]
  exact Or.inl (Or.inr h)
theorem LX (n:Int) (h0:-9223372036854775808≤n) (h1:n≤9223372036854775807):ve (Lib.itoa n)=true∧Lib.itoa n ≠ []:=by
  have hl:=(zL n h0 h1).2.2
  obtain ⟨neg,hi,hs,hn1,hn2⟩:=BH n
  have hp:=xE n.natAbs n.natAbs (Nat.le_refl _)
  constructor
  · unfold ve
    simp only [Bool.and_eq_true,decide_eq_true_eq,List.all_eq_true]
    refine ⟨by omega,fun b hb=>?_⟩
    rw [hi] at hb
    cases neg with
    | true =>
      rw [if_pos rfl] at hb
      rcases List.mem_cons.1 hb with rfl|hb
      · decide
      · exact Ie (hp.1 b hb)
    | false =>
      rw [if_neg (by simp)] at hb
      exact Ie (hp.1 b hb)
  · rw [hi]
    cases neg with
    | true=>rw [if_pos rfl];simp
    | false=>rw [if_neg (by simp)];exact hp.2.1
theorem Lu:∀ o:Fin 16,1≤o.val→ve (nameOf o.val).data.toList=true∧(nameOf o.val).data.toList ≠ []∧(nameOf o.val).data.toList.length≤6∧(jT o.val).data.toList.length≤3:=by decide +kernel
def Fz (n:Int):Prop:=-9223372036854775808≤n∧n≤9223372036854775807
def Kr (x:iR):Prop:=(0≤x.f1∧x.f1≤255)∧(0≤x.f2∧x.f2≤255)∧(0≤x.f3∧x.f3≤255)∧(-9223372036854775808≤x.f4∧x.f4≤9223372036854775807)
theorem arg_num {x:iR} (h:Kr x) (ch:Nat):Fz (mX x.f1 x.f2 x.f3 x.f4 ch):=by
  obtain ⟨h1,h2,h3,h4⟩:=h
  unfold mX Fz
  split
  · omega
  · split
    · omega
    · split <;> omega
theorem Lr {x:iR} (h:jh x=true):∃ o:Fin 16,x.f0=(o.val:Int)∧x.f0.toNat=o.val∧1≤o.val:=by
  have:=Bd h
  exact ⟨⟨x.f0.toNat,by omega⟩,by simp only;omega,rfl,by simp only;omega⟩
def sZ (x:iR):List (List UInt8):=(nameOf x.f0.toNat).data.toList :: (jT x.f0.toNat).data.toList.map fun ch=>Lib.itoa (mX x.f1 x.f2 x.f3 x.f4 ch.toNat)
theorem Ja (x:iR):(sZ x).map Bs=lh x:=by
  unfold sZ lh rq
  rw [List.map_cons,jJ,List.map_map]
  rfl
theorem I9 {x:iR} (h:jh x=true) (hw:Kr x):sZ x ≠ []∧(∀ w ∈ sZ x,ve w=true∧w ≠ [])∧vH (sZ x)≤73:=by
  obtain ⟨o,ho,hn,h1⟩:=Lr h
  obtain ⟨k1,k2,k3,k4⟩:=Lu o h1
  unfold sZ
  rw [hn]
  refine ⟨by simp,fun w hm=>?_,?_⟩
  · rcases List.mem_cons.1 hm with rfl|hm
    · exact ⟨k1,k2⟩
    · obtain ⟨ch,_,rfl⟩:=List.mem_map.1 hm
      have:=arg_num hw ch.toNat
      exact LX _ this.1 this.2
  · rw [pz]
    have:∀ hs:List UInt8,vH (hs.map fun ch=>Lib.itoa (mX x.f1 x.f2 x.f3 x.f4 ch.toNat))≤22 * hs.length:=by
      intro hs
      induction hs with
      | nil=>simp [vH]
      | cons ch r ih =>
        have a:=arg_num hw ch.toNat
        have:=(zL _ a.1 a.2).2.2
        rw [List.map_cons,pz,List.length_cons]
        omega
    have:=this (jT o.val).data.toList
    omega
def A7 (s:ByteArray):List (List UInt8):=[[116,121,112,101],s.data.toList]
def CZ (lo gl:ByteArray):List (List (List UInt8)):=[[[108,111,99,97,108,115],(jK lo).data.toList],[[103,108,111,98,97,108,115],(jK gl).data.toList]]
def LA (ts:List ByteArray) (lo gl:ByteArray) (cs:List iR):List (List (List UInt8)):=ts.map A7++CZ lo gl++cs.map sZ
theorem wM (ts:List ByteArray) (lo gl:ByteArray) (cs:List iR):conv (LA ts lo gl cs)=oz ts lo gl cs:=by
  have h1:(ts.map A7).map (·.map Bs)=ts.map xQ:=by
    rw [List.map_map]
    refine List.map_congr_left fun s _=>?_
    show [Bs _,Bs s.data.toList]=_
    rw [jJ]
    rfl
  have h2:(CZ lo gl).map (·.map Bs)=ou lo gl:=by
    show [[Bs _,Bs (jK lo).data.toList],[Bs _,Bs (jK gl).data.toList]]=_
    rw [jJ,jJ]
    rfl
  have h3:(cs.map sZ).map (·.map Bs)=cs.map lh:=by
    rw [List.map_map]
    exact List.map_congr_left fun x _=>Ja x
  unfold conv LA oz
  rw [List.map_append,List.map_append,h1,h2,h3]
theorem zh (ts:List ByteArray) (lo gl:ByteArray) (cs:List iR):Ba ts lo gl cs=Bs (joinL (LA ts lo gl cs)):=by
  unfold Ba
  rw [← wM,zK]
structure U4 (ts:List ByteArray) (lo gl:ByteArray) (cs:List iR):Prop where
  typ:∀ s ∈ ts,H7 s=true
  ins:∀ x ∈ cs,jh x=true
  lok:jC lo=true
  gok:jC gl=true
  few:cs.length≤200
theorem LH {ts:List ByteArray} {lo gl:ByteArray} {cs:List iR}:Aq ts lo gl cs=true ↔ U4 ts lo gl cs:=by
  unfold Aq
  simp only [Bool.and_eq_true,List.all_eq_true,decide_eq_true_eq]
  exact ⟨fun h=>⟨h.1,h.2.1,h.2.2.1,h.2.2.2.1,h.2.2.2.2⟩,fun h=>⟨h.typ,h.ins,h.lok,h.gok,h.few⟩⟩
theorem Et {s:ByteArray} (h:H7 s=true):jC s=true∧s.data.toList ≠ []:=by
  unfold H7 at h
  simp only [Bool.and_eq_true,decide_eq_true_eq,toList_data] at h
  exact ⟨h.2,h.1⟩
theorem KF {s:ByteArray} (h:H7 s=true):A7 s ≠ []∧∀ w ∈ A7 s,ve w=true∧w ≠ []:=by
  have:=Et h
  refine ⟨by simp [A7],fun w hm=>?_⟩
  unfold A7 at hm
  rcases List.mem_cons.1 hm with rfl|hm
  · exact ⟨by decide,by decide⟩
  · rcases List.mem_cons.1 hm with rfl|hm
    · exact ⟨BC this.1,this.2⟩
    · cases hm
theorem Xb {ts:List ByteArray} {lo gl:ByteArray} {cs:List iR} (h:U4 ts lo gl cs) (hw:∀ x ∈ cs,Kr x):∀ ws ∈ LA ts lo gl cs,ws ≠ []∧∀ w ∈ ws,ve w=true∧w ≠ []:=by
  intro ws hm
  unfold LA at hm
  rw [List.mem_append,List.mem_append] at hm
  rcases hm with (hm|hm)|hm
  · obtain ⟨s,hs,rfl⟩:=List.mem_map.1 hm
    exact KF (h.typ s hs)
  · have a:=Fa h.lok
    have b:=Fa h.gok
    unfold CZ at hm
    rcases List.mem_cons.1 hm with rfl|hm
    · refine ⟨by simp,fun w hm=>?_⟩
      rcases List.mem_cons.1 hm with rfl|hm
      · exact ⟨by decide,by decide⟩
      · rcases List.mem_cons.1 hm with rfl|hm
        · exact a
        · cases hm
    · rcases List.mem_cons.1 hm with rfl|hm
      · refine ⟨by simp,fun w hm=>?_⟩
        rcases List.mem_cons.1 hm with rfl|hm
        · exact ⟨by decide,by decide⟩
        · rcases List.mem_cons.1 hm with rfl|hm
          · exact b
          · cases hm
      · cases hm
  · obtain ⟨x,hx,rfl⟩:=List.mem_map.1 hm
    have:=I9 (h.ins x hx) (hw x hx)
    exact ⟨this.1,this.2.1⟩
theorem KP {L:List (List (List UInt8))} (h:tot L≤18000):Small L :=
  ⟨by have:=wF L;omega,fun x hx=>by have:=H9 hx;have:=EG x;omega⟩
theorem LJ {L:List (List (List UInt8))} (h:∀ ws ∈ L,ws ≠ []∧∀ w ∈ ws,ve w=true∧w ≠ []) (ht:tot L≤18000):Ev (fun k=>bG.f k (Bs (joinL L))) (conv L,0,0):=by
  have a:=EE (Bs (joinL L)) (by rw [gI];have:=BG L;omega)
  unfold qH at a
  rw [DC,Ot (fun ws hm=>(h ws hm).1) (fun ws hm=>(h ws hm).2),CW] at a
  exact a
theorem ED:∀ k o:Fin 16,1≤o.val→k ≠ o→(nameOf k.val).data.toList ≠ (nameOf o.val).data.toList:=by decide +kernel
theorem Ei (o:Fin 16) (ho:1≤o.val) (l:List ByteArray) (h0:eX ByteArray.empty l 0=nameOf o.val) (hl:l.length=(jT o.val).size+1):∀ (d k:Nat),k≤o.val→d+k=16 →
    uY d k l=(iI (jT o.val).data.toList l.tail (0,0,0,0)).map (Bg o.val)
  | 0,k,hk,hd=>by omega
  | d+1,k,hk,hd=>by
    unfold uY
    by_cases e:k=o.val
    · subst e
      rw [if_neg]
      intro h
      rcases h with h|h|h
      · omega
      · exact h (by rw [h0])
      · exact h hl
    · rw [if_pos]
      · exact Ei o ho l h0 hl d (k+1) (by omega) (by omega)
      · right;left
        rw [h0,toList_data,toList_data]
        exact ED ⟨k,by omega⟩ o ho (fun h=>e (by rw [← h]))
theorem Ey {n:Int} (h:Fz n):jP.f (mV n)=some (n,0):=by
  have a:=zL n h.1 h.2
  have b:=RX (Lib.itoa n) (by omega)
  unfold Jq at b
  rw [if_pos a.1,a.2.1] at b
  exact b
def FT (x:iR) (hs:List UInt8) (q:Int × Int × Int × Int):Int × Int × Int × Int:=hs.foldl (fun q ch=>setArg ch.toNat (mX x.f1 x.f2 x.f3 x.f4 ch.toNat) q) q
theorem xY {x:iR} (hw:Kr x):∀ (hs:List UInt8) (q:Int × Int × Int × Int),(∀ ch ∈ hs,ch=97 ∨ ch=98 ∨ ch=99 ∨ ch=110) →
    iI hs (hs.map fun ch=>mV (mX x.f1 x.f2 x.f3 x.f4 ch.toNat)) q=some (some (FT x hs q))
  | [],q,_=>rfl
  | ch :: hs,q,h=>by
    have ih:=fun q=>xY hw hs q (fun c hc=>h c (List.mem_cons_of_mem _ hc))
    rw [List.map_cons]
    conv=>lhs;unfold iI
    rw [Ey (arg_num hw ch.toNat),Option.bind_some]
    simp only []
    rw [if_pos trivial]
    obtain ⟨h1,h2,h3,h4⟩:=hw
    rcases h ch (List.mem_cons_self ..) with rfl|rfl|rfl|rfl
    · rw [if_neg (by decide),if_pos (by show 0≤x.f1∧x.f1≤255;exact h1),ih]
      rfl
    · rw [if_neg (by decide),if_pos (by show 0≤x.f2∧x.f2≤255;exact h2),ih]
      rfl
    · rw [if_neg (by decide),if_pos (by show 0≤x.f3∧x.f3≤255;exact h3),ih]
      rfl
    · rw [if_pos (by decide),ih]
      rfl
theorem BJ:∀ o:Fin 16,∀ ch ∈ (jT o.val).data.toList,ch=97 ∨ ch=98 ∨ ch=99 ∨ ch=110:=by decide +kernel
theorem FU {x:iR} (h:jh x=true):(hasB x.f0 98=true ∨ x.f2=0)∧(hasB x.f0 99=true ∨ x.f3=0)∧(hasB x.f0 110=true ∨ x.f4=0)∧(hasB x.f0 97=true ∨ x.f1=0):=by
  unfold jh dQ.f at h
  split at h
  · cases h
  · split at h
    · cases h
    · simp only [Option.getD_some,Bool.and_eq_true,Bool.or_eq_true,beq_iff_eq] at h
      exact ⟨h.1.1.1,h.1.1.2,h.1.2,h.2⟩
theorem CP {x:iR} (h:jh x=true) (o:Fin 16) (ho:x.f0=(o.val:Int)) (h1:1≤o.val):FT x (jT o.val).data.toList (0,0,0,0)=(x.f1,x.f2,x.f3,x.f4):=by
  obtain ⟨z2,z3,z4,z1⟩:=FU h
  rw [ho] at z1 z2 z3 z4
  obtain ⟨f0,f1,f2,f3,f4⟩:=x
  simp only at z1 z2 z3 z4 ho
  clear h
  have Q8:∀ n:Nat,n < 16→1≤n→(hasB (n:Int) 98=true ∨ f2=0)→(hasB (n:Int) 99=true ∨ f3=0)→(hasB (n:Int) 110=true ∨ f4=0)→(hasB (n:Int) 97=true ∨ f1=0)→FT ⟨f0,f1,f2,f3,f4⟩ (jT n).data.toList (0,0,0,0)=(f1,f2,f3,f4):=by
    intro n hn h1 z2 z3 z4 z1
    have out:∀ {b:Bool} {n:Int},(b=true ∨ n=0)→b=false→n=0:=fun h hb=>by
      rcases h with h|h
      · rw [h] at hb;cases hb
      · exact h
    match n,hn,h1,z2,z3,z4,z1 with
    | 0,_,h1,_,_,_,_=>exact absurd h1 (by decide)
    | 1,_,_,z2,z3,z4,z1=>obtain rfl:=out z2 (by decide +kernel);obtain rfl:=out z3 (by decide +kernel);rfl
    | 2,_,_,z2,z3,z4,z1=>obtain rfl:=out z4 (by decide +kernel);rfl
    | 3,_,_,z2,z3,z4,z1=>obtain rfl:=out z2 (by decide +kernel);obtain rfl:=out z3 (by decide +kernel);obtain rfl:=out z1 (by decide +kernel);rfl
    | 4,_,_,z2,z3,z4,z1=>obtain rfl:=out z2 (by decide +kernel);obtain rfl:=out z3 (by decide +kernel);rfl
    | 5,_,_,z2,z3,z4,z1=>obtain rfl:=out z2 (by decide +kernel);obtain rfl:=out z3 (by decide +kernel);obtain rfl:=out z4 (by decide +kernel);rfl
    | 6,_,_,z2,z3,z4,z1=>obtain rfl:=out z2 (by decide +kernel);obtain rfl:=out z3 (by decide +kernel);obtain rfl:=out z4 (by decide +kernel);rfl
    | 7,_,_,z2,z3,z4,z1=>obtain rfl:=out z3 (by decide +kernel);obtain rfl:=out z4 (by decide +kernel);rfl
    | 8,_,_,z2,z3,z4,z1=>obtain rfl:=out z3 (by decide +kernel);rfl
    | 9,_,_,z2,z3,z4,z1=>obtain rfl:=out z3 (by decide +kernel);rfl
    | 10,_,_,z2,z3,z4,z1=>obtain rfl:=out z3 (by decide +kernel);rfl
    | 11,_,_,z2,z3,z4,z1=>obtain rfl:=out z3 (by decide +kernel);rfl
    | 12,_,_,z2,z3,z4,z1=>obtain rfl:=out z3 (by decide +kernel);obtain rfl:=out z4 (by decide +kernel);rfl
    | 13,_,_,z2,z3,z4,z1=>obtain rfl:=out z3 (by decide +kernel);obtain rfl:=out z4 (by decide +kernel);rfl
    | 14,_,_,z2,z3,z4,z1=>obtain rfl:=out z2 (by decide +kernel);obtain rfl:=out z3 (by decide +kernel);obtain rfl:=out z4 (by decide +kernel);rfl
    | 15,_,_,z2,z3,z4,z1=>obtain rfl:=out z4 (by decide +kernel);rfl
    | n+16,hn,_,_,_,_,_=>omega
  exact Q8 o.val o.isLt h1 z2 z3 z4 z1
theorem FZ {x:iR} (h:jh x=true) (hw:Kr x):kJ.f (lh x)=some (x.f0,x.f1,x.f2,x.f3,x.f4,true):=by
  obtain ⟨o,ho,hn,h1⟩:=Lr h
  unfold kJ.f
  rw [if_pos (by unfold lh rq;simp)]
  have e:lh x=nameOf o.val :: (jT o.val).data.toList.map fun ch=>mV (mX x.f1 x.f2 x.f3 x.f4 ch.toNat):=by
    unfold lh rq
    rw [hn]
  rw [e,Ei o h1 _ rfl (by rw [List.length_cons,List.length_map,size_data]) 16 0 (by omega) rfl,List.tail_cons,xY hw _ _ (BJ o),Option.map_some,CP h o ho h1]
  unfold Bg
  rw [← ho]
theorem CS (a:List (List ByteArray)) (x:List ByteArray) (b:List (List ByteArray)) (n:Nat) (hn:n=a.length):fM (a++x :: b) (n:Int)=x:=by
  subst hn
  exact zt _ _ _ (by simp)
theorem Ef (l:List (List ByteArray)) (ts:List ByteArray) (lo gl:ByteArray):∀ (cs:List iR) (d:Nat) (pre:List (List ByteArray)) (acc:List iR) (a:Nat),l=pre++cs.map lh→a=pre.length→cs.length < d→acc.length+cs.length≤200→(∀ x ∈ cs,jh x=true)→(∀ x ∈ cs,Kr x) →
    o5 l ts lo gl d a acc=some (ts,lo,gl,acc++cs,0,0)
  | [],d+1,pre,acc,a,hl,ha,hd,h2,hr,hw=>by
    unfold o5
    rw [if_neg (by rw [hl,ha];simp),List.append_nil]
  | [],0,pre,acc,a,hl,ha,hd,h2,hr,hw=>by cases hd
  | x :: cs,0,pre,acc,a,hl,ha,hd,h2,hr,hw=>by cases hd
  | x :: cs,d+1,pre,acc,a,hl,ha,hd,h2,hr,hw=>by
    have ih:=Ef l ts lo gl cs d (pre++[lh x]) (acc++[x]) (a+1) (by rw [hl];simp) (by rw [ha];simp) (by simp at hd;omega) (by simp at h2 ⊢;omega) (fun y hy=>hr y (List.mem_cons_of_mem _ hy)) (fun y hy=>hw y (List.mem_cons_of_mem _ hy))
    unfold o5
    rw [if_pos (by rw [hl,ha];simp),show fM l (a:Int)=lh x from by rw [hl,List.map_cons];exact CS _ _ _ _ ha,FZ (hr x (List.mem_cons_self ..)) (hw x (List.mem_cons_self ..)),Option.bind_some]
    simp only []
    rw [if_pos trivial,if_pos (by simp at h2;omega),ih]
    simp
theorem zC (pre:List (List ByteArray)) (nm s:ByteArray) (post:List (List ByteArray)) (a:Nat) (ha:a=pre.length) (hs:jC s=true ∨ s.toList=[45]):oU (pre++[nm,s] :: post) a nm=some (s,true):=by
  unfold oU
  rw [if_pos (by rw [ha];simp),CS pre [nm,s] post a ha,if_pos (show [nm,s].length=2 from rfl),if_pos (show (eX ByteArray.empty [nm,s] 0).toList=nm.toList from rfl),show eX ByteArray.empty [nm,s] 1=s from rfl,zH,Option.bind_some]
  rcases hs with hs|hs
  · rw [if_pos hs]
  · split <;> first|rfl|rw [if_pos hs]
theorem zU {s:ByteArray} (h:jC s=true):jC (jK s)=true ∨ (jK s).toList=[45]:=by
  unfold jK
  split
  · exact Or.inr (by rw [toList_data])
  · exact Or.inl h
theorem zG {s:ByteArray} (h:jC s=true):(45:UInt8) ∉ s.data.toList:=fun hm=>absurd (BF h 45 hm) (by decide)
theorem uq {s:ByteArray} (h:jC s=true):strings_TrimSuffix.f (jK s) ⟨#[45]⟩=some s:=by
  unfold jK
  split
  · rename_i e
    rw [toList_data] at e
    have:s=⟨#[]⟩:=by rw [← jJ s,e];rfl
    subst this
    decide +kernel
  · rename_i e
    rw [toList_data] at e
    unfold strings_TrimSuffix.f stringslite_TrimSuffix.f stringslite_HasSuffix.f
    have h1:(⟨#[45]⟩:ByteArray).size=1:=rfl
    rw [h1]
    have hl:=BD h
    rw [← size_data] at hl
    have h2:1≤s.size:=by
      rw [size_data]
      cases hq:s.data.toList with
      | nil=>exact absurd hq e
      | cons a b=>simp
    have h3:wrap64 ((s.size:Int) - ((1:Nat):Int))=((s.size - 1:Nat):Int):=by unfold wrap64;omega
    rw [h3,if_pos (by omega),if_pos (by omega),if_pos (by omega)]
    have h4:((s.extract ((s.size - 1:Nat):Int).toNat s.size).toList == (⟨#[45]⟩:ByteArray).toList)=false:=by
      rw [beq_eq_false_iff_ne]
      intro hq
      have hq':(s.extract (s.size - 1) s.size).toList=[45]:=hq.trans (by decide +kernel)
      rw [← jJ s,zS,pG] at hq'
      have:(45:UInt8) ∈ s.data.toList:=by
        have hm:(45:UInt8) ∈ (s.data.toList.drop ((Bs s.data.toList).size - 1)).take ((Bs s.data.toList).size - ((Bs s.data.toList).size - 1)):=by
          rw [hq']
          simp
        exact List.mem_of_mem_drop (List.mem_of_mem_take hm)
      exact zG h this
    rw [h4]
    rfl
theorem Ld (l:List (List ByteArray)) (ts:List ByteArray) (lo gl:ByteArray) (pre rest:List (List ByteArray)) (a:Nat) (hl:l=pre++(ou lo gl++rest)) (ha:a=pre.length) (h1:jC lo=true) (h2:jC gl=true) :
    lQ l ts 2 a ⟨#[]⟩ ⟨#[]⟩=o5 l ts lo gl (l.length+1) (a+2) []:=by
  have e1:oU l a ⟨#[108,111,99,97,108,115]⟩=some (jK lo,true):=by
    rw [hl]
    exact zC pre _ _ _ a ha (zU h1)
  have e2:oU l (a+1) ⟨#[103,108,111,98,97,108,115]⟩=some (jK gl,true):=by
    rw [hl,show pre++(ou lo gl++rest)=(pre++[[⟨#[108,111,99,97,108,115]⟩,jK lo]])++[⟨#[103,108,111,98,97,108,115]⟩,jK gl] :: rest from by simp [ou]]
    exact zC _ _ _ _ (a+1) (by rw [ha];simp) (zU h2)
  unfold lQ
  rw [if_pos rfl,e1,Option.bind_some]
  simp only []
  rw [if_pos trivial,uq h1,Option.bind_some,if_pos trivial]
  unfold lQ
  rw [if_neg (by decide),e2,Option.bind_some]
  simp only []
  rw [if_pos trivial,uq h2,Option.bind_some,if_neg (by decide)]
  rfl
theorem Ee (l:List (List ByteArray)) (lo gl:ByteArray) (rest:List (List ByteArray)) (h1:jC lo=true) (h2:jC gl=true):∀ (ts:List ByteArray) (d:Nat) (pre:List (List ByteArray)) (acc:List ByteArray) (a:Nat),l=pre++(ts.map xQ++(ou lo gl++rest))→a=pre.length→ts.length < d→(∀ s ∈ ts,H7 s=true) →
    sK l d a acc=o5 l (acc++ts) lo gl (l.length+1) (a+ts.length+2) []
  | [],0,pre,acc,a,hl,ha,hd,hs=>by cases hd
  | s :: ts,0,pre,acc,a,hl,ha,hd,hs=>by cases hd
  | [],d+1,pre,acc,a,hl,ha,hd,hs=>by
    have e:fM l (a:Int)=[⟨#[108,111,99,97,108,115]⟩,jK lo]:=by
      rw [hl]
      exact CS pre _ _ a ha
    unfold sK
    rw [if_pos (by rw [hl,ha];simp [ou]),e,if_pos (by simp),if_neg (by show ¬ (⟨#[108,111,99,97,108,115]⟩:ByteArray).toList=_;decide +kernel),Ld l acc lo gl pre rest a hl ha h1 h2,List.append_nil]
    rfl
  | s :: ts,d+1,pre,acc,a,hl,ha,hd,hs=>by
    have ih:=Ee l lo gl rest h1 h2 ts d (pre++[xQ s]) (acc++[s]) (a+1) (by rw [hl];simp) (by rw [ha];simp) (by simp at hd;omega) (fun x hx=>hs x (List.mem_cons_of_mem _ hx))
    have hl':l=pre++[⟨#[116,121,112,101]⟩,s] :: (ts.map xQ++(ou lo gl++rest)):=hl
    have e:fM l (a:Int)=[⟨#[116,121,112,101]⟩,s]:=by
      rw [hl']
      exact CS pre _ _ a ha
    have hk:=(Et (hs s (List.mem_cons_self ..))).1
    have en:oU l a ⟨#[116,121,112,101]⟩=some (s,true):=by
      rw [hl']
      exact zC pre _ _ _ a ha (Or.inl hk)
    unfold sK
    rw [if_pos (by rw [hl',ha];simp),e,if_pos (by simp),if_pos (by show (⟨#[116,121,112,101]⟩:ByteArray).toList=_;decide +kernel),en,Option.bind_some]
    simp only []
    rw [if_pos trivial,if_neg (fun h=>zG hk (by rw [← toList_data,h];simp)),ih]
    rw [List.append_assoc,List.singleton_append,List.length_cons,show a+1+ts.length+2=a+(ts.length+1)+2 from by omega]
theorem tJ (s:ByteArray) (l:List (List ByteArray)) (h:Ev (fun k=>bG.f k s) (l,0,0)) (hl:l.length≤1000000) {r:List ByteArray × ByteArray × ByteArray × List iR × Int × Int} (hr:sK l (l.length+1) 0 []=some r):Ev (fun k=>bT.f k s) r:=by
  unfold bT.f
  refine Ev.bind h ?_
  simp only []
  rw [if_pos trivial,if_pos hl,hr]
  exact Ev.now _
end Go.Proofs.YtkclndkbccbhaaaGreatDoor.P
end
section
namespace Go.Proofs.YtkclndkbccbhaaaGreatDoor.P
open Go.ChangeShapes Go.WideShapes Go.ChangeAt Go.RowKit Go.Joins Go.Proofs.ae.bg Go.Proofs.ae.dw Go.Proofs.ae.dO
theorem own:ownKnob Tryz.prog.godebug=none:=by kernel_rfl
theorem VE:Tryz.prog.globalNamed "lockstitch/code.ops"=some 0:=by kernel_rfl
theorem NF:(Tryz.prog.globals[0]?).map (·.type)=some 52:=by kernel_rfl
theorem Q7:Tryz.prog.cellsOf 52=32:=by kernel_rfl
theorem cells51:Tryz.prog.cellsOf 51=2:=by kernel_rfl
theorem cells9:Tryz.prog.cellsOf 9=1:=by kernel_rfl
def pairs:List (List UInt8 × List UInt8):=[([],[]),([115,101,116],[97,110]),([97,100,100],[97,98,99]),([106,117,109,112],[110]),([122,101,114,111],[97,110]),([110,101,119],[97]),([110,105,108],[97]),([109,111,118,101],[97,98]),([108,111,97,100,105],[97,98,110]),([115,116,111,114,101,105],[97,110,98]),([108,111,97,100,112],[97,98,110]),([115,116,111,114,101,112],[97,110,98]),([108,111,97,100,103],[97,98]),([115,116,111,114,101,103],[97,98]),([112,114,105,110,116],[97]),([115,97,109,101],[97,98,99])]
def Eo {H:Type} (p:List UInt8 × List UInt8):DataW H:=.agg [.lit (.string p.1),.lit (.string p.2)]
def flat:List (List UInt8 × List UInt8)→List Value
  | []=>[]
  | p :: r=>.string ⟨p.1.toArray⟩ :: .string ⟨p.2.toArray⟩ :: flat r
theorem IC:∀ (ps:List (List UInt8 × List UInt8)) (cs:List Value),cs.length=2 * ps.length →
    (∀ i p,ps[i]? = some p→cs[2 * i]? = some (.string ⟨p.1.toArray⟩)∧cs[2 * i+1]? = some (.string ⟨p.2.toArray⟩))→cs=flat ps
  | [],cs,hl,_=>by
    simp at hl
    exact hl
  | p :: r,c0 :: c1 :: cs,hl,h=>by
    obtain ⟨h0,h1⟩:=h 0 p rfl
    simp at h0 h1
    rw [IC r cs (by simp at hl;omega) fun i q hq=>?_,h0,h1]
    · rfl
    · have:=h (i+1) q (by simpa using hq)
      rw [show 2 * (i+1)=2 * i+2 from by omega,show 2 * i+2+1=2 * i+1+2 from by omega] at this
      simpa using this
  | p :: r,[c0],hl,h=>by simp at hl;omega
  | p :: r,[],hl,h=>by simp at hl
theorem IL {s:ByteArray} {l:List UInt8} (h:s.data.toList=l):s=⟨l.toArray⟩:=by
  cases s
  subst h
  simp
theorem Ed {H:Type} {enc:TypeId × Value→H} {w:World} {base:Nat} {sp:Nat→Bool} {held:Bool} {fuel:Nat} {cs:List Value} {p:List MemPlace}
    (h:DataW.trod enc Tryz.prog w base sp held fuel 52 cs=some (.agg (pairs.map Eo),p)):cs=flat pairs:=by
  cases fuel with
  | zero=>simp [DataW.trod] at h
  | succ fuel =>
    simp only [DataW.trod,Tryz.underlying52,cells51,Q7] at h
    split at h
    · rename_i hl
      obtain ⟨xs,hm,hx⟩:=Option.map_eq_some_iff.1 h
      have hxs:xs.map (·.1)=pairs.map (Eo (H:=H)):=by
        have:=congrArg Prod.fst hx
        simpa using this
      refine IC pairs cs hl fun i q hq=>?_
      have hi:i < 16:=(List.getElem?_eq_some_iff.1 hq).1
      obtain ⟨b,hb,hf⟩:=Lib.mapM_at hm i i (by simp [hi])
      have hb1:b.1=Eo q:=by
        have:(xs.map (·.1))[i]? = some b.1:=by simp [hb]
        rw [hxs] at this
        simp [hq] at this
        exact this.symm
      obtain ⟨y0,y1,n,rfl,_,t0,t1⟩:=trod_struct2 Tryz.underlying51 hf
      simp only [cells9] at t0 t1
      obtain ⟨s0,e0,rfl,_⟩:=DataW.trod_string Tryz.underlying9 t0
      obtain ⟨s1,e1,rfl,_⟩:=DataW.trod_string Tryz.underlying9 t1
      unfold Eo at hb1
      simp at hb1
      constructor
      · have:=congrArg (·[0]?) e0
        simp [List.getElem?_drop] at this
        rw [Nat.mul_comm,this,IL hb1.1]
      · have:=congrArg (·[0]?) e1
        simp [List.getElem?_drop] at this
        rw [Nat.mul_comm,this,IL hb1.2]
    · cases h
theorem PI {H:Type}:(Rows.laid_lockstitch_code_ops:DataW H)=.agg (pairs.map Eo):=rfl
theorem NG:flat pairs=opsL.map Value.string:=rfl
noncomputable def laidAll:List (String × DataW Unit):=[("math/bits.deBruijn32tab",Rows.laid_math_bits_deBruijn32tab),("math/bits.deBruijn64tab",Rows.laid_math_bits_deBruijn64tab),("internal/strconv.uint64pow10",Rows.laid_internal_strconv_uint64pow10),("unicode/utf8.acceptRanges",Rows.laid_unicode_utf8_acceptRanges),("strconv.ErrRange",Rows.laid_strconv_ErrRange),("strconv.ErrSyntax",Rows.laid_strconv_ErrSyntax),("lockstitch/code.ops",Rows.laid_lockstitch_code_ops),("unicode/utf8.first",Rows.laid_unicode_utf8_first)]
theorem wH {P:Program} {w:World} {n:String} {d:DataW Unit}:∀ {l:List (String × DataW Unit)} {ps:List MemPlace},DataW.LaidVars P w l ps→(n,d) ∈ l →
    ∃ g t cs fuel p,P.globalNamed n=some g∧(P.globals[g]?).map (·.type)=some t∧w.var? P n=some cs∧DataW.trod (fun _=>()) P w 0 (fun _=>true) false fuel t cs.toList=some (d,p)
  | [],_,_,h=>by cases h
  | (n',d') :: r,ps,⟨g,t,cs,fuel,p,q,h1,h2,h3,h4,h5,_⟩,h=>by
    rcases List.mem_cons.1 h with e|h
    · injection e with e1 e2
      subst e1 e2
      exact ⟨g,t,cs,fuel,p,h1,h2,h3,h4⟩
    · exact wH h5 h
theorem Lp:(Rows.laid_internal_strconv_uint64pow10:DataW Unit)=Lib.tabData .u64 Lib.pow10Tab:=by kernel_rfl
theorem BI {w:World} {n:String} {nm:String} {d:DataW Unit} {ps:List MemPlace} (h:DataW.LaidVars Tryz.prog w laidAll ps) (hm:(n,.iface nm d) ∈ laidAll) {g ti:Nat} {ms:Array (String × TypeId)}
    (hg:Tryz.prog.globalNamed n=some g) (ht:(Tryz.prog.globals[g]?).map (·.type)=some ti) (hi:Tryz.prog.underlying ti=some (.interface ms)):∃ tp p,w.var? Tryz.prog n=some #[.iface tp p]:=by
  obtain ⟨g',t',cs,fuel,p,h1,h2,h3,h4⟩:=wH h hm
  obtain rfl:=Option.some.inj (hg.symm.trans h1)
  obtain rfl:=Option.some.inj (ht.symm.trans h2)
  obtain ⟨l⟩:=cs
  obtain ⟨_,u,v,rfl,_⟩:=iface_of_trod hi h4
  exact ⟨u,v,h3⟩
theorem NV:Tryz.prog.cellsOf 125=20:=by kernel_rfl
theorem Q5:Tryz.prog.cellsOf 96=1:=by kernel_rfl
theorem Nz:(Tryz.prog.globals[2]?).map (·.type)=some 125:=by kernel_rfl
theorem NC:(Tryz.prog.globals[3]?).map (·.type)=some 77:=by kernel_rfl
theorem ND:(Tryz.prog.globals[4]?).map (·.type)=some 77:=by kernel_rfl
set_option maxRecDepth 100000 in
theorem Jo {W:World} {ps:List MemPlace} (h:DataW.LaidVars Tryz.prog W laidAll ps):Kd.C Kd.string W qG opsL.length opsL:=by
  obtain ⟨g',t',cs,fuel,p,hg',ht',hvar,hd⟩:=wH (n:="lockstitch/code.ops") (d:=Rows.laid_lockstitch_code_ops) h (.tail _ (.tail _ (.tail _ (.tail _ (.tail _ (.tail _ (.head _)))))))
  obtain rfl:=Option.some.inj (VE.symm.trans hg')
  obtain rfl:=Option.some.inj (NF.symm.trans ht')
  rw [PI] at hd
  have e:=Ed hd
  rw [NG] at e
  refine ⟨rfl,by decide,fun _=>⟨_,rfl,fun j p hj=>⟨[.string p],rfl,rfl,fun i u hu=>?_⟩⟩⟩
  have hi:i=0:=by
    have:=(List.getElem?_eq_some_iff.1 hu).1
    simp at this
    exact this
  subst hi
  simp at hu
  subst hu
  have:=World.var?_cell VE hvar j
  show W.cell? ((⟨0,0,none⟩:Addr).add (j * 1+0))=_
  rw [show (⟨0,0,none⟩:Addr).add (j * 1+0)=⟨0,j,none⟩ from (by simp [Addr.add];omega),this,← Array.getElem?_toList,e,List.getElem?_map,hj]
  rfl
set_option maxRecDepth 100000 in
theorem table {W:World} (hL:laidMetH Tryz.prog laidAll W) (hsh:W.ShapedOpen Tryz.prog):Kd.C tC W tH lH.length lH:=by
  rw [MakeChecks.laidMetH_plain _ _ _ (by kernel_rfl)] at hL
  obtain ⟨ps,h,_⟩:=hL
  refine TN ⟨?_,Tryz.laysM146.s1_3 W hsh,BI h (.tail _ (.tail _ (.tail _ (.tail _ (.tail _ (.head _)))))) VC NC Tryz.underlying77,BI h (.tail _ (.tail _ (.tail _ (.tail _ (.head _))))) VD ND Tryz.underlying77,Jo h⟩
  obtain ⟨g',t',cs,fuel,p,hg',ht',hvar,hd⟩:=wH (n:="internal/strconv.uint64pow10") (d:=Rows.laid_internal_strconv_uint64pow10) h (.tail _ (.tail _ (.head _)))
  obtain rfl:=Option.some.inj (gTab.symm.trans hg')
  obtain rfl:=Option.some.inj (Nz.symm.trans ht')
  rw [Lp] at hd
  unfold Lib.TabIs
  rw [hvar,← Lib.cells_of_tab Tryz.underlying125 Tryz.underlying96 Q5 NV hd]
noncomputable def laidWorld (os:Os):World:=World.laidAll Tryz.prog os laidAll
theorem laid_met (os:Os) (args:Array Value):laidMet Tryz.prog laidAll ((laidWorld os).forCall (fun _ _=>0) ⟨#[],args,[]⟩).memory :=
  laidMet_laidAll args (by kernel_rfl) (by kernel_rfl)
section
variable {H:Type} {enc:TypeId × Value→H} {w:World} {base:Nat} {sp:Nat→Bool} {held:Bool}
end
section
variable {H:Type} {enc:TypeId × Value→H} {w:World} {base:Nat} {sp:Nat→Bool} {held:Bool}
end
end Go.Proofs.YtkclndkbccbhaaaGreatDoor.P
end
