/- Parts of the proof of CodeAgain: what the functions that it reaches compute, and plain facts about that. -/
import Derived.Test.YtkclndkbccbhaaaGreatDoorTal
import Derived.Test.YtkclndkbccbhaaaGreatDoorTam
import Derived.Test.YtkclndkbccbhaaaGreatDoorTah
import Derived.Test.YtkclndkbccbhaaaGreatDoorTan
import Derived.Test.YtkclndkbccbhaaaGreatDoorTao
import Derived.Test.YtkclndkbccbhaaaGreatDoorTap
set_option linter.unusedVariables false
set_option linter.unusedSimpArgs false
section
namespace Go.Proofs.YtkclndkbccbhaaaGreatDoor.P
open Go Go.RowKit Go.Proofs.ae.bg Go.Proofs.ae.dw Go.Proofs.ae.dO
def okB (w:ByteArray):Prop:=ve w.data.toList=true∧w.data.toList ≠ []
theorem ba_eq {a b:ByteArray} (h:a.toList=b.toList):a=b:=by
  rw [toList_data,toList_data] at h
  rw [← jJ a,← jJ b,h]
theorem Px {w:List UInt8} (h:ve w=true):w.length≤30:=by
  unfold ve at h
  simp only [Bool.and_eq_true,decide_eq_true_eq] at h
  exact h.1
theorem Gv {w:ByteArray} (h:okB w):∃ n e,jP.f w=some (n,e)∧(e=0→Fz n∧mV n=w):=by
  have a:=RX w.data.toList (by have:=Px h.1;omega)
  rw [jJ] at a
  refine ⟨(Jq w.data.toList).1,(Jq w.data.toList).2,a,fun he=>?_⟩
  unfold Jq at he ⊢
  by_cases hk:pR w.data.toList=true
  · rw [if_pos hk] at he ⊢
    have b:=Ls w.data.toList hk (numOf w.data.toList).1 (by rw [← he])
    refine ⟨⟨b.2.1,b.2.2⟩,?_⟩
    show Bs (Lib.itoa _)=w
    rw [b.1,jJ]
  · rw [if_neg hk] at he
    cases he
def zX (q:Int × Int × Int × Int) (ch:Nat):Int:=mX q.1 q.2.1 q.2.2.1 q.2.2.2 ch
def Rt (q:Int × Int × Int × Int):Prop:=(0≤q.1∧q.1≤255)∧(0≤q.2.1∧q.2.1≤255)∧(0≤q.2.2.1∧q.2.2.1≤255)∧(-9223372036854775808≤q.2.2.2∧q.2.2.2≤9223372036854775807)
def DL (ch:UInt8):Prop:=ch=97 ∨ ch=98 ∨ ch=99 ∨ ch=110
theorem IM (q:Int × Int × Int × Int) {c d:UInt8} (hc:DL c) (hd:DL d) (v:Int):zX (setArg c.toNat v q) d.toNat=if d=c then v else zX q d.toNat:=by
  rcases hc with rfl|rfl|rfl|rfl <;> rcases hd with rfl|rfl|rfl|rfl <;> rfl
theorem Vp {q:Int × Int × Int × Int} (hq:Rt q) {v:Int} (hv:Fz v):Rt (setArg 110 v q):=⟨hq.1,hq.2.1,hq.2.2.1,hv⟩
theorem OY {q:Int × Int × Int × Int} (hq:Rt q) {c:UInt8} (hc:DL c) (h:c.toNat ≠ 110) {v:Int} (hv:0≤v∧v≤255):Rt (setArg c.toNat v q):=by
  rcases hc with rfl|rfl|rfl|rfl
  · exact ⟨hv,hq.2.1,hq.2.2.1,hq.2.2.2⟩
  · exact ⟨hq.1,hv,hq.2.2.1,hq.2.2.2⟩
  · exact ⟨hq.1,hq.2.1,hv,hq.2.2.2⟩
  · exact absurd rfl h
theorem wz:∀ (hs:List UInt8) (ws:List ByteArray) (q:Int × Int × Int × Int),hs.length=ws.length→(∀ c ∈ hs,DL c)→hs.Nodup→(∀ w ∈ ws,okB w)→Rt q →
    iI hs ws q=some none ∨ ∃ q',iI hs ws q=some (some q')∧Rt q'∧ws=hs.map (fun c=>mV (zX q' c.toNat))∧∀ d,DL d→d ∉ hs→zX q' d.toNat=zX q d.toNat
  | [],[],q,_,_,_,_,hq=>Or.inr ⟨q,rfl,hq,rfl,fun _ _ _=>rfl⟩
  | [],_ :: _,q,hl,_,_,_,hq=>by cases hl
  | _ :: _,[],q,hl,_,_,_,hq=>by cases hl
  | c :: hs,w :: ws,q,hl,ha,hn,hw,hq=>by
    obtain ⟨n,e,h1,h2⟩:=Gv (hw w (List.mem_cons_self ..))
    have hc:=ha c (List.mem_cons_self ..)
    have hnot:c ∉ hs:=(List.nodup_cons.1 hn).1
    have ih:=fun q' hq'=>wz hs ws q' (by simpa using hl) (fun x hx=>ha x (List.mem_cons_of_mem _ hx)) (List.nodup_cons.1 hn).2 (fun x hx=>hw x (List.mem_cons_of_mem _ hx)) hq'
    have ru:iI (c :: hs) (w :: ws) q=if e=0 then (if c.toNat=110 then iI hs ws (setArg 110 n q) else if 0≤n∧n≤255 then iI hs ws (setArg c.toNat n q) else some none) else some none:=by
      conv=>lhs;unfold iI
      rw [h1,Option.bind_some]
    have done:∀ q1,q1=setArg c.toNat n q→e=0→Rt q1→iI (c :: hs) (w :: ws) q=iI hs ws q1 →
        iI (c :: hs) (w :: ws) q=some none ∨ ∃ q',iI (c :: hs) (w :: ws) q=some (some q')∧Rt q'∧w :: ws=(c :: hs).map (fun c=>mV (zX q' c.toNat))∧∀ d,DL d→d ∉ c :: hs→zX q' d.toNat=zX q d.toNat:=by
      intro q1 h1q he hq1 heq
      rw [heq]
      rcases ih q1 hq1 with h|⟨q',e1,e2,e3,e4⟩
      · exact Or.inl h
      · refine Or.inr ⟨q',e1,e2,?_,fun d hd hx=>?_⟩
        · rw [List.map_cons,e4 c hc hnot,h1q,IM q hc hc,if_pos rfl,(h2 he).2,← e3]
        · have hdc:d ≠ c:=fun h=>hx (by rw [h];exact List.mem_cons_self ..)
          rw [e4 d hd (fun h=>hx (List.mem_cons_of_mem _ h)),h1q,IM q hc hd,if_neg hdc]
    by_cases he:e=0
    · rw [if_pos he] at ru
      by_cases hx:c.toNat=110
      · rw [if_pos hx] at ru
        exact done _ (by rw [hx]) he (Vp hq (h2 he).1) ru
      · rw [if_neg hx] at ru
        by_cases hr:0≤n∧n≤255
        · rw [if_pos hr] at ru
          exact done _ rfl he (OY hq hc hx hr) ru
        · rw [if_neg hr] at ru
          exact Or.inl ru
    · rw [if_neg he] at ru
      exact Or.inl ru
theorem JG:∀ o:Fin 16,(jT o.val).data.toList.Nodup:=by decide +kernel
theorem Nq (o:Fin 16):∀ ch ∈ (jT o.val).data.toList,DL ch:=fun ch h=>BJ o ch h
theorem has_is:∀ o:Fin 16,1≤o.val→letters (o.val:Int)=(jT o.val).data.toList:=by decide +kernel
theorem Bh (l:List ByteArray) (hw:∀ w ∈ l,okB w):∀ d k,k+d=16→uY d k l=some (0,0,0,0,0,false) ∨
    ∃ (o:Nat) (q:Int × Int × Int × Int),1≤o∧o≤15∧uY d k l=some ((o:Int),q.1,q.2.1,q.2.2.1,q.2.2.2,true)∧Rt q∧l=nameOf o :: (jT o).data.toList.map (fun c=>mV (zX q c.toNat))∧∀ c,DL c→c ∉ (jT o).data.toList→zX q c.toNat=0
  | 0,k,hk=>Or.inl rfl
  | d+1,k,hk=>by
    have ih:=Bh l hw d (k+1) (by omega)
    unfold uY
    split
    · exact ih
    · rename_i h
      have h0:k ≠ 0:=fun e=>h (Or.inl e)
      have h1:(nameOf k).toList=(eX ByteArray.empty l 0).toList:=Classical.byContradiction fun e=>h (Or.inr (Or.inl e))
      have h2:l.length=(jT k).size+1:=Classical.byContradiction fun e=>h (Or.inr (Or.inr e))
      cases hl:l with
      | nil=>rw [hl] at h2;cases h2
      | cons x ws =>
        rw [hl] at h1 h2
        have hx:x=nameOf k:=(ba_eq h1).symm
        have hlen:(jT k).data.toList.length=ws.length:=by
          rw [List.length_cons,size_data] at h2
          omega
        rw [List.tail_cons]
        rcases wz (jT k).data.toList ws (0,0,0,0) hlen (Nq ⟨k,by omega⟩) (JG ⟨k,by omega⟩) (fun w hm=>hw w (by rw [hl];exact List.mem_cons_of_mem _ hm)) ⟨by decide,by decide,by decide,by decide⟩ with h|⟨q,e1,e2,e3,e4⟩
        · rw [h]
          exact Or.inl rfl
        · rw [e1]
          refine Or.inr ⟨k,q,by omega,by omega,rfl,e2,by rw [hx,← e3],fun c hc hn=>?_⟩
          rw [e4 c hc hn]
          rcases hc with rfl|rfl|rfl|rfl <;> rfl
theorem Lj (l:List ByteArray) (hl:l ≠ []) (hw:∀ w ∈ l,okB w):kJ.f l=some (0,0,0,0,0,false) ∨ ∃ x:iR,kJ.f l=some (x.f0,x.f1,x.f2,x.f3,x.f4,true)∧l=lh x∧jh x=true∧Kr x:=by
  have h0:0 < l.length:=List.length_pos_iff.2 hl
  unfold kJ.f
  rw [if_pos h0]
  rcases Bh l hw 16 0 rfl with h|⟨o,q,h1,h2,e1,e2,e3,e4⟩
  · exact Or.inl h
  · refine Or.inr ⟨⟨(o:Int),q.1,q.2.1,q.2.2.1,q.2.2.2⟩,e1,e3,?_,e2⟩
    have zero:∀ c:UInt8,DL c→hasB (o:Int) c=true ∨ zX q c.toNat=0:=by
      intro c hc
      by_cases hm:c ∈ (jT o).data.toList
      · left
        unfold hasB
        have hi:=has_is ⟨o,by omega⟩ h1
        simp only at hi
        rw [hi]
        simpa using hm
      · exact Or.inr (e4 c hc hm)
    have z1:=zero 97 (Or.inl rfl)
    have z2:=zero 98 (Or.inr (Or.inl rfl))
    have z3:=zero 99 (Or.inr (Or.inr (Or.inl rfl)))
    have z4:=zero 110 (Or.inr (Or.inr (Or.inr rfl)))
    unfold jh dQ.f
    simp only
    rw [if_neg (by omega),if_neg (by omega)]
    simp only [Option.getD_some,Bool.and_eq_true,Bool.or_eq_true,beq_iff_eq]
    exact ⟨⟨⟨z2,z3⟩,z4⟩,z1⟩
def wE (l:List (List ByteArray)):Prop:=∀ ws ∈ l,ws ≠ []∧∀ w ∈ ws,okB w
theorem F5 {l:List (List ByteArray)} {a:Nat} (h:a < l.length):fM l (a:Int)=l[a]:=zt _ _ _ (List.getElem?_eq_getElem h)
theorem xB (l:List (List ByteArray)) (hl:wE l) (a:Nat) (nm:ByteArray):oU l a nm=some (⟨#[]⟩,false) ∨ ∃ s,oU l a nm=some (jK s,true)∧jC s=true∧∃ h:a < l.length,l[a]=[nm,jK s]:=by
  unfold oU
  by_cases ha:a < l.length
  · rw [if_pos ha,F5 ha]
    have hk:=(hl l[a] (List.getElem_mem ha)).2
    match hm:l[a],hk with
    | [],_=>exact Or.inl rfl
    | [x],_=>exact Or.inl rfl
    | x :: y :: z :: r,_=>exact Or.inl (if_neg (by simp))
    | [x,y],hk =>
      rw [if_pos (show [x,y].length=2 from rfl)]
      by_cases hx:(eX ByteArray.empty [x,y] 0).toList=nm.toList
      · rw [if_pos hx]
        have hx':x=nm:=ba_eq hx
        subst hx'
        have hy:=hk y (by simp)
        rw [show eX ByteArray.empty [x,y] 1=y from rfl,zH,Option.bind_some]
        by_cases hly:jC y=true
        · rw [if_pos hly]
          have hd:jK y=y:=by
            unfold jK
            rw [if_neg]
            rw [toList_data]
            exact hy.2
          exact Or.inr ⟨y,by rw [hd],hly,ha,by rw [hm,hd]⟩
        · rw [if_neg hly]
          by_cases h45:y.toList=[45]
          · rw [if_pos h45]
            have Vw:y=jK ⟨#[]⟩:=ba_eq (by rw [h45];decide +kernel)
            exact Or.inr ⟨⟨#[]⟩,by rw [Vw],by decide +kernel,ha,by rw [hm,Vw]⟩
          · rw [if_neg h45]
            exact Or.inl rfl
      · rw [if_neg hx]
        exact Or.inl rfl
  · rw [if_neg ha]
    exact Or.inl rfl
theorem drop_at {α:Type} {l:List α} {a:Nat} {x:α} (h:a < l.length) (e:l[a]=x):l.drop a=x :: l.drop (a+1):=by
  rw [List.drop_eq_getElem_cons h,e]
theorem Bf (l:List (List ByteArray)) (ts:List ByteArray) (lo gl:ByteArray) (hl:wE l):∀ (d a:Nat) (acc:List iR),l.length < d+a→a≤l.length→acc.length≤200 →
    (∃ m,o5 l ts lo gl d a acc=some (kT m)) ∨ ∃ cs,o5 l ts lo gl d a acc=some (ts,lo,gl,acc++cs,0,0)∧l.drop a=cs.map lh∧(∀ x ∈ cs,jh x=true∧Kr x)∧acc.length+cs.length≤200
  | 0,a,acc,h,h2,_=>by omega
  | d+1,a,acc,h,h2,hc=>by
    unfold o5
    by_cases ha:a < l.length
    · rw [if_pos ha,F5 ha]
      have hk:=hl l[a] (List.getElem_mem ha)
      rcases Lj l[a] hk.1 hk.2 with hr|⟨x,hr,hx,hx1,hx2⟩
      · rw [hr]
        exact Or.inl ⟨a,rfl⟩
      · rw [hr,Option.bind_some]
        simp only []
        rw [if_pos trivial]
        by_cases VA:acc.length < 200
        · rw [if_pos VA]
          rcases Bf l ts lo gl hl d (a+1) (acc++[x]) (by omega) (by omega) (by simp;omega) with hw|⟨cs,e1,e2,e3,e4⟩
          · exact Or.inl hw
          · refine Or.inr ⟨x :: cs,by rw [List.append_assoc,List.singleton_append] at e1;exact e1,?_,?_,by simp at e4 ⊢;omega⟩
            · rw [drop_at ha hx,List.map_cons,e2]
            · intro y hy
              rcases List.mem_cons.1 hy with rfl|hy
              · exact ⟨hx1,hx2⟩
              · exact e3 y hy
        · rw [if_neg VA]
          exact Or.inl ⟨a,rfl⟩
    · rw [if_neg ha]
      exact Or.inr ⟨[],by rw [List.append_nil],by rw [List.drop_eq_nil_of_le (by omega)];rfl,(fun x hx=>by cases hx),by simpa using hc⟩
theorem Jj (l:List (List ByteArray)) (ts:List ByteArray) (hl:wE l) (a:Nat):(∃ m,lQ l ts 2 a ⟨#[]⟩ ⟨#[]⟩=some (kT m)) ∨
    ∃ lo gl cs,lQ l ts 2 a ⟨#[]⟩ ⟨#[]⟩=some (ts,lo,gl,cs,0,0)∧l.drop a=ou lo gl++cs.map lh∧(∀ x ∈ cs,jh x=true∧Kr x)∧cs.length≤200∧jC lo=true∧jC gl=true:=by
  unfold lQ
  rw [if_pos rfl]
  rcases xB l hl a ⟨#[108,111,99,97,108,115]⟩ with h|⟨lo,h,hlo,ha,e⟩
  · rw [h]
    exact Or.inl ⟨a,rfl⟩
  · rw [h,Option.bind_some]
    simp only []
    rw [if_pos trivial,uq hlo,Option.bind_some,if_pos trivial]
    unfold lQ
    rw [if_neg (by decide)]
    rcases xB l hl (a+1) ⟨#[103,108,111,98,97,108,115]⟩ with h'|⟨gl,h',hgl,ha',e'⟩
    · rw [h']
      exact Or.inl ⟨a+1,rfl⟩
    · rw [h',Option.bind_some]
      simp only []
      rw [if_pos trivial,uq hgl,Option.bind_some,if_neg (by decide)]
      unfold lQ
      rcases Bf l ts lo gl hl (l.length+1) (a+1+1) [] (by omega) (by omega) (by simp) with hw|⟨cs,e1,e2,e3,e4⟩
      · exact Or.inl hw
      · refine Or.inr ⟨lo,gl,cs,e1,?_,e3,by simpa using e4,hlo,hgl⟩
        rw [drop_at ha e,drop_at ha' e',e2]
        rfl
theorem Be (l:List (List ByteArray)) (hl:wE l):∀ (d a:Nat) (acc:List ByteArray),l.length < d+a→a≤l.length→(∀ s ∈ acc,H7 s=true)→(∃ m,sK l d a acc=some (kT m)) ∨
    ∃ ts lo gl cs,sK l d a acc=some (acc++ts,lo,gl,cs,0,0)∧l.drop a=oz ts lo gl cs∧U4 (acc++ts) lo gl cs∧∀ x ∈ cs,Kr x
  | 0,a,acc,h,h2,_=>by omega
  | d+1,a,acc,h,h2,hs=>by
    have names:(∃ m,lQ l acc 2 a ⟨#[]⟩ ⟨#[]⟩=some (kT m)) ∨ ∃ ts lo gl cs,lQ l acc 2 a ⟨#[]⟩ ⟨#[]⟩=some (acc++ts,lo,gl,cs,0,0)∧l.drop a=oz ts lo gl cs∧U4 (acc++ts) lo gl cs∧∀ x ∈ cs,Kr x:=by
      rcases Jj l acc hl a with hw|⟨lo,gl,cs,e1,e2,e3,e4,e5,e6⟩
      · exact Or.inl hw
      · refine Or.inr ⟨[],lo,gl,cs,by rw [List.append_nil];exact e1,by rw [e2];rfl,⟨by rw [List.append_nil];exact hs,fun x hx=>(e3 x hx).1,e5,e6,e4⟩,fun x hx=>(e3 x hx).2⟩
    unfold sK
    by_cases ha:a < l.length
    · have hk:=hl l[a] (List.getElem_mem ha)
      rw [if_pos ha,F5 ha,if_pos (List.length_pos_iff.2 hk.1)]
      by_cases ht:(eX ByteArray.empty l[a] 0).toList=[116,121,112,101]
      · rw [if_pos ht]
        rcases xB l hl a ⟨#[116,121,112,101]⟩ with h'|⟨s,h',hs',ha',e⟩
        · rw [h']
          exact Or.inl ⟨a,rfl⟩
        · rw [h',Option.bind_some]
          simp only []
          rw [if_pos trivial]
          by_cases h45:(jK s).toList=[45]
          · rw [if_pos h45]
            exact Or.inl ⟨a,rfl⟩
          · rw [if_neg h45]
            have hne:s.toList ≠ []:=fun h0=>h45 (by unfold jK;rw [if_pos h0];decide +kernel)
            have hds:jK s=s:=by unfold jK;rw [if_neg hne]
            rw [hds] at e ⊢
            have hok:H7 s=true:=by
              unfold H7
              simp only [Bool.and_eq_true,decide_eq_true_eq]
              exact ⟨hne,hs'⟩
            rcases Be l hl d (a+1) (acc++[s]) (by omega) (by omega) (by
              intro x hx
              rcases List.mem_append.1 hx with hx|hx
              · exact hs x hx
              · rw [List.mem_singleton.1 hx];exact hok) with hw|⟨ts,lo,gl,cs,e1,e2,e3,e4⟩
            · exact Or.inl hw
            · rw [List.append_assoc,List.singleton_append] at e1 e3
              refine Or.inr ⟨s :: ts,lo,gl,cs,e1,?_,e3,e4⟩
              rw [drop_at ha' e,e2]
              rfl
      · rw [if_neg ht]
        exact names
    · rw [if_neg ha]
      exact names
theorem CY {L:List (List (List UInt8))} (h:∀ ws ∈ L,ws ≠ []∧∀ w ∈ ws,ve w=true∧w ≠ []):wE (conv L):=by
  intro ws hm
  obtain ⟨x,hx,rfl⟩:=List.mem_map.1 hm
  refine ⟨by simpa using (h x hx).1,fun w hw=>?_⟩
  obtain ⟨y,hy,rfl⟩:=List.mem_map.1 hw
  exact (h x hx).2 y hy
theorem C9 (s:ByteArray):((qH s).1=[]∧(qH s).2.2 ≠ 0) ∨ ∃ L,qH s=(L,0,0)∧L=nZ (lU 10 s.data.toList)∧∀ ws ∈ L,ws ≠ []∧∀ w ∈ ws,ve w=true∧w ≠ []:=by
  unfold qH
  rcases Oq (lU 10 s.data.toList) with h|⟨a,x,b,e,ha,hx⟩
  · refine Or.inr ⟨nZ (lU 10 s.data.toList),?_,rfl,fun ws hm=>JV h hm⟩
    rw [Ry h]
    rfl
  · left
    rw [e,UN ha _ _ x hx b]
    exact ⟨rfl,by simp⟩
theorem Jz {L:List (List (List UInt8))} (h:∀ ws ∈ L,ws ≠ []):tot L=(joinL L).length+L.length∧L.length≤(joinL L).length:=by
  induction L with
  | nil=>exact ⟨rfl,Nat.le_refl _⟩
  | cons x r ih =>
    have ih:=ih fun ws hm=>h ws (List.mem_cons_of_mem _ hm)
    have hx:=h x (List.mem_cons_self ..)
    cases x with
    | nil=>exact absurd rfl hx
    | cons w ws =>
      rw [tq,pz,vM,Lib.join_cons,List.length_append,List.length_append,yf,List.length_cons,List.length_cons]
      omega
theorem KH {s:ByteArray} (hs:s.size≤4000) {L:List (List (List UInt8))} (e:L=nZ (lU 10 s.data.toList)) (h:∀ ws ∈ L,ws ≠ []∧∀ w ∈ ws,ve w=true∧w ≠ []):tot L≤18000:=by
  have a:=Jz fun ws hm=>(h ws hm).1
  have b:=Jw s.data.toList
  rw [← e,← size_data] at b
  omega
theorem Jm (s:ByteArray) (hs:s.size≤4000):(∃ n e,e ≠ 0∧Ev (fun k=>bT.f k s) ([],⟨#[]⟩,⟨#[]⟩,[],n,e)) ∨
    ∃ ts lo gl cs,Ev (fun k=>bT.f k s) (ts,lo,gl,cs,0,0)∧qH s=(LA ts lo gl cs,0,0)∧U4 ts lo gl cs∧(∀ x ∈ cs,Kr x)∧tot (LA ts lo gl cs)≤18000:=by
  have hl:=EE s (by omega)
  rcases C9 s with ⟨h1,h2⟩|⟨L,h1,h2,h3⟩
  · left
    refine ⟨((qH s).2.1:Int),((qH s).2.2:Int),by omega,?_⟩
    unfold bT.f
    refine Ev.bind hl ?_
    unfold CX
    simp only []
    rw [if_neg (by omega)]
    exact Ev.now _
  · rw [h1,CW] at hl
    have ht:=KH hs h2 h3
    have hlen:(conv L).length≤1000000:=by
      rw [jD]
      have:=wF L
      omega
    rcases Be (conv L) (CY h3) ((conv L).length+1) 0 [] (by omega) (by omega) (fun s hs=>by cases hs) with ⟨m,hm⟩|⟨ts,lo,gl,cs,e1,e2,e3,e4⟩
    · exact Or.inl ⟨((m+1:Nat):Int),4,by decide,tJ s _ hl hlen hm⟩
    · rw [List.nil_append] at e1 e3
      have hL:L=LA ts lo gl cs:=NS (by rw [wM,← e2,List.drop_zero])
      rw [hL] at h1 ht
      exact Or.inr ⟨ts,lo,gl,cs,tJ s _ hl hlen e1,h1,e3,e4,ht⟩
end Go.Proofs.YtkclndkbccbhaaaGreatDoor.P
end
section
namespace Go.Proofs.YtkclndkbccbhaaaGreatDoor.P
open Go Go.RowKit Go.Proofs.ae.bg Go.Proofs.ae.dw Go.Proofs.ae.dO
theorem Ob:Ev (fun k=>bY.f k) true:=by
  have h:bY.f 300=some true:=by kernel_rfl
  exact Ev.of bY.mono h
end Go.Proofs.YtkclndkbccbhaaaGreatDoor.P
end
section
namespace Go.Proofs.YtkclndkbccbhaaaGreatDoor.P
open Go Go.RowKit Go.Proofs.ae.bg Go.Proofs.ae.dw Go.Proofs.ae.dO
theorem Js (c:UInt8) (X:Option Bool) :
    (if (c.toNat:Int) ≥ 97 then (if (c.toNat:Int)≤122 then X else (if (c.toNat:Int) ≥ 48 then (if (c.toNat:Int)≤57 then X else (if ((c.toNat:Int)=45) then X else (some false))) else (if ((c.toNat:Int)=45) then X else (some false)))) else (if (c.toNat:Int) ≥ 48 then (if (c.toNat:Int)≤57 then X else (if ((c.toNat:Int)=45) then X else (some false))) else (if ((c.toNat:Int)=45) then X else (some false))))=if H6 c=true then X else some false:=by
  unfold H6
  simp only [Bool.or_eq_true,decide_eq_true_eq]
  by_cases h1:97≤c.toNat <;> by_cases h2:c.toNat≤122 <;> by_cases h3:48≤c.toNat <;> by_cases h4:c.toNat≤57 <;> by_cases h5:c.toNat=45
  all_goals first
    | omega
    | (repeat' split) <;> first|rfl|omega
theorem LG (w:List UInt8) (hw:w.length≤140737488355328):∀ (d i:Nat),i+d=w.length →
    Ev (fun k=>aQ.l0 k (Bs w) (i:Int)) ((w.drop i).all H6 && decide (1≤w.length) && decide (w.length≤30))
  | 0,i,hi=>by
    rw [List.drop_eq_nil_of_le (by omega)]
    refine Ev.step (f:=fun _=>some _) (fun k=>?_) (Ev.now _)
    simp only [aQ.l0]
    rw [gI,if_neg (by omega)]
    simp only [List.all_nil,Bool.true_and]
    by_cases h1:1≤w.length
    · rw [if_pos (by omega),decide_eq_true h1,Bool.true_and]
      congr 1
      exact decide_eq_decide.2 (by omega)
    · rw [if_neg (by omega),decide_eq_false h1,Bool.false_and]
  | d+1,i,hi=>by
    have hlt:i < w.length:=by omega
    have hc:w[i]? = some w[i]:=List.getElem?_eq_getElem hlt
    have hdr:w.drop i=w[i] :: w.drop (i+1):=List.drop_eq_getElem_cons hlt
    generalize w[i]=c at hc hdr
    have ru:∀ k,aQ.l0 (k+1) (Bs w) (i:Int)=if H6 c=true then aQ.l0 k (Bs w) ((i+1:Nat):Int) else some false:=by
      intro k
      rw [← Js c,← N9 w i c hc,← iG i (by omega)]
      conv=>lhs;simp only [aQ.l0]
      rw [gI,if_pos (by omega),if_pos (by omega)]
    rw [hdr,List.all_cons]
    cases ho:H6 c with
    | true =>
      rw [Bool.true_and]
      exact Ev.step (fun k=>by rw [ru k,if_pos ho]) (LG w hw d (i+1) (by omega))
    | false =>
      simp only [Bool.false_and]
      exact Ev.step (f:=fun _=>some _) (fun k=>by rw [ru k,if_neg (by rw [ho];simp)]) (Ev.now _)
def KA (w:List UInt8):Bool:=w.all H6 && decide (1≤w.length) && decide (w.length≤30)
theorem Uh (w:List UInt8) (hw:w.length≤140737488355328):Ev (fun k=>aQ.f k (Bs w)) (KA w):=LG w hw w.length 0 (Nat.zero_add _)
theorem PD {w:List UInt8} (h:w ≠ []):KA w=ve w:=by
  have:1≤w.length:=List.length_pos_iff.2 h
  unfold KA ve
  rw [decide_eq_true this,Bool.and_true,Bool.and_comm]
def yc (cur:List UInt8):List UInt8→List (List UInt8)
  | []=>if cur=[] then [] else [cur]
  | c :: r=>if c=35 then (if cur=[] then [] else [cur]) else if c=32 then (if cur=[] then [] else [cur])++yc [] r else yc (cur++[c]) r
theorem LK (cur l:List UInt8) (h:(32:UInt8) ∉ cur):yc cur l=(lU 32 (cur++l.takeWhile (· ≠ 35))).filter (· ≠ []):=by
  have one:∀ cur:List UInt8,([cur]:List (List UInt8)).filter (· ≠ [])=if cur=[] then [] else [cur]:=by
    intro cur
    by_cases e:cur=[] <;> simp [e]
  induction l generalizing cur with
  | nil =>
    rw [List.takeWhile_nil,List.append_nil,lI 32 h,one]
    rfl
  | cons c r ih =>
    rw [List.takeWhile_cons]
    unfold yc
    by_cases e:c=35
    · subst e
      simp only [ne_eq,not_true_eq_false,decide_false,Bool.false_eq_true,if_false,if_true]
      rw [List.append_nil,lI 32 h,one]
    · have hd:(decide (c ≠ 35))=true:=by simpa using e
      rw [if_neg e,if_pos hd]
      by_cases e2:c=32
      · subst e2
        rw [if_pos rfl,wu,List.filter_append,lI 32 h,one,ih [] (by simp),List.nil_append]
      · rw [if_neg e2,ih (cur++[c]) (by simp only [List.mem_append,List.mem_singleton,not_or];exact ⟨h,fun e'=>e2 e'.symm⟩)]
        simp
theorem Gw (l:List UInt8):yc [] l=toks l:=by
  rw [LK [] l (by simp)]
  rfl
theorem yO (w:List UInt8) (hw:w.length≤1000000):∀ (d i:Nat),i+d=w.length→∀ (acc:List (List UInt8)) (cur:List UInt8),acc.length≤i→cur.length≤i →
    Ev (fun k=>aW.l0 k (Bs w) (acc.map Bs) (Bs cur) (i:Int)) ((acc++yc cur (w.drop i)).map Bs)
  | 0,i,hi,acc,cur,ha,hc=>by
    rw [List.drop_eq_nil_of_le (by omega)]
    refine Ev.step (f:=fun _=>some _) (fun k=>?_) (Ev.now _)
    simp only [aW.l0]
    rw [gI,if_neg (by omega),pG]
    unfold yc
    by_cases e:cur=[]
    · rw [if_pos e,if_pos e,List.append_nil]
    · rw [if_neg e,if_neg e,if_pos (by rw [List.length_map];omega),List.map_append]
      rfl
  | d+1,i,hi,acc,cur,ha,afL=>by
    have hlt:i < w.length:=by omega
    have hc:w[i]? = some w[i]:=List.getElem?_eq_getElem hlt
    have hdr:w.drop i=w[i] :: w.drop (i+1):=List.drop_eq_getElem_cons hlt
    generalize w[i]=c at hc hdr
    have hb:=N9 w i c hc
    have hx:=EY w i c hc
    rw [hdr]
    unfold yc
    have e0:Bs ([]:List UInt8)=(⟨#[]⟩:ByteArray):=rfl
    by_cases e:c=35
    · subst e
      rw [if_pos rfl]
      refine Ev.step (f:=fun _=>some _) (fun k=>?_) (Ev.now _)
      simp only [aW.l0]
      rw [gI,if_pos (by omega),if_pos (by omega),hb,if_pos (by decide),pG]
      by_cases e:cur=[]
      · rw [if_pos e,if_pos e,List.append_nil]
      · rw [if_neg e,if_neg e,if_pos (by rw [List.length_map];omega),List.map_append]
        rfl
    · have n35:¬ (c.toNat:Int)=35:=fun h=>e (UInt8.toNat_inj.1 (by show c.toNat=35;omega))
      rw [if_neg e]
      by_cases e2:c=32
      · subst e2
        rw [if_pos rfl]
        by_cases e3:cur=[]
        · subst e3
          rw [if_pos rfl,List.nil_append]
          refine Ev.step (fun k=>?_) (yO w hw d (i+1) (by omega) acc [] (by omega) (by simp))
          conv=>lhs;simp only [aW.l0]
          rw [gI,if_pos (by omega),if_pos (by omega),hb,if_neg (by decide),if_pos (by decide),pG,if_pos rfl,iG i (by omega)]
          rfl
        · rw [if_neg e3]
          have:=yO w hw d (i+1) (by omega) (acc++[cur]) [] (by rw [List.length_append,List.length_singleton];omega) (by simp)
          rw [List.append_assoc] at this
          refine Ev.step (fun k=>?_) this
          conv=>lhs;simp only [aW.l0]
          rw [gI,if_pos (by omega),if_pos (by omega),hb,if_neg (by decide),if_pos (by decide),pG,if_neg e3,if_pos (by rw [List.length_map];omega),iG i (by omega),List.map_append]
          rfl
      · have n32:¬ (c.toNat:Int)=32:=fun h=>e2 (UInt8.toNat_inj.1 (by show c.toNat=32;omega))
        rw [if_neg e2]
        have:=yO w hw d (i+1) (by omega) acc (cur++[c]) (by omega) (by rw [List.length_append,List.length_singleton];omega)
        refine Ev.step (fun k=>?_) this
        conv=>lhs;simp only [aW.l0]
        rw [iG i (by omega)]
        have h1:((i:Int)).toNat=i:=Int.toNat_natCast i
        have h2:(((i+1:Nat):Int)).toNat=i+1:=Int.toNat_natCast (i+1)
        rw [h1,h2,hx,gI,gI,gI,if_pos (by omega),if_pos (by omega),hb,if_neg n35,if_neg n32,if_pos (by omega),if_pos (by omega),if_pos (by simp only [List.length_singleton];omega),Af]
theorem PE (w:List UInt8) (hw:w.length≤1000000):Ev (fun k=>aW.f k (Bs w)) ((toks w).map Bs):=by
  have:=yO w hw w.length 0 (Nat.zero_add _) [] [] (Nat.le_refl _) (Nat.le_refl _)
  rw [List.drop_zero,Gw,List.nil_append] at this
  exact this
theorem KQ (s:List UInt8) (hs:s.length≤100000) (x5:List (List ByteArray)) (hx5:x5.length≤1000000) (n i:Nat) (hn:n < 1000000) (hi:i < 1000000) (t:List (List UInt8)) (ht:t.length≤1000000) (h0:∀ w ∈ t,w ≠ []∧w.length≤1000000) :
    ∀ (d j:Nat),j+d=t.length →
      (((t.drop j).all ve=false→Ev (fun k=>ak.l1 k (Bs s) x5 (n:Int) (i:Int) (t.map Bs) (j:Int)) ([],(n:Int),4)) ∧
       ((t.drop j).all ve=true→∀ r,Ev (fun k=>ak.l0 k (Bs s) (x5++conv (keep t)) ((i+1:Nat):Int) ((n+1:Nat):Int) ((i+1:Nat):Int)) r →
        Ev (fun k=>ak.l1 k (Bs s) x5 (n:Int) (i:Int) (t.map Bs) (j:Int)) r))
  | 0,j,hj=>by
    rw [List.drop_eq_nil_of_le (by omega)]
    refine ⟨fun h=>by simp at h,fun _ r hr=>Ev.step (fun k=>?_) hr⟩
    simp only [ak.l1]
    rw [List.length_map,if_neg (by omega),iG i (by omega),iG n (by omega)]
    by_cases e:t=[]
    · subst e
      rw [if_neg (by simp)]
      simp [keep,conv]
    · have hp:0 < t.length:=List.length_pos_iff.2 e
      rw [if_pos (by omega),if_pos (by omega)]
      simp [keep,conv,e]
  | d+1,j,hj=>by
    have hlt:j < t.length:=by omega
    have hw:t[j]? = some t[j]:=List.getElem?_eq_getElem hlt
    have hdr:t.drop j=t[j] :: t.drop (j+1):=List.drop_eq_getElem_cons hlt
    have hm:=h0 t[j] (List.getElem_mem hlt)
    generalize t[j]=w at hw hdr hm
    have ih:=KQ s hs x5 hx5 n i hn hi t ht h0 d (j+1) (by omega)
    have hmay:=Uh w (Nat.le_trans hm.2 (by decide))
    rw [PD hm.1] at hmay
    have ru:∀ k,ak.l1 (k+1) (Bs s) x5 (n:Int) (i:Int) (t.map Bs) (j:Int)=(aQ.f k (Bs w)).bind fun t165=>if t165=true then ak.l1 k (Bs s) x5 (n:Int) (i:Int) (t.map Bs) ((j+1:Nat):Int) else some ([],(n:Int),4):=by
      intro k
      conv=>lhs;simp only [ak.l1]
      rw [List.length_map,if_pos (by omega),if_pos (by omega),Ej t j w hw,iG j (by omega)]
    rw [hdr,List.all_cons]
    cases ho:ve w with
    | true =>
      rw [ho] at hmay
      rw [Bool.true_and]
      refine ⟨fun hf=>Ev.step ru (Ev.bind hmay ?_),fun htr r hr=>Ev.step ru (Ev.bind hmay ?_)⟩
      · exact Ev.congr (fun k=>if_pos rfl) (ih.1 hf)
      · exact Ev.congr (fun k=>if_pos rfl) (ih.2 htr r hr)
    | false =>
      rw [ho] at hmay
      rw [Bool.false_and]
      refine ⟨fun _=>Ev.step ru (Ev.bind hmay ?_),fun htr=>by cases htr⟩
      exact Ev.congr (f:=fun _=>some _) (fun k=>if_neg (by simp)) (Ev.now _)
theorem CQ (s:List UInt8) (hs:s.length≤20000):∀ (d i:Nat),i+d=s.length+1→∀ (fr n:Nat) (acc:List (List (List UInt8))),fr≤i→n≤i→acc.length≤n→(10:UInt8) ∉ (s.drop fr).take (i - fr) →
    Ev (fun k=>ak.l0 k (Bs s) (conv acc) (fr:Int) ((n+1:Nat):Int) (i:Int)) (if i=s.length+1 then CX (acc,0,0) else CX (LR n acc (lU 10 (s.drop fr))))
  | 0,i,hi,fr,n,acc,hf,hn,ha,hnl=>by
    rw [if_pos (by omega)]
    refine Ev.step (f:=fun _=>some _) (fun k=>?_) (Ev.now _)
    simp only [ak.l0]
    rw [gI,if_neg (by omega)]
    rfl
  | d+1,i,hi,fr,n,acc,hf,hn,ha,hnl=>by
    rw [if_neg (by omega)]
    have fin:∀ rest:List (List UInt8),lU 10 (s.drop fr)=(s.drop fr).take (i - fr) :: rest→(∀ acc':List (List (List UInt8)),acc'.length≤n+1→Ev (fun k=>ak.l0 k (Bs s) (conv acc') ((i+1:Nat):Int) ((n+1+1:Nat):Int) ((i+1:Nat):Int)) (CX (LR (n+1) acc' rest))) →
        Ev (fun k=>ak.j1 k (Bs s) (conv acc) (fr:Int) ((n+1:Nat):Int) (i:Int) false) (CX (LR n acc (lU 10 (s.drop fr)))):=by
      intro rest hsp hr
      rw [hsp]
      generalize hx:(s.drop fr).take (i - fr)=x
      have hxl:x.length≤20000:=by
        rw [← hx,List.length_take,List.length_drop];omega
      have ru:∀ k,ak.j1 (k+1) (Bs s) (conv acc) (fr:Int) ((n+1:Nat):Int) (i:Int) false=(aW.f k (Bs x)).bind fun t161=>ak.l1 k (Bs s) (conv acc) ((n+1:Nat):Int) (i:Int) t161 ((0:Nat):Int):=by
        intro k
        conv=>lhs;simp only [ak.j1]
        have h1:((i:Int)).toNat=i:=Int.toNat_natCast i
        have h2:((fr:Int)).toNat=fr:=Int.toNat_natCast fr
        rw [h1,h2,zS s fr i,hx,gI,if_neg (by simp),if_pos (by omega),if_pos (by omega),if_pos (by omega)]
        rfl
      refine Ev.step ru (Ev.bind (PE x (by omega)) ?_)
      have h:=KQ s (by omega) (conv acc) (by rw [jD];omega) (n+1) i (by omega) (by omega) (toks x) (by have:=KI x;omega) (fun w hw=>⟨(vZ rfl w hw).1,by have:=(vZ rfl w hw).2;omega⟩) (toks x).length 0 (Nat.zero_add _)
      rw [List.drop_zero] at h
      unfold LR
      cases ho:Gu x with
      | true =>
        rw [if_pos rfl]
        refine h.2 ho _ ?_
        rw [← Fb]
        refine hr _ ?_
        rw [List.length_append]
        have:(keep (toks x)).length≤1:=by unfold keep;split <;> simp
        omega
      | false =>
        rw [if_neg (by simp)]
        exact h.1 ho
    by_cases he:i=s.length
    ·
      subst he
      have hsp:lU 10 (s.drop fr)=(s.drop fr).take (s.length - fr) :: []:=by
        have e:(s.drop fr).take (s.length - fr)=s.drop fr:=List.take_of_length_le (by rw [List.length_drop];omega)
        rw [e] at hnl ⊢
        exact lI 10 hnl
      refine Ev.step (f:=fun k=>ak.j1 k (Bs s) (conv acc) (fr:Int) ((n+1:Nat):Int) ((s.length:Nat):Int) false) (fun k=>?_) ?_
      · conv=>lhs;simp only [ak.l0]
        rw [gI,if_pos (by omega),if_neg (by omega)]
      · refine fin [] hsp fun acc' ha'=>?_
        have h:=CQ s hs d (s.length+1) (by omega) (s.length+1) (n+1) acc' (Nat.le_refl _) (by omega) ha' (by simp)
        rw [if_pos rfl] at h
        exact h
    · have hlt:i < s.length:=by omega
      have hc:s[i]? = some s[i]:=List.getElem?_eq_getElem hlt
      have hdr:s.drop i=s[i] :: s.drop (i+1):=List.drop_eq_getElem_cons hlt
      generalize s[i]=c at hc hdr
      have hb:=N9 s i c hc
      have hsplit:s.drop fr=(s.drop fr).take (i - fr)++c :: s.drop (i+1):=by
        have h1:=(List.take_append_drop (i - fr) (s.drop fr)).symm
        rw [List.drop_drop,show fr+(i - fr)=i from by omega,hdr] at h1
        exact h1
      by_cases e:c=10
      · subst e
        have hsp:lU 10 (s.drop fr)=(s.drop fr).take (i - fr) :: lU 10 (s.drop (i+1)):=by
          conv=>lhs;rw [hsplit]
          rw [wu,lI 10 hnl]
          rfl
        refine Ev.step (f:=fun k=>ak.j1 k (Bs s) (conv acc) (fr:Int) ((n+1:Nat):Int) (i:Int) false) (fun k=>?_) ?_
        · conv=>lhs;simp only [ak.l0]
          rw [gI,if_pos (by omega),if_pos (by omega),if_pos (by omega),hb]
          rfl
        · refine fin _ hsp fun acc' ha'=>?_
          have h:=CQ s hs d (i+1) (by omega) (i+1) (n+1) acc' (Nat.le_refl _) (by omega) ha' (by simp)
          rw [if_neg (by omega)] at h
          exact h
      · have ne:((c.toNat:Int) != 10)=true:=by
          rw [bne_iff_ne]
          intro h
          exact e (UInt8.toNat_inj.1 (by show c.toNat=10;omega))
        have h:=CQ s hs d (i+1) (by omega) fr n acc (by omega) (by omega) ha (by
          rw [show i+1 - fr=(i - fr)+1 from by omega,List.take_add_one]
          have hg:(s.drop fr)[i - fr]? = some c:=by
            rw [List.getElem?_drop,show fr+(i - fr)=i from by omega,hc]
          rw [hg]
          simp only [Option.toList_some,List.mem_append,List.mem_singleton,not_or]
          exact ⟨hnl,fun e'=>e e'.symm⟩)
        rw [if_neg (by omega)] at h
        refine Ev.step (f:=fun k=>ak.j1 k (Bs s) (conv acc) (fr:Int) ((n+1:Nat):Int) (i:Int) true) (fun k=>?_) (Ev.step (fun k=>?_) h)
        · conv=>lhs;simp only [ak.l0]
          rw [gI,if_pos (by omega),if_pos (by omega),if_pos (by omega),hb,ne]
        · conv=>lhs;simp only [ak.j1]
          rw [if_pos trivial,iG i (by omega)]
theorem Ji (s:ByteArray) (hs:s.size≤20000):Ev (fun k=>ak.f k s) (CX (qH s)):=by
  have h:=CQ s.data.toList (by rw [uI];exact hs) (s.data.toList.length+1) 0 (by omega) 0 0 [] (Nat.le_refl _) (Nat.le_refl _) (Nat.le_refl _) (by simp)
  rw [if_neg (by omega),List.drop_zero,jJ] at h
  refine Ev.congr (fun k=>?_) h
  unfold ak.f
  rw [if_neg (by omega)]
  rfl
def xU (x:List (List UInt8)) (j:Nat):List UInt8:=if j=0 then Lib.join x [32] else Lib.joinTail [32] (x.drop j)
theorem FW {x:List (List UInt8)} {j:Nat} {w:List UInt8} (h:x[j]? = some w):xU x j=(if 0 < j then [32] else [])++w++xU x (j+1):=by
  obtain ⟨hl,hw⟩:=List.getElem?_eq_some_iff.1 h
  have hdr:x.drop j=w :: x.drop (j+1):=by rw [List.drop_eq_getElem_cons hl,hw]
  unfold xU
  rw [if_neg (by omega:¬ j+1=0)]
  by_cases e:j=0
  · subst e
    rw [List.drop_zero] at hdr
    rw [if_pos rfl,if_neg (by omega),List.nil_append]
    conv=>lhs;rw [hdr,Lib.join_cons]
  · rw [if_neg e,if_pos (by omega),hdr]
    simp [Lib.joinTail]
theorem KT (L:List (List (List UInt8))) (i:Nat) (x:List (List UInt8)) (hx:L[i]? = some x) (hi:i < 2000000) (hb:vH x≤2000000) :
    ∀ (d j:Nat),j+d=x.length→∀ o:List UInt8,o.length≤4000000→∀ r,(∀ o':List UInt8,o'=o++xU x j++[10]→Ev (fun k=>aH.l0 k (conv L) (Bs o') ((i+1:Nat):Int)) r) →
      o.length+(xU x j).length≤4000000→Ev (fun k=>aH.l1 k (conv L) (Bs o) (i:Int) (j:Int)) r
  | 0,j,hj,o,ho,r,hr,hlen=>by
    have e:xU x j=[]:=by
      unfold xU
      by_cases e:j=0
      · subst e
        have:x=[]:=List.length_eq_zero_iff.1 (by omega)
        rw [if_pos rfl,this]
        rfl
      · rw [if_neg e,List.drop_eq_nil_of_le (by omega)]
        rfl
    have hil:i < L.length:=(List.getElem?_eq_some_iff.1 hx).1
    refine Ev.step (fun k=>?_) (hr (o++[10]) (by rw [e,List.append_nil]))
    conv=>lhs;simp only [aH.l1]
    rw [CU L i x hx,if_pos (by omega),if_pos (by rw [jD];omega),List.length_map,if_neg (by omega),gI,if_pos (by omega),iG i (by omega),show (⟨#[10]⟩:ByteArray)=Bs [10] from rfl,Af]
  | d+1,j,hj,o,ho,r,hr,hlen=>by
    have hlt:j < x.length:=by omega
    have hw:x[j]? = some x[j]:=List.getElem?_eq_getElem hlt
    have hm:=LC (List.getElem_mem hlt)
    have hxl:=EG x
    generalize x[j]=w at hw hm
    have hil:i < L.length:=(List.getElem?_eq_some_iff.1 hx).1
    rw [FW hw] at hr hlen
    simp only [List.length_append] at hlen
    by_cases e:0 < j
    · rw [if_pos e] at hr hlen
      have ih:=KT L i x hx hi hb d (j+1) (by omega) (o++[32]++w) (by simp only [List.length_append,List.length_cons,List.length_nil] at hlen ⊢;omega) r (fun o' h'=>hr o' (by rw [h'];simp)) (by simp only [List.length_append,List.length_cons,List.length_nil] at hlen ⊢;omega)
      refine Ev.step (fun k=>?_) ih
      conv=>lhs;simp only [aH.l1]
      simp only [List.length_cons,List.length_nil] at hlen
      have e32:Bs o++(⟨#[32]⟩:ByteArray)=Bs (o++[32]):=Af o [32]
      rw [CU L i x hx,Ej x j w hw,e32,Af,gI,gI,gI,List.length_map,if_pos (by omega),if_pos (by rw [jD];omega),if_pos (by omega),if_pos (by omega),if_pos (by omega),if_pos (by omega),if_pos (by simp only [List.length_append,List.length_cons,List.length_nil];omega),iG j (by omega)]
    · rw [if_neg e] at hr hlen
      have ih:=KT L i x hx hi hb d (j+1) (by omega) (o++w) (by simp only [List.length_append,List.length_nil] at hlen ⊢;omega) r (fun o' h'=>hr o' (by rw [h'];simp)) (by simp only [List.length_append,List.length_nil] at hlen ⊢;omega)
      refine Ev.step (fun k=>?_) ih
      conv=>lhs;simp only [aH.l1]
      simp only [List.length_nil] at hlen
      rw [CU L i x hx,Ej x j w hw,Af,gI,gI,List.length_map,if_pos (by omega),if_pos (by rw [jD];omega),if_pos (by omega),if_neg (by omega),if_pos (by omega),if_pos (by omega),iG j (by omega)]
theorem RV (L:List (List (List UInt8))) (hL:tot L≤1048576):∀ (d i:Nat),i+d=L.length→∀ o:List UInt8,o.length+tot (L.drop i)≤2000000 →
    Ev (fun k=>aH.l0 k (conv L) (Bs o) (i:Int)) (Bs (o++joinL (L.drop i)))
  | 0,i,hi,o,ho=>by
    rw [List.drop_eq_nil_of_le (by omega)]
    refine Ev.step (f:=fun _=>some _) (fun k=>?_) (Ev.now _)
    simp only [aH.l0]
    rw [jD,if_neg (by omega)]
    simp [joinL]
  | d+1,i,hi,o,ho=>by
    have hlt:i < L.length:=by omega
    have hw:L[i]? = some L[i]:=List.getElem?_eq_getElem hlt
    have hdr:L.drop i=L[i] :: L.drop (i+1):=List.drop_eq_getElem_cons hlt
    have hmem:=H9 (List.getElem_mem hlt)
    have hll:=wF L
    generalize L[i]=x at hw hdr hmem
    rw [hdr,tq] at ho
    rw [hdr,vM]
    have hjl:=yg x
    have e0:xU x 0=Lib.join x [32]:=if_pos rfl
    have h1:=KT L i x hw (by omega) (by omega) x.length 0 (Nat.zero_add _) o (by omega) (Bs (o++(Lib.join x [32]++10 :: joinL (L.drop (i+1))))) (fun o' h'=>by
      have ih:=RV L hL d (i+1) (by omega) o' (by rw [h',e0];simp only [List.length_append,List.length_cons,List.length_nil];omega)
      have e:o'++joinL (L.drop (i+1))=o++(Lib.join x [32]++10 :: joinL (L.drop (i+1))):=by rw [h',e0];simp
      rw [e] at ih
      exact ih) (by rw [e0];omega)
    refine Ev.step (fun k=>?_) h1
    conv=>lhs;simp only [aH.l0]
    rw [jD,if_pos (by omega)]
    rfl
theorem KR (L:List (List (List UInt8))) (hL:tot L≤1048576):Ev (fun k=>aH.f k (conv L)) (Bs (joinL L)):=by
  have h:=RV L hL L.length 0 (Nat.zero_add _) [] (by rw [List.drop_zero];simp only [List.length_nil];omega)
  rw [List.drop_zero,List.nil_append] at h
  exact h
end Go.Proofs.YtkclndkbccbhaaaGreatDoor.P
end
section
namespace Go.Proofs.YtkclndkbccbhaaaGreatDoor.P
open Go Go.RowKit Go.Proofs.ae.bg Go.Proofs.ae.dw Go.Proofs.ae.dO
theorem LY (x y:iR):(!(x.f0 == y.f0) || (!(x.f1 == y.f1) || (!(x.f2 == y.f2) || (!(x.f3 == y.f3) || (!(x.f4 == y.f4))))))=true ↔ x ≠ y:=by
  obtain ⟨a0,a1,a2,a3,a4⟩:=x
  obtain ⟨b0,b1,b2,b3,b4⟩:=y
  simp only [ne_eq,iR.mk.injEq,Bool.or_eq_true,Bool.not_eq_true',beq_eq_false_iff_ne]
  by_cases h0:a0=b0 <;> by_cases h1:a1=b1 <;> by_cases h2:a2=b2 <;> by_cases h3:a3=b3 <;> by_cases h4:a4=b4 <;> simp [h0,h1,h2,h3,h4]
theorem Hw (t1:List ByteArray) (lo1 yR:ByteArray) (c1:List iR) (t2:List ByteArray) (lo2 Dx:ByteArray) (c2:List iR) (hl:c1.length=c2.length) (hc:c1.length≤140737488355328):∀ (d i:Nat),i+d=c1.length →
    ∃ b,Ev (fun k=>ax.l1 k (i:Int) t1 lo1 yR c1 t2 lo2 Dx c2) b∧(b=true ↔ c1.drop i=c2.drop i)
  | 0,i,hi=>by
    refine ⟨true,Ev.step (f:=fun _=>some _) (fun k=>?_) (Ev.now _),?_⟩
    · simp only [ax.l1]
      rw [if_neg (by omega)]
    · rw [List.drop_eq_nil_of_le (by omega),List.drop_eq_nil_of_le (by omega)]
      simp
  | d+1,i,hi=>by
    have h1:i < c1.length:=by omega
    have h2:i < c2.length:=by omega
    obtain ⟨b,hb,hbi⟩:=Hw t1 lo1 yR c1 t2 lo2 Dx c2 hl hc d (i+1) (by omega)
    rw [List.drop_eq_getElem_cons h1,List.drop_eq_getElem_cons h2,List.cons.injEq]
    have ru:∀ k,ax.l1 (k+1) (i:Int) t1 lo1 yR c1 t2 lo2 Dx c2=if (!(c1[i].f0 == c2[i].f0) || (!(c1[i].f1 == c2[i].f1) || (!(c1[i].f2 == c2[i].f2) || (!(c1[i].f3 == c2[i].f3) || (!(c1[i].f4 == c2[i].f4))))))=true then some false else ax.l1 k ((i+1:Nat):Int) t1 lo1 yR c1 t2 lo2 Dx c2:=by
      intro k
      conv=>lhs;simp only [ax.l1]
      rw [if_pos (by omega),if_pos (by omega),if_pos (by omega),yN c1 i h1,yN c2 i h2,iG i (by omega)]
    by_cases e:c1[i]=c2[i]
    · refine ⟨b,Ev.step (fun k=>?_) hb,?_⟩
      · rw [ru k,if_neg (fun h=>(LY _ _).1 h e)]
      · rw [hbi]
        exact ⟨fun h=>⟨e,h⟩,fun h=>h.2⟩
    · refine ⟨false,Ev.step (f:=fun _=>some _) (fun k=>?_) (Ev.now _),?_⟩
      · rw [ru k,if_pos ((LY _ _).2 e)]
      · exact ⟨fun h=>(by cases h),fun h=>absurd h.1 e⟩
theorem Hy (t1:List ByteArray) (lo1 yR:ByteArray) (c1:List iR) (t2:List ByteArray) (lo2 Dx:ByteArray) (c2:List iR) (hl:c1.length=c2.length) (hc:c1.length≤140737488355328) (hlt:t1.length=t2.length) (ht:t1.length≤140737488355328):∀ (d i:Nat),i+d=t1.length →
    ∃ b,Ev (fun k=>ax.l0 k (i:Int) t1 lo1 yR c1 t2 lo2 Dx c2) b∧(b=true ↔ t1.drop i=t2.drop i∧c1=c2)
  | 0,i,hi=>by
    obtain ⟨b,hb,hbi⟩:=Hw t1 lo1 yR c1 t2 lo2 Dx c2 hl hc c1.length 0 (Nat.zero_add _)
    refine ⟨b,Ev.step (fun k=>?_) hb,?_⟩
    · simp only [ax.l0]
      rw [if_neg (by omega)]
      rfl
    · rw [List.drop_eq_nil_of_le (by omega),List.drop_eq_nil_of_le (by omega),hbi,List.drop_zero,List.drop_zero]
      simp
  | d+1,i,hi=>by
    have h1:i < t1.length:=by omega
    have h2:i < t2.length:=by omega
    obtain ⟨b,hb,hbi⟩:=Hy t1 lo1 yR c1 t2 lo2 Dx c2 hl hc hlt ht d (i+1) (by omega)
    rw [List.drop_eq_getElem_cons h1,List.drop_eq_getElem_cons h2,List.cons.injEq]
    have ru:∀ k,ax.l0 (k+1) (i:Int) t1 lo1 yR c1 t2 lo2 Dx c2=if t1[i].toList=t2[i].toList then ax.l0 k ((i+1:Nat):Int) t1 lo1 yR c1 t2 lo2 Dx c2 else some false:=by
      intro k
      conv=>lhs;simp only [ax.l0]
      rw [if_pos (by omega),if_pos (by omega),if_pos (by omega),wC t1 i h1,wC t2 i h2,iG i (by omega)]
    by_cases e:t1[i].toList=t2[i].toList
    · refine ⟨b,Ev.step (fun k=>?_) hb,?_⟩
      · rw [ru k,if_pos e]
      · rw [hbi]
        exact ⟨fun h=>⟨⟨toList_inj.1 e,h.1⟩,h.2⟩,fun h=>⟨h.1.2,h.2⟩⟩
    · refine ⟨false,Ev.step (f:=fun _=>some _) (fun k=>?_) (Ev.now _),?_⟩
      · rw [ru k,if_neg e]
      · exact ⟨fun h=>(by cases h),fun h=>absurd (congrArg ByteArray.toList h.1.1) e⟩
theorem O1 (t1:List ByteArray) (lo1 yR:ByteArray) (c1:List iR) (t2:List ByteArray) (lo2 Dx:ByteArray) (c2:List iR) (hc:c1.length≤140737488355328) (ht:t1.length≤140737488355328) :
    ∃ b,Ev (fun k=>ax.f k t1 lo1 yR c1 t2 lo2 Dx c2) b∧(b=true ↔ t1=t2∧lo1=lo2∧yR=Dx∧c1=c2):=by
  have no:Ev (fun k=>ax.j0 k true t1 lo1 yR c1 t2 lo2 Dx c2) false :=
    Ev.step (f:=fun _=>some false) (fun k=>by simp only [ax.j0];rw [if_pos trivial]) (Ev.now _)
  by_cases h1:t1.length=t2.length
  · by_cases h2:c1.length=c2.length
    · by_cases h3:lo1.toList=lo2.toList
      · by_cases h4:yR.toList=Dx.toList
        · obtain ⟨b,hb,hbi⟩:=Hy t1 lo1 yR c1 t2 lo2 Dx c2 h2 hc h1 ht t1.length 0 (Nat.zero_add _)
          refine ⟨b,Ev.congr (fun k=>?_) (Ev.step (f:=fun k=>ax.l0 k 0 t1 lo1 yR c1 t2 lo2 Dx c2) (g:=fun k=>ax.j0 k (yR.toList != Dx.toList) t1 lo1 yR c1 t2 lo2 Dx c2) (fun k=>?_) hb),?_⟩
          · unfold ax.f
            rw [if_pos (by omega),if_pos (by omega),if_pos h3]
          · simp only [ax.j0]
            rw [if_neg (by simp [h4])]
          · rw [hbi,List.drop_zero,List.drop_zero]
            exact ⟨fun h=>⟨h.1,toList_inj.1 h3,toList_inj.1 h4,h.2⟩,fun h=>⟨h.1,h.2.2.2⟩⟩
        · refine ⟨false,Ev.congr (fun k=>?_) no,⟨fun h=>(by cases h),fun h=>absurd (congrArg ByteArray.toList h.2.2.1) h4⟩⟩
          unfold ax.f
          rw [if_pos (by omega),if_pos (by omega),if_pos h3,bne_iff_ne.2 h4]
      · refine ⟨false,Ev.congr (fun k=>?_) no,⟨fun h=>(by cases h),fun h=>absurd (congrArg ByteArray.toList h.2.1) h3⟩⟩
        unfold ax.f
        rw [if_pos (by omega),if_pos (by omega),if_neg h3]
    · refine ⟨false,Ev.congr (fun k=>?_) no,⟨fun h=>(by cases h),fun h=>absurd (congrArg List.length h.2.2.2) h2⟩⟩
      unfold ax.f
      rw [if_pos (by omega),if_neg (by omega)]
  · refine ⟨false,Ev.congr (fun k=>?_) no,⟨fun h=>(by cases h),fun h=>absurd (congrArg List.length h.1) h1⟩⟩
    unfold ax.f
    rw [if_neg (by omega)]
theorem Jh (t1:List ByteArray) (lo1 yR:ByteArray) (c1:List iR) (hc:c1.length≤140737488355328) (ht:t1.length≤140737488355328):Ev (fun k=>ax.f k t1 lo1 yR c1 t1 lo1 yR c1) true:=by
  obtain ⟨b,hb,hi⟩:=O1 t1 lo1 yR c1 t1 lo1 yR c1 hc ht
  rwa [hi.2 ⟨rfl,rfl,rfl,rfl⟩] at hb
end Go.Proofs.YtkclndkbccbhaaaGreatDoor.P
end
section
namespace Go.Proofs.YtkclndkbccbhaaaGreatDoor.P
open Go Go.RowKit Go.Proofs.ae.bg Go.Proofs.ae.dw Go.Proofs.ae.dO
theorem LV {ts:List ByteArray} {lo gl:ByteArray} {cs:List iR} (a:tot (LA ts lo gl cs)≤18000):kH.f (oz ts lo gl cs)=some (Ba ts lo gl cs):=by
  rw [← wM,zh]
  exact Uj _ (KP a) (by have:=BG (LA ts lo gl cs);omega)
theorem Jl {ts:List ByteArray} {lo gl:ByteArray} {cs:List iR} (h:U4 ts lo gl cs) (hw:∀ x ∈ cs,Kr x) (a:tot (LA ts lo gl cs)≤18000):Ev (fun k=>bT.f k (Ba ts lo gl cs)) (ts,lo,gl,cs,0,0):=by
  have hl:(oz ts lo gl cs).length≤1000000:=by
    rw [← wM,jD]
    have:=wF (LA ts lo gl cs)
    omega
  have b:=LJ (Xb h hw) a
  rw [← zh,wM] at b
  refine tJ _ _ b hl ?_
  rw [Ee (oz ts lo gl cs) lo gl (cs.map lh) h.lok h.gok ts _ [] [] 0 (by unfold oz;simp) rfl (by unfold oz;simp;omega) h.typ]
  exact Ef _ _ _ _ cs _ (ts.map xQ++ou lo gl) [] _ rfl (by simp [ou]) (by unfold oz;simp;omega) (by simpa using h.few) h.ins hw
theorem Ui (ts:List ByteArray) (lo gl:ByteArray) (cs:List iR):ts.length+cs.length≤tot (LA ts lo gl cs):=by
  have:=wF (LA ts lo gl cs)
  have e:(LA ts lo gl cs).length=ts.length+2+cs.length:=by
    unfold LA CZ
    simp
    omega
  omega
theorem Kq (s:ByteArray):Ev (fun k=>dX.f k s) true:=by
  unfold dX.f
  refine Ev.bind Ob ?_
  simp only [if_true]
  by_cases hs:(s.size:Int) > 4000
  · exact Ev.congr (fun k=>if_pos hs) (Ev.now _)
  · refine Ev.congr (fun k=>if_neg hs) ?_
    rcases Jm s (by omega) with ⟨n,e,he,hp⟩|⟨ts,lo,gl,cs,hp,hl,hk,hw,ht⟩
    · exact Ev.bind hp (Ev.congr (fun k=>(if_neg he).trans (if_pos rfl)) (Ev.now _))
    · have hlen:=Ui ts lo gl cs
      refine Ev.bind hp (Ev.congr (fun k=>if_pos rfl) ?_)
      have hr:=Ji s (by omega)
      rw [hl,CW] at hr
      refine Ev.bind hr ?_
      have hpr:=Lm ts lo gl cs (by omega) (by omega) hw (fun _=>⟨by omega,LV ht⟩)
      rw [if_pos (LH.2 hk)] at hpr
      refine Ev.bind hpr (Ev.bind (Jl hk hw ht) (Ev.congr (fun k=>if_pos rfl) ?_))
      have hj:=KR (LA ts lo gl cs) (by omega)
      rw [← zh] at hj
      exact Ev.bind hj (Ev.congr (fun k=>(if_pos rfl).trans (if_pos rfl)) (Ev.bind (Jh ts lo gl cs (by omega) (by omega)) (Ev.now _)))
end Go.Proofs.YtkclndkbccbhaaaGreatDoor.P
end
