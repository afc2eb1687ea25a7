/- Parts of the proof of CodeParses: what the functions that it reaches compute, and plain facts about that. -/
import Derived.Test.YtkclndkbccbhaaaGreatDoorRak
import Derived.Test.YtkclndkbccbhaaaGreatDoorRah
import Derived.Test.YtkclndkbccbhaaaGreatDoorRal
import Derived.Test.YtkclndkbccbhaaaGreatDoorRam
import Derived.Test.YtkclndkbccbhaaaGreatDoorRao
import Derived.Test.YtkclndkbccbhaaaGreatDoorRap
import Derived.Test.YtkclndkbccbhaaaGreatDoorRan
set_option linter.unusedVariables false
set_option linter.unusedSimpArgs false
section
namespace Go.Proofs.YtkclndkbccbhaaaGreatDoor.P
open Go Go.RowKit Go.Proofs.ag.bK Go.Proofs.ag.dV Go.Proofs.ag.fE
def okB (w:ByteArray):Prop:=F8 w.data.toList=true∧w.data.toList ≠ []
theorem ba_eq {a b:ByteArray} (h:a.toList=b.toList):a=b:=by
  rw [toList_data,toList_data] at h
  rw [← lZ a,← lZ b,h]
theorem CJ {w:List UInt8} (h:F8 w=true):w.length≤30:=by
  unfold F8 at h
  simp only [Bool.and_eq_true,decide_eq_true_eq] at h
  exact h.1
theorem JI {w:ByteArray} (h:okB w):∃ n e,nX.f w=some (n,e)∧(e=0→YL n∧rU n=w):=by
  have a:=Yb w.data.toList (by have:=CJ h.1;omega)
  rw [lZ] at a
  refine ⟨(Ii w.data.toList).1,(Ii w.data.toList).2,a,fun he=>?_⟩
  unfold Ii at he ⊢
  by_cases hk:rM w.data.toList=true
  · rw [if_pos hk] at he ⊢
    have b:=P8 w.data.toList hk (numOf w.data.toList).1 (by rw [← he])
    refine ⟨⟨b.2.1,b.2.2⟩,?_⟩
    show Bs (Lib.itoa _)=w
    rw [b.1,lZ]
  · rw [if_neg hk] at he
    cases he
def D8 (q:Int × Int × Int × Int) (ch:Nat):Int:=vK q.1 q.2.1 q.2.2.1 q.2.2.2 ch
def XO (q:Int × Int × Int × Int):Prop:=(0≤q.1∧q.1≤255)∧(0≤q.2.1∧q.2.1≤255)∧(0≤q.2.2.1∧q.2.2.1≤255)∧(-9223372036854775808≤q.2.2.2∧q.2.2.2≤9223372036854775807)
def D9 (ch:UInt8):Prop:=ch=97 ∨ ch=98 ∨ ch=99 ∨ ch=110
theorem Nv (q:Int × Int × Int × Int) {c d:UInt8} (hc:D9 c) (hd:D9 d) (v:Int):D8 (setArg c.toNat v q) d.toNat=if d=c then v else D8 q d.toNat:=by
  rcases hc with rfl|rfl|rfl|rfl <;> rcases hd with rfl|rfl|rfl|rfl <;> rfl
theorem abo {q:Int × Int × Int × Int} (hq:XO q) {v:Int} (hv:YL v):XO (setArg 110 v q):=⟨hq.1,hq.2.1,hq.2.2.1,hv⟩
theorem TC {q:Int × Int × Int × Int} (hq:XO q) {c:UInt8} (hc:D9 c) (h:c.toNat ≠ 110) {v:Int} (hv:0≤v∧v≤255):XO (setArg c.toNat v q):=by
  rcases hc with rfl|rfl|rfl|rfl
  · exact ⟨hv,hq.2.1,hq.2.2.1,hq.2.2.2⟩
  · exact ⟨hq.1,hv,hq.2.2.1,hq.2.2.2⟩
  · exact ⟨hq.1,hq.2.1,hv,hq.2.2.2⟩
  · exact absurd rfl h
theorem zL:∀ (hs:List UInt8) (ws:List ByteArray) (q:Int × Int × Int × Int),hs.length=ws.length→(∀ c ∈ hs,D9 c)→hs.Nodup→(∀ w ∈ ws,okB w)→XO q →
    jy hs ws q=some none ∨ ∃ q',jy hs ws q=some (some q')∧XO q'∧ws=hs.map (fun c=>rU (D8 q' c.toNat))∧∀ d,D9 d→d ∉ hs→D8 q' d.toNat=D8 q d.toNat
  | [],[],q,_,_,_,_,hq=>Or.inr ⟨q,rfl,hq,rfl,fun _ _ _=>rfl⟩
  | [],_ :: _,q,hl,_,_,_,hq=>by cases hl
  | _ :: _,[],q,hl,_,_,_,hq=>by cases hl
  | c :: hs,w :: ws,q,hl,ha,hn,hw,hq=>by
    obtain ⟨n,e,h1,h2⟩:=JI (hw w (List.mem_cons_self ..))
    have hc:=ha c (List.mem_cons_self ..)
    have hnot:c ∉ hs:=(List.nodup_cons.1 hn).1
    have ih:=fun q' hq'=>zL hs ws q' (by simpa using hl) (fun x hx=>ha x (List.mem_cons_of_mem _ hx)) (List.nodup_cons.1 hn).2 (fun x hx=>hw x (List.mem_cons_of_mem _ hx)) hq'
    have uj:jy (c :: hs) (w :: ws) q=if e=0 then (if c.toNat=110 then jy hs ws (setArg 110 n q) else if 0≤n∧n≤255 then jy hs ws (setArg c.toNat n q) else some none) else some none:=by
      conv=>lhs;unfold jy
      rw [h1,Option.bind_some]
    have done:∀ q1,q1=setArg c.toNat n q→e=0→XO q1→jy (c :: hs) (w :: ws) q=jy hs ws q1 →
        jy (c :: hs) (w :: ws) q=some none ∨ ∃ q',jy (c :: hs) (w :: ws) q=some (some q')∧XO q'∧w :: ws=(c :: hs).map (fun c=>rU (D8 q' c.toNat))∧∀ d,D9 d→d ∉ c :: hs→D8 q' d.toNat=D8 q d.toNat:=by
      intro q1 h1q he hq1 heq
      rw [heq]
      rcases ih q1 hq1 with h|⟨q',e1,e2,e3,e4⟩
      · exact Or.inl h
      · refine Or.inr ⟨q',e1,e2,?_,fun d hd hx=>?_⟩
        · rw [List.map_cons,e4 c hc hnot,h1q,Nv q hc hc,if_pos rfl,(h2 he).2,← e3]
        · have hdc:d ≠ c:=fun h=>hx (by rw [h];exact List.mem_cons_self ..)
          rw [e4 d hd (fun h=>hx (List.mem_cons_of_mem _ h)),h1q,Nv q hc hd,if_neg hdc]
    by_cases he:e=0
    · rw [if_pos he] at uj
      by_cases hx:c.toNat=110
      · rw [if_pos hx] at uj
        exact done _ (by rw [hx]) he (abo hq (h2 he).1) uj
      · rw [if_neg hx] at uj
        by_cases hr:0≤n∧n≤255
        · rw [if_pos hr] at uj
          exact done _ rfl he (TC hq hc hx hr) uj
        · rw [if_neg hr] at uj
          exact Or.inl uj
    · rw [if_neg he] at uj
      exact Or.inl uj
theorem OE:∀ o:Fin 16,(pF o.val).data.toList.Nodup:=by decide +kernel
theorem Q4 (o:Fin 16):∀ ch ∈ (pF o.val).data.toList,D9 ch:=fun ch h=>OG o ch h
theorem has_is:∀ o:Fin 16,1≤o.val→letters (o.val:Int)=(pF o.val).data.toList:=by decide +kernel
theorem EW (l:List ByteArray) (hw:∀ w ∈ l,okB w):∀ d k,k+d=16→ve d k l=some (0,0,0,0,0,false) ∨
    ∃ (o:Nat) (q:Int × Int × Int × Int),1≤o∧o≤15∧ve d k l=some ((o:Int),q.1,q.2.1,q.2.2.1,q.2.2.2,true)∧XO q∧l=nameOf o :: (pF o).data.toList.map (fun c=>rU (D8 q c.toNat))∧∀ c,D9 c→c ∉ (pF o).data.toList→D8 q c.toNat=0
  | 0,k,hk=>Or.inl rfl
  | d+1,k,hk=>by
    have ih:=EW l hw d (k+1) (by omega)
    unfold ve
    split
    · exact ih
    · rename_i h
      have h0:k ≠ 0:=fun e=>h (Or.inl e)
      have h1:(nameOf k).toList=(eF ByteArray.empty l 0).toList:=Classical.byContradiction fun e=>h (Or.inr (Or.inl e))
      have h2:l.length=(pF k).size+1:=Classical.byContradiction fun e=>h (Or.inr (Or.inr e))
      cases hl:l with
      | nil=>rw [hl] at h2;cases h2
      | cons x ws =>
        rw [hl] at h1 h2
        have hx:x=nameOf k:=(ba_eq h1).symm
        have hlen:(pF k).data.toList.length=ws.length:=by
          rw [List.length_cons,size_data] at h2
          omega
        rw [List.tail_cons]
        rcases zL (pF k).data.toList ws (0,0,0,0) hlen (Q4 ⟨k,by omega⟩) (OE ⟨k,by omega⟩) (fun w hm=>hw w (by rw [hl];exact List.mem_cons_of_mem _ hm)) ⟨by decide,by decide,by decide,by decide⟩ with h|⟨q,e1,e2,e3,e4⟩
        · rw [h]
          exact Or.inl rfl
        · rw [e1]
          refine Or.inr ⟨k,q,by omega,by omega,rfl,e2,by rw [hx,← e3],fun c hc hn=>?_⟩
          rw [e4 c hc hn]
          rcases hc with rfl|rfl|rfl|rfl <;> rfl
theorem PW (l:List ByteArray) (hl:l ≠ []) (hw:∀ w ∈ l,okB w):mf.f l=some (0,0,0,0,0,false) ∨ ∃ x:jR,mf.f l=some (x.f0,x.f1,x.f2,x.f3,x.f4,true)∧l=FP x∧Dq x=true∧WfI x:=by
  have h0:0 < l.length:=List.length_pos_iff.2 hl
  unfold mf.f
  rw [if_pos h0]
  rcases EW l hw 16 0 rfl with h|⟨o,q,h1,h2,e1,e2,e3,e4⟩
  · exact Or.inl h
  · refine Or.inr ⟨⟨(o:Int),q.1,q.2.1,q.2.2.1,q.2.2.2⟩,e1,e3,?_,e2⟩
    have zero:∀ c:UInt8,D9 c→hasB (o:Int) c=true ∨ D8 q c.toNat=0:=by
      intro c hc
      by_cases hm:c ∈ (pF o).data.toList
      · left
        unfold hasB
        have hi:=has_is ⟨o,by omega⟩ h1
        simp only at hi
        rw [hi]
        simpa using hm
      · exact Or.inr (e4 c hc hm)
    have z1:=zero 97 (Or.inl rfl)
    have z2:=zero 98 (Or.inr (Or.inl rfl))
    have z3:=zero 99 (Or.inr (Or.inr (Or.inl rfl)))
    have z4:=zero 110 (Or.inr (Or.inr (Or.inr rfl)))
    unfold Dq ig.f
    simp only
    rw [if_neg (by omega),if_neg (by omega)]
    simp only [Option.getD_some,Bool.and_eq_true,Bool.or_eq_true,beq_iff_eq]
    exact ⟨⟨⟨z2,z3⟩,z4⟩,z1⟩
def sZ (l:List (List ByteArray)):Prop:=∀ ws ∈ l,ws ≠ []∧∀ w ∈ ws,okB w
theorem sG {l:List (List ByteArray)} {a:Nat} (h:a < l.length):dZ l (a:Int)=l[a]:=PX _ _ _ (List.getElem?_eq_getElem h)
theorem AZ (l:List (List ByteArray)) (hl:sZ l) (a:Nat) (nm:ByteArray):sH l a nm=some (⟨#[]⟩,false) ∨ ∃ s,sH l a nm=some (ql s,true)∧qj s=true∧∃ h:a < l.length,l[a]=[nm,ql s]:=by
  unfold sH
  by_cases ha:a < l.length
  · rw [if_pos ha,sG ha]
    have hk:=(hl l[a] (List.getElem_mem ha)).2
    match hm:l[a],hk with
    | [],_=>exact Or.inl rfl
    | [x],_=>exact Or.inl rfl
    | x :: y :: z :: r,_=>exact Or.inl (if_neg (by simp))
    | [x,y],hk =>
      rw [if_pos (show [x,y].length=2 from rfl)]
      by_cases hx:(eF ByteArray.empty [x,y] 0).toList=nm.toList
      · rw [if_pos hx]
        have hx':x=nm:=ba_eq hx
        subst hx'
        have hy:=hk y (by simp)
        rw [show eF ByteArray.empty [x,y] 1=y from rfl,Qg,Option.bind_some]
        by_cases Qs:qj y=true
        · rw [if_pos Qs]
          have hd:ql y=y:=by
            unfold ql
            rw [if_neg]
            rw [toList_data]
            exact hy.2
          exact Or.inr ⟨y,by rw [hd],Qs,ha,by rw [hm,hd]⟩
        · rw [if_neg Qs]
          by_cases h45:y.toList=[45]
          · rw [if_pos h45]
            have Ur:y=ql ⟨#[]⟩:=ba_eq (by rw [h45];decide +kernel)
            exact Or.inr ⟨⟨#[]⟩,by rw [Ur],by decide +kernel,ha,by rw [hm,Ur]⟩
          · rw [if_neg h45]
            exact Or.inl rfl
      · rw [if_neg hx]
        exact Or.inl rfl
  · rw [if_neg ha]
    exact Or.inl rfl
theorem drop_at {α:Type} {l:List α} {a:Nat} {x:α} (h:a < l.length) (e:l[a]=x):l.drop a=x :: l.drop (a+1):=by
  rw [List.drop_eq_getElem_cons h,e]
theorem ET (l:List (List ByteArray)) (ts:List ByteArray) (lo gl:ByteArray) (hl:sZ l):∀ (d a:Nat) (acc:List jR),l.length < d+a→a≤l.length→acc.length≤200 →
    (∃ m,tJ l ts lo gl d a acc=some (kU m)) ∨ ∃ cs,tJ l ts lo gl d a acc=some (ts,lo,gl,acc++cs,0,0)∧l.drop a=cs.map FP∧(∀ x ∈ cs,Dq x=true∧WfI x)∧acc.length+cs.length≤200
  | 0,a,acc,h,h2,_=>by omega
  | d+1,a,acc,h,h2,hc=>by
    unfold tJ
    by_cases ha:a < l.length
    · rw [if_pos ha,sG ha]
      have hk:=hl l[a] (List.getElem_mem ha)
      rcases PW l[a] hk.1 hk.2 with hr|⟨x,hr,hx,hx1,hx2⟩
      · rw [hr]
        exact Or.inl ⟨a,rfl⟩
      · rw [hr,Option.bind_some]
        simp only []
        rw [if_pos trivial]
        by_cases abV:acc.length < 200
        · rw [if_pos abV]
          rcases ET l ts lo gl hl d (a+1) (acc++[x]) (by omega) (by omega) (by simp;omega) with hw|⟨cs,e1,e2,e3,e4⟩
          · exact Or.inl hw
          · refine Or.inr ⟨x :: cs,by rw [List.append_assoc,List.singleton_append] at e1;exact e1,?_,?_,by simp at e4 ⊢;omega⟩
            · rw [drop_at ha hx,List.map_cons,e2]
            · intro y hy
              rcases List.mem_cons.1 hy with rfl|hy
              · exact ⟨hx1,hx2⟩
              · exact e3 y hy
        · rw [if_neg abV]
          exact Or.inl ⟨a,rfl⟩
    · rw [if_neg ha]
      exact Or.inr ⟨[],by rw [List.append_nil],by rw [List.drop_eq_nil_of_le (by omega)];rfl,(fun x hx=>by cases hx),by simpa using hc⟩
theorem N9 (l:List (List ByteArray)) (ts:List ByteArray) (hl:sZ l) (a:Nat):(∃ m,oN l ts 2 a ⟨#[]⟩ ⟨#[]⟩=some (kU m)) ∨
    ∃ lo gl cs,oN l ts 2 a ⟨#[]⟩ ⟨#[]⟩=some (ts,lo,gl,cs,0,0)∧l.drop a=JJ lo gl++cs.map FP∧(∀ x ∈ cs,Dq x=true∧WfI x)∧cs.length≤200∧qj lo=true∧qj gl=true:=by
  unfold oN
  rw [if_pos rfl]
  rcases AZ l hl a ⟨#[108,111,99,97,108,115]⟩ with h|⟨lo,h,hlo,ha,e⟩
  · rw [h]
    exact Or.inl ⟨a,rfl⟩
  · rw [h,Option.bind_some]
    simp only []
    rw [if_pos trivial,yu hlo,Option.bind_some,if_pos trivial]
    unfold oN
    rw [if_neg (by decide)]
    rcases AZ l hl (a+1) ⟨#[103,108,111,98,97,108,115]⟩ with h'|⟨gl,h',hgl,ha',e'⟩
    · rw [h']
      exact Or.inl ⟨a+1,rfl⟩
    · rw [h',Option.bind_some]
      simp only []
      rw [if_pos trivial,yu hgl,Option.bind_some,if_neg (by decide)]
      unfold oN
      rcases ET l ts lo gl hl (l.length+1) (a+1+1) [] (by omega) (by omega) (by simp) with hw|⟨cs,e1,e2,e3,e4⟩
      · exact Or.inl hw
      · refine Or.inr ⟨lo,gl,cs,e1,?_,e3,by simpa using e4,hlo,hgl⟩
        rw [drop_at ha e,drop_at ha' e',e2]
        rfl
theorem ES (l:List (List ByteArray)) (hl:sZ l):∀ (d a:Nat) (acc:List ByteArray),l.length < d+a→a≤l.length→(∀ s ∈ acc,okT s=true)→(∃ m,uZ l d a acc=some (kU m)) ∨
    ∃ ts lo gl cs,uZ l d a acc=some (acc++ts,lo,gl,cs,0,0)∧l.drop a=JK ts lo gl cs∧OkP (acc++ts) lo gl cs∧∀ x ∈ cs,WfI x
  | 0,a,acc,h,h2,_=>by omega
  | d+1,a,acc,h,h2,hs=>by
    have names:(∃ m,oN l acc 2 a ⟨#[]⟩ ⟨#[]⟩=some (kU m)) ∨ ∃ ts lo gl cs,oN l acc 2 a ⟨#[]⟩ ⟨#[]⟩=some (acc++ts,lo,gl,cs,0,0)∧l.drop a=JK ts lo gl cs∧OkP (acc++ts) lo gl cs∧∀ x ∈ cs,WfI x:=by
      rcases N9 l acc hl a with hw|⟨lo,gl,cs,e1,e2,e3,e4,e5,e6⟩
      · exact Or.inl hw
      · refine Or.inr ⟨[],lo,gl,cs,by rw [List.append_nil];exact e1,by rw [e2];rfl,⟨by rw [List.append_nil];exact hs,fun x hx=>(e3 x hx).1,e5,e6,e4⟩,fun x hx=>(e3 x hx).2⟩
    unfold uZ
    by_cases ha:a < l.length
    · have hk:=hl l[a] (List.getElem_mem ha)
      rw [if_pos ha,sG ha,if_pos (List.length_pos_iff.2 hk.1)]
      by_cases ht:(eF ByteArray.empty l[a] 0).toList=[116,121,112,101]
      · rw [if_pos ht]
        rcases AZ l hl a ⟨#[116,121,112,101]⟩ with h'|⟨s,h',hs',ha',e⟩
        · rw [h']
          exact Or.inl ⟨a,rfl⟩
        · rw [h',Option.bind_some]
          simp only []
          rw [if_pos trivial]
          by_cases h45:(ql s).toList=[45]
          · rw [if_pos h45]
            exact Or.inl ⟨a,rfl⟩
          · rw [if_neg h45]
            have hne:s.toList ≠ []:=fun h0=>h45 (by unfold ql;rw [if_pos h0];decide +kernel)
            have hds:ql s=s:=by unfold ql;rw [if_neg hne]
            rw [hds] at e ⊢
            have hok:okT s=true:=by
              unfold okT
              simp only [Bool.and_eq_true,decide_eq_true_eq]
              exact ⟨hne,hs'⟩
            rcases ES l hl d (a+1) (acc++[s]) (by omega) (by omega) (by
              intro x hx
              rcases List.mem_append.1 hx with hx|hx
              · exact hs x hx
              · rw [List.mem_singleton.1 hx];exact hok) with hw|⟨ts,lo,gl,cs,e1,e2,e3,e4⟩
            · exact Or.inl hw
            · rw [List.append_assoc,List.singleton_append] at e1 e3
              refine Or.inr ⟨s :: ts,lo,gl,cs,e1,?_,e3,e4⟩
              rw [drop_at ha' e,e2]
              rfl
      · rw [if_neg ht]
        exact names
    · rw [if_neg ha]
      exact names
theorem F9 {L:List (List (List UInt8))} (h:∀ ws ∈ L,ws ≠ []∧∀ w ∈ ws,F8 w=true∧w ≠ []):sZ (conv L):=by
  intro ws hm
  obtain ⟨x,hx,rfl⟩:=List.mem_map.1 hm
  refine ⟨by simpa using (h x hx).1,fun w hw=>?_⟩
  obtain ⟨y,hy,rfl⟩:=List.mem_map.1 hw
  exact (h x hx).2 y hy
theorem Gf (s:ByteArray):((xM s).1=[]∧(xM s).2.2 ≠ 0) ∨ ∃ L,xM s=(L,0,0)∧L=tZ (qi 10 s.data.toList)∧∀ ws ∈ L,ws ≠ []∧∀ w ∈ ws,F8 w=true∧w ≠ []:=by
  unfold xM
  rcases SI (qi 10 s.data.toList) with h|⟨a,x,b,e,ha,hx⟩
  · refine Or.inr ⟨tZ (qi 10 s.data.toList),?_,rfl,fun ws hm=>OZ h hm⟩
    rw [XT h]
    rfl
  · left
    rw [e,aaz ha _ _ x hx b]
    exact ⟨rfl,by simp⟩
theorem Ov {L:List (List (List UInt8))} (h:∀ ws ∈ L,ws ≠ []):tot L=(joinL L).length+L.length∧L.length≤(joinL L).length:=by
  induction L with
  | nil=>exact ⟨rfl,Nat.le_refl _⟩
  | cons x r ih =>
    have ih:=ih fun ws hm=>h ws (List.mem_cons_of_mem _ hm)
    have hx:=h x (List.mem_cons_self ..)
    cases x with
    | nil=>exact absurd rfl hx
    | cons w ws =>
      rw [Di,EN,JO,Lib.join_cons,List.length_append,List.length_append,Io,List.length_cons,List.length_cons]
      omega
theorem Pz {s:ByteArray} (hs:s.size≤4000) {L:List (List (List UInt8))} (e:L=tZ (qi 10 s.data.toList)) (h:∀ ws ∈ L,ws ≠ []∧∀ w ∈ ws,F8 w=true∧w ≠ []):tot L≤18000:=by
  have a:=Ov fun ws hm=>(h ws hm).1
  have b:=Ou s.data.toList
  rw [← e,← size_data] at b
  omega
end Go.Proofs.YtkclndkbccbhaaaGreatDoor.P
end
section
namespace Go.Proofs.YtkclndkbccbhaaaGreatDoor.P
open Go Go.RowKit Go.Proofs.ag.bK Go.Proofs.ag.dV Go.Proofs.ag.fE
theorem Ol (c:UInt8) (X:Option Bool) :
    (if (c.toNat:Int) ≥ 97 then (if (c.toNat:Int)≤122 then X else (if (c.toNat:Int) ≥ 48 then (if (c.toNat:Int)≤57 then X else (if ((c.toNat:Int)=45) then X else (some false))) else (if ((c.toNat:Int)=45) then X else (some false)))) else (if (c.toNat:Int) ≥ 48 then (if (c.toNat:Int)≤57 then X else (if ((c.toNat:Int)=45) then X else (some false))) else (if ((c.toNat:Int)=45) then X else (some false))))=if Og c=true then X else some false:=by
  unfold Og
  simp only [Bool.or_eq_true,decide_eq_true_eq]
  by_cases h1:97≤c.toNat <;> by_cases h2:c.toNat≤122 <;> by_cases h3:48≤c.toNat <;> by_cases h4:c.toNat≤57 <;> by_cases h5:c.toNat=45
  all_goals first
    | omega
    | (repeat' split) <;> first|rfl|omega
theorem Qb (w:List UInt8) (hw:w.length≤140737488355328):∀ (d i:Nat),i+d=w.length →
    Ev (fun k=>bg.l0 k (Bs w) (i:Int)) ((w.drop i).all Og && decide (1≤w.length) && decide (w.length≤30))
  | 0,i,hi=>by
    rw [List.drop_eq_nil_of_le (by omega)]
    refine Ev.step (f:=fun _=>some _) (fun k=>?_) (Ev.now _)
    simp only [bg.l0]
    rw [fP,if_neg (by omega)]
    simp only [List.all_nil,Bool.true_and]
    by_cases h1:1≤w.length
    · rw [if_pos (by omega),decide_eq_true h1,Bool.true_and]
      congr 1
      exact decide_eq_decide.2 (by omega)
    · rw [if_neg (by omega),decide_eq_false h1,Bool.false_and]
  | d+1,i,hi=>by
    have hlt:i < w.length:=by omega
    have hc:w[i]? = some w[i]:=List.getElem?_eq_getElem hlt
    have hdr:w.drop i=w[i] :: w.drop (i+1):=List.drop_eq_getElem_cons hlt
    generalize w[i]=c at hc hdr
    have uj:∀ k,bg.l0 (k+1) (Bs w) (i:Int)=if Og c=true then bg.l0 k (Bs w) ((i+1:Nat):Int) else some false:=by
      intro k
      rw [← Ol c,← BL w i c hc,← jD i (by omega)]
      conv=>lhs;simp only [bg.l0]
      rw [fP,if_pos (by omega),if_pos (by omega)]
    rw [hdr,List.all_cons]
    cases ho:Og c with
    | true =>
      rw [Bool.true_and]
      exact Ev.step (fun k=>by rw [uj k,if_pos ho]) (Qb w hw d (i+1) (by omega))
    | false =>
      simp only [Bool.false_and]
      exact Ev.step (f:=fun _=>some _) (fun k=>by rw [uj k,if_neg (by rw [ho];simp)]) (Ev.now _)
def EL (w:List UInt8):Bool:=w.all Og && decide (1≤w.length) && decide (w.length≤30)
theorem Qc (w:List UInt8) (hw:w.length≤140737488355328):Ev (fun k=>bg.f k (Bs w)) (EL w):=Qb w hw w.length 0 (Nat.zero_add _)
theorem Ui {w:List UInt8} (h:w ≠ []):EL w=F8 w:=by
  have:1≤w.length:=List.length_pos_iff.2 h
  unfold EL F8
  rw [decide_eq_true this,Bool.and_true,Bool.and_comm]
def Bz (cur:List UInt8):List UInt8→List (List UInt8)
  | []=>if cur=[] then [] else [cur]
  | c :: r=>if c=35 then (if cur=[] then [] else [cur]) else if c=32 then (if cur=[] then [] else [cur])++Bz [] r else Bz (cur++[c]) r
theorem Qe (cur l:List UInt8) (h:(32:UInt8) ∉ cur):Bz cur l=(qi 32 (cur++l.takeWhile (· ≠ 35))).filter (· ≠ []):=by
  have one:∀ cur:List UInt8,([cur]:List (List UInt8)).filter (· ≠ [])=if cur=[] then [] else [cur]:=by
    intro cur
    by_cases e:cur=[] <;> simp [e]
  induction l generalizing cur with
  | nil =>
    rw [List.takeWhile_nil,List.append_nil,rH 32 h,one]
    rfl
  | cons c r ih =>
    rw [List.takeWhile_cons]
    unfold Bz
    by_cases e:c=35
    · subst e
      simp only [ne_eq,not_true_eq_false,decide_false,Bool.false_eq_true,if_false,if_true]
      rw [List.append_nil,rH 32 h,one]
    · have hd:(decide (c ≠ 35))=true:=by simpa using e
      rw [if_neg e,if_pos hd]
      by_cases e2:c=32
      · subst e2
        rw [if_pos rfl,FY,List.filter_append,rH 32 h,one,ih [] (by simp),List.nil_append]
      · rw [if_neg e2,ih (cur++[c]) (by simp only [List.mem_append,List.mem_singleton,not_or];exact ⟨h,fun e'=>e2 e'.symm⟩)]
        simp
theorem JL (l:List UInt8):Bz [] l=toks l:=by
  rw [Qe [] l (by simp)]
  rfl
theorem CO (w:List UInt8) (hw:w.length≤1000000):∀ (d i:Nat),i+d=w.length→∀ (acc:List (List UInt8)) (cur:List UInt8),acc.length≤i→cur.length≤i →
    Ev (fun k=>bC.l0 k (Bs w) (acc.map Bs) (Bs cur) (i:Int)) ((acc++Bz cur (w.drop i)).map Bs)
  | 0,i,hi,acc,cur,ha,hc=>by
    rw [List.drop_eq_nil_of_le (by omega)]
    refine Ev.step (f:=fun _=>some _) (fun k=>?_) (Ev.now _)
    simp only [bC.l0]
    rw [fP,if_neg (by omega),lu]
    unfold Bz
    by_cases e:cur=[]
    · rw [if_pos e,if_pos e,List.append_nil]
    · rw [if_neg e,if_neg e,if_pos (by rw [List.length_map];omega),List.map_append]
      rfl
  | d+1,i,hi,acc,cur,ha,ann=>by
    have hlt:i < w.length:=by omega
    have hc:w[i]? = some w[i]:=List.getElem?_eq_getElem hlt
    have hdr:w.drop i=w[i] :: w.drop (i+1):=List.drop_eq_getElem_cons hlt
    generalize w[i]=c at hc hdr
    have hb:=BL w i c hc
    have hx:=IM w i c hc
    rw [hdr]
    unfold Bz
    have e0:Bs ([]:List UInt8)=(⟨#[]⟩:ByteArray):=rfl
    by_cases e:c=35
    · subst e
      rw [if_pos rfl]
      refine Ev.step (f:=fun _=>some _) (fun k=>?_) (Ev.now _)
      simp only [bC.l0]
      rw [fP,if_pos (by omega),if_pos (by omega),hb,if_pos (by decide),lu]
      by_cases e:cur=[]
      · rw [if_pos e,if_pos e,List.append_nil]
      · rw [if_neg e,if_neg e,if_pos (by rw [List.length_map];omega),List.map_append]
        rfl
    · have n35:¬ (c.toNat:Int)=35:=fun h=>e (UInt8.toNat_inj.1 (by show c.toNat=35;omega))
      rw [if_neg e]
      by_cases e2:c=32
      · subst e2
        rw [if_pos rfl]
        by_cases e3:cur=[]
        · subst e3
          rw [if_pos rfl,List.nil_append]
          refine Ev.step (fun k=>?_) (CO w hw d (i+1) (by omega) acc [] (by omega) (by simp))
          conv=>lhs;simp only [bC.l0]
          rw [fP,if_pos (by omega),if_pos (by omega),hb,if_neg (by decide),if_pos (by decide),lu,if_pos rfl,jD i (by omega)]
          rfl
        · rw [if_neg e3]
          have:=CO w hw d (i+1) (by omega) (acc++[cur]) [] (by rw [List.length_append,List.length_singleton];omega) (by simp)
          rw [List.append_assoc] at this
          refine Ev.step (fun k=>?_) this
          conv=>lhs;simp only [bC.l0]
          rw [fP,if_pos (by omega),if_pos (by omega),hb,if_neg (by decide),if_pos (by decide),lu,if_neg e3,if_pos (by rw [List.length_map];omega),jD i (by omega),List.map_append]
          rfl
      · have n32:¬ (c.toNat:Int)=32:=fun h=>e2 (UInt8.toNat_inj.1 (by show c.toNat=32;omega))
        rw [if_neg e2]
        have:=CO w hw d (i+1) (by omega) acc (cur++[c]) (by omega) (by rw [List.length_append,List.length_singleton];omega)
        refine Ev.step (fun k=>?_) this
        conv=>lhs;simp only [bC.l0]
        rw [jD i (by omega)]
        have h1:((i:Int)).toNat=i:=Int.toNat_natCast i
        have h2:(((i+1:Nat):Int)).toNat=i+1:=Int.toNat_natCast (i+1)
        rw [h1,h2,hx,fP,fP,fP,if_pos (by omega),if_pos (by omega),hb,if_neg n35,if_neg n32,if_pos (by omega),if_pos (by omega),if_pos (by simp only [List.length_singleton];omega),aaL]
theorem Uk (w:List UInt8) (hw:w.length≤1000000):Ev (fun k=>bC.f k (Bs w)) ((toks w).map Bs):=by
  have:=CO w hw w.length 0 (Nat.zero_add _) [] [] (Nat.le_refl _) (Nat.le_refl _)
  rw [List.drop_zero,JL,List.nil_append] at this
  exact this
theorem PM (s:List UInt8) (hs:s.length≤100000) (x5:List (List ByteArray)) (hx5:x5.length≤1000000) (n i:Nat) (hn:n < 1000000) (hi:i < 1000000) (t:List (List UInt8)) (ht:t.length≤1000000) (h0:∀ w ∈ t,w ≠ []∧w.length≤1000000) :
    ∀ (d j:Nat),j+d=t.length →
      (((t.drop j).all F8=false→Ev (fun k=>aI.l1 k (Bs s) x5 (n:Int) (i:Int) (t.map Bs) (j:Int)) ([],(n:Int),4)) ∧
       ((t.drop j).all F8=true→∀ r,Ev (fun k=>aI.l0 k (Bs s) (x5++conv (keep t)) ((i+1:Nat):Int) ((n+1:Nat):Int) ((i+1:Nat):Int)) r →
        Ev (fun k=>aI.l1 k (Bs s) x5 (n:Int) (i:Int) (t.map Bs) (j:Int)) r))
  | 0,j,hj=>by
    rw [List.drop_eq_nil_of_le (by omega)]
    refine ⟨fun h=>by simp at h,fun _ r hr=>Ev.step (fun k=>?_) hr⟩
    simp only [aI.l1]
    rw [List.length_map,if_neg (by omega),jD i (by omega),jD n (by omega)]
    by_cases e:t=[]
    · subst e
      rw [if_neg (by simp)]
      simp [keep,conv]
    · have hp:0 < t.length:=List.length_pos_iff.2 e
      rw [if_pos (by omega),if_pos (by omega)]
      simp [keep,conv,e]
  | d+1,j,hj=>by
    have hlt:j < t.length:=by omega
    have hw:t[j]? = some t[j]:=List.getElem?_eq_getElem hlt
    have hdr:t.drop j=t[j] :: t.drop (j+1):=List.drop_eq_getElem_cons hlt
    have hm:=h0 t[j] (List.getElem_mem hlt)
    generalize t[j]=w at hw hdr hm
    have ih:=PM s hs x5 hx5 n i hn hi t ht h0 d (j+1) (by omega)
    have hmay:=Qc w (Nat.le_trans hm.2 (by decide))
    rw [Ui hm.1] at hmay
    have uj:∀ k,aI.l1 (k+1) (Bs s) x5 (n:Int) (i:Int) (t.map Bs) (j:Int)=(bg.f k (Bs w)).bind fun t165=>if t165=true then aI.l1 k (Bs s) x5 (n:Int) (i:Int) (t.map Bs) ((j+1:Nat):Int) else some ([],(n:Int),4):=by
      intro k
      conv=>lhs;simp only [aI.l1]
      rw [List.length_map,if_pos (by omega),if_pos (by omega),PY t j w hw,jD j (by omega)]
    rw [hdr,List.all_cons]
    cases ho:F8 w with
    | true =>
      rw [ho] at hmay
      rw [Bool.true_and]
      refine ⟨fun hf=>Ev.step uj (Ev.bind hmay ?_),fun htr r hr=>Ev.step uj (Ev.bind hmay ?_)⟩
      · exact Ev.congr (fun k=>if_pos rfl) (ih.1 hf)
      · exact Ev.congr (fun k=>if_pos rfl) (ih.2 htr r hr)
    | false =>
      rw [ho] at hmay
      rw [Bool.false_and]
      refine ⟨fun _=>Ev.step uj (Ev.bind hmay ?_),fun htr=>by cases htr⟩
      exact Ev.congr (f:=fun _=>some _) (fun k=>if_neg (by simp)) (Ev.now _)
theorem FZ (s:List UInt8) (hs:s.length≤20000):∀ (d i:Nat),i+d=s.length+1→∀ (fr n:Nat) (acc:List (List (List UInt8))),fr≤i→n≤i→acc.length≤n→(10:UInt8) ∉ (s.drop fr).take (i - fr) →
    Ev (fun k=>aI.l0 k (Bs s) (conv acc) (fr:Int) ((n+1:Nat):Int) (i:Int)) (if i=s.length+1 then ED (acc,0,0) else ED (LR n acc (qi 10 (s.drop fr))))
  | 0,i,hi,fr,n,acc,hf,hn,ha,hnl=>by
    rw [if_pos (by omega)]
    refine Ev.step (f:=fun _=>some _) (fun k=>?_) (Ev.now _)
    simp only [aI.l0]
    rw [fP,if_neg (by omega)]
    rfl
  | d+1,i,hi,fr,n,acc,hf,hn,ha,hnl=>by
    rw [if_neg (by omega)]
    have fin:∀ rest:List (List UInt8),qi 10 (s.drop fr)=(s.drop fr).take (i - fr) :: rest→(∀ acc':List (List (List UInt8)),acc'.length≤n+1→Ev (fun k=>aI.l0 k (Bs s) (conv acc') ((i+1:Nat):Int) ((n+1+1:Nat):Int) ((i+1:Nat):Int)) (ED (LR (n+1) acc' rest))) →
        Ev (fun k=>aI.j1 k (Bs s) (conv acc) (fr:Int) ((n+1:Nat):Int) (i:Int) false) (ED (LR n acc (qi 10 (s.drop fr)))):=by
      intro rest hsp hr
      rw [hsp]
      generalize hx:(s.drop fr).take (i - fr)=x
      have hxl:x.length≤20000:=by
        rw [← hx,List.length_take,List.length_drop];omega
      have uj:∀ k,aI.j1 (k+1) (Bs s) (conv acc) (fr:Int) ((n+1:Nat):Int) (i:Int) false=(bC.f k (Bs x)).bind fun t161=>aI.l1 k (Bs s) (conv acc) ((n+1:Nat):Int) (i:Int) t161 ((0:Nat):Int):=by
        intro k
        conv=>lhs;simp only [aI.j1]
        have h1:((i:Int)).toNat=i:=Int.toNat_natCast i
        have h2:((fr:Int)).toNat=fr:=Int.toNat_natCast fr
        rw [h1,h2,wV s fr i,hx,fP,if_neg (by simp),if_pos (by omega),if_pos (by omega),if_pos (by omega)]
        rfl
      refine Ev.step uj (Ev.bind (Uk x (by omega)) ?_)
      have h:=PM s (by omega) (conv acc) (by rw [xP];omega) (n+1) i (by omega) (by omega) (toks x) (by have:=PD x;omega) (fun w hw=>⟨(zI rfl w hw).1,by have:=(zI rfl w hw).2;omega⟩) (toks x).length 0 (Nat.zero_add _)
      rw [List.drop_zero] at h
      unfold LR
      cases ho:Oh x with
      | true =>
        rw [if_pos rfl]
        refine h.2 ho _ ?_
        rw [← IQ]
        refine hr _ ?_
        rw [List.length_append]
        have:(keep (toks x)).length≤1:=by unfold keep;split <;> simp
        omega
      | false =>
        rw [if_neg (by simp)]
        exact h.1 ho
    by_cases he:i=s.length
    ·
      subst he
      have hsp:qi 10 (s.drop fr)=(s.drop fr).take (s.length - fr) :: []:=by
        have e:(s.drop fr).take (s.length - fr)=s.drop fr:=List.take_of_length_le (by rw [List.length_drop];omega)
        rw [e] at hnl ⊢
        exact rH 10 hnl
      refine Ev.step (f:=fun k=>aI.j1 k (Bs s) (conv acc) (fr:Int) ((n+1:Nat):Int) ((s.length:Nat):Int) false) (fun k=>?_) ?_
      · conv=>lhs;simp only [aI.l0]
        rw [fP,if_pos (by omega),if_neg (by omega)]
      · refine fin [] hsp fun acc' ha'=>?_
        have h:=FZ s hs d (s.length+1) (by omega) (s.length+1) (n+1) acc' (Nat.le_refl _) (by omega) ha' (by simp)
        rw [if_pos rfl] at h
        exact h
    · have hlt:i < s.length:=by omega
      have hc:s[i]? = some s[i]:=List.getElem?_eq_getElem hlt
      have hdr:s.drop i=s[i] :: s.drop (i+1):=List.drop_eq_getElem_cons hlt
      generalize s[i]=c at hc hdr
      have hb:=BL s i c hc
      have hsplit:s.drop fr=(s.drop fr).take (i - fr)++c :: s.drop (i+1):=by
        have h1:=(List.take_append_drop (i - fr) (s.drop fr)).symm
        rw [List.drop_drop,show fr+(i - fr)=i from by omega,hdr] at h1
        exact h1
      by_cases e:c=10
      · subst e
        have hsp:qi 10 (s.drop fr)=(s.drop fr).take (i - fr) :: qi 10 (s.drop (i+1)):=by
          conv=>lhs;rw [hsplit]
          rw [FY,rH 10 hnl]
          rfl
        refine Ev.step (f:=fun k=>aI.j1 k (Bs s) (conv acc) (fr:Int) ((n+1:Nat):Int) (i:Int) false) (fun k=>?_) ?_
        · conv=>lhs;simp only [aI.l0]
          rw [fP,if_pos (by omega),if_pos (by omega),if_pos (by omega),hb]
          rfl
        · refine fin _ hsp fun acc' ha'=>?_
          have h:=FZ s hs d (i+1) (by omega) (i+1) (n+1) acc' (Nat.le_refl _) (by omega) ha' (by simp)
          rw [if_neg (by omega)] at h
          exact h
      · have ne:((c.toNat:Int) != 10)=true:=by
          rw [bne_iff_ne]
          intro h
          exact e (UInt8.toNat_inj.1 (by show c.toNat=10;omega))
        have h:=FZ s hs d (i+1) (by omega) fr n acc (by omega) (by omega) ha (by
          rw [show i+1 - fr=(i - fr)+1 from by omega,List.take_add_one]
          have hg:(s.drop fr)[i - fr]? = some c:=by
            rw [List.getElem?_drop,show fr+(i - fr)=i from by omega,hc]
          rw [hg]
          simp only [Option.toList_some,List.mem_append,List.mem_singleton,not_or]
          exact ⟨hnl,fun e'=>e e'.symm⟩)
        rw [if_neg (by omega)] at h
        refine Ev.step (f:=fun k=>aI.j1 k (Bs s) (conv acc) (fr:Int) ((n+1:Nat):Int) (i:Int) true) (fun k=>?_) (Ev.step (fun k=>?_) h)
        · conv=>lhs;simp only [aI.l0]
          rw [fP,if_pos (by omega),if_pos (by omega),if_pos (by omega),hb,ne]
        · conv=>lhs;simp only [aI.j1]
          rw [if_pos trivial,jD i (by omega)]
theorem N8 (s:ByteArray) (hs:s.size≤20000):Ev (fun k=>aI.f k s) (ED (xM s)):=by
  have h:=FZ s.data.toList (by rw [yI];exact hs) (s.data.toList.length+1) 0 (by omega) 0 0 [] (Nat.le_refl _) (Nat.le_refl _) (Nat.le_refl _) (by simp)
  rw [if_neg (by omega),List.drop_zero,lZ] at h
  refine Ev.congr (fun k=>?_) h
  unfold aI.f
  rw [if_neg (by omega)]
  rfl
theorem bt0 (c:UInt8) (r:List UInt8):bt (Bs (c :: r)) 0=(c.toNat:Int):=BL (c :: r) 0 c rfl
theorem RG (D:List UInt8) (hD:D.length≤100000):∀ (d i:Nat),i+d=D.length→Ev (fun k=>aA.l0 k (Bs D) (i:Int)) ((D.drop i).all BB)
  | 0,i,hi=>by
    rw [List.drop_eq_nil_of_le (by omega)]
    refine Ev.step (f:=fun _=>some true) (fun k=>?_) (Ev.now _)
    simp only [aA.l0]
    rw [fP,if_neg (by omega)]
  | d+1,i,hi=>by
    have hlt:i < D.length:=by omega
    have hc:D[i]? = some D[i]:=List.getElem?_eq_getElem hlt
    have hdr:D.drop i=D[i] :: D.drop (i+1):=List.drop_eq_getElem_cons hlt
    generalize D[i]=c at hc hdr
    have hb:=BL D i c hc
    rw [hdr,List.all_cons]
    have ih:=RG D hD d (i+1) (by omega)
    cases hd:BB c with
    | true =>
      have h2:=hd
      simp only [BB,decide_eq_true_eq] at h2
      rw [Bool.true_and]
      refine Ev.step (fun k=>?_) ih
      conv=>lhs;simp only [aA.l0]
      rw [fP,if_pos (by omega),if_pos (by omega),hb,if_neg (by omega),if_neg (by omega),jD i (by omega)]
    | false =>
      have h2:=hd
      simp only [BB,decide_eq_false_iff_not] at h2
      rw [Bool.false_and]
      refine Ev.step (f:=fun _=>some false) (fun k=>?_) (Ev.now _)
      conv=>lhs;simp only [aA.l0]
      rw [fP,if_pos (by omega),if_pos (by omega),hb]
      by_cases h3:(c.toNat:Int) < 48
      · rw [if_pos h3]
      · rw [if_neg h3,if_pos (by omega)]
theorem aak (w D:List UInt8) (hD:D.length≤100000):Ev (fun k=>aA.j1 k (Bs w) (Bs D)) (!D.isEmpty && !(D.head? == some 48 && decide (1 < D.length ∨ 1 < w.length)) && D.all BB):=by
  cases D with
  | nil =>
    refine Ev.step (f:=fun k=>aA.j2 k (Bs []) true) (fun k=>?_) (Ev.step (f:=fun _=>some false) (fun k=>?_) (Ev.now _))
    · conv=>lhs;simp only [aA.j1]
      rw [lu,if_pos rfl]
    · simp only [aA.j2]
      rw [if_pos trivial]
  | cons c r =>
    have hb:=bt0 c r
    have h0:=RG (c :: r) hD (c :: r).length 0 (Nat.zero_add _)
    rw [List.drop_zero] at h0
    have fin:∀ b:Bool,Ev (fun k=>aA.j2 k (Bs (c :: r)) b) (!b && (c :: r).all BB):=by
      intro b
      cases b with
      | true=>exact Ev.step (f:=fun _=>some false) (fun k=>by simp only [aA.j2];rw [if_pos trivial]) (Ev.now _)
      | false=>exact Ev.step (fun k=>by simp only [aA.j2];rw [if_neg (by simp)]) (by rw [Bool.not_false,Bool.true_and];exact h0)
    have hlen:(Bs (c :: r)).size=(c :: r).length:=fP _
    by_cases h48:c=48
    · subst h48
      by_cases hr:1 < ((48:UInt8) :: r).length
      · have:=fin true
        refine Ev.step (f:=fun k=>aA.j2 k (Bs (48 :: r)) true) (fun k=>?_) ?_
        · conv=>lhs;simp only [aA.j1]
          rw [lu,if_neg (by simp),hlen,if_pos (by simp only [List.length_cons];omega),hb,if_pos (by decide),if_pos (by omega)]
        · rw [show (!((48:UInt8) :: r).isEmpty && !(((48:UInt8) :: r).head? == some 48 && decide (1 < ((48:UInt8) :: r).length ∨ 1 < w.length)) && ((48:UInt8) :: r).all BB)=(!true && ((48:UInt8) :: r).all BB) from by rw [decide_eq_true (Or.inl hr)];simp]
          exact this
      · refine Ev.step (f:=fun k=>aA.j2 k (Bs (48 :: r)) (decide (1 < w.length))) (fun k=>?_) ?_
        · conv=>lhs;simp only [aA.j1]
          rw [lu,if_neg (by simp),hlen,if_pos (by simp only [List.length_cons];omega),hb,if_pos (by decide),if_neg (by omega),fP]
          congr 1
          exact decide_eq_decide.2 (by omega)
        · have hd:decide (1 < ((48:UInt8) :: r).length ∨ 1 < w.length)=decide (1 < w.length):=decide_eq_decide.2 ⟨fun h=>h.resolve_left hr,Or.inr⟩
          rw [hd]
          have:=fin (decide (1 < w.length))
          simpa using this
    · have hne:¬ (c.toNat:Int)=48:=fun h=>h48 (UInt8.toNat_inj.1 (by show c.toNat=48;omega))
      refine Ev.step (f:=fun k=>aA.j2 k (Bs (c :: r)) false) (fun k=>?_) ?_
      · conv=>lhs;simp only [aA.j1]
        rw [lu,if_neg (by simp),hlen,if_pos (by simp only [List.length_cons];omega),hb,if_neg hne]
      · have:=fin false
        have hcb:(c == 48)=false:=by simp [h48]
        simpa [hcb] using this
theorem O3 (w:List UInt8) (hw:w.length≤10000):Ev (fun k=>aA.f k (Bs w)) (rM w):=by
  have hle:(unsigned w).length≤w.length:=trimPrefix_le w [45]
  have hj:=aak w (unsigned w) (by omega)
  have hr:(!(unsigned w).isEmpty && !((unsigned w).head? == some 48 && decide (1 < (unsigned w).length ∨ 1 < w.length)) && (unsigned w).all BB)=rM w:=by
    rw [Bool.eq_iff_iff,AX]
    simp only [Bool.and_eq_true,Bool.not_eq_true',List.isEmpty_eq_false_iff,Bool.and_eq_false_iff,beq_eq_false_iff_ne,decide_eq_false_iff_not,List.all_eq_true]
    have key:(unsigned w).head? = some 48→(w=[48] ↔ ¬ (1 < (unsigned w).length ∨ 1 < w.length)):=by
      intro hh
      constructor
      · rintro rfl;decide
      · intro hn
        obtain ⟨neg,hs,_⟩:=signed w
        cases hu:unsigned w with
        | nil=>rw [hu] at hh;cases hh
        | cons c r =>
          rw [hu] at hh hs hn
          simp only [List.head?_cons,Option.some.injEq] at hh
          subst hh
          have hrl:r=[]:=by
            cases r with
            | nil=>rfl
            | cons a b=>simp at hn
          subst hrl
          cases neg with
          | true=>rw [hs] at hn;simp at hn
          | false=>exact hs
    constructor
    · rintro ⟨⟨h1,h2⟩,h3⟩
      exact ⟨h1,h3,fun hh=>(key hh).2 (by rcases h2 with h2|h2;exact absurd hh h2;exact h2)⟩
    · rintro ⟨h1,h2,h3⟩
      refine ⟨⟨h1,?_⟩,h2⟩
      by_cases hh:(unsigned w).head? = some 48
      · exact .inr ((key hh).1 (h3 hh))
      · exact .inl hh
  rw [hr] at hj
  cases w with
  | nil =>
    refine Ev.congr (f:=fun k=>aA.j0 k (Bs []) (Bs []) false) (fun k=>?_) (Ev.step (fun k=>?_) hj)
    · unfold aA.f
      rw [fP,if_neg (by simp)]
    · conv=>lhs;simp only [aA.j0]
      rw [if_neg (by simp)]
      rfl
  | cons c r =>
    have hb:=bt0 c r
    refine Ev.congr (f:=fun k=>aA.j0 k (Bs (c :: r)) (Bs (c :: r)) (bt (Bs (c :: r)) 0 == 45)) (fun k=>?_) ?_
    · unfold aA.f
      rw [fP,if_pos (by simp only [List.length_cons];omega),if_pos (by simp only [List.length_cons];omega)]
    · rw [hb]
      by_cases e:c=45
      · subst e
        refine Ev.step (fun k=>?_) hj
        conv=>lhs;simp only [aA.j0]
        rw [fP,if_pos (by decide),if_pos (by simp only [List.length_cons];omega),wV]
        rw [zH]
        congr 2
        simp
      · have hne:((c.toNat:Int) == 45)=false:=beq_eq_false_iff_ne.2 fun h=>e (UInt8.toNat_inj.1 (by show c.toNat=45;omega))
        rw [hne]
        refine Ev.step (fun k=>?_) hj
        conv=>lhs;simp only [aA.j0]
        rw [if_neg (by simp),wo _ (by simp [e])]
theorem KR (n:Nat) (h:n < 18446744073709551616):IntKind.u64.wrap (n:Int)=(n:Int):=by
  have:IntKind.u64.wrap (n:Int)=(n:Int) % 18446744073709551616:=rfl
  rw [this]
  omega
theorem P7 (D:List UInt8) (hD:D.length≤100000) (h:∀ c ∈ D,BB c=true) (neg:Bool) (r:Int × Int) (hr:Ev (fun k=>aC.j2 k (Bs D) neg ((mD 0 (D.take 19):Nat):Int)) r) :
    ∀ (d i:Nat),i+d=19→i≤D.length→Ev (fun k=>aC.l0 k (Bs D) neg ((mD 0 (D.take i):Nat):Int) (i:Int)) r
  | 0,i,hi,hl=>by
    obtain rfl:i=19:=by omega
    refine Ev.step (fun k=>?_) hr
    conv=>lhs;simp only [aC.l0]
    rw [fP]
    by_cases hlt:(((19:Nat):Nat):Int) < (D.length:Int)
    · rw [if_pos hlt,if_neg (by omega)]
    · rw [if_neg hlt]
  | d+1,i,hi,hl=>by
    by_cases hlt:i < D.length
    · have hc:D[i]? = some D[i]:=List.getElem?_eq_getElem hlt
      have hm:=h D[i] (List.getElem_mem hlt)
      have htk:D.take (i+1)=D.take i++[D[i]]:=List.take_succ_eq_append_getElem hlt
      generalize D[i]=c at hc hm htk
      have hb:=BL D i c hc
      have hv:mD 0 (D.take (i+1))=mD 0 (D.take i) * 10+(c.toNat - 48):=by rw [htk,EM]
      have hlim:mD 0 (D.take i) < 1000000000000000000:=by
        have h1:=KP (D.take i) (fun x hx=>h x (List.mem_of_mem_take hx)) 0
        have h2:(D.take i).length≤18:=by rw [List.length_take];omega
        have h3:10 ^ (D.take i).length≤10 ^ 18:=Nat.pow_le_pow_right (by omega) h2
        have h4:(10:Nat) ^ 18=1000000000000000000:=by decide
        omega
      have ih:=P7 D hD h neg r hr d (i+1) (by omega) (by omega)
      refine Ev.step (fun k=>?_) ih
      conv=>lhs;simp only [aC.l0]
      simp only [BB,decide_eq_true_eq] at hm
      rw [fP,if_pos (by omega),if_pos (by omega),if_pos (by omega),hb,jD i (by omega)]
      rw [hv]
      generalize mD 0 (D.take i)=v at hlim ⊢
      have u1:IntKind.u64.wrap ((v:Int) * 10)=((v * 10:Nat):Int):=by
        rw [show (v:Int) * 10=((v * 10:Nat):Int) from by omega]
        exact KR _ (by omega)
      have u2:IntKind.u64.wrap (((v * 10:Nat):Int)+((c.toNat:Int) - 48) % 256)=((v * 10+(c.toNat - 48):Nat):Int):=by
        rw [show ((v * 10:Nat):Int)+((c.toNat:Int) - 48) % 256=((v * 10+(c.toNat - 48):Nat):Int) from by omega]
        exact KR _ (by omega)
      rw [u1,u2]
    · have e:D.take i=D.take 19:=by
        rw [List.take_of_length_le (by omega),List.take_of_length_le (by omega)]
      rw [e]
      refine Ev.step (fun k=>?_) hr
      conv=>lhs;simp only [aC.l0]
      rw [fP,if_neg (by omega)]
theorem Zr (D:List UInt8) (hD:D.length≤100000) (hd:∀ c ∈ D,BB c=true) (hz:D.head? = some 48→D.length≤1) (neg:Bool) :
    Ev (fun k=>aC.j2 k (Bs D) neg ((mD 0 (D.take 19):Nat):Int)) (if Cb neg (mD 0 D) then (Zb neg (mD 0 D),0) else (0,3)):=by
  have j3t:∀ x:Int,∀ b:Bool,b=true→Ev (fun k=>aC.j3 k neg x b) (0,3):=by
    rintro x b rfl
    exact Ev.step (f:=fun _=>some _) (fun k=>by simp only [aC.j3];rw [if_pos trivial]) (Ev.now _)
  by_cases hl:19 < D.length
  · have hb:Cb neg (mD 0 D)=false:=by
      cases D with
      | nil=>simp at hl
      | cons c r =>
        have h48:c ≠ 48:=by rintro rfl;have:=hz rfl;omega
        have h1:=DN (r:=r) (hd c (by simp)) h48
        have h2:(10:Nat) ^ 19≤10 ^ r.length:=Nat.pow_le_pow_right (by omega) (by rw [List.length_cons] at hl;omega)
        rw [abr] at h2
        unfold Cb
        cases neg <;> simp <;> omega
    rw [hb,if_neg (by simp)]
    refine Ev.step (f:=fun k=>aC.j3 k neg ((mD 0 (D.take 19):Nat):Int) (decide (((Bs D).size:Int) > 19))) (fun k=>?_) (j3t _ _ (decide_eq_true (by rw [fP];omega)))
    conv=>lhs;simp only [aC.j2]
    rw [if_pos (by rw [fP];omega)]
  · have htk:D.take 19=D:=List.take_of_length_le (by omega)
    rw [htk]
    generalize mD 0 D=u
    by_cases h1:9223372036854775808 < u
    · have hb:Cb neg u=false:=by unfold Cb;cases neg <;> simp <;> omega
      rw [hb,if_neg (by simp)]
      refine Ev.step (f:=fun k=>aC.j3 k neg (u:Int) (decide ((u:Int) > 9223372036854775808))) (fun k=>?_) (j3t _ _ (decide_eq_true (by omega)))
      conv=>lhs;simp only [aC.j2]
      rw [if_neg (by rw [fP];omega),if_pos (by omega)]
    · by_cases h2:u=9223372036854775808
      · subst h2
        refine Ev.step (f:=fun k=>aC.j3 k neg (((9223372036854775808:Nat):Nat):Int) (!neg)) (fun k=>?_) ?_
        · conv=>lhs;simp only [aC.j2]
          rw [if_neg (by rw [fP];omega),if_neg (by omega),if_pos (by omega)]
        · cases neg with
          | false=>exact j3t _ _ rfl
          | true =>
            refine Ev.step (f:=fun _=>some _) (fun k=>?_) (Ev.now _)
            simp only [aC.j3]
            have hi:Cb true 9223372036854775808=true:=by decide
            have hw:wrap64 (-wrap64 ((9223372036854775808:Nat):Int))=Zb true 9223372036854775808:=by unfold Zb wrap64;rw [if_pos rfl];omega
            rw [if_neg (by simp),if_pos trivial,if_pos hi,hw]
      · have hb:Cb neg u=true:=by unfold Cb;cases neg <;> simp <;> omega
        rw [hb,if_pos rfl]
        refine Ev.step (f:=fun k=>aC.j3 k neg (u:Int) false) (fun k=>?_) (Ev.step (f:=fun _=>some _) (fun k=>?_) (Ev.now _))
        · conv=>lhs;simp only [aC.j2]
          rw [if_neg (by rw [fP];omega),if_neg (by omega),if_neg (by omega)]
        · simp only [aC.j3]
          have hw:wrap64 (u:Int)=u:=by unfold wrap64;omega
          rw [if_neg (by simp),hw]
          cases neg with
          | true =>
            have hw2:wrap64 (-(u:Int))=-(u:Int):=by unfold wrap64;omega
            rw [if_pos rfl,hw2]
            rfl
          | false=>rw [if_neg (by simp)];rfl
theorem TI (w:List UInt8) (hw:w.length≤10000):Ev (fun k=>aC.f k (Bs w)) (Ii w):=by
  unfold aC.f
  refine Ev.bind (O3 w hw) ?_
  unfold Ii
  cases hn:rM w with
  | false=>exact Ev.congr (f:=fun _=>some _) (fun k=>if_neg (by simp)) (Ev.now _)
  | true =>
    refine Ev.congr (fun k=>if_pos rfl) ?_
    rw [if_pos rfl]
    obtain ⟨hne,hdig,hzero⟩:=(AX w).1 hn
    obtain ⟨neg,hs,hneg⟩:=signed w
    have hle:(unsigned w).length≤w.length:=trimPrefix_le w [45]
    have hz:(unsigned w).head? = some 48→(unsigned w).length≤1:=fun h=>by
      have:=hzero h
      rw [this] at hle ⊢
      decide
    have hj2:=Zr (unsigned w) (by omega) hdig hz neg
    have hl0:=P7 (unsigned w) (by omega) hdig neg _ hj2 19 0 rfl (Nat.zero_le _)
    have hof:numOf w=if Cb neg (mD 0 (unsigned w)) then (Zb neg (mD 0 (unsigned w)),0) else (0,3):=by
      rw [← Ij neg (unsigned w) hdig hne,← hs]
    rw [← hof] at hl0
    have hj0:Ev (fun k=>aC.j0 k (Bs (unsigned w)) neg) (numOf w):=Ev.step (fun k=>by simp only [aC.j0];rfl) hl0
    cases w with
    | nil=>simp [unsigned,Lib.trimPrefix,Lib.hasPrefix] at hne
    | cons c r =>
      have hb:=bt0 c r
      refine Ev.congr (fun k=>if_pos (by rw [fP];simp only [List.length_cons];omega)) ?_
      rw [hb]
      by_cases e:c=45
      · subst e
        obtain rfl:neg=true:=hneg.2 rfl
        refine Ev.congr (fun k=>?_) hj0
        rw [if_pos (by decide),if_pos (by rw [fP];simp only [List.length_cons];omega),wV,fP]
        rw [zH]
        have e1:List.take (((45:UInt8) :: r).length - 1) (List.drop 1 ((45:UInt8) :: r))=r:=by simp
        rw [e1]
        rfl
      · have Ym:¬ (c.toNat:Int)=45:=fun h=>e (UInt8.toNat_inj.1 (by show c.toNat=45;omega))
        obtain rfl:neg=false:=by
          cases neg with
          | false=>rfl
          | true=>exact absurd (by simpa using hneg.1 rfl) e
        refine Ev.congr (fun k=>?_) hj0
        rw [if_neg Ym,show ((c.toNat:Int) == 45)=false from beq_eq_false_iff_ne.2 Ym,wo (c :: r) (by simp [e])]
end Go.Proofs.YtkclndkbccbhaaaGreatDoor.P
end
section
namespace Go.Proofs.YtkclndkbccbhaaaGreatDoor.P
open Go Go.RowKit Go.Proofs.ag.bK Go.Proofs.ag.dV Go.Proofs.ag.fE
theorem Sr:Ev (fun k=>dO.f k) true:=by
  have h:dO.f 300=some true:=by kernel_rfl
  exact Ev.of dO.mono h
end Go.Proofs.YtkclndkbccbhaaaGreatDoor.P
end
section
namespace Go.Proofs.YtkclndkbccbhaaaGreatDoor.P
open Go Go.RowKit Go.Proofs.ag.bK Go.Proofs.ag.dV Go.Proofs.ag.fE
theorem _root_.Go.Proofs.ag.bK.Ev.out {α:Type} {g:Nat→Option α} {r s:α} (h:Ev g r) (e:r=s):Ev g s:=e ▸ h
def abj:List (List UInt8 × List UInt8):=[([115,101,116],[97,110]),([97,100,100],[97,98,99]),([106,117,109,112],[110]),([122,101,114,111],[97,110]),([110,101,119],[97]),([110,105,108],[97]),([109,111,118,101],[97,98]),([108,111,97,100,105],[97,98,110]),([115,116,111,114,101,105],[97,110,98]),([108,111,97,100,112],[97,98,110]),([115,116,111,114,101,112],[97,110,98]),([108,111,97,100,103],[97,98]),([115,116,111,114,101,103],[97,98]),([112,114,105,110,116],[97]),([115,97,109,101],[97,98,99])]
def Zt (i:Nat):List UInt8:=(abj.getD i ([],[])).1
def Ld (i:Nat):List UInt8:=(abj.getD i ([],[])).2
theorem NW (i:Nat) (hi:i < 15):jl.f ((i+1:Nat):Int)=some (Bs (Zt i),Bs (Ld i)):=by
  have hh:i=0 ∨ i=1 ∨ i=2 ∨ i=3 ∨ i=4 ∨ i=5 ∨ i=6 ∨ i=7 ∨ i=8 ∨ i=9 ∨ i=10 ∨ i=11 ∨ i=12 ∨ i=13 ∨ i=14:=by omega
  rcases hh with rfl|rfl|rfl|rfl|rfl|rfl|rfl|rfl|rfl|rfl|rfl|rfl|rfl|rfl|rfl <;> rfl
theorem Yc:∀ i:Fin 15,(Ld i.val).all (fun c=>c == 97 || c == 98 || c == 99 || c == 110)=true∧(Ld i.val).length≤3:=by decide
def L4 (l:UInt8):Prop:=l=97 ∨ l=98 ∨ l=99 ∨ l=110
theorem Uj {i:Nat} (hi:i < 15):∀ c ∈ Ld i,L4 c:=by
  intro c hc
  have:=List.all_eq_true.1 (Yc ⟨i,hi⟩).1 c hc
  simp only [Bool.or_eq_true,beq_iff_eq] at this
  unfold L4
  rcases this with ((h|h)|h)|h
  · exact .inl h
  · exact .inr (.inl h)
  · exact .inr (.inr (.inl h))
  · exact .inr (.inr (.inr h))
set_option linter.unusedSectionVars false
section
variable (a b c n:Int) (ha:0≤a∧a≤255) (hb:0≤b∧b≤255) (hc:0≤c∧c≤255) (hn:-9223372036854775808≤n∧n≤9223372036854775807)
include ha hb hc hn
end
end Go.Proofs.YtkclndkbccbhaaaGreatDoor.P
end
