/- Parts of the proof of CodeParses: what the functions that it reaches compute, and plain facts about that. -/
import Derived.Test.YtkclndkbccbhaaaGreatDoorRaq
import Derived.Test.YtkclndkbccbhaaaGreatDoorRat
import Derived.Test.YtkclndkbccbhaaaGreatDoorRah
import Derived.Test.YtkclndkbccbhaaaGreatDoorRar
import Derived.Test.YtkclndkbccbhaaaGreatDoorRas
set_option linter.unusedVariables false
set_option linter.unusedSimpArgs false
section
namespace Go.Proofs.YtkclndkbccbhaaaGreatDoor.P
open Go Go.RowKit Go.Proofs.ag.bK Go.Proofs.ag.dV Go.Proofs.ag.fE
theorem Hz (w:List UInt8) (hw:w.length≤1000000):∀ (d i:Nat),i+d=w.length →
    Ev (fun k=>aV.l0 k (Bs w) (i:Int)) (!((w.drop i).contains 45) && (w.isEmpty || EL w))
  | 0,i,hi=>by
    rw [List.drop_eq_nil_of_le (by omega)]
    by_cases h0:w=[]
    · subst h0
      refine Ev.step (f:=fun _=>some _) (fun k=>?_) (Ev.now _)
      simp only [aV.l0]
      rw [fP,if_neg (by omega),if_pos (lu [])]
      rfl
    · refine Ev.step (f:=fun k=>(bg.f k (Bs w)).bind fun t=>some t) (fun k=>?_) (Ev.bind (Qc w (by omega)) (Ev.out (Ev.now _) ?_))
      · simp only [aV.l0]
        rw [fP,if_neg (by omega),if_neg (by rw [lu];exact h0)]
      · cases w with
        | nil=>exact absurd rfl h0
        | cons x r=>simp
  | d+1,i,hi=>by
    have hlt:i < w.length:=by omega
    have hc:w[i]? = some w[i]:=List.getElem?_eq_getElem hlt
    have hd:w.drop i=w[i] :: w.drop (i+1):=List.drop_eq_getElem_cons hlt
    generalize w[i]=c at hc hd
    have ih:=Hz w hw d (i+1) (by omega)
    have uj:∀ k,aV.l0 (k+1) (Bs w) (i:Int)=if c=45 then some false else aV.l0 k (Bs w) ((i+1:Nat):Int):=by
      intro k
      conv=>lhs;simp only [aV.l0]
      rw [fP,if_pos (by omega),if_pos (by omega),BL w i c hc,jD i (by omega)]
      by_cases h:c=45
      · subst h
        rw [if_pos rfl,if_pos (by decide)]
      · rw [if_neg h,if_neg]
        intro e
        exact h (UInt8.toNat_inj.1 (by have:(45:UInt8).toNat=45:=rfl;omega))
    rw [hd]
    by_cases h:c=45
    · refine Ev.step (f:=fun _=>some _) (fun k=>?_) (Ev.now _)
      rw [uj k,if_pos h]
      subst h
      rfl
    · refine Ev.step (fun k=>(uj k).trans (if_neg h)) (Ev.out ih ?_)
      rw [List.contains_cons]
      have:((45:UInt8) == c)=false:=by rw [beq_eq_false_iff_ne];exact fun e=>h e.symm
      rw [this,Bool.false_or]
theorem P6 {b:UInt8} (h:Og b=true) (h45:b ≠ 45):BA b=true:=by
  unfold Og at h
  unfold BA
  simp only [Bool.or_eq_true,decide_eq_true_eq] at h ⊢
  rcases h with h|h
  · exact h
  · exact absurd (UInt8.toNat_inj.1 (by have:(45:UInt8).toNat=45:=rfl;omega)) h45
theorem Gg (w:List UInt8):(!(w.contains 45) && (w.isEmpty || EL w))=DL w:=by
  cases w with
  | nil=>decide
  | cons x r =>
    rw [Bool.eq_iff_iff]
    unfold EL DL
    simp only [Bool.and_eq_true,Bool.not_eq_true',Bool.or_eq_true,decide_eq_true_eq,List.all_eq_true,List.isEmpty_cons,Bool.false_eq_true,false_or]
    have hlen:1≤(x :: r).length:=by simp
    generalize x :: r=w at hlen ⊢
    constructor
    · rintro ⟨h1,⟨h2,_⟩,h3⟩
      refine ⟨h3,fun b hb=>P6 (h2 b hb) ?_⟩
      rintro rfl
      have:w.contains 45=true:=by simpa using hb
      rw [this] at h1
      cases h1
    · rintro ⟨h3,h2⟩
      refine ⟨?_,⟨fun b hb=>Om (h2 b hb),hlen⟩,h3⟩
      rw [← Bool.not_eq_true]
      intro h
      have hm:(45:UInt8) ∈ w:=by simpa using h
      exact absurd (h2 45 hm) (by decide)
theorem Hy (s:ByteArray) (hs:s.data.toList.length≤1000000):Ev (fun k=>aV.f k s) (qj s):=by
  have a:=Hz s.data.toList hs s.data.toList.length 0 (Nat.zero_add _)
  rw [List.drop_zero,Gg,lZ] at a
  exact a
theorem NZ (l:List (List ByteArray)) (a:Int) (dash:Bool):Ev (fun k=>aK.j0 k l a dash true) (⟨#[]⟩,false):=by
  refine Ev.step (f:=fun _=>some _) (fun k=>?_) (Ev.now _)
  simp only [aK.j0]
  rw [if_pos trivial]
theorem Jm (l:List (List ByteArray)) (a:Nat) (nm:ByteArray) (dash:Bool) (h:∀ ha:a < l.length,l[a].length ≠ 2 ∨ (eF ByteArray.empty l[a] 0).toList ≠ nm.toList):Ev (fun k=>aK.f k l a nm dash) (⟨#[]⟩,false):=by
  refine Ev.congr (fun k=>?_) (NZ l a dash)
  unfold aK.f
  by_cases ha:a < l.length
  · rw [if_neg (by omega),if_pos (by omega),if_pos (by omega),sG ha]
    by_cases h2:(l[a].length:Int)=2
    · rw [if_pos h2,if_pos (by omega)]
      rcases h ha with h|h
      · omega
      · rw [show ((eF ByteArray.empty l[a] 0).toList != nm.toList)=true from by simpa using h]
    · rw [if_neg h2]
  · rw [if_pos (by omega)]
theorem N7 (l:List (List ByteArray)) (a:Nat) (nm y:ByteArray) (dash:Bool) (ha:a < l.length) (e:l[a]=[nm,y]) (hy:y.data.toList.length≤1000000) :
    Ev (fun k=>aK.f k l a nm dash) (if dash=true∧y.toList=[45] then (⟨#[]⟩,true) else (y,qj y)):=by
  refine Ev.congr (f:=fun k=>aK.j0 k l a dash false) (fun k=>?_) ?_
  · unfold aK.f
    rw [if_neg (by omega),if_pos (by omega),if_pos (by omega),sG ha,e,if_pos (show (([nm,y].length:Nat):Int)=2 from rfl),if_pos (show (0:Int) < (([nm,y].length:Nat):Int) from by show (0:Int) < ((2:Nat):Int);decide)]
    rw [show ((eF ByteArray.empty [nm,y] 0).toList != nm.toList)=false from by
      rw [show eF ByteArray.empty [nm,y] 0=nm from rfl];simp]
  · refine Ev.step (f:=fun k=>if dash=true then (if y.toList=[45] then some ((⟨#[]⟩:ByteArray),true) else (aV.f k y).bind fun t=>some (y,t)) else (aV.f k y).bind fun t=>some (y,t)) (fun k=>?_) ?_
    · conv=>lhs;simp only [aK.j0]
      rw [if_neg (by decide),if_pos (by omega),if_pos (by omega),sG ha,e,if_pos (show (1:Int) < (([nm,y].length:Nat):Int) from by show (1:Int) < ((2:Nat):Int);decide)]
      rfl
    · have hl:=Hy y hy
      by_cases hd:dash=true
      · by_cases h45:y.toList=[45]
        · rw [if_pos ⟨hd,h45⟩]
          refine Ev.congr (fun k=>?_) (Ev.now _)
          rw [if_pos hd,if_pos h45]
        · rw [if_neg (fun h=>h45 h.2)]
          refine Ev.congr (f:=fun k=>(aV.f k y).bind fun t=>some (y,t)) (fun k=>?_) (Ev.bind hl (Ev.now _))
          rw [if_pos hd,if_neg h45]
      · rw [if_neg (fun h=>hd h.1)]
        refine Ev.congr (f:=fun k=>(aV.f k y).bind fun t=>some (y,t)) (fun k=>?_) (Ev.bind hl (Ev.now _))
        rw [if_neg hd]
theorem Uf {w:ByteArray} (h:okB w):w.data.toList.length≤1000000:=by
  have:=CJ h.1
  omega
theorem AY (l:List (List ByteArray)) (hl:sZ l) (a:Nat) (nm:ByteArray) :
    (sH l a nm=some (⟨#[]⟩,false)∧∀ dash,∃ z,Ev (fun k=>aK.f k l a nm dash) (z,false)) ∨
    ∃ s,qj s=true∧sH l a nm=some (ql s,true)∧Ev (fun k=>aK.f k l a nm true) (s,true)∧(s.toList=[]→∃ z,Ev (fun k=>aK.f k l a nm false) (z,false))∧(s.toList ≠ []→Ev (fun k=>aK.f k l a nm false) (s,true)):=by
  by_cases hx:∀ ha:a < l.length,l[a].length ≠ 2 ∨ (eF ByteArray.empty l[a] 0).toList ≠ nm.toList
  · left
    refine ⟨?_,fun dash=>⟨_,Jm l a nm dash hx⟩⟩
    unfold sH
    by_cases ha:a < l.length
    · rw [if_pos ha,sG ha]
      rcases hx ha with h|h
      · rw [if_neg h]
      · by_cases h2:l[a].length=2
        · rw [if_pos h2,if_neg h]
        · rw [if_neg h2]
    · rw [if_neg ha]
  · obtain ⟨ha,hn⟩:=Classical.not_forall.1 hx
    have h2:l[a].length=2:=Classical.byContradiction fun e=>hn (Or.inl e)
    have h0:(eF ByteArray.empty l[a] 0).toList=nm.toList:=Classical.byContradiction fun e=>hn (Or.inr e)
    obtain ⟨y,e⟩:∃ y,l[a]=[nm,y]:=by
      match hm:l[a],h2 with
      | [x,y],_ =>
        rw [hm] at h0
        exact ⟨y,by rw [show x=nm from ba_eq h0]⟩
    have hy:=(hl l[a] (List.getElem_mem ha)).2 y (by rw [e];simp)
    have hr:=fun dash=>N7 l a nm y dash ha e (Uf hy)
    have hf:sH l a nm=if qj y=true then some (y,true) else if y.toList=[45] then some (y,true) else some (⟨#[]⟩,false):=by
      unfold sH
      rw [if_pos ha,sG ha,e,if_pos (show [nm,y].length=2 from rfl),if_pos (show (eF ByteArray.empty [nm,y] 0).toList=nm.toList from rfl),show eF ByteArray.empty [nm,y] 1=y from rfl,Qg,Option.bind_some]
    have hyn:y.toList ≠ []:=by rw [toList_data];exact hy.2
    by_cases Qs:qj y=true
    · have h45:y.toList ≠ [45]:=fun h=>zk Qs (by rw [← toList_data,h];simp)
      have hd:ql y=y:=by unfold ql;rw [if_neg hyn]
      rw [if_pos Qs] at hf
      refine Or.inr ⟨y,Qs,by rw [hd];exact hf,?_,fun h=>absurd h hyn,fun _=>?_⟩
      · have:=hr true
        rw [if_neg (fun h=>h45 h.2),Qs] at this
        exact this
      · have:=hr false
        rw [if_neg (fun h=>h45 h.2),Qs] at this
        exact this
    · have hlf:qj y=false:=by simpa using Qs
      rw [if_neg Qs] at hf
      by_cases h45:y.toList=[45]
      · rw [if_pos h45] at hf
        have Ur:y=ql ⟨#[]⟩:=ba_eq (by rw [h45];decide +kernel)
        refine Or.inr ⟨⟨#[]⟩,by decide +kernel,by rw [← Ur];exact hf,?_,fun _=>?_,fun h=>absurd (by decide +kernel) h⟩
        · have:=hr true
          rw [if_pos ⟨rfl,h45⟩] at this
          exact this
        · have:=hr false
          rw [if_neg (fun h=>by cases h.1),hlf] at this
          exact ⟨_,this⟩
      · rw [if_neg h45] at hf
        refine Or.inl ⟨hf,fun dash=>⟨y,?_⟩⟩
        have:=hr dash
        rw [if_neg (fun h=>h45 h.2),hlf] at this
        exact this
theorem TG (o:Int) (q:Int × Int × Int × Int) {c:UInt8} (hc:D9 c) (n:Int):Ev (fun k=>aT.f k o q.1 q.2.1 q.2.2.1 q.2.2.2 (c.toNat:Int) n)
    (if c.toNat=110 ∨ (0≤n∧n≤255) then (o,(setArg c.toNat n q).1,(setArg c.toNat n q).2.1,(setArg c.toNat n q).2.2.1,(setArg c.toNat n q).2.2.2,true) else (o,q.1,q.2.1,q.2.2.1,q.2.2.2,false)):=by
  have low:∀ (c:Int),c ≠ 110→¬ (0≤n∧n≤255)→Ev (fun k=>aT.f k o q.1 q.2.1 q.2.2.1 q.2.2.2 c n) (o,q.1,q.2.1,q.2.2.1,q.2.2.2,false):=by
    intro c hc hn
    refine Ev.congr (f:=fun k=>aT.j0 k c n true o q.1 q.2.1 q.2.2.1 q.2.2.2) (fun k=>?_) (Ev.step (f:=fun _=>some _) (fun k=>?_) (Ev.now _))
    · unfold aT.f
      rw [if_neg hc]
      by_cases h:n < 0
      · rw [if_pos h]
      · rw [if_neg h,decide_eq_true (by omega)]
    · simp only [aT.j0]
      rw [if_pos trivial]
  have high:∀ (c:Int),c ≠ 110→(0≤n∧n≤255)→∀ k,aT.f k o q.1 q.2.1 q.2.2.1 q.2.2.2 c n=aT.j0 k c n false o q.1 q.2.1 q.2.2.1 q.2.2.2:=by
    intro c hc hn k
    unfold aT.f
    rw [if_neg hc,if_neg (by omega),decide_eq_false (by omega)]
  rcases hc with rfl|rfl|rfl|rfl
  · by_cases hn:0≤n∧n≤255
    · rw [if_pos (Or.inr hn)]
      refine Ev.congr (high 97 (by decide) hn) (Ev.step (f:=fun _=>some _) (fun k=>?_) (Ev.now _))
      simp only [aT.j0]
      rw [if_neg (by decide),if_pos trivial,show n % 256=n from by omega]
      rfl
    · rw [if_neg (fun h=>h.elim (fun h=>absurd h (by decide)) hn)]
      exact low 97 (by decide) hn
  · by_cases hn:0≤n∧n≤255
    · rw [if_pos (Or.inr hn)]
      refine Ev.congr (high 98 (by decide) hn) (Ev.step (f:=fun _=>some _) (fun k=>?_) (Ev.now _))
      simp only [aT.j0]
      rw [if_neg (by decide),if_neg (by decide),if_pos trivial,show n % 256=n from by omega]
      rfl
    · rw [if_neg (fun h=>h.elim (fun h=>absurd h (by decide)) hn)]
      exact low 98 (by decide) hn
  · by_cases hn:0≤n∧n≤255
    · rw [if_pos (Or.inr hn)]
      refine Ev.congr (high 99 (by decide) hn) (Ev.step (f:=fun _=>some _) (fun k=>?_) (Ev.now _))
      simp only [aT.j0]
      rw [if_neg (by decide),if_neg (by decide),if_neg (by decide),show n % 256=n from by omega]
      rfl
    · rw [if_neg (fun h=>h.elim (fun h=>absurd h (by decide)) hn)]
      exact low 99 (by decide) hn
  · rw [if_pos (Or.inl (show UInt8.toNat 110=110 from rfl))]
    exact Ev.now _
theorem Hu (o:Nat) (l:List ByteArray) (hw:∀ w ∈ l,okB w) (hs:List UInt8) (ha:∀ c ∈ hs,D9 c) (hlen:hs.length≤3) (hl:l.length=hs.length+1):∀ (d i:Nat) (q:Int × Int × Int × Int) (p:Option (Int × Int × Int × Int)),i+d=hs.length→jy (hs.drop i) (l.drop (i+1)) q=some p →
    Ev (fun k=>aG.l1 k l (Bs hs) (i:Int) (o:Int) q.1 q.2.1 q.2.2.1 q.2.2.2) (EU o p)
  | 0,i,q,p,hi,hp=>by
    refine Ev.step (f:=fun _=>some _) (fun k=>?_) (Ev.now _)
    rw [List.drop_eq_nil_of_le (by omega)] at hp
    have hp':p=some q:=by
      unfold jy at hp
      exact (Option.some.inj hp).symm
    subst hp'
    simp only [aG.l1]
    rw [fP,if_neg (by omega)]
    rfl
  | d+1,i,q,p,hi,hp=>by
    have hlt:i < hs.length:=by omega
    have hl1:i+1 < l.length:=by omega
    have hcc:hs[i]? = some hs[i]:=List.getElem?_eq_getElem hlt
    have hm:=ha hs[i] (List.getElem_mem hlt)
    rw [List.drop_eq_getElem_cons hlt,List.drop_eq_getElem_cons hl1] at hp
    have hrd:eF ByteArray.empty l ((i+1:Nat):Int)=l[i+1]:=Dt l (i+1) hl1
    have hB:=hw l[i+1] (List.getElem_mem hl1)
    generalize hs[i]=c at hcc hm hp
    generalize l[i+1]=w at hrd hB hp
    have hnum:=Yb w.data.toList (by have:=CJ hB.1;omega)
    have Qr:=TI w.data.toList (by have:=CJ hB.1;omega)
    rw [lZ] at hnum Qr
    generalize Ii w.data.toList=r at hnum Qr
    unfold jy at hp
    rw [hnum,Option.bind_some] at hp
    refine Ev.step (f:=fun k=>(aC.f k w).bind fun p=>(aT.f k (o:Int) q.1 q.2.1 q.2.2.1 q.2.2.2 (c.toNat:Int) p.1).bind fun q=>if p.2=0 then (if q.2.2.2.2.2=true then aG.l1 k l (Bs hs) ((i+1:Nat):Int) q.1 q.2.1 q.2.2.1 q.2.2.2.1 q.2.2.2.2.1 else some (0,0,0,0,0,false)) else some (0,0,0,0,0,false)) (fun k=>?_) ?_
    · conv=>lhs;simp only [aG.l1]
      rw [fP,if_pos (by omega),jD i (by omega),if_pos (by omega),if_pos (by omega),hrd,BL hs i c hcc]
      refine congrArg (Option.bind _) (funext fun p=>?_)
      rw [if_pos (by omega)]
    · refine Ev.bind Qr (Ev.bind (TG (o:Int) q hm r.1) ?_)
      by_cases h0:r.2=0
      · rw [if_pos h0] at hp
        refine Ev.congr (fun k=>if_pos h0) ?_
        by_cases hx:c.toNat=110 ∨ (0≤r.1∧r.1≤255)
        · have hp2:jy (hs.drop (i+1)) (l.drop (i+1+1)) (setArg c.toNat r.1 q)=some p:=by
            by_cases OY:c.toNat=110
            · rw [if_pos OY] at hp
              rw [OY]
              exact hp
            · rw [if_neg OY,if_pos (hx.elim (fun h=>absurd h OY) id)] at hp
              exact hp
          have ih:=Hu o l hw hs ha hlen hl d (i+1) (setArg c.toNat r.1 q) p (by omega) hp2
          rw [if_pos hx]
          exact ih
        · rw [if_neg (fun h=>hx (Or.inl h)),if_neg (fun h=>hx (Or.inr h))] at hp
          have:p=none:=(Option.some.inj hp).symm
          subst this
          rw [if_neg hx]
          exact Ev.now _
      · rw [if_neg h0] at hp
        have:p=none:=(Option.some.inj hp).symm
        subst this
        exact Ev.congr (fun k=>if_neg h0) (Ev.now _)
theorem PH:∀ i:Fin 15,nameOf (i.val+1)=Bs (Zt i.val)∧pF (i.val+1)=Bs (Ld i.val):=by
  have h:∀ i:Fin 15,(nameOf (i.val+1)).data.toList=Zt i.val∧(pF (i.val+1)).data.toList=Ld i.val:=by decide +kernel
  intro i
  obtain ⟨h1,h2⟩:=h i
  exact ⟨by rw [← h1,lZ],by rw [← h2,lZ]⟩
theorem Hw (l:List ByteArray) (h0:0 < l.length) (Zv:l.length≤1000000) (hw:∀ w ∈ l,okB w):∀ (d j:Nat),j+d=15→∀ r,ve d (j+1) l=some r→Ev (fun k=>aG.l0 k l ((j+1:Nat):Int)) r
  | 0,j,hj,r,hr=>by
    have:r=(0,0,0,0,0,false):=by
      unfold ve at hr
      exact (Option.some.inj hr).symm
    subst this
    refine Ev.step (f:=fun _=>some _) (fun k=>?_) (Ev.now _)
    simp only [aG.l0]
    rw [if_neg (by omega)]
  | d+1,j,hj,r,hr=>by
    have Uz:j < 15:=by omega
    obtain ⟨e1,e2⟩:=PH ⟨j,Uz⟩
    simp only at e1 e2
    unfold ve at hr
    rw [e1,e2,fP,lu,GK] at hr
    have hlt3:=(Yc ⟨j,Uz⟩).2
    simp only at hlt3
    have next:ve d (j+1+1) l=some r→Ev (fun k=>aG.j1 k l ((j+1:Nat):Int) (Bs (Ld j)) true) r:=by
      intro h
      refine Ev.step (fun k=>?_) (Hw l h0 Zv hw d (j+1) (by omega) r h)
      conv=>lhs;simp only [aG.j1]
      rw [if_pos trivial,show (((j+1:Nat):Int)+1) % 256=((j+1+1:Nat):Int) from by omega]
    have uj:∀ k,aG.l0 (k+1) l ((j+1:Nat):Int)=aG.j1 k l ((j+1:Nat):Int) (Bs (Ld j)) (!decide ((eF ByteArray.empty l 0).toList=Zt j∧l.length=(Ld j).length+1)):=by
      intro k
      conv=>lhs;simp only [aG.l0]
      rw [if_pos (by omega),NW j Uz,Option.bind_some,if_pos (by omega),lu,fP,jD _ (by omega)]
      by_cases hn:(eF ByteArray.empty l 0).toList=Zt j
      · rw [if_pos hn]
        refine congrArg (aG.j1 k l _ _) ?_
        by_cases hl:l.length=(Ld j).length+1
        · rw [decide_eq_true ⟨hn,hl⟩,hl]
          simp
        · rw [decide_eq_false (fun h=>hl h.2)]
          simp only [Bool.not_false,bne_iff_ne,ne_eq]
          omega
      · rw [if_neg hn,decide_eq_false (fun h=>hn h.1)]
        rfl
    by_cases hx:(eF ByteArray.empty l 0).toList=Zt j∧l.length=(Ld j).length+1
    · rw [if_neg (by
        rintro (h|h|h)
        · omega
        · exact h hx.1.symm
        · exact h hx.2)] at hr
      rw [decide_eq_true hx] at uj
      cases hp:jy (Ld j) l.tail (0,0,0,0) with
      | none=>rw [hp] at hr;cases hr
      | some p =>
        rw [hp] at hr
        have hr':r=EU ((j+1:Nat):Int) p:=(Option.some.inj hr).symm
        subst hr'
        have l1:=Hu (j+1) l hw (Ld j) (Uj Uz) hlt3 hx.2 (Ld j).length 0 (0,0,0,0) p (Nat.zero_add _) (by rw [List.drop_zero,List.drop_one];exact hp)
        refine Ev.step uj (Ev.step (fun k=>?_) l1)
        conv=>lhs;simp only [aG.j1]
        rw [if_neg (by decide)]
        rfl
    · rw [decide_eq_false hx] at uj
      rw [if_pos (by
        by_cases hn:(eF ByteArray.empty l 0).toList=Zt j
        · exact Or.inr (Or.inr fun h=>hx ⟨hn,h⟩)
        · exact Or.inr (Or.inl fun h=>hn h.symm))] at hr
      exact Ev.step uj (next hr)
theorem PL (l:List ByteArray) (h0:l ≠ []) (Zv:l.length≤1000000) (hw:∀ w ∈ l,okB w) {r:Int × Int × Int × Int × Int × Bool} (hr:mf.f l=some r):Ev (fun k=>aG.f k l) r:=by
  have hp:0 < l.length:=List.length_pos_iff.2 h0
  unfold mf.f at hr
  rw [if_pos hp] at hr
  unfold ve at hr
  rw [if_pos (Or.inl rfl)] at hr
  exact Hw l hp Zv hw 15 0 rfl r hr
theorem aa2 (a:Nat) (h:a≤1000000000):wrap64 ((a:Int)+2)=((a+2:Nat):Int):=by unfold wrap64;omega
theorem EO (l:List (List ByteArray)) (ts:List ByteArray) (lo gl:ByteArray) (hl:sZ l) (hn:l.length≤1000000) (hn2:∀ ws ∈ l,ws.length≤1000000):∀ (d a:Nat) (acc:List jR) r,acc.length≤200→a≤l.length→tJ l ts lo gl d a acc=some r →
    Ev (fun k=>aH.l1 k l (a:Int) ts lo gl acc) r
  | 0,a,acc,r,hc,ha',hr=>by
    unfold tJ at hr
    cases hr
  | d+1,a,acc,r,hc,ha',hr=>by
    unfold tJ at hr
    by_cases ha:a < l.length
    · rw [if_pos ha,sG ha] at hr
      have hk:=hl l[a] (List.getElem_mem ha)
      have hk2:=hn2 l[a] (List.getElem_mem ha)
      cases hx:mf.f l[a] with
      | none=>rw [hx] at hr;cases hr
      | some x =>
        rw [hx,Option.bind_some] at hr
        have hread:=PL l[a] hk.1 hk2 hk.2 hx
        refine Ev.step (f:=fun k=>(aG.f k l[a]).bind fun vI=>(if vI.2.2.2.2.2=true then (if (acc.length:Int) ≥ 200 then (some (kU a)) else (aH.l1 k l ((a+1:Nat):Int) ts lo gl (acc++[(⟨vI.1,vI.2.1,vI.2.2.1,vI.2.2.2.1,vI.2.2.2.2.1⟩:jR)]))) else (some (kU a)))) (fun k=>?_) (Ev.bind hread ?_)
        · conv=>lhs;simp only [aH.l1]
          rw [if_pos (by omega),if_pos (by omega),sG ha,jD a (by omega)]
          refine congrArg (Option.bind _) (funext fun p=>?_)
          rw [if_pos (show acc.length < 8796093022208 by omega)]
          rfl
        · by_cases h1:x.2.2.2.2.2=true
          · rw [if_pos h1] at hr
            refine Ev.congr (fun k=>if_pos h1) ?_
            by_cases h2:acc.length < 200
            · rw [if_pos h2] at hr
              refine Ev.congr (fun k=>if_neg (by omega)) ?_
              exact EO l ts lo gl hl hn hn2 d (a+1) _ r (by simp;omega) (by omega) hr
            · rw [if_neg h2] at hr
              rw [← Option.some.inj hr]
              exact Ev.congr (fun k=>if_pos (by omega)) (Ev.now _)
          · rw [if_neg h1] at hr
            rw [← Option.some.inj hr]
            exact Ev.congr (fun k=>if_neg h1) (Ev.now _)
    · rw [if_neg ha] at hr
      rw [← Option.some.inj hr]
      refine Ev.step (f:=fun _=>some _) (fun k=>?_) (Ev.now _)
      simp only [aH.l1]
      rw [if_neg (by omega)]
theorem ER (l:List (List ByteArray)) (ts:List ByteArray) (hl:sZ l) (hn:l.length≤1000000) (hn2:∀ ws ∈ l,ws.length≤1000000) (a:Nat) (ha:a≤l.length) (r) (hr:oN l ts 2 a ⟨#[]⟩ ⟨#[]⟩=some r) :
    Ev (fun k=>aH.j1 k l (a:Int) false ts ⟨#[]⟩ ⟨#[]⟩) r:=by
  refine Ev.step (f:=fun k=>(aK.f k l (a:Int) (⟨#[108,111,99,97,108,115]⟩:ByteArray) true).bind fun BM=>(if BM.2=true then ((aK.f k l ((a+1:Nat):Int) (⟨#[103,108,111,98,97,108,115]⟩:ByteArray) true).bind fun uG=>(if uG.2=true then (aH.l1 k l ((a+2:Nat):Int) ts BM.1 uG.1 ([]:List jR)) else (some (kU (a+1))))) else (some (kU a)))) (fun k=>?_) ?_
  · conv=>lhs;simp only [aH.j1]
    rw [if_neg (by decide),jD a (by omega),aa2 a (by omega)]
    rfl
  · unfold oN at hr
    rw [if_pos rfl] at hr
    rcases AY l hl a ⟨#[108,111,99,97,108,115]⟩ with ⟨h,hz⟩|⟨lo,h1,h2,h3,_,_⟩
    · rw [h,Option.bind_some] at hr
      obtain ⟨z,hz⟩:=hz true
      refine Ev.bind hz ?_
      rw [if_neg (by decide)] at hr
      rw [← Option.some.inj hr]
      exact Ev.congr (fun k=>if_neg Bool.false_ne_true) (Ev.now _)
    · rw [h2,Option.bind_some,if_pos rfl,yu h1,Option.bind_some,if_pos rfl] at hr
      refine Ev.bind h3 (Ev.congr (fun k=>if_pos rfl) ?_)
      unfold oN at hr
      rw [if_neg (by decide)] at hr
      rcases AY l hl (a+1) ⟨#[103,108,111,98,97,108,115]⟩ with ⟨h',hz⟩|⟨gl,h1',h2',h3',_,_⟩
      · rw [h',Option.bind_some] at hr
        obtain ⟨z,hz⟩:=hz true
        refine Ev.bind hz ?_
        rw [if_neg (by decide)] at hr
        rw [← Option.some.inj hr]
        exact Ev.congr (fun k=>if_neg Bool.false_ne_true) (Ev.now _)
      · rw [h2',Option.bind_some,if_pos rfl,yu h1',Option.bind_some,if_neg (by decide)] at hr
        refine Ev.bind h3' (Ev.congr (fun k=>if_pos rfl) ?_)
        unfold oN at hr
        by_cases ha2:a+2≤l.length
        · exact EO l ts lo gl hl hn hn2 (l.length+1) (a+2) [] r (by simp) ha2 hr
        · unfold tJ at hr
          rw [if_neg (by omega)] at hr
          rw [← Option.some.inj hr]
          refine Ev.step (f:=fun _=>some _) (fun k=>?_) (Ev.now _)
          simp only [aH.l1]
          rw [if_neg (by omega)]
theorem EP (l:List (List ByteArray)) (hl:sZ l) (hn:l.length≤1000000) (hn2:∀ ws ∈ l,ws.length≤1000000):∀ (d a:Nat) (acc:List ByteArray) r,acc.length≤a→a≤l.length→uZ l d a acc=some r →
    Ev (fun k=>aH.l0 k l (a:Int) acc ⟨#[]⟩ ⟨#[]⟩) r
  | 0,a,acc,r,hc,ha',hr=>by
    unfold uZ at hr
    cases hr
  | d+1,a,acc,r,hc,ha',hr=>by
    unfold uZ at hr
    by_cases ha:a < l.length
    · have hk:=hl l[a] (List.getElem_mem ha)
      have hpos:=List.length_pos_iff.2 hk.1
      rw [if_pos ha,sG ha,if_pos hpos] at hr
      have uj:∀ k,aH.l0 (k+1) l (a:Int) acc ⟨#[]⟩ ⟨#[]⟩=aH.j1 k l (a:Int) ((eF ByteArray.empty l[a] 0).toList == ([116,121,112,101]:List UInt8)) acc ⟨#[]⟩ ⟨#[]⟩:=by
        intro k
        conv=>lhs;simp only [aH.l0]
        rw [if_pos (by omega),if_pos (by omega),sG ha,if_pos (by omega)]
      by_cases ht:(eF ByteArray.empty l[a] 0).toList=[116,121,112,101]
      · rw [if_pos ht] at hr
        rw [show ((eF ByteArray.empty l[a] 0).toList == ([116,121,112,101]:List UInt8))=true from by rw [ht];rfl] at uj
        refine Ev.step uj (Ev.step (f:=fun k=>(aK.f k l (a:Int) (⟨#[116,121,112,101]⟩:ByteArray) false).bind fun BN=>(if BN.2=true then (aH.l0 k l ((a+1:Nat):Int) (acc++[BN.1]) ⟨#[]⟩ ⟨#[]⟩) else (some (kU a)))) (fun k=>?_) ?_)
        · conv=>lhs;simp only [aH.j1]
          rw [if_pos trivial,jD a (by omega)]
          refine congrArg (Option.bind _) (funext fun p=>?_)
          rw [if_pos (show acc.length < 8796093022208 by omega)]
          rfl
        · rcases AY l hl a ⟨#[116,121,112,101]⟩ with ⟨h,hz⟩|⟨s,h1,h2,_,h4,h5⟩
          · rw [h,Option.bind_some,if_neg (by decide)] at hr
            obtain ⟨z,hz⟩:=hz false
            refine Ev.bind hz ?_
            rw [← Option.some.inj hr]
            exact Ev.congr (fun k=>if_neg Bool.false_ne_true) (Ev.now _)
          · rw [h2,Option.bind_some,if_pos rfl] at hr
            by_cases hne:s.toList=[]
            · rw [if_pos (by unfold ql;rw [if_pos hne];decide +kernel)] at hr
              obtain ⟨z,hz⟩:=h4 hne
              refine Ev.bind hz ?_
              rw [← Option.some.inj hr]
              exact Ev.congr (fun k=>if_neg Bool.false_ne_true) (Ev.now _)
            · have hds:ql s=s:=by unfold ql;rw [if_neg hne]
              simp only [hds] at hr
              rw [if_neg (fun h=>zk h1 (by rw [← toList_data,h];simp))] at hr
              refine Ev.bind (h5 hne) (Ev.congr (fun k=>if_pos rfl) ?_)
              exact EP l hl hn hn2 d (a+1) (acc++[s]) r (by simp;omega) (by omega) hr
      · rw [if_neg ht] at hr
        rw [show ((eF ByteArray.empty l[a] 0).toList == ([116,121,112,101]:List UInt8))=false from by rw [beq_eq_false_iff_ne];exact ht] at uj
        exact Ev.step uj (ER l acc hl hn hn2 a ha' r hr)
    · rw [if_neg ha] at hr
      refine Ev.step (fun k=>?_) (ER l acc hl hn hn2 a ha' r hr)
      conv=>lhs;simp only [aH.l0]
      rw [if_neg (by omega)]
theorem Ob (s:ByteArray) (hs:s.size≤4000):∃ r,Ev (fun k=>eG.f k s) r∧Ev (fun k=>aH.f k s) r∧r.1.length≤1000000∧r.2.2.2.1.length≤1000000:=by
  have hl:=Qd s (by omega)
  have hrl:=N8 s (by omega)
  rcases Gf s with ⟨h1,h2⟩|⟨L,h1,h2,h3⟩
  · refine ⟨([],⟨#[]⟩,⟨#[]⟩,[],((xM s).2.1:Int),((xM s).2.2:Int)),?_,?_,by simp,by simp⟩
    · unfold eG.f
      refine Ev.bind hl ?_
      unfold ED
      simp only []
      rw [if_neg (by omega)]
      exact Ev.now _
    · unfold aH.f
      refine Ev.bind hrl ?_
      unfold ED
      exact Ev.congr (fun k=>if_neg (by simp only;omega)) (Ev.now _)
  · rw [h1,Ue] at hl hrl
    have ht:=Pz hs h2 h3
    have hok:=F9 h3
    have hlen:(conv L).length≤1000000:=by
      rw [xP]
      have:=Um L
      omega
    have hlen2:∀ ws ∈ conv L,ws.length≤1000000:=by
      intro ws hm
      obtain ⟨x,hx,rfl⟩:=List.mem_map.1 hm
      have:=Uh hx
      have:=Qh x
      rw [List.length_map]
      omega
    have both:∀ r,uZ (conv L) ((conv L).length+1) 0 []=some r→r.1.length≤1000000→r.2.2.2.1.length≤1000000→∃ r,Ev (fun k=>eG.f k s) r∧Ev (fun k=>aH.f k s) r∧r.1.length≤1000000∧r.2.2.2.1.length≤1000000:=by
      intro r hr b1 b2
      refine ⟨r,H8 s _ hl hlen hr,?_,b1,b2⟩
      unfold aH.f
      refine Ev.bind hrl (Ev.congr (fun k=>if_pos rfl) ?_)
      exact EP (conv L) hok hlen hlen2 ((conv L).length+1) 0 [] r (by simp) (by omega) hr
    rcases ES (conv L) hok ((conv L).length+1) 0 [] (by omega) (by omega) (fun s hs=>by cases hs) with ⟨m,hm⟩|⟨ts,lo,gl,cs,e1,e2,e3,e4⟩
    · exact both _ hm (by simp [kU]) (by simp [kU])
    · have hll:(conv L).length=ts.length+2+cs.length:=by
        rw [List.drop_zero] at e2
        rw [e2]
        unfold JK JJ
        simp
        omega
      exact both _ e1 (by show ([]++ts).length≤1000000;rw [List.nil_append];omega) (by show cs.length≤1000000;omega)
end Go.Proofs.YtkclndkbccbhaaaGreatDoor.P
end
section
namespace Go.Proofs.YtkclndkbccbhaaaGreatDoor.P
open Go Go.RowKit Go.Proofs.ag.bK Go.Proofs.ag.dV Go.Proofs.ag.fE
theorem Qn (x y:jR):(!(x.f0 == y.f0) || (!(x.f1 == y.f1) || (!(x.f2 == y.f2) || (!(x.f3 == y.f3) || (!(x.f4 == y.f4))))))=true ↔ x ≠ y:=by
  obtain ⟨a0,a1,a2,a3,a4⟩:=x
  obtain ⟨b0,b1,b2,b3,b4⟩:=y
  simp only [ne_eq,jR.mk.injEq,Bool.or_eq_true,Bool.not_eq_true',beq_eq_false_iff_ne]
  by_cases h0:a0=b0 <;> by_cases h1:a1=b1 <;> by_cases h2:a2=b2 <;> by_cases h3:a3=b3 <;> by_cases h4:a4=b4 <;> simp [h0,h1,h2,h3,h4]
theorem KW (t1:List ByteArray) (lo1 CS:ByteArray) (c1:List jR) (t2:List ByteArray) (lo2 Gz:ByteArray) (c2:List jR) (hl:c1.length=c2.length) (hc:c1.length≤140737488355328):∀ (d i:Nat),i+d=c1.length →
    ∃ b,Ev (fun k=>aJ.l1 k (i:Int) t1 lo1 CS c1 t2 lo2 Gz c2) b∧(b=true ↔ c1.drop i=c2.drop i)
  | 0,i,hi=>by
    refine ⟨true,Ev.step (f:=fun _=>some _) (fun k=>?_) (Ev.now _),?_⟩
    · simp only [aJ.l1]
      rw [if_neg (by omega)]
    · rw [List.drop_eq_nil_of_le (by omega),List.drop_eq_nil_of_le (by omega)]
      simp
  | d+1,i,hi=>by
    have h1:i < c1.length:=by omega
    have h2:i < c2.length:=by omega
    obtain ⟨b,hb,hbi⟩:=KW t1 lo1 CS c1 t2 lo2 Gz c2 hl hc d (i+1) (by omega)
    rw [List.drop_eq_getElem_cons h1,List.drop_eq_getElem_cons h2,List.cons.injEq]
    have uj:∀ k,aJ.l1 (k+1) (i:Int) t1 lo1 CS c1 t2 lo2 Gz c2=if (!(c1[i].f0 == c2[i].f0) || (!(c1[i].f1 == c2[i].f1) || (!(c1[i].f2 == c2[i].f2) || (!(c1[i].f3 == c2[i].f3) || (!(c1[i].f4 == c2[i].f4))))))=true then some false else aJ.l1 k ((i+1:Nat):Int) t1 lo1 CS c1 t2 lo2 Gz c2:=by
      intro k
      conv=>lhs;simp only [aJ.l1]
      rw [if_pos (by omega),if_pos (by omega),if_pos (by omega),KY c1 i h1,KY c2 i h2,jD i (by omega)]
    by_cases e:c1[i]=c2[i]
    · refine ⟨b,Ev.step (fun k=>?_) hb,?_⟩
      · rw [uj k,if_neg (fun h=>(Qn _ _).1 h e)]
      · rw [hbi]
        exact ⟨fun h=>⟨e,h⟩,fun h=>h.2⟩
    · refine ⟨false,Ev.step (f:=fun _=>some _) (fun k=>?_) (Ev.now _),?_⟩
      · rw [uj k,if_pos ((Qn _ _).2 e)]
      · exact ⟨fun h=>(by cases h),fun h=>absurd h.1 e⟩
theorem KX (t1:List ByteArray) (lo1 CS:ByteArray) (c1:List jR) (t2:List ByteArray) (lo2 Gz:ByteArray) (c2:List jR) (hl:c1.length=c2.length) (hc:c1.length≤140737488355328) (hlt:t1.length=t2.length) (ht:t1.length≤140737488355328):∀ (d i:Nat),i+d=t1.length →
    ∃ b,Ev (fun k=>aJ.l0 k (i:Int) t1 lo1 CS c1 t2 lo2 Gz c2) b∧(b=true ↔ t1.drop i=t2.drop i∧c1=c2)
  | 0,i,hi=>by
    obtain ⟨b,hb,hbi⟩:=KW t1 lo1 CS c1 t2 lo2 Gz c2 hl hc c1.length 0 (Nat.zero_add _)
    refine ⟨b,Ev.step (fun k=>?_) hb,?_⟩
    · simp only [aJ.l0]
      rw [if_neg (by omega)]
      rfl
    · rw [List.drop_eq_nil_of_le (by omega),List.drop_eq_nil_of_le (by omega),hbi,List.drop_zero,List.drop_zero]
      simp
  | d+1,i,hi=>by
    have h1:i < t1.length:=by omega
    have h2:i < t2.length:=by omega
    obtain ⟨b,hb,hbi⟩:=KX t1 lo1 CS c1 t2 lo2 Gz c2 hl hc hlt ht d (i+1) (by omega)
    rw [List.drop_eq_getElem_cons h1,List.drop_eq_getElem_cons h2,List.cons.injEq]
    have uj:∀ k,aJ.l0 (k+1) (i:Int) t1 lo1 CS c1 t2 lo2 Gz c2=if t1[i].toList=t2[i].toList then aJ.l0 k ((i+1:Nat):Int) t1 lo1 CS c1 t2 lo2 Gz c2 else some false:=by
      intro k
      conv=>lhs;simp only [aJ.l0]
      rw [if_pos (by omega),if_pos (by omega),if_pos (by omega),Dt t1 i h1,Dt t2 i h2,jD i (by omega)]
    by_cases e:t1[i].toList=t2[i].toList
    · refine ⟨b,Ev.step (fun k=>?_) hb,?_⟩
      · rw [uj k,if_pos e]
      · rw [hbi]
        exact ⟨fun h=>⟨⟨toList_inj.1 e,h.1⟩,h.2⟩,fun h=>⟨h.1.2,h.2⟩⟩
    · refine ⟨false,Ev.step (f:=fun _=>some _) (fun k=>?_) (Ev.now _),?_⟩
      · rw [uj k,if_neg e]
      · exact ⟨fun h=>(by cases h),fun h=>absurd (congrArg ByteArray.toList h.1.1) e⟩
theorem TF (t1:List ByteArray) (lo1 CS:ByteArray) (c1:List jR) (t2:List ByteArray) (lo2 Gz:ByteArray) (c2:List jR) (hc:c1.length≤140737488355328) (ht:t1.length≤140737488355328) :
    ∃ b,Ev (fun k=>aJ.f k t1 lo1 CS c1 t2 lo2 Gz c2) b∧(b=true ↔ t1=t2∧lo1=lo2∧CS=Gz∧c1=c2):=by
  have no:Ev (fun k=>aJ.j0 k true t1 lo1 CS c1 t2 lo2 Gz c2) false :=
    Ev.step (f:=fun _=>some false) (fun k=>by simp only [aJ.j0];rw [if_pos trivial]) (Ev.now _)
  by_cases h1:t1.length=t2.length
  · by_cases h2:c1.length=c2.length
    · by_cases h3:lo1.toList=lo2.toList
      · by_cases h4:CS.toList=Gz.toList
        · obtain ⟨b,hb,hbi⟩:=KX t1 lo1 CS c1 t2 lo2 Gz c2 h2 hc h1 ht t1.length 0 (Nat.zero_add _)
          refine ⟨b,Ev.congr (fun k=>?_) (Ev.step (f:=fun k=>aJ.l0 k 0 t1 lo1 CS c1 t2 lo2 Gz c2) (g:=fun k=>aJ.j0 k (CS.toList != Gz.toList) t1 lo1 CS c1 t2 lo2 Gz c2) (fun k=>?_) hb),?_⟩
          · unfold aJ.f
            rw [if_pos (by omega),if_pos (by omega),if_pos h3]
          · simp only [aJ.j0]
            rw [if_neg (by simp [h4])]
          · rw [hbi,List.drop_zero,List.drop_zero]
            exact ⟨fun h=>⟨h.1,toList_inj.1 h3,toList_inj.1 h4,h.2⟩,fun h=>⟨h.1,h.2.2.2⟩⟩
        · refine ⟨false,Ev.congr (fun k=>?_) no,⟨fun h=>(by cases h),fun h=>absurd (congrArg ByteArray.toList h.2.2.1) h4⟩⟩
          unfold aJ.f
          rw [if_pos (by omega),if_pos (by omega),if_pos h3,bne_iff_ne.2 h4]
      · refine ⟨false,Ev.congr (fun k=>?_) no,⟨fun h=>(by cases h),fun h=>absurd (congrArg ByteArray.toList h.2.1) h3⟩⟩
        unfold aJ.f
        rw [if_pos (by omega),if_pos (by omega),if_neg h3]
    · refine ⟨false,Ev.congr (fun k=>?_) no,⟨fun h=>(by cases h),fun h=>absurd (congrArg List.length h.2.2.2) h2⟩⟩
      unfold aJ.f
      rw [if_pos (by omega),if_neg (by omega)]
  · refine ⟨false,Ev.congr (fun k=>?_) no,⟨fun h=>(by cases h),fun h=>absurd (congrArg List.length h.1) h1⟩⟩
    unfold aJ.f
    rw [if_neg (by omega)]
theorem NY (t1:List ByteArray) (lo1 CS:ByteArray) (c1:List jR) (hc:c1.length≤140737488355328) (ht:t1.length≤140737488355328):Ev (fun k=>aJ.f k t1 lo1 CS c1 t1 lo1 CS c1) true:=by
  obtain ⟨b,hb,hi⟩:=TF t1 lo1 CS c1 t1 lo1 CS c1 hc ht
  rwa [hi.2 ⟨rfl,rfl,rfl,rfl⟩] at hb
end Go.Proofs.YtkclndkbccbhaaaGreatDoor.P
end
section
namespace Go.Proofs.YtkclndkbccbhaaaGreatDoor.P
open Go Go.RowKit Go.Proofs.ag.bK Go.Proofs.ag.dV Go.Proofs.ag.fE
theorem Jw (s:ByteArray):Ev (fun k=>fU.f k s) true:=by
  unfold fU.f
  refine Ev.bind Sr ?_
  simp only [if_true]
  by_cases hs:(s.size:Int) > 4000
  · exact Ev.congr (fun k=>if_pos hs) (Ev.now _)
  · refine Ev.congr (fun k=>if_neg hs) ?_
    obtain ⟨r,h1,h2,b1,b2⟩:=Ob s (by omega)
    exact Ev.bind h1 (Ev.bind h2 (Ev.bind (NY _ _ _ _ (by omega) (by omega)) (Ev.congr (fun k=>(if_pos rfl).trans ((if_pos rfl).trans (congrArg some (beq_self_eq_true _)))) (Ev.now _))))
end Go.Proofs.YtkclndkbccbhaaaGreatDoor.P
end
