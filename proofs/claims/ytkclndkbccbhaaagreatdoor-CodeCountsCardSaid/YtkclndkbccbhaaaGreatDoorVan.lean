/- Parts of the proof of CodeCounts: what the functions that it reaches compute, and plain facts about that. -/
import Derived.Test.YtkclndkbccbhaaaGreatDoorVag
import Derived.Test.YtkclndkbccbhaaaGreatDoorVal
import Derived.Test.YtkclndkbccbhaaaGreatDoorVam
import Derived.Test.YtkclndkbccbhaaaGreatDoorVac
import Derived.Test.YtkclndkbccbhaaaGreatDoorVad
import Derived.Test.YtkclndkbccbhaaaGreatDoorVaf
import Derived.Test.YtkclndkbccbhaaaGreatDoorVaj
set_option linter.unusedVariables false
set_option linter.unusedSimpArgs false
section
namespace Go.Proofs.YtkclndkbccbhaaaGreatDoor.P
open Go Go.RowKit Go.Proofs.ae.aX Go.Proofs.ae.dh Go.Proofs.ae.dI
theorem Fe (c:UInt8) (X:Option Bool) :
    (if (c.toNat:Int) ≥ 97 then (if (c.toNat:Int)≤122 then X else (if (c.toNat:Int) ≥ 48 then (if (c.toNat:Int)≤57 then X else (if ((c.toNat:Int)=45) then X else (some false))) else (if ((c.toNat:Int)=45) then X else (some false)))) else (if (c.toNat:Int) ≥ 48 then (if (c.toNat:Int)≤57 then X else (if ((c.toNat:Int)=45) then X else (some false))) else (if ((c.toNat:Int)=45) then X else (some false))))=if Gh c=true then X else some false:=by
  unfold Gh
  simp only [Bool.or_eq_true,decide_eq_true_eq]
  by_cases h1:97≤c.toNat <;> by_cases h2:c.toNat≤122 <;> by_cases h3:48≤c.toNat <;> by_cases h4:c.toNat≤57 <;> by_cases h5:c.toNat=45
  all_goals first
    | omega
    | (repeat' split) <;> first|rfl|omega
theorem Hf (w:List UInt8) (hw:w.length≤140737488355328):∀ (d i:Nat),i+d=w.length →
    Ev (fun k=>aJ.l0 k (Bs w) (i:Int)) ((w.drop i).all Gh && decide (1≤w.length) && decide (w.length≤30))
  | 0,i,hi=>by
    rw [List.drop_eq_nil_of_le (by omega)]
    refine Ev.step (f:=fun _=>some _) (fun k=>?_) (Ev.now _)
    simp only [aJ.l0]
    rw [gY,if_neg (by omega)]
    simp only [List.all_nil,Bool.true_and]
    by_cases h1:1≤w.length
    · rw [if_pos (by omega),decide_eq_true h1,Bool.true_and]
      congr 1
      exact decide_eq_decide.2 (by omega)
    · rw [if_neg (by omega),decide_eq_false h1,Bool.false_and]
  | d+1,i,hi=>by
    have hlt:i < w.length:=by omega
    have hc:w[i]? = some w[i]:=List.getElem?_eq_getElem hlt
    have hdr:w.drop i=w[i] :: w.drop (i+1):=List.drop_eq_getElem_cons hlt
    generalize w[i]=c at hc hdr
    have zM:∀ k,aJ.l0 (k+1) (Bs w) (i:Int)=if Gh c=true then aJ.l0 k (Bs w) ((i+1:Nat):Int) else some false:=by
      intro k
      rw [← Fe c,← Bj w i c hc,← iM i (by omega)]
      conv=>lhs;simp only [aJ.l0]
      rw [gY,if_pos (by omega),if_pos (by omega)]
    rw [hdr,List.all_cons]
    cases ho:Gh c with
    | true =>
      rw [Bool.true_and]
      exact Ev.step (fun k=>by rw [zM k,if_pos ho]) (Hf w hw d (i+1) (by omega))
    | false =>
      simp only [Bool.false_and]
      exact Ev.step (f:=fun _=>some _) (fun k=>by rw [zM k,if_neg (by rw [ho];simp)]) (Ev.now _)
def Gl (w:List UInt8):Bool:=w.all Gh && decide (1≤w.length) && decide (w.length≤30)
theorem Oq (w:List UInt8) (hw:w.length≤140737488355328):Ev (fun k=>aJ.f k (Bs w)) (Gl w):=Hf w hw w.length 0 (Nat.zero_add _)
theorem Ky {w:List UInt8} (h:w ≠ []):Gl w=xH w:=by
  have:1≤w.length:=List.length_pos_iff.2 h
  unfold Gl xH
  rw [decide_eq_true this,Bool.and_true,Bool.and_comm]
def uB (cur:List UInt8):List UInt8→List (List UInt8)
  | []=>if cur=[] then [] else [cur]
  | c :: r=>if c=35 then (if cur=[] then [] else [cur]) else if c=32 then (if cur=[] then [] else [cur])++uB [] r else uB (cur++[c]) r
theorem Hl (cur l:List UInt8) (h:(32:UInt8) ∉ cur):uB cur l=(nK 32 (cur++l.takeWhile (· ≠ 35))).filter (· ≠ []):=by
  have one:∀ cur:List UInt8,([cur]:List (List UInt8)).filter (· ≠ [])=if cur=[] then [] else [cur]:=by
    intro cur
    by_cases e:cur=[] <;> simp [e]
  induction l generalizing cur with
  | nil =>
    rw [List.takeWhile_nil,List.append_nil,lQ 32 h,one]
    rfl
  | cons c r ih =>
    rw [List.takeWhile_cons]
    unfold uB
    by_cases e:c=35
    · subst e
      simp only [ne_eq,not_true_eq_false,decide_false,Bool.false_eq_true,if_false,if_true]
      rw [List.append_nil,lQ 32 h,one]
    · have hd:(decide (c ≠ 35))=true:=by simpa using e
      rw [if_neg e,if_pos hd]
      by_cases e2:c=32
      · subst e2
        rw [if_pos rfl,uP,List.filter_append,lQ 32 h,one,ih [] (by simp),List.nil_append]
      · rw [if_neg e2,ih (cur++[c]) (by simp only [List.mem_append,List.mem_singleton,not_or];exact ⟨h,fun e'=>e2 e'.symm⟩)]
        simp
theorem Cf (l:List UInt8):uB [] l=toks l:=by
  rw [Hl [] l (by simp)]
  rfl
theorem uQ (w:List UInt8) (hw:w.length≤1000000):∀ (d i:Nat),i+d=w.length→∀ (acc:List (List UInt8)) (cur:List UInt8),acc.length≤i→cur.length≤i →
    Ev (fun k=>aT.l0 k (Bs w) (acc.map Bs) (Bs cur) (i:Int)) ((acc++uB cur (w.drop i)).map Bs)
  | 0,i,hi,acc,cur,ha,hc=>by
    rw [List.drop_eq_nil_of_le (by omega)]
    refine Ev.step (f:=fun _=>some _) (fun k=>?_) (Ev.now _)
    simp only [aT.l0]
    rw [gY,if_neg (by omega),qO]
    unfold uB
    by_cases e:cur=[]
    · rw [if_pos e,if_pos e,List.append_nil]
    · rw [if_neg e,if_neg e,if_pos (by rw [List.length_map];omega),List.map_append]
      rfl
  | d+1,i,hi,acc,cur,ha,Yo=>by
    have hlt:i < w.length:=by omega
    have hc:w[i]? = some w[i]:=List.getElem?_eq_getElem hlt
    have hdr:w.drop i=w[i] :: w.drop (i+1):=List.drop_eq_getElem_cons hlt
    generalize w[i]=c at hc hdr
    have hb:=Bj w i c hc
    have hx:=A7 w i c hc
    rw [hdr]
    unfold uB
    have e0:Bs ([]:List UInt8)=(⟨#[]⟩:ByteArray):=rfl
    by_cases e:c=35
    · subst e
      rw [if_pos rfl]
      refine Ev.step (f:=fun _=>some _) (fun k=>?_) (Ev.now _)
      simp only [aT.l0]
      rw [gY,if_pos (by omega),if_pos (by omega),hb,if_pos (by decide),qO]
      by_cases e:cur=[]
      · rw [if_pos e,if_pos e,List.append_nil]
      · rw [if_neg e,if_neg e,if_pos (by rw [List.length_map];omega),List.map_append]
        rfl
    · have n35:¬ (c.toNat:Int)=35:=fun h=>e (UInt8.toNat_inj.1 (by show c.toNat=35;omega))
      rw [if_neg e]
      by_cases e2:c=32
      · subst e2
        rw [if_pos rfl]
        by_cases e3:cur=[]
        · subst e3
          rw [if_pos rfl,List.nil_append]
          refine Ev.step (fun k=>?_) (uQ w hw d (i+1) (by omega) acc [] (by omega) (by simp))
          conv=>lhs;simp only [aT.l0]
          rw [gY,if_pos (by omega),if_pos (by omega),hb,if_neg (by decide),if_pos (by decide),qO,if_pos rfl,iM i (by omega)]
          rfl
        · rw [if_neg e3]
          have:=uQ w hw d (i+1) (by omega) (acc++[cur]) [] (by rw [List.length_append,List.length_singleton];omega) (by simp)
          rw [List.append_assoc] at this
          refine Ev.step (fun k=>?_) this
          conv=>lhs;simp only [aT.l0]
          rw [gY,if_pos (by omega),if_pos (by omega),hb,if_neg (by decide),if_pos (by decide),qO,if_neg e3,if_pos (by rw [List.length_map];omega),iM i (by omega),List.map_append]
          rfl
      · have n32:¬ (c.toNat:Int)=32:=fun h=>e2 (UInt8.toNat_inj.1 (by show c.toNat=32;omega))
        rw [if_neg e2]
        have:=uQ w hw d (i+1) (by omega) acc (cur++[c]) (by omega) (by rw [List.length_append,List.length_singleton];omega)
        refine Ev.step (fun k=>?_) this
        conv=>lhs;simp only [aT.l0]
        rw [iM i (by omega)]
        have h1:((i:Int)).toNat=i:=Int.toNat_natCast i
        have h2:(((i+1:Nat):Int)).toNat=i+1:=Int.toNat_natCast (i+1)
        rw [h1,h2,hx,gY,gY,gY,if_pos (by omega),if_pos (by omega),hb,if_neg n35,if_neg n32,if_pos (by omega),if_pos (by omega),if_pos (by simp only [List.length_singleton];omega),O8]
theorem Kz (w:List UInt8) (hw:w.length≤1000000):Ev (fun k=>aT.f k (Bs w)) ((toks w).map Bs):=by
  have:=uQ w hw w.length 0 (Nat.zero_add _) [] [] (Nat.le_refl _) (Nat.le_refl _)
  rw [List.drop_zero,Cf,List.nil_append] at this
  exact this
theorem GI (s:List UInt8) (hs:s.length≤100000) (x5:List (List ByteArray)) (hx5:x5.length≤1000000) (n i:Nat) (hn:n < 1000000) (hi:i < 1000000) (t:List (List UInt8)) (ht:t.length≤1000000) (h0:∀ w ∈ t,w ≠ []∧w.length≤1000000) :
    ∀ (d j:Nat),j+d=t.length →
      (((t.drop j).all xH=false→Ev (fun k=>aj.l1 k (Bs s) x5 (n:Int) (i:Int) (t.map Bs) (j:Int)) ([],(n:Int),4)) ∧
       ((t.drop j).all xH=true→∀ r,Ev (fun k=>aj.l0 k (Bs s) (x5++conv (keep t)) ((i+1:Nat):Int) ((n+1:Nat):Int) ((i+1:Nat):Int)) r →
        Ev (fun k=>aj.l1 k (Bs s) x5 (n:Int) (i:Int) (t.map Bs) (j:Int)) r))
  | 0,j,hj=>by
    rw [List.drop_eq_nil_of_le (by omega)]
    refine ⟨fun h=>by simp at h,fun _ r hr=>Ev.step (fun k=>?_) hr⟩
    simp only [aj.l1]
    rw [List.length_map,if_neg (by omega),iM i (by omega),iM n (by omega)]
    by_cases e:t=[]
    · subst e
      rw [if_neg (by simp)]
      simp [keep,conv]
    · have hp:0 < t.length:=List.length_pos_iff.2 e
      rw [if_pos (by omega),if_pos (by omega)]
      simp [keep,conv,e]
  | d+1,j,hj=>by
    have hlt:j < t.length:=by omega
    have hw:t[j]? = some t[j]:=List.getElem?_eq_getElem hlt
    have hdr:t.drop j=t[j] :: t.drop (j+1):=List.drop_eq_getElem_cons hlt
    have hm:=h0 t[j] (List.getElem_mem hlt)
    generalize t[j]=w at hw hdr hm
    have ih:=GI s hs x5 hx5 n i hn hi t ht h0 d (j+1) (by omega)
    have hmay:=Oq w (Nat.le_trans hm.2 (by decide))
    rw [Ky hm.1] at hmay
    have zM:∀ k,aj.l1 (k+1) (Bs s) x5 (n:Int) (i:Int) (t.map Bs) (j:Int)=(aJ.f k (Bs w)).bind fun t165=>if t165=true then aj.l1 k (Bs s) x5 (n:Int) (i:Int) (t.map Bs) ((j+1:Nat):Int) else some ([],(n:Int),4):=by
      intro k
      conv=>lhs;simp only [aj.l1]
      rw [List.length_map,if_pos (by omega),if_pos (by omega),PN t j w hw,iM j (by omega)]
    rw [hdr,List.all_cons]
    cases ho:xH w with
    | true =>
      rw [ho] at hmay
      rw [Bool.true_and]
      refine ⟨fun hf=>Ev.step zM (Ev.bind hmay ?_),fun htr r hr=>Ev.step zM (Ev.bind hmay ?_)⟩
      · exact Ev.congr (fun k=>if_pos rfl) (ih.1 hf)
      · exact Ev.congr (fun k=>if_pos rfl) (ih.2 htr r hr)
    | false =>
      rw [ho] at hmay
      rw [Bool.false_and]
      refine ⟨fun _=>Ev.step zM (Ev.bind hmay ?_),fun htr=>by cases htr⟩
      exact Ev.congr (f:=fun _=>some _) (fun k=>if_neg (by simp)) (Ev.now _)
theorem yK (s:List UInt8) (hs:s.length≤20000):∀ (d i:Nat),i+d=s.length+1→∀ (fr n:Nat) (acc:List (List (List UInt8))),fr≤i→n≤i→acc.length≤n→(10:UInt8) ∉ (s.drop fr).take (i - fr) →
    Ev (fun k=>aj.l0 k (Bs s) (conv acc) (fr:Int) ((n+1:Nat):Int) (i:Int)) (if i=s.length+1 then EX (acc,0,0) else EX (LR n acc (nK 10 (s.drop fr))))
  | 0,i,hi,fr,n,acc,hf,hn,ha,hnl=>by
    rw [if_pos (by omega)]
    refine Ev.step (f:=fun _=>some _) (fun k=>?_) (Ev.now _)
    simp only [aj.l0]
    rw [gY,if_neg (by omega)]
    rfl
  | d+1,i,hi,fr,n,acc,hf,hn,ha,hnl=>by
    rw [if_neg (by omega)]
    have fin:∀ rest:List (List UInt8),nK 10 (s.drop fr)=(s.drop fr).take (i - fr) :: rest→(∀ acc':List (List (List UInt8)),acc'.length≤n+1→Ev (fun k=>aj.l0 k (Bs s) (conv acc') ((i+1:Nat):Int) ((n+1+1:Nat):Int) ((i+1:Nat):Int)) (EX (LR (n+1) acc' rest))) →
        Ev (fun k=>aj.j1 k (Bs s) (conv acc) (fr:Int) ((n+1:Nat):Int) (i:Int) false) (EX (LR n acc (nK 10 (s.drop fr)))):=by
      intro rest hsp hr
      rw [hsp]
      generalize hx:(s.drop fr).take (i - fr)=x
      have hxl:x.length≤20000:=by
        rw [← hx,List.length_take,List.length_drop];omega
      have zM:∀ k,aj.j1 (k+1) (Bs s) (conv acc) (fr:Int) ((n+1:Nat):Int) (i:Int) false=(aT.f k (Bs x)).bind fun t161=>aj.l1 k (Bs s) (conv acc) ((n+1:Nat):Int) (i:Int) t161 ((0:Nat):Int):=by
        intro k
        conv=>lhs;simp only [aj.j1]
        have h1:((i:Int)).toNat=i:=Int.toNat_natCast i
        have h2:((fr:Int)).toNat=fr:=Int.toNat_natCast fr
        rw [h1,h2,CQ s fr i,hx,gY,if_neg (by simp),if_pos (by omega),if_pos (by omega),if_pos (by omega)]
        rfl
      refine Ev.step zM (Ev.bind (Kz x (by omega)) ?_)
      have h:=GI s (by omega) (conv acc) (by rw [qc];omega) (n+1) i (by omega) (by omega) (toks x) (by have:=Gw x;omega) (fun w hw=>⟨(rW rfl w hw).1,by have:=(rW rfl w hw).2;omega⟩) (toks x).length 0 (Nat.zero_add _)
      rw [List.drop_zero] at h
      unfold LR
      cases ho:PT x with
      | true =>
        rw [if_pos rfl]
        refine h.2 ho _ ?_
        rw [← I5]
        refine hr _ ?_
        rw [List.length_append]
        have:(keep (toks x)).length≤1:=by unfold keep;split <;> simp
        omega
      | false =>
        rw [if_neg (by simp)]
        exact h.1 ho
    by_cases he:i=s.length
    ·
      subst he
      have hsp:nK 10 (s.drop fr)=(s.drop fr).take (s.length - fr) :: []:=by
        have e:(s.drop fr).take (s.length - fr)=s.drop fr:=List.take_of_length_le (by rw [List.length_drop];omega)
        rw [e] at hnl ⊢
        exact lQ 10 hnl
      refine Ev.step (f:=fun k=>aj.j1 k (Bs s) (conv acc) (fr:Int) ((n+1:Nat):Int) ((s.length:Nat):Int) false) (fun k=>?_) ?_
      · conv=>lhs;simp only [aj.l0]
        rw [gY,if_pos (by omega),if_neg (by omega)]
      · refine fin [] hsp fun acc' ha'=>?_
        have h:=yK s hs d (s.length+1) (by omega) (s.length+1) (n+1) acc' (Nat.le_refl _) (by omega) ha' (by simp)
        rw [if_pos rfl] at h
        exact h
    · have hlt:i < s.length:=by omega
      have hc:s[i]? = some s[i]:=List.getElem?_eq_getElem hlt
      have hdr:s.drop i=s[i] :: s.drop (i+1):=List.drop_eq_getElem_cons hlt
      generalize s[i]=c at hc hdr
      have hb:=Bj s i c hc
      have hsplit:s.drop fr=(s.drop fr).take (i - fr)++c :: s.drop (i+1):=by
        have h1:=(List.take_append_drop (i - fr) (s.drop fr)).symm
        rw [List.drop_drop,show fr+(i - fr)=i from by omega,hdr] at h1
        exact h1
      by_cases e:c=10
      · subst e
        have hsp:nK 10 (s.drop fr)=(s.drop fr).take (i - fr) :: nK 10 (s.drop (i+1)):=by
          conv=>lhs;rw [hsplit]
          rw [uP,lQ 10 hnl]
          rfl
        refine Ev.step (f:=fun k=>aj.j1 k (Bs s) (conv acc) (fr:Int) ((n+1:Nat):Int) (i:Int) false) (fun k=>?_) ?_
        · conv=>lhs;simp only [aj.l0]
          rw [gY,if_pos (by omega),if_pos (by omega),if_pos (by omega),hb]
          rfl
        · refine fin _ hsp fun acc' ha'=>?_
          have h:=yK s hs d (i+1) (by omega) (i+1) (n+1) acc' (Nat.le_refl _) (by omega) ha' (by simp)
          rw [if_neg (by omega)] at h
          exact h
      · have ne:((c.toNat:Int) != 10)=true:=by
          rw [bne_iff_ne]
          intro h
          exact e (UInt8.toNat_inj.1 (by show c.toNat=10;omega))
        have h:=yK s hs d (i+1) (by omega) fr n acc (by omega) (by omega) ha (by
          rw [show i+1 - fr=(i - fr)+1 from by omega,List.take_add_one]
          have hg:(s.drop fr)[i - fr]? = some c:=by
            rw [List.getElem?_drop,show fr+(i - fr)=i from by omega,hc]
          rw [hg]
          simp only [Option.toList_some,List.mem_append,List.mem_singleton,not_or]
          exact ⟨hnl,fun e'=>e e'.symm⟩)
        rw [if_neg (by omega)] at h
        refine Ev.step (f:=fun k=>aj.j1 k (Bs s) (conv acc) (fr:Int) ((n+1:Nat):Int) (i:Int) true) (fun k=>?_) (Ev.step (fun k=>?_) h)
        · conv=>lhs;simp only [aj.l0]
          rw [gY,if_pos (by omega),if_pos (by omega),if_pos (by omega),hb,ne]
        · conv=>lhs;simp only [aj.j1]
          rw [if_pos trivial,iM i (by omega)]
theorem ET (s:ByteArray) (hs:s.size≤20000):Ev (fun k=>aj.f k s) (EX (Hg s)):=by
  have h:=yK s.data.toList (by rw [yf];exact hs) (s.data.toList.length+1) 0 (by omega) 0 0 [] (Nat.le_refl _) (Nat.le_refl _) (Nat.le_refl _) (by simp)
  rw [if_neg (by omega),List.drop_zero,mJ] at h
  refine Ev.congr (fun k=>?_) h
  unfold aj.f
  rw [if_neg (by omega)]
  rfl
end Go.Proofs.YtkclndkbccbhaaaGreatDoor.P
end
section
namespace Go.Proofs.YtkclndkbccbhaaaGreatDoor.P
open Go.RowKit Go.Proofs.ae.aX Go.Proofs.ae.dh Go.Proofs.ae.dI
attribute [local go_sem] iY iV jL jK iy iw iW iU
def aA.l0:Nat→ByteArray→Int→Int→Int→List ByteArray→ByteArray→ByteArray→List (iQ)→Option (Bool)
 | 0,_,_,_,_,_,_,_,_=>none
 | k+1,x3,x5,x25,Pe,yB,Di,Dh,yA=>if Pe < x25 then (if 0≤Pe then (if Pe < (x3.size:Int) then (if (bt x3 Pe)=10 then (aA.l0 k x3 (wrap64 (x5+1)) x25 (wrap64 (Pe+1)) yB Di Dh yA) else (aA.l0 k x3 x5 x25 (wrap64 (Pe+1)) yB Di Dh yA)) else (none)) else (none)) else ((aj.f k x3).bind fun Ny=>(if x5=(wrap64 ((wrap64 ((yB.length:Int)+2))+(yA.length:Int))) then (if Ny.2.2=0 then (if (Ny.1.length:Int)=x5 then (if 0≤(wrap64 ((x3.size:Int) - 1)) then (if (wrap64 ((x3.size:Int) - 1)) < (x3.size:Int) then (some ((bt x3 (wrap64 ((x3.size:Int) - 1))) == 10)) else (none)) else (none)) else (some false)) else (some false)) else (some false)))
def aA.f (k:Nat) (bn:List ByteArray) (bD:ByteArray) (bu:ByteArray) (aV:List (iQ)):Option (Bool):=(bT.f k).bind fun ER=>(if ER=true then ((aW.f k bn bD bu aV).bind fun wZ=>(if wZ=true then ((aU.f k bn bD bu aV).bind fun iZ=>(if iZ.2=0 then (aA.l0 k iZ.1 0 (iZ.1.size:Int) 0 bn bD bu aV) else (some (iZ.1.toList == ([]:List UInt8))))) else (some true))) else (some false))
theorem aA.dR:∀ k,(∀ y0 y1 y2 y3 y4 y5 y6 y7,bM (aA.l0 k y0 y1 y2 y3 y4 y5 y6 y7) (aA.l0 (k+1) y0 y1 y2 y3 y4 y5 y6 y7))
 | 0=>fun _ _ _ _ _ _ _ _ r h=>by simp [aA.l0] at h
 | k+1=>by
  have gV:=aA.dR k
  ·
   intro y0 y1 y2 y3 y4 y5 y6 y7
   unfold aA.l0
   repeat' with_reducible first|apply gV|apply aU.mono|apply aW.mono|apply bT.mono|apply aj.mono|exact bM.refl _|exact bM.none _|refine bM.ite ?_ ?_|refine bM.bind ?_ (fun _=>?_)
theorem aA.mono:∀ a0 a1 a2 a3 k,bM (aA.f k a0 a1 a2 a3) (aA.f (k+1) a0 a1 a2 a3):=by
 intro a0 a1 a2 a3 k
 have gV:=aA.dR k
 unfold aA.f
 repeat' with_reducible first|apply gV|apply aU.mono|apply aW.mono|apply bT.mono|apply aj.mono|exact bM.refl _|exact bM.none _|refine bM.ite ?_ ?_|refine bM.bind ?_ (fun _=>?_)
set_option maxHeartbeats 8000000 in
set_option maxRecDepth 100000 in
theorem aA.calls (k:Nat) (dN:Option Addr) (dK:Nat) (bn:List ByteArray) (bD:ByteArray) (bu:ByteArray) (dQ:Option Addr) (dJ:Nat) (aV:List (iQ)) (r:Bool) (w:World) (pV:Kd.C Kd.string w dN bn.length bn) (pX:bn.length≤dK) (pU:Kd.C k27 w dQ aV.length aV) (pW:aV.length≤dJ) (iC:Kd.C pK w pM jO.length jO) (h:aA.f k bn bD bu aV=some r) :
  Calls Tryz.prog 6 #[.agg #[.slice dN bn.length dK,.string bD,.string bu,.slice dQ aV.length dJ]] w fun e w'=>e=.returned (.bool r)∧Below w.heap.size w w':=by
 have KJ:=Tryz.underlying25
 have nH:=af.mk pV
 have ru:=af.mk pX
 clear pV pX
 have oH:=af.mk pU
 have rq:=af.mk pW
 clear pU pW
 have uo:=af.mk iC
 clear iC
 have HB:=af.mk (Below.refl w.heap.size w)
 have H:((bT.f k).bind fun ER=>(if ER=true then ((aW.f k bn bD bu aV).bind fun wZ=>(if wZ=true then ((aU.f k bn bD bu aV).bind fun iZ=>(if iZ.2=0 then (aA.l0 k iZ.1 0 (iZ.1.size:Int) 0 bn bD bu aV) else (some (iZ.1.toList == ([]:List UInt8))))) else (some true))) else (some false)))=some r:=h
 clear h
 replace H:=Option.bind_eq_some_iff.mp H
 obtain ⟨ER,NR,H⟩:=H
 replace H:(if ER=true then ((aW.f k bn bD bu aV).bind fun wZ=>(if wZ=true then ((aU.f k bn bD bu aV).bind fun iZ=>(if iZ.2=0 then (aA.l0 k iZ.1 0 (iZ.1.size:Int) 0 bn bD bu aV) else (some (iZ.1.toList == ([]:List UInt8))))) else (some true))) else (some false))=some r:=H
 have A2:=af.mk NR
 clear NR
 by_cases c3:ER=true
 ·
  subst c3
  have H1:((aW.f k bn bD bu aV).bind fun wZ=>(if wZ=true then ((aU.f k bn bD bu aV).bind fun iZ=>(if iZ.2=0 then (aA.l0 k iZ.1 0 (iZ.1.size:Int) 0 bn bD bu aV) else (some (iZ.1.toList == ([]:List UInt8))))) else (some true)))=some r:=by rw [if_pos rfl] at H;exact H
  clear H
  have H:=H1
  clear H1
  replace H:=Option.bind_eq_some_iff.mp H
  obtain ⟨wZ,XT,H⟩:=H
  replace H:(if wZ=true then ((aU.f k bn bD bu aV).bind fun iZ=>(if iZ.2=0 then (aA.l0 k iZ.1 0 (iZ.1.size:Int) 0 bn bD bu aV) else (some (iZ.1.toList == ([]:List UInt8))))) else (some true))=some r:=H
  have A4:=af.mk XT
  clear XT
  by_cases c5:wZ=true
  ·
   subst c5
   have H1:((aU.f k bn bD bu aV).bind fun iZ=>(if iZ.2=0 then (aA.l0 k iZ.1 0 (iZ.1.size:Int) 0 bn bD bu aV) else (some (iZ.1.toList == ([]:List UInt8)))))=some r:=by rw [if_pos rfl] at H;exact H
   clear H
   have H:=H1
   clear H1
   replace H:=Option.bind_eq_some_iff.mp H
   obtain ⟨⟨jf,zT⟩,XR,H⟩:=H
   replace H:(if zT=0 then (aA.l0 k jf 0 (jf.size:Int) 0 bn bD bu aV) else (some (jf.toList == ([]:List UInt8))))=some r:=H
   have A6:=af.mk XR
   clear XR
   by_cases c7:zT=0
   ·
    rw [if_pos c7] at H
    have uK:(zT == 0)=true:=beq_iff_eq.mpr c7
    have F8:(zT != 0)=false:=bne_eq_false_iff_eq.mpr c7
    clear c7
    have H':=af.mk H
    clear H
    go_enter Tryz.func6,Tryz.ntmps6
    go_wp2_with (first|((with_reducible refine eu (N:=1) rfl ?_);(try (refine jd (by rfl) ?_;dsimp only));refine iK ?hg (N:=1) ?hd (cs:=#[.slice dN bn.length dK,.string bD,.string bu,.slice dQ aV.length dJ]) (t:=25) ?hr ?_;(case hd=>rfl);(case hg=>rfl);(case hr=>first|(go_simp;done)|(go_simp;rfl));intro dV hg w8 hbox hb;have dM:=af.mk (bf (by repeat (first|(with_reducible first|exact HB.out|apply ai|apply ag|apply ah)|exact HB.out)) hb);have dP:=af.mk (hbox);have eY:=af.mk ((by rw [hg];exact (bG (by repeat (first|(with_reducible first|exact HB.out|apply ai|apply ag|apply ah)|exact HB.out))):w.heap.size≤dV));have iD:=eY;clear HB;have HB:=dM;have bP:=dP;have JA:=eY;have iR:=iD;clear dM dP eY iD;clear hb hbox hg)|((with_reducible refine bY (f:=7) rfl ?_);refine eQ (some 10) rfl rfl Tryz.func7 (by kernel_rfl) rfl #[] rfl (by (try simp only [List.map_toArray,List.map_cons,List.map_nil]);first|done|rfl|(simp only [List.length_drop,List.length_take];rfl)) ?_;(with_reducible refine (bT.calls k  true _ ?fA A2.out).mono ?_);(case fA=>repeat (first|exact (Kd.dB uo.out HB.out)|(with_reducible refine Kd.eP ?_ _)|(with_reducible refine Kd.eH ?_ _)|(with_reducible refine Kd.gp ?_)));rintro e w9 ⟨rfl,hb⟩;refine ⟨_,rfl,?_⟩;have dM:=af.mk (bW (g:=dV) (o:=.cells #[.slice dN bn.length dK,.string bD,.string bu,.slice dQ aV.length dJ] 25 (0,0)) (by (with_reducible repeat (first|refine aC ?_ _|refine aK ?_|refine aG ?_ _));exact bP.out) hb);have dP:=af.mk (bf (by repeat (first|(with_reducible first|exact HB.out|apply ai|apply ag|apply ah|refine az ?_ iR.out)|exact HB.out)) hb);clear bP;clear HB;have bP:=dM;have HB:=dP;clear dM dP;(try clear hb);(try clear hb2);(try clear hk);(try clear hi);have Vk:w9.cell? ⟨dV,0,none⟩=some (.slice dN bn.length dK):=(ak bP.out 0).trans rfl;have Vj:w9.cell? ⟨dV,1,none⟩=some (.string bD):=(ak bP.out 1).trans rfl;have Vh:w9.cell? ⟨dV,2,none⟩=some (.string bu):=(ak bP.out 2).trans rfl;have Vg:w9.cell? ⟨dV,3,none⟩=some (.slice dQ aV.length dJ):=(ak bP.out 3).trans rfl;have Uf:=ax bP.out 0;have Ue:=ax bP.out 1;have Ud:=ax bP.out 2;have Uc:=ax bP.out 3)|((with_reducible refine bY (f:=8) rfl ?_);refine eQ (some 13) rfl rfl Tryz.func8 (by kernel_rfl) rfl #[.agg #[.slice dN bn.length dK,.string bD,.string bu,.slice dQ aV.length dJ]] rfl (by (try simp only [List.map_toArray,List.map_cons,List.map_nil]);first|done|rfl|(simp only [List.length_drop,List.length_take];rfl)) ?_;(with_reducible refine (aW.calls k _ _ bn bD bu _ _ aV true _ ?fA ?lS ?mW ?mV A4.out).mono ?_);(case fA=>repeat (first|exact (Kd.dB nH.out HB.out)|(with_reducible refine Kd.eP ?_ _)|(with_reducible refine Kd.eH ?_ _)|(with_reducible refine Kd.gp ?_)));(case lS=>exact ru.out);(case mW=>repeat (first|exact (Kd.dB oH.out HB.out)|(with_reducible refine Kd.eP ?_ _)|(with_reducible refine Kd.eH ?_ _)|(with_reducible refine Kd.gp ?_)));(case mV=>exact rq.out);rintro e Pg ⟨rfl,hb⟩;refine ⟨_,rfl,?_⟩;have dM:=af.mk (bW (g:=dV) (o:=.cells #[.slice dN bn.length dK,.string bD,.string bu,.slice dQ aV.length dJ] 25 (0,0)) (by (with_reducible repeat (first|refine aC ?_ _|refine aK ?_|refine aG ?_ _));exact bP.out) hb);have dP:=af.mk (bf (by repeat (first|(with_reducible first|exact HB.out|apply ai|apply ag|apply ah|refine az ?_ iR.out)|exact HB.out)) hb);clear bP;clear HB;have bP:=dM;have HB:=dP;clear dM dP;(try clear hb);(try clear hb2);(try clear hk);(try clear hi);have En:Pg.cell? ⟨dV,0,none⟩=some (.slice dN bn.length dK):=(ak bP.out 0).trans rfl;have Em:Pg.cell? ⟨dV,1,none⟩=some (.string bD):=(ak bP.out 1).trans rfl;have Ej:Pg.cell? ⟨dV,2,none⟩=some (.string bu):=(ak bP.out 2).trans rfl;have Ei:Pg.cell? ⟨dV,3,none⟩=some (.slice dQ aV.length dJ):=(ak bP.out 3).trans rfl;have Ed:=ax bP.out 0;have Ec:=ax bP.out 1;have Eb:=ax bP.out 2;have Ea:=ax bP.out 3)|((with_reducible refine bY (f:=9) rfl ?_);refine eQ (some 17) rfl rfl Tryz.func9 (by kernel_rfl) rfl #[.agg #[.slice dN bn.length dK,.string bD,.string bu,.slice dQ aV.length dJ]] rfl (by (try simp only [List.map_toArray,List.map_cons,List.map_nil]);first|done|rfl|(simp only [List.length_drop,List.length_take];rfl)) ?_;(with_reducible refine (aU.calls k _ _ bn bD bu _ _ aV jf zT _ ?fA ?lS ?mW ?mV ?rY A6.out).mono ?_);(case fA=>repeat (first|exact (Kd.dB nH.out HB.out)|(with_reducible refine Kd.eP ?_ _)|(with_reducible refine Kd.eH ?_ _)|(with_reducible refine Kd.gp ?_)));(case lS=>exact ru.out);(case mW=>repeat (first|exact (Kd.dB oH.out HB.out)|(with_reducible refine Kd.eP ?_ _)|(with_reducible refine Kd.eH ?_ _)|(with_reducible refine Kd.gp ?_)));(case mV=>exact rq.out);(case rY=>repeat (first|exact (Kd.dB uo.out HB.out)|(with_reducible refine Kd.eP ?_ _)|(with_reducible refine Kd.eH ?_ _)|(with_reducible refine Kd.gp ?_)));rintro e WR ⟨rfl,hb⟩;refine ⟨_,rfl,?_⟩;have dM:=af.mk (bW (g:=dV) (o:=.cells #[.slice dN bn.length dK,.string bD,.string bu,.slice dQ aV.length dJ] 25 (0,0)) (by (with_reducible repeat (first|refine aC ?_ _|refine aK ?_|refine aG ?_ _));exact bP.out) hb);have dP:=af.mk (bf (by repeat (first|(with_reducible first|exact HB.out|apply ai|apply ag|apply ah|refine az ?_ iR.out)|exact HB.out)) hb);clear bP;clear HB;have bP:=dM;have HB:=dP;clear dM dP;(try clear hb);(try clear hb2);(try clear hk);(try clear hi)))
    go_loopg [5,26] k (fun kq v5 v26 w'=>∃ (dF:Int) (jM:Int),v5=.int .i64 dF∧v26=.int .i64 jM∧af (aA.l0 kq jf dF (jf.size:Int) jM bn bD bu aV=some r)∧af (kq≤k)∧af (w'.heap[dV]? = some (.cells #[(.slice dN bn.length dK),.string bD,.string bu,(.slice dQ aV.length dJ)] 25 (0,0)))∧af (Below w.heap.size w w'))
    case atStart=>exact ⟨(0),(0),(by first|rfl|(simp;done)|(simp [*];done)),(by first|rfl|(simp;done)|(simp [*];done)),H',⟨Nat.le_refl _⟩,⟨by (with_reducible repeat (first|refine aC ?_ _|refine aK ?_|refine aG ?_ _));exact bP.out⟩,⟨by repeat (first|(with_reducible first|exact HB.out|apply ai|apply ag|apply ah|refine az ?_ iR.out)|exact HB.out)⟩⟩
    case round =>
     clear H'
     obtain ⟨dF,jM,rfl,rfl,HA,lH,bP,HB⟩:=hrel
     cases gk with
     | zero=>exact absurd HA.out (by simp [aA.l0])
     | succ k1 =>
      have H:=HA.out
      clear HA
      simp only [aA.l0] at H
      by_cases c14:jM < (jf.size:Int)
      ·
       rw [if_pos c14] at H
       have sN:decide (jM < (jf.size:Int))=true:=decide_eq_true c14
       clear c14
       by_cases c15:0≤jM
       ·
        rw [if_pos c15] at H
        have yh:decide (0≤jM)=true:=decide_eq_true c15
        clear c15
        by_cases c16:jM < (jf.size:Int)
        ·
         rw [if_pos c16] at H
         have Nu:decide (jM < (jf.size:Int))=true:=decide_eq_true c16
         clear c16
         by_cases c18:(bt jf jM)=10
         ·
          rw [if_pos c18] at H
          have Jh:((bt jf jM) == 10)=true:=beq_iff_eq.mpr c18
          have Jg:((bt jf jM) != 10)=false:=bne_eq_false_iff_eq.mpr c18
          clear c18
          have H':=af.mk H
          clear H
          have PR:0≤(jM:Int):=of_decide_eq_true (by first|(with_reducible assumption)|assumption)
          have PO:jM < (jf.size:Int):=of_decide_eq_true (by first|(with_reducible assumption)|assumption)
          have VE:=jR jf jM
          replace PR:=eq_true PR
          replace PO:=eq_true PO
          go_wp2
          go_roundg k1
          case measure=>have:=lH.out;omega
          case rel=>exact ⟨(wrap64 (dF+1)),(wrap64 (jM+1)),(by first|rfl|(simp;done)|(simp [*];done)),(by first|rfl|(simp;done)|(simp [*];done)),H',⟨by have:=lH.out;omega⟩,⟨by (with_reducible repeat (first|refine aC ?_ _|refine aK ?_|refine aG ?_ _));exact bP.out⟩,⟨by repeat (first|(with_reducible first|exact HB.out|apply ai|apply ag|apply ah|refine az ?_ iR.out)|exact HB.out)⟩⟩
         ·
          rw [if_neg c18] at H
          have Jh:((bt jf jM) == 10)=false:=beq_eq_false_iff_ne.mpr c18
          have Jg:((bt jf jM) != 10)=true:=bne_iff_ne.mpr c18
          have H':=af.mk H
          clear H
          have PR:0≤(jM:Int):=of_decide_eq_true (by first|(with_reducible assumption)|assumption)
          have PO:jM < (jf.size:Int):=of_decide_eq_true (by first|(with_reducible assumption)|assumption)
          have VE:=jR jf jM
          replace PR:=eq_true PR
          replace PO:=eq_true PO
          go_wp2
          go_roundg k1
          case measure=>have:=lH.out;omega
          case rel=>exact ⟨(dF),(wrap64 (jM+1)),(by first|rfl|(simp;done)|(simp [*];done)),(by first|rfl|(simp;done)|(simp [*];done)),H',⟨by have:=lH.out;omega⟩,⟨by (with_reducible repeat (first|refine aC ?_ _|refine aK ?_|refine aG ?_ _));exact bP.out⟩,⟨by repeat (first|(with_reducible first|exact HB.out|apply ai|apply ag|apply ah|refine az ?_ iR.out)|exact HB.out)⟩⟩
        ·
         rw [if_neg c16] at H
         exact absurd H (by simp)
       ·
        rw [if_neg c15] at H
        exact absurd H (by simp)
      ·
       rw [if_neg c14] at H
       have sN:decide (jM < (jf.size:Int))=false:=decide_eq_false c14
       clear c14
       replace H:=Option.bind_eq_some_iff.mp H
       obtain ⟨⟨wY,JM,wX⟩,RN,H⟩:=H
       replace H:(if dF=(wrap64 ((wrap64 ((bn.length:Int)+2))+(aV.length:Int))) then (if wX=0 then (if (wY.length:Int)=dF then (if 0≤(wrap64 ((jf.size:Int) - 1)) then (if (wrap64 ((jf.size:Int) - 1)) < (jf.size:Int) then (some ((bt jf (wrap64 ((jf.size:Int) - 1))) == 10)) else (none)) else (none)) else (some false)) else (some false)) else (some false))=some r:=H
       have RP:=af.mk RN
       clear RN
       by_cases c20:dF=(wrap64 ((wrap64 ((bn.length:Int)+2))+(aV.length:Int)))
       ·
        rw [if_pos c20] at H
        have Jf:(dF == (wrap64 ((wrap64 ((bn.length:Int)+2))+(aV.length:Int))))=true:=beq_iff_eq.mpr c20
        have Je:(dF != (wrap64 ((wrap64 ((bn.length:Int)+2))+(aV.length:Int))))=false:=bne_eq_false_iff_eq.mpr c20
        clear c20
        by_cases c21:wX=0
        ·
         rw [if_pos c21] at H
         have Qo:(wX == 0)=true:=beq_iff_eq.mpr c21
         have Qn:(wX != 0)=false:=bne_eq_false_iff_eq.mpr c21
         clear c21
         by_cases OU:(wY.length:Int)=dF
         ·
          rw [if_pos OU] at H
          have Qm:((wY.length:Int) == dF)=true:=beq_iff_eq.mpr OU
          have Ql:((wY.length:Int) != dF)=false:=bne_eq_false_iff_eq.mpr OU
          clear OU
          obtain ⟨vY,AV⟩:∃ j_:Int,(wrap64 ((jf.size:Int) - 1))=j_:=⟨_,rfl⟩
          replace H:(if 0≤(vY) then (if (vY) < (jf.size:Int) then (some ((bt jf (vY)) == 10)) else (none)) else (none))=some r:=by first|(rw [AV] at H;exact H)|(simp only [AV] at H ⊢;exact H)
          (try rw [AV] at RP)
          have VJ:(IntKind.i64.wrap ((jf.size:Int) - 1))=vY:=(aH _).trans AV
          by_cases c24:0≤(vY)
          ·
           rw [if_pos c24] at H
           have Nq:decide (0≤(vY))=true:=decide_eq_true c24
           clear c24
           by_cases c25:(vY) < (jf.size:Int)
           ·
            rw [if_pos c25] at H
            have Xw:decide ((vY) < (jf.size:Int))=true:=decide_eq_true c25
            clear c25
            obtain rfl:=Option.some.inj H
            go_wp2_with (first|((with_reducible refine bY (f:=16) rfl ?_);refine eQ (some 38) rfl rfl Tryz.func16 (by kernel_rfl) rfl #[.string jf] rfl (by (try simp only [List.map_toArray,List.map_cons,List.map_nil]);first|done|rfl|(simp only [List.length_drop,List.length_take];rfl)) ?_;(with_reducible refine (aj.calls k1 jf wY JM wX _ RP.out).mono ?_);rintro e PH ⟨NZ,rfl,ho0,hb⟩;refine ⟨_,rfl,?_⟩;have dM:=af.mk (Kd.uV ho0 (bG (by repeat (first|(with_reducible first|exact HB.out|apply ai|apply ag|apply ah|refine az ?_ iR.out)|exact HB.out))));have dP:=af.mk (bW (g:=dV) (o:=.cells #[.slice dN bn.length dK,.string bD,.string bu,.slice dQ aV.length dJ] 25 (0,0)) (by (with_reducible repeat (first|refine aC ?_ _|refine aK ?_|refine aG ?_ _));exact bP.out) hb);have eY:=af.mk (bf (by repeat (first|(with_reducible first|exact HB.out|apply ai|apply ag|apply ah|refine az ?_ iR.out)|exact HB.out)) hb);clear bP;clear HB;have BD:=dM;have bP:=dP;have HB:=eY;clear dM dP eY;(try clear hb);(try clear hb2);(try clear hk);(try clear hi);(try clear ho0);have LG:PH.cell? ⟨dV,0,none⟩=some (.slice dN bn.length dK):=(ak bP.out 0).trans rfl;have LD:PH.cell? ⟨dV,1,none⟩=some (.string bD):=(ak bP.out 1).trans rfl;have LC:PH.cell? ⟨dV,2,none⟩=some (.string bu):=(ak bP.out 2).trans rfl;have Lu:PH.cell? ⟨dV,3,none⟩=some (.slice dQ aV.length dJ):=(ak bP.out 3).trans rfl;have Lc:=ax bP.out 0;have La:=ax bP.out 1;have KY:=ax bP.out 2;have KX:=ax bP.out 3;obtain ⟨YS,YB,V7⟩:=Kd.zx BD.out;subst V7;have p26:0≤((vY):Int):=of_decide_eq_true (by first|(with_reducible assumption)|assumption);have WY:(vY) < (jf.size:Int):=of_decide_eq_true (by first|(with_reducible assumption)|assumption);have Yk:=jR jf (vY);replace p26:=eq_true p26;replace WY:=eq_true WY))
            go_ret
            exact ⟨by first|rfl|(simp [bC,bz] <;> rfl)|(simp only [← AV];first|rfl|(simp [bC,bz] <;> rfl))|(simp [*,bC,bz] <;> rfl),by repeat (first|(with_reducible first|exact HB.out|apply ai|apply ag|apply ah|refine az ?_ iR.out)|exact HB.out)⟩
           ·
            rw [if_neg c25] at H
            exact absurd H (by simp)
          ·
           rw [if_neg c24] at H
           exact absurd H (by simp)
         ·
          rw [if_neg OU] at H
          have Qm:((wY.length:Int) == dF)=false:=beq_eq_false_iff_ne.mpr OU
          have Ql:((wY.length:Int) != dF)=true:=bne_iff_ne.mpr OU
          obtain rfl:=Option.some.inj H
          go_wp2_with (first|((with_reducible refine bY (f:=16) rfl ?_);refine eQ (some 38) rfl rfl Tryz.func16 (by kernel_rfl) rfl #[.string jf] rfl (by (try simp only [List.map_toArray,List.map_cons,List.map_nil]);first|done|rfl|(simp only [List.length_drop,List.length_take];rfl)) ?_;(with_reducible refine (aj.calls k1 jf wY JM wX _ RP.out).mono ?_);rintro e JC ⟨NZ,rfl,ho0,hb⟩;refine ⟨_,rfl,?_⟩;have dM:=af.mk (Kd.uV ho0 (bG (by repeat (first|(with_reducible first|exact HB.out|apply ai|apply ag|apply ah|refine az ?_ iR.out)|exact HB.out))));have dP:=af.mk (bW (g:=dV) (o:=.cells #[.slice dN bn.length dK,.string bD,.string bu,.slice dQ aV.length dJ] 25 (0,0)) (by (with_reducible repeat (first|refine aC ?_ _|refine aK ?_|refine aG ?_ _));exact bP.out) hb);have eY:=af.mk (bf (by repeat (first|(with_reducible first|exact HB.out|apply ai|apply ag|apply ah|refine az ?_ iR.out)|exact HB.out)) hb);clear bP;clear HB;have BD:=dM;have bP:=dP;have HB:=eY;clear dM dP eY;(try clear hb);(try clear hb2);(try clear hk);(try clear hi);(try clear ho0);have UQ:JC.cell? ⟨dV,0,none⟩=some (.slice dN bn.length dK):=(ak bP.out 0).trans rfl;have UO:JC.cell? ⟨dV,1,none⟩=some (.string bD):=(ak bP.out 1).trans rfl;have UN:JC.cell? ⟨dV,2,none⟩=some (.string bu):=(ak bP.out 2).trans rfl;have UM:JC.cell? ⟨dV,3,none⟩=some (.slice dQ aV.length dJ):=(ak bP.out 3).trans rfl;have TC:=ax bP.out 0;have TB:=ax bP.out 1;have TA:=ax bP.out 2;have Tz:=ax bP.out 3;obtain ⟨YQ,Yz,V6⟩:=Kd.zx BD.out;subst V6))
          go_ret
          exact ⟨by first|rfl|(simp [bC,bz] <;> rfl)|(simp [*,bC,bz] <;> rfl),by repeat (first|(with_reducible first|exact HB.out|apply ai|apply ag|apply ah|refine az ?_ iR.out)|exact HB.out)⟩
        ·
         rw [if_neg c21] at H
         have Qo:(wX == 0)=false:=beq_eq_false_iff_ne.mpr c21
         have Qn:(wX != 0)=true:=bne_iff_ne.mpr c21
         obtain rfl:=Option.some.inj H
         go_wp2_with (first|((with_reducible refine bY (f:=16) rfl ?_);refine eQ (some 38) rfl rfl Tryz.func16 (by kernel_rfl) rfl #[.string jf] rfl (by (try simp only [List.map_toArray,List.map_cons,List.map_nil]);first|done|rfl|(simp only [List.length_drop,List.length_take];rfl)) ?_;(with_reducible refine (aj.calls k1 jf wY JM wX _ RP.out).mono ?_);rintro e JJ ⟨NZ,rfl,ho0,hb⟩;refine ⟨_,rfl,?_⟩;have dM:=af.mk (Kd.uV ho0 (bG (by repeat (first|(with_reducible first|exact HB.out|apply ai|apply ag|apply ah|refine az ?_ iR.out)|exact HB.out))));have dP:=af.mk (bW (g:=dV) (o:=.cells #[.slice dN bn.length dK,.string bD,.string bu,.slice dQ aV.length dJ] 25 (0,0)) (by (with_reducible repeat (first|refine aC ?_ _|refine aK ?_|refine aG ?_ _));exact bP.out) hb);have eY:=af.mk (bf (by repeat (first|(with_reducible first|exact HB.out|apply ai|apply ag|apply ah|refine az ?_ iR.out)|exact HB.out)) hb);clear bP;clear HB;have BD:=dM;have bP:=dP;have HB:=eY;clear dM dP eY;(try clear hb);(try clear hb2);(try clear hk);(try clear hi);(try clear ho0);have Lt:JJ.cell? ⟨dV,0,none⟩=some (.slice dN bn.length dK):=(ak bP.out 0).trans rfl;have Ls:JJ.cell? ⟨dV,1,none⟩=some (.string bD):=(ak bP.out 1).trans rfl;have Lr:JJ.cell? ⟨dV,2,none⟩=some (.string bu):=(ak bP.out 2).trans rfl;have Lp:JJ.cell? ⟨dV,3,none⟩=some (.slice dQ aV.length dJ):=(ak bP.out 3).trans rfl;have KW:=ax bP.out 0;have KU:=ax bP.out 1;have KT:=ax bP.out 2;have KR:=ax bP.out 3))
         go_ret
         exact ⟨by first|rfl|(simp [bC,bz] <;> rfl)|(simp [*,bC,bz] <;> rfl),by repeat (first|(with_reducible first|exact HB.out|apply ai|apply ag|apply ah|refine az ?_ iR.out)|exact HB.out)⟩
       ·
        rw [if_neg c20] at H
        have Jf:(dF == (wrap64 ((wrap64 ((bn.length:Int)+2))+(aV.length:Int))))=false:=beq_eq_false_iff_ne.mpr c20
        have Je:(dF != (wrap64 ((wrap64 ((bn.length:Int)+2))+(aV.length:Int))))=true:=bne_iff_ne.mpr c20
        obtain rfl:=Option.some.inj H
        go_wp2_with (first|((with_reducible refine bY (f:=16) rfl ?_);refine eQ (some 38) rfl rfl Tryz.func16 (by kernel_rfl) rfl #[.string jf] rfl (by (try simp only [List.map_toArray,List.map_cons,List.map_nil]);first|done|rfl|(simp only [List.length_drop,List.length_take];rfl)) ?_;(with_reducible refine (aj.calls k1 jf wY JM wX _ RP.out).mono ?_);rintro e Sj ⟨NZ,rfl,ho0,hb⟩;refine ⟨_,rfl,?_⟩;have dM:=af.mk (Kd.uV ho0 (bG (by repeat (first|(with_reducible first|exact HB.out|apply ai|apply ag|apply ah|refine az ?_ iR.out)|exact HB.out))));have dP:=af.mk (bW (g:=dV) (o:=.cells #[.slice dN bn.length dK,.string bD,.string bu,.slice dQ aV.length dJ] 25 (0,0)) (by (with_reducible repeat (first|refine aC ?_ _|refine aK ?_|refine aG ?_ _));exact bP.out) hb);have eY:=af.mk (bf (by repeat (first|(with_reducible first|exact HB.out|apply ai|apply ag|apply ah|refine az ?_ iR.out)|exact HB.out)) hb);clear bP;clear HB;have BD:=dM;have bP:=dP;have HB:=eY;clear dM dP eY;(try clear hb);(try clear hb2);(try clear hk);(try clear hi);(try clear ho0);have UH:Sj.cell? ⟨dV,0,none⟩=some (.slice dN bn.length dK):=(ak bP.out 0).trans rfl;have UG:Sj.cell? ⟨dV,1,none⟩=some (.string bD):=(ak bP.out 1).trans rfl;have UF:Sj.cell? ⟨dV,2,none⟩=some (.string bu):=(ak bP.out 2).trans rfl;have UE:Sj.cell? ⟨dV,3,none⟩=some (.slice dQ aV.length dJ):=(ak bP.out 3).trans rfl;have Tn:=ax bP.out 0;have Tm:=ax bP.out 1;have Tj:=ax bP.out 2;have Ti:=ax bP.out 3))
        go_ret
        exact ⟨by first|rfl|(simp [bC,bz] <;> rfl)|(simp [*,bC,bz] <;> rfl),by repeat (first|(with_reducible first|exact HB.out|apply ai|apply ag|apply ah|refine az ?_ iR.out)|exact HB.out)⟩
   ·
    rw [if_neg c7] at H
    have uK:(zT == 0)=false:=beq_eq_false_iff_ne.mpr c7
    have F8:(zT != 0)=true:=bne_iff_ne.mpr c7
    obtain rfl:=Option.some.inj H
    go_enter Tryz.func6,Tryz.ntmps6
    go_wp2_with (first|((with_reducible refine eu (N:=1) rfl ?_);(try (refine jd (by rfl) ?_;dsimp only));refine iK ?hg (N:=1) ?hd (cs:=#[.slice dN bn.length dK,.string bD,.string bu,.slice dQ aV.length dJ]) (t:=25) ?hr ?_;(case hd=>rfl);(case hg=>rfl);(case hr=>first|(go_simp;done)|(go_simp;rfl));intro dV hg Y3 hbox hb;have dM:=af.mk (bf (by repeat (first|(with_reducible first|exact HB.out|apply ai|apply ag|apply ah)|exact HB.out)) hb);have dP:=af.mk (hbox);have eY:=af.mk ((by rw [hg];exact (bG (by repeat (first|(with_reducible first|exact HB.out|apply ai|apply ag|apply ah)|exact HB.out))):w.heap.size≤dV));have iD:=eY;clear HB;have HB:=dM;have bP:=dP;have JA:=eY;have iR:=iD;clear dM dP eY iD;clear hb hbox hg)|((with_reducible refine bY (f:=7) rfl ?_);refine eQ (some 10) rfl rfl Tryz.func7 (by kernel_rfl) rfl #[] rfl (by (try simp only [List.map_toArray,List.map_cons,List.map_nil]);first|done|rfl|(simp only [List.length_drop,List.length_take];rfl)) ?_;(with_reducible refine (bT.calls k  true _ ?fA A2.out).mono ?_);(case fA=>repeat (first|exact (Kd.dB uo.out HB.out)|(with_reducible refine Kd.eP ?_ _)|(with_reducible refine Kd.eH ?_ _)|(with_reducible refine Kd.gp ?_)));rintro e Gm ⟨rfl,hb⟩;refine ⟨_,rfl,?_⟩;have dM:=af.mk (bW (g:=dV) (o:=.cells #[.slice dN bn.length dK,.string bD,.string bu,.slice dQ aV.length dJ] 25 (0,0)) (by (with_reducible repeat (first|refine aC ?_ _|refine aK ?_|refine aG ?_ _));exact bP.out) hb);have dP:=af.mk (bf (by repeat (first|(with_reducible first|exact HB.out|apply ai|apply ag|apply ah|refine az ?_ iR.out)|exact HB.out)) hb);clear bP;clear HB;have bP:=dM;have HB:=dP;clear dM dP;(try clear hb);(try clear hb2);(try clear hk);(try clear hi);have Lm:Gm.cell? ⟨dV,0,none⟩=some (.slice dN bn.length dK):=(ak bP.out 0).trans rfl;have Ll:Gm.cell? ⟨dV,1,none⟩=some (.string bD):=(ak bP.out 1).trans rfl;have Lj:Gm.cell? ⟨dV,2,none⟩=some (.string bu):=(ak bP.out 2).trans rfl;have Lh:Gm.cell? ⟨dV,3,none⟩=some (.slice dQ aV.length dJ):=(ak bP.out 3).trans rfl;have KQ:=ax bP.out 0;have KP:=ax bP.out 1;have KO:=ax bP.out 2;have KN:=ax bP.out 3)|((with_reducible refine bY (f:=8) rfl ?_);refine eQ (some 13) rfl rfl Tryz.func8 (by kernel_rfl) rfl #[.agg #[.slice dN bn.length dK,.string bD,.string bu,.slice dQ aV.length dJ]] rfl (by (try simp only [List.map_toArray,List.map_cons,List.map_nil]);first|done|rfl|(simp only [List.length_drop,List.length_take];rfl)) ?_;(with_reducible refine (aW.calls k _ _ bn bD bu _ _ aV true _ ?fA ?lS ?mW ?mV A4.out).mono ?_);(case fA=>repeat (first|exact (Kd.dB nH.out HB.out)|(with_reducible refine Kd.eP ?_ _)|(with_reducible refine Kd.eH ?_ _)|(with_reducible refine Kd.gp ?_)));(case lS=>exact ru.out);(case mW=>repeat (first|exact (Kd.dB oH.out HB.out)|(with_reducible refine Kd.eP ?_ _)|(with_reducible refine Kd.eH ?_ _)|(with_reducible refine Kd.gp ?_)));(case mV=>exact rq.out);rintro e PG ⟨rfl,hb⟩;refine ⟨_,rfl,?_⟩;have dM:=af.mk (bW (g:=dV) (o:=.cells #[.slice dN bn.length dK,.string bD,.string bu,.slice dQ aV.length dJ] 25 (0,0)) (by (with_reducible repeat (first|refine aC ?_ _|refine aK ?_|refine aG ?_ _));exact bP.out) hb);have dP:=af.mk (bf (by repeat (first|(with_reducible first|exact HB.out|apply ai|apply ag|apply ah|refine az ?_ iR.out)|exact HB.out)) hb);clear bP;clear HB;have bP:=dM;have HB:=dP;clear dM dP;(try clear hb);(try clear hb2);(try clear hk);(try clear hi);have Ut:PG.cell? ⟨dV,0,none⟩=some (.slice dN bn.length dK):=(ak bP.out 0).trans rfl;have Us:PG.cell? ⟨dV,1,none⟩=some (.string bD):=(ak bP.out 1).trans rfl;have Ur:PG.cell? ⟨dV,2,none⟩=some (.string bu):=(ak bP.out 2).trans rfl;have Uo:PG.cell? ⟨dV,3,none⟩=some (.slice dQ aV.length dJ):=(ak bP.out 3).trans rfl;have SN:=ax bP.out 0;have SL:=ax bP.out 1;have SK:=ax bP.out 2;have SI:=ax bP.out 3)|((with_reducible refine bY (f:=9) rfl ?_);refine eQ (some 17) rfl rfl Tryz.func9 (by kernel_rfl) rfl #[.agg #[.slice dN bn.length dK,.string bD,.string bu,.slice dQ aV.length dJ]] rfl (by (try simp only [List.map_toArray,List.map_cons,List.map_nil]);first|done|rfl|(simp only [List.length_drop,List.length_take];rfl)) ?_;(with_reducible refine (aU.calls k _ _ bn bD bu _ _ aV jf zT _ ?fA ?lS ?mW ?mV ?rY A6.out).mono ?_);(case fA=>repeat (first|exact (Kd.dB nH.out HB.out)|(with_reducible refine Kd.eP ?_ _)|(with_reducible refine Kd.eH ?_ _)|(with_reducible refine Kd.gp ?_)));(case lS=>exact ru.out);(case mW=>repeat (first|exact (Kd.dB oH.out HB.out)|(with_reducible refine Kd.eP ?_ _)|(with_reducible refine Kd.eH ?_ _)|(with_reducible refine Kd.gp ?_)));(case mV=>exact rq.out);(case rY=>repeat (first|exact (Kd.dB uo.out HB.out)|(with_reducible refine Kd.eP ?_ _)|(with_reducible refine Kd.eH ?_ _)|(with_reducible refine Kd.gp ?_)));rintro e X0 ⟨rfl,hb⟩;refine ⟨_,rfl,?_⟩;have dM:=af.mk (bW (g:=dV) (o:=.cells #[.slice dN bn.length dK,.string bD,.string bu,.slice dQ aV.length dJ] 25 (0,0)) (by (with_reducible repeat (first|refine aC ?_ _|refine aK ?_|refine aG ?_ _));exact bP.out) hb);have dP:=af.mk (bf (by repeat (first|(with_reducible first|exact HB.out|apply ai|apply ag|apply ah|refine az ?_ iR.out)|exact HB.out)) hb);clear bP;clear HB;have bP:=dM;have HB:=dP;clear dM dP;(try clear hb);(try clear hb2);(try clear hk);(try clear hi)))
    go_ret
    exact ⟨by first|rfl|(simp [bC,bz] <;> rfl)|(simp [*,bC,bz] <;> rfl),by repeat (first|(with_reducible first|exact HB.out|apply ai|apply ag|apply ah|refine az ?_ iR.out)|exact HB.out)⟩
  ·
   replace c5:=Bool.eq_false_iff.mpr c5
   subst c5
   have H1:(some true)=some r:=by rw [if_neg (show ¬ (false=true) by decide)] at H;exact H
   clear H
   have H:=H1
   clear H1
   obtain rfl:=Option.some.inj H
   go_enter Tryz.func6,Tryz.ntmps6
   go_wp2_with (first|((with_reducible refine eu (N:=1) rfl ?_);(try (refine jd (by rfl) ?_;dsimp only));refine iK ?hg (N:=1) ?hd (cs:=#[.slice dN bn.length dK,.string bD,.string bu,.slice dQ aV.length dJ]) (t:=25) ?hr ?_;(case hd=>rfl);(case hg=>rfl);(case hr=>first|(go_simp;done)|(go_simp;rfl));intro dV hg Y1 hbox hb;have dM:=af.mk (bf (by repeat (first|(with_reducible first|exact HB.out|apply ai|apply ag|apply ah)|exact HB.out)) hb);have dP:=af.mk (hbox);have eY:=af.mk ((by rw [hg];exact (bG (by repeat (first|(with_reducible first|exact HB.out|apply ai|apply ag|apply ah)|exact HB.out))):w.heap.size≤dV));have iD:=eY;clear HB;have HB:=dM;have bP:=dP;have JA:=eY;have iR:=iD;clear dM dP eY iD;clear hb hbox hg)|((with_reducible refine bY (f:=7) rfl ?_);refine eQ (some 10) rfl rfl Tryz.func7 (by kernel_rfl) rfl #[] rfl (by (try simp only [List.map_toArray,List.map_cons,List.map_nil]);first|done|rfl|(simp only [List.length_drop,List.length_take];rfl)) ?_;(with_reducible refine (bT.calls k  true _ ?fA A2.out).mono ?_);(case fA=>repeat (first|exact (Kd.dB uo.out HB.out)|(with_reducible refine Kd.eP ?_ _)|(with_reducible refine Kd.eH ?_ _)|(with_reducible refine Kd.gp ?_)));rintro e RZ ⟨rfl,hb⟩;refine ⟨_,rfl,?_⟩;have dM:=af.mk (bW (g:=dV) (o:=.cells #[.slice dN bn.length dK,.string bD,.string bu,.slice dQ aV.length dJ] 25 (0,0)) (by (with_reducible repeat (first|refine aC ?_ _|refine aK ?_|refine aG ?_ _));exact bP.out) hb);have dP:=af.mk (bf (by repeat (first|(with_reducible first|exact HB.out|apply ai|apply ag|apply ah|refine az ?_ iR.out)|exact HB.out)) hb);clear bP;clear HB;have bP:=dM;have HB:=dP;clear dM dP;(try clear hb);(try clear hb2);(try clear hk);(try clear hi);have Un:RZ.cell? ⟨dV,0,none⟩=some (.slice dN bn.length dK):=(ak bP.out 0).trans rfl;have Um:RZ.cell? ⟨dV,1,none⟩=some (.string bD):=(ak bP.out 1).trans rfl;have Ul:RZ.cell? ⟨dV,2,none⟩=some (.string bu):=(ak bP.out 2).trans rfl;have Uk:RZ.cell? ⟨dV,3,none⟩=some (.slice dQ aV.length dJ):=(ak bP.out 3).trans rfl;have SH:=ax bP.out 0;have SG:=ax bP.out 1;have SE:=ax bP.out 2;have SC:=ax bP.out 3)|((with_reducible refine bY (f:=8) rfl ?_);refine eQ (some 13) rfl rfl Tryz.func8 (by kernel_rfl) rfl #[.agg #[.slice dN bn.length dK,.string bD,.string bu,.slice dQ aV.length dJ]] rfl (by (try simp only [List.map_toArray,List.map_cons,List.map_nil]);first|done|rfl|(simp only [List.length_drop,List.length_take];rfl)) ?_;(with_reducible refine (aW.calls k _ _ bn bD bu _ _ aV false _ ?fA ?lS ?mW ?mV A4.out).mono ?_);(case fA=>repeat (first|exact (Kd.dB nH.out HB.out)|(with_reducible refine Kd.eP ?_ _)|(with_reducible refine Kd.eH ?_ _)|(with_reducible refine Kd.gp ?_)));(case lS=>exact ru.out);(case mW=>repeat (first|exact (Kd.dB oH.out HB.out)|(with_reducible refine Kd.eP ?_ _)|(with_reducible refine Kd.eH ?_ _)|(with_reducible refine Kd.gp ?_)));(case mV=>exact rq.out);rintro e XZ ⟨rfl,hb⟩;refine ⟨_,rfl,?_⟩;have dM:=af.mk (bW (g:=dV) (o:=.cells #[.slice dN bn.length dK,.string bD,.string bu,.slice dQ aV.length dJ] 25 (0,0)) (by (with_reducible repeat (first|refine aC ?_ _|refine aK ?_|refine aG ?_ _));exact bP.out) hb);have dP:=af.mk (bf (by repeat (first|(with_reducible first|exact HB.out|apply ai|apply ag|apply ah|refine az ?_ iR.out)|exact HB.out)) hb);clear bP;clear HB;have bP:=dM;have HB:=dP;clear dM dP;(try clear hb);(try clear hb2);(try clear hk);(try clear hi)))
   go_ret
   exact ⟨by first|rfl|(simp [bC,bz] <;> rfl)|(simp [*,bC,bz] <;> rfl),by repeat (first|(with_reducible first|exact HB.out|apply ai|apply ag|apply ah|refine az ?_ iR.out)|exact HB.out)⟩
 ·
  replace c3:=Bool.eq_false_iff.mpr c3
  subst c3
  have H1:(some false)=some r:=by rw [if_neg (show ¬ (false=true) by decide)] at H;exact H
  clear H
  have H:=H1
  clear H1
  obtain rfl:=Option.some.inj H
  go_enter Tryz.func6,Tryz.ntmps6
  go_wp2_with (first|((with_reducible refine eu (N:=1) rfl ?_);(try (refine jd (by rfl) ?_;dsimp only));refine iK ?hg (N:=1) ?hd (cs:=#[.slice dN bn.length dK,.string bD,.string bu,.slice dQ aV.length dJ]) (t:=25) ?hr ?_;(case hd=>rfl);(case hg=>rfl);(case hr=>first|(go_simp;done)|(go_simp;rfl));intro dV hg PE hbox hb;have dM:=af.mk (bf (by repeat (first|(with_reducible first|exact HB.out|apply ai|apply ag|apply ah)|exact HB.out)) hb);have dP:=af.mk (hbox);have eY:=af.mk ((by rw [hg];exact (bG (by repeat (first|(with_reducible first|exact HB.out|apply ai|apply ag|apply ah)|exact HB.out))):w.heap.size≤dV));have iD:=eY;clear HB;have HB:=dM;have bP:=dP;have JA:=eY;have iR:=iD;clear dM dP eY iD;clear hb hbox hg)|((with_reducible refine bY (f:=7) rfl ?_);refine eQ (some 10) rfl rfl Tryz.func7 (by kernel_rfl) rfl #[] rfl (by (try simp only [List.map_toArray,List.map_cons,List.map_nil]);first|done|rfl|(simp only [List.length_drop,List.length_take];rfl)) ?_;(with_reducible refine (bT.calls k  false _ ?fA A2.out).mono ?_);(case fA=>repeat (first|exact (Kd.dB uo.out HB.out)|(with_reducible refine Kd.eP ?_ _)|(with_reducible refine Kd.eH ?_ _)|(with_reducible refine Kd.gp ?_)));rintro e Y0 ⟨rfl,hb⟩;refine ⟨_,rfl,?_⟩;have dM:=af.mk (bW (g:=dV) (o:=.cells #[.slice dN bn.length dK,.string bD,.string bu,.slice dQ aV.length dJ] 25 (0,0)) (by (with_reducible repeat (first|refine aC ?_ _|refine aK ?_|refine aG ?_ _));exact bP.out) hb);have dP:=af.mk (bf (by repeat (first|(with_reducible first|exact HB.out|apply ai|apply ag|apply ah|refine az ?_ iR.out)|exact HB.out)) hb);clear bP;clear HB;have bP:=dM;have HB:=dP;clear dM dP;(try clear hb);(try clear hb2);(try clear hk);(try clear hi)))
  go_ret
  exact ⟨by first|rfl|(simp [bC,bz] <;> rfl)|(simp [*,bC,bz] <;> rfl),by repeat (first|(with_reducible first|exact HB.out|apply ai|apply ag|apply ah|refine az ?_ iR.out)|exact HB.out)⟩
end Go.Proofs.YtkclndkbccbhaaaGreatDoor.P
end
section
namespace Go.Proofs.YtkclndkbccbhaaaGreatDoor.P
open Go Go.RowKit Go.Proofs.ae.aX Go.Proofs.ae.dh Go.Proofs.ae.dI
theorem Cm (L:List (List (List UInt8))) (x:List (List UInt8)):joinL (L++[x])=joinL L++(Lib.join x [32]++[10]):=by
  unfold joinL
  rw [List.map_append,List.flatten_append]
  simp
theorem CE (L:List (List (List UInt8))) (x:List (List UInt8)):∃ m,joinL (L++[x])=m++[10]:=⟨joinL L++Lib.join x [32],by rw [Cm,List.append_assoc]⟩
theorem CB (L:List (List (List UInt8))) (h:L ≠ []):∃ m,joinL L=m++[10]:=by
  obtain ⟨x,hx⟩:∃ x,L=L.dropLast++[x]:=⟨L.getLast h,(List.dropLast_concat_getLast h).symm⟩
  rw [hx]
  exact CE _ _
theorem ES {L:List (List (List UInt8))} (h:∀ ws ∈ L,ws ≠ []∧∀ w ∈ ws,xH w=true∧w ≠ []) (ht:tot L≤18000):Ev (fun k=>aj.f k (Bs (joinL L))) (conv L,0,0):=by
  have a:=ET (Bs (joinL L)) (by rw [gY];have:=tV L;omega)
  unfold Hg at a
  rw [L9,Jv (fun ws hm=>(h ws hm).1) (fun ws hm=>(h ws hm).2),Kt] at a
  exact a
theorem Bg {L:List (List (List UInt8))} (h:∀ ws ∈ L,ws ≠ []∧∀ w ∈ ws,xH w=true∧w ≠ []):(joinL L).count 10=L.length:=by
  have a:=vF 10 (joinL L)
  rw [xA (fun ws hm w hw=>(tJ ((h ws hm).2 w hw).1 ((h ws hm).2 w hw).2).2),List.length_append,List.length_map,List.length_singleton] at a
  omega
def yz (k:Nat) (s:ByteArray) (n:Int) (ts:List ByteArray) (cs:List iQ):Option Bool :=
  (aj.f k s).bind fun b=>if n=wrap64 (wrap64 ((ts.length:Int)+2)+(cs.length:Int)) then (if b.2.2=0 then (if (b.1.length:Int)=n then (if 0≤wrap64 ((s.size:Int) - 1) then (if wrap64 ((s.size:Int) - 1) < (s.size:Int) then some (bt s (wrap64 ((s.size:Int) - 1)) == 10) else none) else none) else some false) else some false) else some false
theorem tZ (w:List UInt8) (hw:w.length≤100000) (ts:List ByteArray) (lo gl:ByteArray) (cs:List iQ) (r:Bool) (h:Ev (fun k=>yz k (Bs w) ((w.count 10:Nat):Int) ts cs) r):∀ (d i n:Nat),i+d=w.length→n=(w.take i).count 10 →
    Ev (fun k=>aA.l0 k (Bs w) (n:Int) ((w.length:Nat):Int) (i:Int) ts lo gl cs) r
  | 0,i,n,hi,hn=>by
    rw [List.take_of_length_le (by omega)] at hn
    subst hn
    refine Ev.step (fun k=>?_) h
    conv=>lhs;simp only [aA.l0]
    rw [if_neg (by omega)]
    rfl
  | d+1,i,n,hi,hn=>by
    have hlt:i < w.length:=by omega
    have hle:n≤100000:=by
      rw [hn]
      have:=List.count_le_length (a:=(10:UInt8)) (l:=w.take i)
      rw [List.length_take] at this
      omega
    have hb:bt (Bs w) (i:Int)=(w[i].toNat:Int):=Bj _ _ _ (List.getElem?_eq_getElem hlt)
    have hz:(Bs w).size=w.length:=gY w
    have zM:∀ k,aA.l0 (k+1) (Bs w) (n:Int) ((w.length:Nat):Int) (i:Int) ts lo gl cs=if (w[i].toNat:Int)=10 then aA.l0 k (Bs w) ((n+1:Nat):Int) ((w.length:Nat):Int) ((i+1:Nat):Int) ts lo gl cs else aA.l0 k (Bs w) (n:Int) ((w.length:Nat):Int) ((i+1:Nat):Int) ts lo gl cs:=by
      intro k
      conv=>lhs;simp only [aA.l0]
      rw [if_pos (by omega),if_pos (by omega),if_pos (by rw [hz];omega),hb,iM i (by omega),iM n (by omega)]
    by_cases e:w[i]=10
    · have ih:=tZ w hw ts lo gl cs r h d (i+1) (n+1) (by omega) (by rw [qp w i hlt,List.count_append,hn,e];rfl)
      refine Ev.step (fun k=>?_) ih
      rw [zM k,if_pos (by rw [e];rfl)]
    · have ih:=tZ w hw ts lo gl cs r h d (i+1) n (by omega) (by rw [qp w i hlt,List.count_append,hn,List.count_singleton];simp [e])
      refine Ev.step (fun k=>?_) ih
      rw [zM k,if_neg]
      intro q
      apply e
      apply UInt8.toNat_inj.1
      have:(10:UInt8).toNat=10:=rfl
      omega
theorem CV (ts:List ByteArray) (lo gl:ByteArray) (cs:List iQ) (ht:ts.length≤140737488355328) (hc:cs.length≤140737488355328) (hw:Wf cs):Ev (fun k=>aA.f k ts lo gl cs) true:=by
  unfold aA.f
  refine Ev.bind Jl (Ev.congr (fun k=>if_pos rfl) ?_)
  refine Ev.bind (OG ts lo gl cs ht) ?_
  cases hf:LX ts lo gl cs with
  | false=>exact Ev.now _
  | true =>
    refine Ev.congr (fun k=>if_pos rfl) ?_
    refine Ev.bind (printed ht hc hw fun h=>xY ht (vS.1 h) hf) ?_
    by_cases m:tK ts lo gl cs=true
    · have hk:=vS.1 m
      have hs:=xY ht hk hf
      have hok:=QV hk hw
      have tt:=Gu hk hw hs
      have tl:=qo ts hk.typ
      have hlen:(joinL (LA ts lo gl cs)).length≤18000:=Nat.le_trans (tV _) tt
      have hn:(LA ts lo gl cs).length=ts.length+2+cs.length:=by unfold LA rF;simp;omega
      simp only [m,if_true]
      have key:=tZ (joinL (LA ts lo gl cs)) (by omega) ts lo gl cs true ?_ (joinL (LA ts lo gl cs)).length 0 0 (Nat.zero_add _) (by simp)
      · rw [zQ,gY]
        exact key
      · unfold yz
        refine Ev.bind (ES hok tt) ?_
        rw [Bg hok,hn,qc,hn,show wrap64 (wrap64 ((ts.length:Int)+2)+(cs.length:Int))=((ts.length+2+cs.length:Nat):Int) from by
          rw [show wrap64 ((ts.length:Int)+2)=((ts.length+2:Nat):Int) from by unfold wrap64;omega]
          have:=hk.few
          unfold wrap64
          omega]
        obtain ⟨q,hq⟩:=CB (LA ts lo gl cs) (by unfold LA rF;simp)
        have PZ:(joinL (LA ts lo gl cs)).length=q.length+1:=by rw [hq];simp
        rw [gY,PZ,show wrap64 (((q.length+1:Nat):Int) - 1)=(q.length:Int) from by unfold wrap64;omega,Bj _ q.length 10 (by rw [hq];simp)]
        rw [if_pos rfl,if_pos rfl,if_pos rfl,if_pos (by omega),if_pos (by omega)]
        exact Ev.now _
    · simp only [if_neg m]
      exact Ev.congr (f:=fun _=>some true) (fun k=>(if_neg (by decide)).trans (by decide +kernel)) (Ev.now _)
end Go.Proofs.YtkclndkbccbhaaaGreatDoor.P
end
