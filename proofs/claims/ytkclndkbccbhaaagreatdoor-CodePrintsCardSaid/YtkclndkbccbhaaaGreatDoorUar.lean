/- Parts of the proof of CodePrints: what the functions that it reaches compute, and plain facts about that. -/
import Derived.Test.YtkclndkbccbhaaaGreatDoorUal
import Derived.Test.YtkclndkbccbhaaaGreatDoorUam
import Derived.Test.YtkclndkbccbhaaaGreatDoorUao
import Derived.Test.YtkclndkbccbhaaaGreatDoorUap
import Derived.Test.YtkclndkbccbhaaaGreatDoorUaq
import Derived.Test.YtkclndkbccbhaaaGreatDoorUac
import Derived.Test.YtkclndkbccbhaaaGreatDoorUad
set_option linter.unusedVariables false
set_option linter.unusedSimpArgs false
section
namespace Go.Proofs.YtkclndkbccbhaaaGreatDoor.P
open Go Go.RowKit Go.Proofs.ag.bJ Go.Proofs.ag.eX Go.Proofs.ag.gp
theorem MW (n:Int) (h0:-9223372036854775808≤n) (h1:n≤9223372036854775807):Ev (fun k=>aC.f k (Bs (Lib.itoa n))) (n,0):=by
  have a:=AQ n h0 h1
  have b:=RH (Lib.itoa n) (by omega)
  unfold Xm at b
  rw [if_pos a.1,a.2.1] at b
  exact b
def Af (x:jZ):Bool:=if x.f0 < 1 then false else if x.f0 > 15 then false else
  ((hasB x.f0 98 || x.f2 == 0) && (hasB x.f0 99 || x.f3 == 0) && (hasB x.f0 110 || x.f4 == 0) && (hasB x.f0 97 || x.f1 == 0))
theorem OG (x:jZ):jI x=Af x:=by
  unfold jI eu.f Af
  split
  · rfl
  · split <;> rfl
theorem _root_.Go.Proofs.ag.bJ.Ev.out {α:Type} {g:Nat→Option α} {r s:α} (h:Ev g r) (e:r=s):Ev g s:=e ▸ h
def YC:List (List UInt8 × List UInt8):=[([115,101,116],[97,110]),([97,100,100],[97,98,99]),([106,117,109,112],[110]),([122,101,114,111],[97,110]),([110,101,119],[97]),([110,105,108],[97]),([109,111,118,101],[97,98]),([108,111,97,100,105],[97,98,110]),([115,116,111,114,101,105],[97,110,98]),([108,111,97,100,112],[97,98,110]),([115,116,111,114,101,112],[97,110,98]),([108,111,97,100,103],[97,98]),([115,116,111,114,101,103],[97,98]),([112,114,105,110,116],[97]),([115,97,109,101],[97,98,99])]
def Fz (i:Nat):List UInt8:=(YC.getD i ([],[])).1
def yN (i:Nat):List UInt8:=(YC.getD i ([],[])).2
theorem uf (i:Nat) (hi:i < 15):eY.f ((i+1:Nat):Int)=some (Bs (Fz i),Bs (yN i)):=by
  have hh:i=0 ∨ i=1 ∨ i=2 ∨ i=3 ∨ i=4 ∨ i=5 ∨ i=6 ∨ i=7 ∨ i=8 ∨ i=9 ∨ i=10 ∨ i=11 ∨ i=12 ∨ i=13 ∨ i=14:=by omega
  rcases hh with rfl|rfl|rfl|rfl|rfl|rfl|rfl|rfl|rfl|rfl|rfl|rfl|rfl|rfl|rfl <;> rfl
theorem MV (o:Int) (h:o < 1 ∨ 15 < o):eY.f o=some (⟨#[]⟩,⟨#[]⟩):=by
  unfold eY.f jf.f
  rw [if_neg (by omega),if_neg (by omega),if_neg (by omega),if_neg (by omega),if_neg (by omega),if_neg (by omega),if_neg (by omega),if_neg (by omega),if_neg (by omega),if_neg (by omega),if_neg (by omega),if_neg (by omega),if_neg (by omega),if_neg (by omega),if_neg (by omega)]
  rfl
theorem YI:∀ i:Fin 15,∀ j:Fin 15,i.val ≠ j.val→Fz i.val ≠ Fz j.val:=by decide
theorem Sz:∀ i:Fin 15,Fz i.val ≠ []:=by decide
theorem JJ:∀ i:Fin 15,(yN i.val).all (fun c=>c == 97 || c == 98 || c == 99 || c == 110)=true∧(yN i.val).length≤3:=by decide
def L4 (l:UInt8):Prop:=l=97 ∨ l=98 ∨ l=99 ∨ l=110
theorem D8 {i:Nat} (hi:i < 15):∀ c ∈ yN i,L4 c:=by
  intro c hc
  have:=List.all_eq_true.1 (JJ ⟨i,hi⟩).1 c hc
  simp only [Bool.or_eq_true,beq_iff_eq] at this
  unfold L4
  rcases this with ((h|h)|h)|h
  · exact .inl h
  · exact .inr (.inl h)
  · exact .inr (.inr (.inl h))
  · exact .inr (.inr (.inr h))
theorem MZ (L:List ByteArray) (i:Nat):gI ByteArray.empty L (i:Int)=L.getD i ByteArray.empty:=rfl
set_option linter.unusedSectionVars false
section
variable (a b c n:Int) (ha:0≤a∧a≤255) (hb:0≤b∧b≤255) (hc:0≤c∧c≤255) (hn:-9223372036854775808≤n∧n≤9223372036854775807)
def Ak (l:UInt8):Int:=if l=97 then a else if l=98 then b else if l=99 then c else n
def uY (l:UInt8):ByteArray:=Bs (Lib.itoa (Ak a b c n l))
def vO (s:Int × Int × Int × Int) (l:UInt8):Int × Int × Int × Int:=if l=97 then (a,s.2.1,s.2.2.1,s.2.2.2) else if l=98 then (s.1,b,s.2.2.1,s.2.2.2) else if l=99 then (s.1,s.2.1,c,s.2.2.2) else (s.1,s.2.1,s.2.2.1,n)
include ha hb hc hn
theorem zi (l:UInt8):-9223372036854775808≤Ak a b c n l∧Ak a b c n l≤9223372036854775807:=by
  unfold Ak
  split
  · omega
  · split
    · omega
    · split <;> omega
theorem Vj (o:Int) (l:UInt8) (hl:L4 l):jg.f o a b c n (l.toNat:Int)=some (Ak a b c n l):=by
  have w:∀ x:Int,0≤x∧x≤255→wrap64 x=x:=fun x h=>by unfold wrap64;omega
  unfold jg.f
  rw [w a ha,w b hb,w c hc]
  rcases hl with rfl|rfl|rfl|rfl <;> rfl
theorem Bo (o:Int) (nm lt:List UInt8) (hl:∀ c ∈ lt,L4 c) (hlen:lt.length≤3):∀ d i,i+d=lt.length →
    Ev (fun k=>aT.l0 k (Bs lt) (Bs nm :: (lt.take i).map (uY a b c n)) (i:Nat) o a b c n) (Bs nm :: lt.map (uY a b c n))
  | 0,i,hi=>by
    refine Ev.step (f:=fun _=>some _) (fun k=>?_) (Ev.now _)
    simp only [aT.l0]
    rw [ig,if_neg (by omega),List.take_of_length_le (by omega)]
  | d+1,i,hi=>by
    have hlt:i < lt.length:=by omega
    have hcc:lt[i]? = some lt[i]:=List.getElem?_eq_getElem hlt
    have hm:=hl lt[i] (List.getElem_mem hlt)
    have htk:lt.take (i+1)=lt.take i++[lt[i]]:=List.take_succ_eq_append_getElem hlt
    generalize lt[i]=l at hcc hm htk
    have ih:=Bo o nm lt hl hlen d (i+1) (by omega)
    rw [htk,List.map_append] at ih
    have hr:=zi a b c n ha hb hc hn l
    refine Ev.step (fun k=>?_) ih
    conv=>lhs;simp only [aT.l0]
    rw [ig,if_pos (by omega),if_pos (by omega),Bz lt i l hcc,Vj a b c n ha hb hc hn o l hm,Option.bind_some]
    unfold iE.f
    rw [if_pos rfl,if_pos hr,Option.bind_some,if_pos (by simp only [List.length_cons,List.length_map,List.length_take];omega),jA i (by omega)]
    rfl
theorem Vh (o:Int) (s:Int × Int × Int × Int) (l:UInt8) (hl:L4 l):Ev (fun k=>aU.f k o s.1 s.2.1 s.2.2.1 s.2.2.2 (l.toNat:Int) (Ak a b c n l)) (o,(vO a b c n s l).1,(vO a b c n s l).2.1,(vO a b c n s l).2.2.1,(vO a b c n s l).2.2.2,true):=by
  rcases hl with rfl|rfl|rfl|rfl
  · show Ev (fun k=>aU.f k o s.1 s.2.1 s.2.2.1 s.2.2.2 97 a) (o,a,s.2.1,s.2.2.1,s.2.2.2,true)
    refine Ev.congr (f:=fun k=>aU.j0 k 97 a false o s.1 s.2.1 s.2.2.1 s.2.2.2) (fun k=>?_) (Ev.step (f:=fun _=>some _) (fun k=>?_) (Ev.now _))
    · unfold aU.f
      rw [if_neg (by decide),if_neg (by omega),decide_eq_false (by omega)]
    · simp only [aU.j0]
      rw [if_neg (by decide),if_pos trivial,show a % 256=a from by omega]
  · show Ev (fun k=>aU.f k o s.1 s.2.1 s.2.2.1 s.2.2.2 98 b) (o,s.1,b,s.2.2.1,s.2.2.2,true)
    refine Ev.congr (f:=fun k=>aU.j0 k 98 b false o s.1 s.2.1 s.2.2.1 s.2.2.2) (fun k=>?_) (Ev.step (f:=fun _=>some _) (fun k=>?_) (Ev.now _))
    · unfold aU.f
      rw [if_neg (by decide),if_neg (by omega),decide_eq_false (by omega)]
    · simp only [aU.j0]
      rw [if_neg (by decide),if_neg (by decide),if_pos trivial,show b % 256=b from by omega]
  · show Ev (fun k=>aU.f k o s.1 s.2.1 s.2.2.1 s.2.2.2 99 c) (o,s.1,s.2.1,c,s.2.2.2,true)
    refine Ev.congr (f:=fun k=>aU.j0 k 99 c false o s.1 s.2.1 s.2.2.1 s.2.2.2) (fun k=>?_) (Ev.step (f:=fun _=>some _) (fun k=>?_) (Ev.now _))
    · unfold aU.f
      rw [if_neg (by decide),if_neg (by omega),decide_eq_false (by omega)]
    · simp only [aU.j0]
      rw [if_neg (by decide),if_neg (by decide),if_neg (by decide),show c % 256=c from by omega]
  · exact Ev.now _
theorem G5 (o:Int) (nm lt:List UInt8) (hl:∀ c ∈ lt,L4 c) (hlen:lt.length≤3):∀ d i (s:Int × Int × Int × Int),i+d=lt.length →
    Ev (fun k=>aG.l1 k (Bs nm :: lt.map (uY a b c n)) (Bs lt) (i:Nat) o s.1 s.2.1 s.2.2.1 s.2.2.2)
      (o,((lt.drop i).foldl (vO a b c n) s).1,((lt.drop i).foldl (vO a b c n) s).2.1,((lt.drop i).foldl (vO a b c n) s).2.2.1,((lt.drop i).foldl (vO a b c n) s).2.2.2,true)
  | 0,i,s,hi=>by
    refine Ev.step (f:=fun _=>some _) (fun k=>?_) (Ev.now _)
    simp only [aG.l1]
    rw [ig,if_neg (by omega),List.drop_of_length_le (by omega),List.foldl_nil]
  | d+1,i,s,hi=>by
    have hlt:i < lt.length:=by omega
    have hcc:lt[i]? = some lt[i]:=List.getElem?_eq_getElem hlt
    have hm:=hl lt[i] (List.getElem_mem hlt)
    have hdr:lt.drop i=lt[i] :: lt.drop (i+1):=List.drop_eq_getElem_cons hlt
    generalize lt[i]=l at hcc hm hdr
    have hrd:(Bs nm :: lt.map (uY a b c n)).getD (i+1) ByteArray.empty=uY a b c n l:=by
      rw [List.getD_eq_getElem?_getD,List.getElem?_cons_succ,List.getElem?_map,hcc]
      rfl
    have hr:=zi a b c n ha hb hc hn l
    rw [hdr,List.foldl_cons]
    refine Ev.step (f:=fun k=>(aC.f k (Bs (Lib.itoa (Ak a b c n l)))).bind fun p=>(aU.f k o s.1 s.2.1 s.2.2.1 s.2.2.2 (l.toNat:Int) p.1).bind fun q=>if p.2=0 then (if q.2.2.2.2.2=true then aG.l1 k (Bs nm :: lt.map (uY a b c n)) (Bs lt) ((i+1:Nat):Int) q.1 q.2.1 q.2.2.1 q.2.2.2.1 q.2.2.2.2.1 else some (0,0,0,0,0,false)) else some (0,0,0,0,0,false)) (fun k=>?_) ?_
    · conv=>lhs;simp only [aG.l1]
      rw [ig,if_pos (by omega),jA i (by omega),if_pos (by omega),if_pos (by simp only [List.length_cons,List.length_map];omega),MZ,hrd,Bz lt i l hcc]
      refine congrArg (Option.bind _) (funext fun p=>?_)
      rw [if_pos (by omega)]
    · refine Ev.bind (MW _ hr.1 hr.2) (Ev.bind (Vh a b c n ha hb hc hn o s l hm) ?_)
      exact G5 o nm lt hl hlen d (i+1) (vO a b c n s l) (by omega)
theorem G6 (j:Nat) (hj:j < 15):∀ d i,i+d=j →
    Ev (fun k=>aG.l0 k (Bs (Fz j) :: (yN j).map (uY a b c n)) ((i+1:Nat):Int))
      (((j+1:Nat):Int),((yN j).foldl (vO a b c n) (0,0,0,0)).1,((yN j).foldl (vO a b c n) (0,0,0,0)).2.1,((yN j).foldl (vO a b c n) (0,0,0,0)).2.2.1,((yN j).foldl (vO a b c n) (0,0,0,0)).2.2.2,true)
  | 0,i,hi=>by
    obtain rfl:i=j:=by omega
    have hl:=(JJ ⟨i,hj⟩).2
    have l1:=G5 a b c n ha hb hc hn ((i+1:Nat):Int) (Fz i) (yN i) (D8 hj) hl (yN i).length 0 (0,0,0,0) (Nat.zero_add _)
    rw [List.drop_zero] at l1
    refine Ev.step (f:=fun k=>aG.j1 k (Bs (Fz i) :: (yN i).map (uY a b c n)) ((i+1:Nat):Int) (Bs (yN i)) false) (fun k=>?_) (Ev.step (fun k=>?_) l1)
    · conv=>lhs;simp only [aG.l0]
      rw [if_pos (by omega),uf i hj,Option.bind_some,if_pos (by simp only [List.length_cons];omega)]
      refine (if_pos rfl).trans ?_
      refine congrArg (aG.j1 k _ _ _) ?_
      have hl':(yN i).length≤3:=hl
      rw [ig,jA _ (by omega),List.length_cons,List.length_map]
      simp
    · conv=>lhs;simp only [aG.j1]
      rw [if_neg (by decide)]
      rfl
  | d+1,i,hi=>by
    have ih:=G6 j hj d (i+1) (by omega)
    have hne:Fz j ≠ Fz i:=YI ⟨j,hj⟩ ⟨i,by omega⟩ (by show j ≠ i;omega)
    refine Ev.step (f:=fun k=>aG.j1 k (Bs (Fz j) :: (yN j).map (uY a b c n)) ((i+1:Nat):Int) (Bs (yN i)) true) (fun k=>?_) (Ev.step (fun k=>?_) ih)
    · conv=>lhs;simp only [aG.l0]
      rw [if_pos (by omega),uf i (by omega),Option.bind_some,if_pos (by simp only [List.length_cons];omega)]
      rw [if_neg]
      show ¬ (Bs (Fz j)).toList=(Bs (Fz i)).toList
      rw [nG,nG]
      exact hne
    · conv=>lhs;simp only [aG.j1]
      rw [if_pos trivial,show (((i+1:Nat):Int)+1) % 256=((i+1+1:Nat):Int) from by omega]
end
theorem afq (i:Nat) (hi:i < 15) (a b c n:Int) :
    (((i+1:Nat):Int) == ((i+1:Nat):Int) && (((yN i).foldl (vO a b c n) (0,0,0,0)).1 == a && (((yN i).foldl (vO a b c n) (0,0,0,0)).2.1 == b && (((yN i).foldl (vO a b c n) (0,0,0,0)).2.2.1 == c && ((yN i).foldl (vO a b c n) (0,0,0,0)).2.2.2 == n))))=Af ⟨((i+1:Nat):Int),a,b,c,n⟩:=by
  have z:∀ x:Int,((0:Int) == x)=(x == 0):=fun x=>by rw [Bool.beq_comm]
  have e:∀ x:Int,(x == x)=true:=fun x=>beq_self_eq_true x
  have hh:i=0 ∨ i=1 ∨ i=2 ∨ i=3 ∨ i=4 ∨ i=5 ∨ i=6 ∨ i=7 ∨ i=8 ∨ i=9 ∨ i=10 ∨ i=11 ∨ i=12 ∨ i=13 ∨ i=14:=by omega
  have go:∀ (A B C D:Bool) (F:Int × Int × Int × Int),(F.1=if A then a else 0)→(F.2.1=if B then b else 0)→(F.2.2.1=if C then c else 0)→(F.2.2.2=if D then n else 0) →
      (((i+1:Nat):Int) == ((i+1:Nat):Int) && (F.1 == a && (F.2.1 == b && (F.2.2.1 == c && F.2.2.2 == n))))=((B || b == 0) && (C || c == 0) && (D || n == 0) && (A || a == 0)):=by
    intro A B C D F h1 h2 h3 h4
    rw [h1,h2,h3,h4,e,Bool.true_and]
    have k:∀ (P:Bool) (x:Int),((if P then x else 0) == x)=(P || x == 0):=fun P x=>by
      cases P
      · rw [if_neg (by decide),z,Bool.false_or]
      · rw [if_pos rfl,e,Bool.true_or]
    rw [k,k,k,k]
    cases (A || a == 0) <;> cases (B || b == 0) <;> cases (C || c == 0) <;> cases (D || n == 0) <;> rfl
  rcases hh with rfl|rfl|rfl|rfl|rfl|rfl|rfl|rfl|rfl|rfl|rfl|rfl|rfl|rfl|rfl
  · exact go true false false true _ rfl rfl rfl rfl
  · exact go true true true false _ rfl rfl rfl rfl
  · exact go false false false true _ rfl rfl rfl rfl
  · exact go true false false true _ rfl rfl rfl rfl
  · exact go true false false false _ rfl rfl rfl rfl
  · exact go true false false false _ rfl rfl rfl rfl
  · exact go true true false false _ rfl rfl rfl rfl
  · exact go true true false true _ rfl rfl rfl rfl
  · exact go true true false true _ rfl rfl rfl rfl
  · exact go true true false true _ rfl rfl rfl rfl
  · exact go true true false true _ rfl rfl rfl rfl
  · exact go true true false false _ rfl rfl rfl rfl
  · exact go true true false false _ rfl rfl rfl rfl
  · exact go true false false false _ rfl rfl rfl rfl
  · exact go true true true false _ rfl rfl rfl rfl
theorem OH (x:jZ) (ha:0≤x.f1∧x.f1≤255) (hb:0≤x.f2∧x.f2≤255) (hc:0≤x.f3∧x.f3≤255) (hn:-9223372036854775808≤x.f4∧x.f4≤9223372036854775807) :
    Ev (fun k=>bK.f k x.f0 x.f1 x.f2 x.f3 x.f4) (Af x):=by
  obtain ⟨o,a,b,c,n⟩:=x
  dsimp only at ha hb hc hn ⊢
  by_cases h:o < 1 ∨ 15 < o
  · refine Ev.congr (f:=fun _=>some false) (fun k=>?_) (Ev.out (Ev.now _) ?_)
    · unfold bK.f
      rw [MV o h,Option.bind_some]
      exact if_pos (nG [])
    · unfold Af
      dsimp only
      by_cases h1:o < 1
      · rw [if_pos h1]
      · rw [if_neg h1,if_pos (by omega)]
  · obtain ⟨m,rfl⟩:=Int.eq_ofNat_of_zero_le (show 0≤o by omega)
    obtain ⟨i,rfl⟩:∃ i,m=i+1:=⟨m - 1,by omega⟩
    have hi:i < 15:=by omega
    have hl:=(JJ ⟨i,hi⟩).2
    have hln:=Bo a b c n ha hb hc hn ((i+1:Nat):Int) (Fz i) (yN i) (D8 hi) hl (yN i).length 0 (Nat.zero_add _)
    have hrd:=G6 a b c n ha hb hc hn i hi i 0 (Nat.zero_add _)
    have YW:Ev (fun k=>aT.f k ((i+1:Nat):Int) a b c n) (Bs (Fz i) :: (yN i).map (uY a b c n)):=by
      refine Ev.congr (fun k=>?_) hln
      unfold aT.f
      rw [uf i hi,Option.bind_some]
      rfl
    have hread:Ev (fun k=>aG.f k (Bs (Fz i) :: (yN i).map (uY a b c n))) _:=hrd
    refine Ev.congr (f:=fun k=>(aT.f k ((i+1:Nat):Int) a b c n).bind fun t140=>((aG.f k t140).bind fun Dq=>(if Dq.2.2.2.2.2=true then (some (Dq.1 == ((i+1:Nat):Int) && (Dq.2.1 == a && (Dq.2.2.1 == b && (Dq.2.2.2.1 == c && (Dq.2.2.2.2.1 == n)))))) else (some false)))) (fun k=>?_) (Ev.bind YW (Ev.bind hread ?_))
    · unfold bK.f
      rw [uf i hi,Option.bind_some]
      refine if_neg ?_
      show ¬ (Bs (Fz i)).toList=_
      rw [nG]
      exact Sz ⟨i,hi⟩
    · refine Ev.congr (fun k=>if_pos rfl) (Ev.out (Ev.now _) ?_)
      exact afq i hi a b c n
theorem CG (x:jZ) (hw:I7 x):Ev (fun k=>bK.f k x.f0 x.f1 x.f2 x.f3 x.f4) (jI x):=by
  rw [OG]
  exact OH x hw.1 hw.2.1 hw.2.2.1 hw.2.2.2
theorem Ov {x:jZ} (h:jI x=true) (hw:I7 x):Ev (fun k=>aT.f k x.f0 x.f1 x.f2 x.f3 x.f4) (qx x):=by
  obtain ⟨o,ho,hn,h1⟩:=OU h
  obtain ⟨ha,hb,hc,hn4⟩:=hw
  obtain ⟨f0,a,b,c,n⟩:=x
  dsimp only at ha hb hc hn4 ho hn ⊢
  obtain ⟨i,hi⟩:∃ i,o.val=i+1:=⟨o.val - 1,by omega⟩
  have Xr:i < 15:=by have:=o.isLt;omega
  rw [hi] at ho hn
  subst ho
  have hl:=(JJ ⟨i,Xr⟩).2
  have hln:=Bo a b c n ha hb hc hn4 ((i+1:Nat):Int) (Fz i) (yN i) (D8 Xr) hl (yN i).length 0 (Nat.zero_add _)
  have e:qx ⟨((i+1:Nat):Int),a,b,c,n⟩=Bs (Fz i) :: (yN i).map (uY a b c n):=by
    have hh:i=0 ∨ i=1 ∨ i=2 ∨ i=3 ∨ i=4 ∨ i=5 ∨ i=6 ∨ i=7 ∨ i=8 ∨ i=9 ∨ i=10 ∨ i=11 ∨ i=12 ∨ i=13 ∨ i=14:=by omega
    rcases hh with rfl|rfl|rfl|rfl|rfl|rfl|rfl|rfl|rfl|rfl|rfl|rfl|rfl|rfl|rfl <;> rfl
  rw [e]
  refine Ev.congr (fun k=>?_) hln
  unfold aT.f
  rw [uf i Xr,Option.bind_some]
  rfl
end Go.Proofs.YtkclndkbccbhaaaGreatDoor.P
end
section
namespace Go.Proofs.YtkclndkbccbhaaaGreatDoor.P
open Go.RowKit Go.Proofs.ag.bJ Go.Proofs.ag.eX Go.Proofs.ag.gp
attribute [local go_sem] kM kK lT lS jE jD kL kJ
mutual
def bf.l0:Nat→Int→List ByteArray→ByteArray→ByteArray→List (jZ)→Option (Bool)
 | 0,_,_,_,_,_=>none
 | k+1,x3,uq,xX,xW,o7=>if x3 < (uq.length:Int) then (if 0≤x3 then (if (gI ByteArray.empty uq x3).toList=([]:List UInt8) then (some false) else ((aK.f k (gI ByteArray.empty uq x3)).bind fun t247=>(if t247=true then (bf.l0 k (wrap64 (x3+1)) uq xX xW o7) else (some false)))) else (none)) else (bf.l1 k 0 uq xX xW o7)
def bf.l1:Nat→Int→List ByteArray→ByteArray→ByteArray→List (jZ)→Option (Bool)
 | 0,_,_,_,_,_=>none
 | k+1,x4,uq,xX,xW,o7=>if x4 < (o7.length:Int) then (if 0≤x4 then ((bK.f k ((aZ o7 x4).f0) ((aZ o7 x4).f1) ((aZ o7 x4).f2) ((aZ o7 x4).f3) ((aZ o7 x4).f4)).bind fun t249=>(if t249=true then (bf.l1 k (wrap64 (x4+1)) uq xX xW o7) else (some false))) else (none)) else ((aK.f k xX).bind fun RD=>(if RD=true then ((aK.f k xW).bind fun FT=>(if FT=true then (some (decide ((o7.length:Int)≤200))) else (some false))) else (some false)))
end
def bf.f (k:Nat) (bD:List ByteArray) (aY:ByteArray) (aX:ByteArray) (aW:List (jZ)):Option (Bool):=bf.l0 k 0 bD aY aX aW
theorem bf.gY:∀ k,(∀ y0 y1 y2 y3 y4,dH (bf.l0 k y0 y1 y2 y3 y4) (bf.l0 (k+1) y0 y1 y2 y3 y4))∧(∀ y0 y1 y2 y3 y4,dH (bf.l1 k y0 y1 y2 y3 y4) (bf.l1 (k+1) y0 y1 y2 y3 y4))
 | 0=>⟨fun _ _ _ _ _ r h=>by simp [bf.l0] at h,fun _ _ _ _ _ r h=>by simp [bf.l1] at h⟩
 | k+1=>by
  obtain ⟨jK,ih1⟩:=bf.gY k
  refine ⟨?_,?_⟩
  ·
   intro y0 y1 y2 y3 y4
   unfold bf.l0
   repeat' with_reducible first|apply jK|apply ih1|apply bK.mono|apply aK.mono|exact dH.refl _|exact dH.none _|refine dH.ite ?_ ?_|refine dH.bind ?_ (fun _=>?_)
  ·
   intro y0 y1 y2 y3 y4
   unfold bf.l1
   repeat' with_reducible first|apply jK|apply ih1|apply bK.mono|apply aK.mono|exact dH.refl _|exact dH.none _|refine dH.ite ?_ ?_|refine dH.bind ?_ (fun _=>?_)
theorem bf.mono:∀ a0 a1 a2 a3 k,dH (bf.f k a0 a1 a2 a3) (bf.f (k+1) a0 a1 a2 a3):=by
 intro a0 a1 a2 a3 k
 obtain ⟨jK,ih1⟩:=bf.gY k
 unfold bf.f
 repeat' with_reducible first|apply jK|apply ih1|apply bK.mono|apply aK.mono|exact dH.refl _|exact dH.none _|refine dH.ite ?_ ?_|refine dH.bind ?_ (fun _=>?_)
set_option maxHeartbeats 8000000 in
set_option maxRecDepth 100000 in
theorem bf.calls (k:Nat) (dO:Option Addr) (dK:Nat) (bD:List ByteArray) (aY:ByteArray) (aX:ByteArray) (dV:Option Addr) (dJ:Nat) (aW:List (jZ)) (r:Bool) (w:World) (qG:Kd.C Kd.string w dO bD.length bD) (qJ:bD.length≤dK) (qF:Kd.C k27 w dV aW.length aW) (qI:aW.length≤dJ) (jM:Kd.C tu w tC lJ.length lJ) (h:bf.f k bD aY aX aW=some r) :
  Calls Tryz.prog 22 #[.agg #[.slice dO bD.length dK,.string aY,.string aX,.slice dV aW.length dJ]] w fun e w'=>e=.returned (.bool r)∧Below w.heap.size w w':=by
 have Nw:=Tryz.underlying25
 have BR:=Tryz.underlying27
 have kZ:=ae.mk qG
 have qj:=ae.mk qJ
 clear qG qJ
 have ny:=ae.mk qF
 have qi:=ae.mk qI
 clear qF qI
 have ry:=ae.mk jM
 clear jM
 have HB:=ae.mk (Below.refl w.heap.size w)
 have H:(bf.l0 k 0 bD aY aX aW)=some r:=h
 clear h
 have H':=ae.mk H
 clear H
 go_enter Tryz.func22,Tryz.ntmps22
 go_wp2_with (first|((with_reducible refine eQ (N:=1) rfl ?_);(try (refine mY (by rfl) ?_;dsimp only));refine fF ?hg (N:=1) ?hd (cs:=#[.slice dO bD.length dK,.string aY,.string aX,.slice dV aW.length dJ]) (t:=25) ?hr ?_;(case hd=>rfl);(case hg=>rfl);(case hr=>first|(go_simp;done)|(go_simp;rfl));intro jh hg w2 hbox hb;have di:=ae.mk (aQ (by repeat (first|(with_reducible first|exact HB.out|apply aj|apply af|apply ai)|exact HB.out)) hb);have dm:=ae.mk (hbox);have dE:=ae.mk ((by rw [hg];exact (bn (by repeat (first|(with_reducible first|exact HB.out|apply aj|apply af|apply ai)|exact HB.out))):w.heap.size≤jh));have gq:=dE;clear HB;have HB:=di;have fZ:=dm;have ahG:=dE;have vk:=gq;clear di dm dE gq;clear hb hbox hg))
 go_loopg [3] k (fun kq v3 w'=>∃ (eU:Int),v3=.int .i64 eU∧ae (bf.l0 kq eU bD aY aX aW=some r)∧ae (kq≤k)∧ae (w'.heap[jh]? = some (.cells #[(.slice dO bD.length dK),.string aY,.string aX,(.slice dV aW.length dJ)] 25 (0,0)))∧ae (Below w.heap.size w w'))
 case atStart=>exact ⟨(0),(by first|rfl|(simp;done)|(simp [*];done)),H',⟨Nat.le_refl _⟩,⟨by (with_reducible repeat (first|refine au ?_ _|refine ay ?_|refine ak ?_ _));exact fZ.out⟩,⟨by repeat (first|(with_reducible first|exact HB.out|apply aj|apply af|apply ai|refine az ?_ vk.out)|exact HB.out)⟩⟩
 case round =>
  clear H'
  obtain ⟨eU,rfl,HA,nZ,fZ,HB⟩:=hrel
  cases gk with
  | zero=>exact absurd HA.out (by simp [bf.l0])
  | succ k1 =>
   have H:=HA.out
   clear HA
   simp only [bf.l0] at H
   by_cases c3:eU < (bD.length:Int)
   ·
    rw [if_pos c3] at H
    have qo:decide (eU < (bD.length:Int))=true:=decide_eq_true c3
    clear c3
    by_cases c4:0≤eU
    ·
     rw [if_pos c4] at H
     have rF:decide (0≤eU)=true:=decide_eq_true c4
     clear c4
     by_cases c5:(gI ByteArray.empty bD eU).toList=([]:List UInt8)
     ·
      rw [if_pos c5] at H
      have xm:((gI ByteArray.empty bD eU).toList == ([]:List UInt8))=true:=beq_iff_eq.mpr c5
      have Fa:((gI ByteArray.empty bD eU).toList != ([]:List UInt8))=false:=bne_eq_false_iff_eq.mpr c5
      clear c5
      obtain rfl:=Option.some.inj H
      have afh:wr.cell? ⟨jh,0,none⟩=some (.slice dO bD.length dK):=(ah fZ.out 0).trans rfl
      have afg:wr.cell? ⟨jh,1,none⟩=some (.string aY):=(ah fZ.out 1).trans rfl
      have aff:wr.cell? ⟨jh,2,none⟩=some (.string aX):=(ah fZ.out 2).trans rfl
      have afe:wr.cell? ⟨jh,3,none⟩=some (.slice dV aW.length dJ):=(ah fZ.out 3).trans rfl
      have afd:=ax fZ.out 0
      have afc:=ax fZ.out 1
      have afb:=ax fZ.out 2
      have afa:=ax fZ.out 3
      have Am:0≤(eU:Int):=of_decide_eq_true (by first|(with_reducible assumption)|assumption)
      have Ag:eU < (bD.length:Int):=of_decide_eq_true (by first|(with_reducible assumption)|assumption)
      obtain ⟨LX,e245,pz⟩:=Kd.gB kZ.out eU Am Ag
      cases e245
      replace pz:=(HB.out.cell (World.block_lt_of_cell? w _ pz)).trans pz
      replace Am:=eq_true Am
      replace Ag:=eq_true Ag
      go_wp2
      go_ret
      exact ⟨by first|rfl|(simp [bH,bG] <;> rfl)|(simp [*,bH,bG] <;> rfl),by repeat (first|(with_reducible first|exact HB.out|apply aj|apply af|apply ai|refine az ?_ vk.out)|exact HB.out)⟩
     ·
      rw [if_neg c5] at H
      have xm:((gI ByteArray.empty bD eU).toList == ([]:List UInt8))=false:=beq_eq_false_iff_ne.mpr c5
      have Fa:((gI ByteArray.empty bD eU).toList != ([]:List UInt8))=true:=bne_iff_ne.mpr c5
      replace H:=Option.bind_eq_some_iff.mp H
      obtain ⟨t247,Q7,H⟩:=H
      replace H:(if t247=true then (bf.l0 k1 (wrap64 (eU+1)) bD aY aX aW) else (some false))=some r:=H
      have A7:=ae.mk Q7
      clear Q7
      by_cases c8:t247=true
      ·
       subst c8
       have H1:(bf.l0 k1 (wrap64 (eU+1)) bD aY aX aW)=some r:=by rw [if_pos rfl] at H;exact H
       clear H
       have H:=H1
       clear H1
       have H':=ae.mk H
       clear H
       have PK:wr.cell? ⟨jh,0,none⟩=some (.slice dO bD.length dK):=(ah fZ.out 0).trans rfl
       have PI:wr.cell? ⟨jh,1,none⟩=some (.string aY):=(ah fZ.out 1).trans rfl
       have PH:wr.cell? ⟨jh,2,none⟩=some (.string aX):=(ah fZ.out 2).trans rfl
       have PG:wr.cell? ⟨jh,3,none⟩=some (.slice dV aW.length dJ):=(ah fZ.out 3).trans rfl
       have Pv:=ax fZ.out 0
       have Pq:=ax fZ.out 1
       have Po:=ax fZ.out 2
       have Pn:=ax fZ.out 3
       have Am:0≤(eU:Int):=of_decide_eq_true (by first|(with_reducible assumption)|assumption)
       have Ag:eU < (bD.length:Int):=of_decide_eq_true (by first|(with_reducible assumption)|assumption)
       obtain ⟨LX,e245,pz⟩:=Kd.gB kZ.out eU Am Ag
       cases e245
       replace pz:=(HB.out.cell (World.block_lt_of_cell? w _ pz)).trans pz
       replace Am:=eq_true Am
       replace Ag:=eq_true Ag
       have Ir:0≤(eU:Int):=of_decide_eq_true (by first|(with_reducible assumption)|assumption)
       have Ik:eU < (bD.length:Int):=of_decide_eq_true (by first|(with_reducible assumption)|assumption)
       obtain ⟨QM,e246,uH⟩:=Kd.gB kZ.out eU Ir Ik
       obtain rfl:LX=QM:=(by injection e246)
       replace uH:=(HB.out.cell (World.block_lt_of_cell? w _ uH)).trans uH
       replace Ir:=eq_true Ir
       replace Ik:=eq_true Ik
       go_wp2_with (first|(go_at_call 43;(with_reducible refine (aK.calls k1 (gI ByteArray.empty bD eU) true _ A7.out).mono ?_);rintro e w' ⟨rfl,⟨nd,rfl⟩⟩))
       go_roundg k1
       case measure=>have:=nZ.out;omega
       case rel=>exact ⟨(wrap64 (eU+1)),(by first|rfl|(simp;done)|(simp [*];done)),H',⟨by have:=nZ.out;omega⟩,⟨by (with_reducible repeat (first|refine au ?_ _|refine ay ?_|refine ak ?_ _));exact fZ.out⟩,⟨by repeat (first|(with_reducible first|exact HB.out|apply aj|apply af|apply ai|refine az ?_ vk.out)|exact HB.out)⟩⟩
      ·
       replace c8:=Bool.eq_false_iff.mpr c8
       subst c8
       have H1:(some false)=some r:=by rw [if_neg (show ¬ (false=true) by decide)] at H;exact H
       clear H
       have H:=H1
       clear H1
       obtain rfl:=Option.some.inj H
       have Lr:wr.cell? ⟨jh,0,none⟩=some (.slice dO bD.length dK):=(ah fZ.out 0).trans rfl
       have Lp:wr.cell? ⟨jh,1,none⟩=some (.string aY):=(ah fZ.out 1).trans rfl
       have Lm:wr.cell? ⟨jh,2,none⟩=some (.string aX):=(ah fZ.out 2).trans rfl
       have Ll:wr.cell? ⟨jh,3,none⟩=some (.slice dV aW.length dJ):=(ah fZ.out 3).trans rfl
       have KF:=ax fZ.out 0
       have KE:=ax fZ.out 1
       have KD:=ax fZ.out 2
       have KC:=ax fZ.out 3
       have Am:0≤(eU:Int):=of_decide_eq_true (by first|(with_reducible assumption)|assumption)
       have Ag:eU < (bD.length:Int):=of_decide_eq_true (by first|(with_reducible assumption)|assumption)
       obtain ⟨LX,e245,pz⟩:=Kd.gB kZ.out eU Am Ag
       cases e245
       replace pz:=(HB.out.cell (World.block_lt_of_cell? w _ pz)).trans pz
       replace Am:=eq_true Am
       replace Ag:=eq_true Ag
       have Ir:0≤(eU:Int):=of_decide_eq_true (by first|(with_reducible assumption)|assumption)
       have Ik:eU < (bD.length:Int):=of_decide_eq_true (by first|(with_reducible assumption)|assumption)
       obtain ⟨QM,e246,uH⟩:=Kd.gB kZ.out eU Ir Ik
       obtain rfl:LX=QM:=(by injection e246)
       replace uH:=(HB.out.cell (World.block_lt_of_cell? w _ uH)).trans uH
       replace Ir:=eq_true Ir
       replace Ik:=eq_true Ik
       go_wp2_with (first|(go_at_call 43;(with_reducible refine (aK.calls k1 (gI ByteArray.empty bD eU) false _ A7.out).mono ?_);rintro e w' ⟨rfl,⟨nd,rfl⟩⟩))
       go_ret
       exact ⟨by first|rfl|(simp [bH,bG] <;> rfl)|(simp [*,bH,bG] <;> rfl),by repeat (first|(with_reducible first|exact HB.out|apply aj|apply af|apply ai|refine az ?_ vk.out)|exact HB.out)⟩
    ·
     rw [if_neg c4] at H
     exact absurd H (by simp)
   ·
    rw [if_neg c3] at H
    have qo:decide (eU < (bD.length:Int))=false:=decide_eq_false c3
    clear c3
    have H':=ae.mk H
    clear H
    have ET:wr.cell? ⟨jh,0,none⟩=some (.slice dO bD.length dK):=(ah fZ.out 0).trans rfl
    have ES:wr.cell? ⟨jh,1,none⟩=some (.string aY):=(ah fZ.out 1).trans rfl
    have ER:wr.cell? ⟨jh,2,none⟩=some (.string aX):=(ah fZ.out 2).trans rfl
    have EP:wr.cell? ⟨jh,3,none⟩=some (.slice dV aW.length dJ):=(ah fZ.out 3).trans rfl
    have EG:=ax fZ.out 0
    have EF:=ax fZ.out 1
    have EE:=ax fZ.out 2
    have ED:=ax fZ.out 3
    go_wp2
    go_loopg [4] k1 (fun kq v4 w'=>∃ (jy:Int),v4=.int .i64 jy∧ae (bf.l1 kq jy bD aY aX aW=some r)∧ae (kq≤k1)∧ae (w'.heap[jh]? = some (.cells #[(.slice dO bD.length dK),.string aY,.string aX,(.slice dV aW.length dJ)] 25 (0,0)))∧ae (Below w.heap.size w w'))
    case atStart=>exact ⟨(0),(by first|rfl|(simp;done)|(simp [*];done)),H',⟨Nat.le_refl _⟩,⟨by (with_reducible repeat (first|refine au ?_ _|refine ay ?_|refine ak ?_ _));exact fZ.out⟩,⟨by repeat (first|(with_reducible first|exact HB.out|apply aj|apply af|apply ai|refine az ?_ vk.out)|exact HB.out)⟩⟩
    case round =>
     clear H'
     obtain ⟨jy,rfl,HA,xB,fZ,HB⟩:=hrel
     cases gk with
     | zero=>exact absurd HA.out (by simp [bf.l1])
     | succ k2 =>
      have H:=HA.out
      clear HA
      simp only [bf.l1] at H
      by_cases c12:jy < (aW.length:Int)
      ·
       rw [if_pos c12] at H
       have ve:decide (jy < (aW.length:Int))=true:=decide_eq_true c12
       clear c12
       by_cases c13:0≤jy
       ·
        rw [if_pos c13] at H
        have rZ:decide (0≤jy)=true:=decide_eq_true c13
        clear c13
        replace H:=Option.bind_eq_some_iff.mp H
        obtain ⟨t249,aaz,H⟩:=H
        replace H:(if t249=true then (bf.l1 k2 (wrap64 (jy+1)) bD aY aX aW) else (some false))=some r:=H
        have A14:=ae.mk aaz
        clear aaz
        by_cases c15:t249=true
        ·
         subst c15
         have H1:(bf.l1 k2 (wrap64 (jy+1)) bD aY aX aW)=some r:=by rw [if_pos rfl] at H;exact H
         clear H
         have H:=H1
         clear H1
         have H':=ae.mk H
         clear H
         have Lh:wr.cell? ⟨jh,0,none⟩=some (.slice dO bD.length dK):=(ah fZ.out 0).trans rfl
         have Le:wr.cell? ⟨jh,1,none⟩=some (.string aY):=(ah fZ.out 1).trans rfl
         have Ld:wr.cell? ⟨jh,2,none⟩=some (.string aX):=(ah fZ.out 2).trans rfl
         have Lc:wr.cell? ⟨jh,3,none⟩=some (.slice dV aW.length dJ):=(ah fZ.out 3).trans rfl
         have Kz:=ax fZ.out 0
         have Ky:=ax fZ.out 1
         have Kw:=ax fZ.out 2
         have Kv:=ax fZ.out 3
         have Iq:0≤(jy:Int):=of_decide_eq_true (by first|(with_reducible assumption)|assumption)
         have Ij:jy < (aW.length:Int):=of_decide_eq_true (by first|(with_reducible assumption)|assumption)
         obtain ⟨QL,e248,uG,uF,uD,uC,uB⟩:=wz ny.out jy Iq Ij
         cases e248
         replace uG:=(HB.out.cell (World.block_lt_of_cell? w _ uG)).trans uG
         replace uF:=(HB.out.cell (World.block_lt_of_cell? w _ uF)).trans uF
         replace uD:=(HB.out.cell (World.block_lt_of_cell? w _ uD)).trans uD
         replace uC:=(HB.out.cell (World.block_lt_of_cell? w _ uC)).trans uC
         replace uB:=(HB.out.cell (World.block_lt_of_cell? w _ uB)).trans uB
         replace Iq:=eq_true Iq
         replace Ij:=eq_true Ij
         go_wp2_with (first|((with_reducible refine bU (f:=12) rfl ?_);refine gy (some 39) rfl rfl Tryz.func12 (by kernel_rfl) rfl #[.agg #[.int .u8 ((aZ aW jy).f0),.int .u8 ((aZ aW jy).f1),.int .u8 ((aZ aW jy).f2),.int .u8 ((aZ aW jy).f3),.int .i64 ((aZ aW jy).f4)]] rfl (by (try simp only [List.map_toArray,List.map_cons,List.map_nil]);first|done|rfl|(simp only [List.length_drop,List.length_take];rfl)) ?_;(with_reducible refine (bK.calls k2 ((aZ aW jy).f0) ((aZ aW jy).f1) ((aZ aW jy).f2) ((aZ aW jy).f3) ((aZ aW jy).f4) true _ ?fD A14.out).mono ?_);(case fD=>repeat (first|exact (Kd.dF ry.out HB.out)|(with_reducible refine Kd.ed ?_ _)|(with_reducible refine Kd.dZ ?_ _)|(with_reducible refine Kd.fO ?_)));rintro e YA ⟨rfl,hb⟩;refine ⟨_,rfl,?_⟩;have di:=ae.mk (aV (g:=jh) (o:=.cells #[.slice dO bD.length dK,.string aY,.string aX,.slice (some QL) aW.length dJ] 25 (0,0)) (by (with_reducible repeat (first|refine au ?_ _|refine ay ?_|refine ak ?_ _));exact fZ.out) hb);have dm:=ae.mk (aQ (by repeat (first|(with_reducible first|exact HB.out|apply aj|apply af|apply ai|refine az ?_ vk.out)|exact HB.out)) hb);clear fZ;clear HB;have fZ:=di;have HB:=dm;clear di dm;(try clear hb);(try clear hb2);(try clear hk);(try clear hi)))
         go_roundg k2
         case measure=>have:=nZ.out;have:=xB.out;omega
         case rel=>exact ⟨(wrap64 (jy+1)),(by first|rfl|(simp;done)|(simp [*];done)),H',⟨by have:=nZ.out;have:=xB.out;omega⟩,⟨by (with_reducible repeat (first|refine au ?_ _|refine ay ?_|refine ak ?_ _));exact fZ.out⟩,⟨by repeat (first|(with_reducible first|exact HB.out|apply aj|apply af|apply ai|refine az ?_ vk.out)|exact HB.out)⟩⟩
        ·
         replace c15:=Bool.eq_false_iff.mpr c15
         subst c15
         have H1:(some false)=some r:=by rw [if_neg (show ¬ (false=true) by decide)] at H;exact H
         clear H
         have H:=H1
         clear H1
         obtain rfl:=Option.some.inj H
         have UY:wr.cell? ⟨jh,0,none⟩=some (.slice dO bD.length dK):=(ah fZ.out 0).trans rfl
         have UX:wr.cell? ⟨jh,1,none⟩=some (.string aY):=(ah fZ.out 1).trans rfl
         have UW:wr.cell? ⟨jh,2,none⟩=some (.string aX):=(ah fZ.out 2).trans rfl
         have UU:wr.cell? ⟨jh,3,none⟩=some (.slice dV aW.length dJ):=(ah fZ.out 3).trans rfl
         have TW:=ax fZ.out 0
         have TV:=ax fZ.out 1
         have TU:=ax fZ.out 2
         have TT:=ax fZ.out 3
         have Iq:0≤(jy:Int):=of_decide_eq_true (by first|(with_reducible assumption)|assumption)
         have Ij:jy < (aW.length:Int):=of_decide_eq_true (by first|(with_reducible assumption)|assumption)
         obtain ⟨QL,e248,uG,uF,uD,uC,uB⟩:=wz ny.out jy Iq Ij
         cases e248
         replace uG:=(HB.out.cell (World.block_lt_of_cell? w _ uG)).trans uG
         replace uF:=(HB.out.cell (World.block_lt_of_cell? w _ uF)).trans uF
         replace uD:=(HB.out.cell (World.block_lt_of_cell? w _ uD)).trans uD
         replace uC:=(HB.out.cell (World.block_lt_of_cell? w _ uC)).trans uC
         replace uB:=(HB.out.cell (World.block_lt_of_cell? w _ uB)).trans uB
         replace Iq:=eq_true Iq
         replace Ij:=eq_true Ij
         go_wp2_with (first|((with_reducible refine bU (f:=12) rfl ?_);refine gy (some 39) rfl rfl Tryz.func12 (by kernel_rfl) rfl #[.agg #[.int .u8 ((aZ aW jy).f0),.int .u8 ((aZ aW jy).f1),.int .u8 ((aZ aW jy).f2),.int .u8 ((aZ aW jy).f3),.int .i64 ((aZ aW jy).f4)]] rfl (by (try simp only [List.map_toArray,List.map_cons,List.map_nil]);first|done|rfl|(simp only [List.length_drop,List.length_take];rfl)) ?_;(with_reducible refine (bK.calls k2 ((aZ aW jy).f0) ((aZ aW jy).f1) ((aZ aW jy).f2) ((aZ aW jy).f3) ((aZ aW jy).f4) false _ ?fD A14.out).mono ?_);(case fD=>repeat (first|exact (Kd.dF ry.out HB.out)|(with_reducible refine Kd.ed ?_ _)|(with_reducible refine Kd.dZ ?_ _)|(with_reducible refine Kd.fO ?_)));rintro e w19 ⟨rfl,hb⟩;refine ⟨_,rfl,?_⟩;have di:=ae.mk (aV (g:=jh) (o:=.cells #[.slice dO bD.length dK,.string aY,.string aX,.slice (some QL) aW.length dJ] 25 (0,0)) (by (with_reducible repeat (first|refine au ?_ _|refine ay ?_|refine ak ?_ _));exact fZ.out) hb);have dm:=ae.mk (aQ (by repeat (first|(with_reducible first|exact HB.out|apply aj|apply af|apply ai|refine az ?_ vk.out)|exact HB.out)) hb);clear fZ;clear HB;have fZ:=di;have HB:=dm;clear di dm;(try clear hb);(try clear hb2);(try clear hk);(try clear hi)))
         go_ret
         exact ⟨by first|rfl|(simp [bH,bG] <;> rfl)|(simp [*,bH,bG] <;> rfl),by repeat (first|(with_reducible first|exact HB.out|apply aj|apply af|apply ai|refine az ?_ vk.out)|exact HB.out)⟩
       ·
        rw [if_neg c13] at H
        exact absurd H (by simp)
      ·
       rw [if_neg c12] at H
       have ve:decide (jy < (aW.length:Int))=false:=decide_eq_false c12
       clear c12
       replace H:=Option.bind_eq_some_iff.mp H
       obtain ⟨RD,aav,H⟩:=H
       replace H:(if RD=true then ((aK.f k2 aX).bind fun FT=>(if FT=true then (some (decide ((aW.length:Int)≤200))) else (some false))) else (some false))=some r:=H
       have Ce:=ae.mk aav
       clear aav
       by_cases c21:RD=true
       ·
        subst c21
        have H1:((aK.f k2 aX).bind fun FT=>(if FT=true then (some (decide ((aW.length:Int)≤200))) else (some false)))=some r:=by rw [if_pos rfl] at H;exact H
        clear H
        have H:=H1
        clear H1
        replace H:=Option.bind_eq_some_iff.mp H
        obtain ⟨FT,aau,H⟩:=H
        replace H:(if FT=true then (some (decide ((aW.length:Int)≤200))) else (some false))=some r:=H
        have A22:=ae.mk aau
        clear aau
        by_cases c23:FT=true
        ·
         subst c23
         have H1:(some (decide ((aW.length:Int)≤200)))=some r:=by rw [if_pos rfl] at H;exact H
         clear H
         have H:=H1
         clear H1
         obtain rfl:=Option.some.inj H
         have KP:wr.cell? ⟨jh,0,none⟩=some (.slice dO bD.length dK):=(ah fZ.out 0).trans rfl
         have KO:wr.cell? ⟨jh,1,none⟩=some (.string aY):=(ah fZ.out 1).trans rfl
         have KN:wr.cell? ⟨jh,2,none⟩=some (.string aX):=(ah fZ.out 2).trans rfl
         have KL:wr.cell? ⟨jh,3,none⟩=some (.slice dV aW.length dJ):=(ah fZ.out 3).trans rfl
         have J6:=ax fZ.out 0
         have J5:=ax fZ.out 1
         have J4:=ax fZ.out 2
         have J3:=ax fZ.out 3
         go_wp2_with (first|((with_reducible refine bU (f:=43) rfl ?_);refine gy (some 43) rfl rfl Tryz.func43 (by kernel_rfl) rfl #[.string aY] rfl (by (try simp only [List.map_toArray,List.map_cons,List.map_nil]);first|done|rfl|(simp only [List.length_drop,List.length_take];rfl)) ?_;(with_reducible refine (aK.calls k2 aY true _ Ce.out).mono ?_);rintro e w' ⟨rfl,⟨nd,rfl⟩⟩;refine ⟨_,rfl,?_⟩)|(go_at_call 43;(with_reducible refine (aK.calls k2 aX true _ A22.out).mono ?_);rintro e w' ⟨rfl,⟨nd,rfl⟩⟩))
         go_ret
         exact ⟨by first|rfl|(simp [bH,bG] <;> rfl)|(simp [*,bH,bG] <;> rfl),by repeat (first|(with_reducible first|exact HB.out|apply aj|apply af|apply ai|refine az ?_ vk.out)|exact HB.out)⟩
        ·
         replace c23:=Bool.eq_false_iff.mpr c23
         subst c23
         have H1:(some false)=some r:=by rw [if_neg (show ¬ (false=true) by decide)] at H;exact H
         clear H
         have H:=H1
         clear H1
         obtain rfl:=Option.some.inj H
         have KJ:wr.cell? ⟨jh,0,none⟩=some (.slice dO bD.length dK):=(ah fZ.out 0).trans rfl
         have KI:wr.cell? ⟨jh,1,none⟩=some (.string aY):=(ah fZ.out 1).trans rfl
         have KH:wr.cell? ⟨jh,2,none⟩=some (.string aX):=(ah fZ.out 2).trans rfl
         have KG:wr.cell? ⟨jh,3,none⟩=some (.slice dV aW.length dJ):=(ah fZ.out 3).trans rfl
         have JZ:=ax fZ.out 0
         have JY:=ax fZ.out 1
         have JX:=ax fZ.out 2
         have JW:=ax fZ.out 3
         go_wp2_with (first|((with_reducible refine bU (f:=43) rfl ?_);refine gy (some 43) rfl rfl Tryz.func43 (by kernel_rfl) rfl #[.string aY] rfl (by (try simp only [List.map_toArray,List.map_cons,List.map_nil]);first|done|rfl|(simp only [List.length_drop,List.length_take];rfl)) ?_;(with_reducible refine (aK.calls k2 aY true _ Ce.out).mono ?_);rintro e w' ⟨rfl,⟨nd,rfl⟩⟩;refine ⟨_,rfl,?_⟩)|(go_at_call 43;(with_reducible refine (aK.calls k2 aX false _ A22.out).mono ?_);rintro e w' ⟨rfl,⟨nd,rfl⟩⟩))
         go_ret
         exact ⟨by first|rfl|(simp [bH,bG] <;> rfl)|(simp [*,bH,bG] <;> rfl),by repeat (first|(with_reducible first|exact HB.out|apply aj|apply af|apply ai|refine az ?_ vk.out)|exact HB.out)⟩
       ·
        replace c21:=Bool.eq_false_iff.mpr c21
        subst c21
        have H1:(some false)=some r:=by rw [if_neg (show ¬ (false=true) by decide)] at H;exact H
        clear H
        have H:=H1
        clear H1
        obtain rfl:=Option.some.inj H
        have UG:wr.cell? ⟨jh,0,none⟩=some (.slice dO bD.length dK):=(ah fZ.out 0).trans rfl
        have UF:wr.cell? ⟨jh,1,none⟩=some (.string aY):=(ah fZ.out 1).trans rfl
        have UE:wr.cell? ⟨jh,2,none⟩=some (.string aX):=(ah fZ.out 2).trans rfl
        have UD:wr.cell? ⟨jh,3,none⟩=some (.slice dV aW.length dJ):=(ah fZ.out 3).trans rfl
        have TF:=ax fZ.out 0
        have TE:=ax fZ.out 1
        have TD:=ax fZ.out 2
        have TC:=ax fZ.out 3
        go_wp2_with (first|((with_reducible refine bU (f:=43) rfl ?_);refine gy (some 43) rfl rfl Tryz.func43 (by kernel_rfl) rfl #[.string aY] rfl (by (try simp only [List.map_toArray,List.map_cons,List.map_nil]);first|done|rfl|(simp only [List.length_drop,List.length_take];rfl)) ?_;(with_reducible refine (aK.calls k2 aY false _ Ce.out).mono ?_);rintro e w' ⟨rfl,⟨nd,rfl⟩⟩;refine ⟨_,rfl,?_⟩))
        go_ret
        exact ⟨by first|rfl|(simp [bH,bG] <;> rfl)|(simp [*,bH,bG] <;> rfl),by repeat (first|(with_reducible first|exact HB.out|apply aj|apply af|apply ai|refine az ?_ vk.out)|exact HB.out)⟩
def iq.f (a0:ByteArray):Option (ByteArray):=if a0.toList=([]:List UInt8) then (some (⟨#[45]⟩:ByteArray)) else (some a0)
set_option maxHeartbeats 8000000 in
set_option maxRecDepth 100000 in
theorem iq.calls (a0:ByteArray) (r:ByteArray) (w:World) (h:iq.f a0=some r) :
  Calls Tryz.prog 23 #[.string a0] w fun e w'=>e=.returned (.string r)∧bC w w':=by
 have H:(if a0.toList=([]:List UInt8) then (some (⟨#[45]⟩:ByteArray)) else (some a0))=some r:=h
 clear h
 by_cases c2:a0.toList=([]:List UInt8)
 ·
  rw [if_pos c2] at H
  have sH:(a0.toList == ([]:List UInt8))=true:=beq_iff_eq.mpr c2
  have xO:(a0.toList != ([]:List UInt8))=false:=bne_eq_false_iff_eq.mpr c2
  clear c2
  obtain rfl:=Option.some.inj H
  go_enter Tryz.func23,Tryz.ntmps23
  go_wp2
  go_ret
  exact ⟨by first|rfl|(simp;done)|(simp [*];done),by repeat (first|exact bC.refl _|apply bC.step)⟩
 ·
  rw [if_neg c2] at H
  have sH:(a0.toList == ([]:List UInt8))=false:=beq_eq_false_iff_ne.mpr c2
  have xO:(a0.toList != ([]:List UInt8))=true:=bne_iff_ne.mpr c2
  obtain rfl:=Option.some.inj H
  go_enter Tryz.func23,Tryz.ntmps23
  go_wp2
  go_ret
  exact ⟨by first|rfl|(simp;done)|(simp [*];done),by repeat (first|exact bC.refl _|apply bC.step)⟩
end Go.Proofs.YtkclndkbccbhaaaGreatDoor.P
end
