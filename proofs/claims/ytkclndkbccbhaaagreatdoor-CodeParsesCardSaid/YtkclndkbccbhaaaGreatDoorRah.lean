/- Parts of the proof of CodeParses: what the functions that it reaches compute, and plain facts about that. -/
import Derived.Test.YtkclndkbccbhaaaGreatDoorRac
import Derived.Test.YtkclndkbccbhaaaGreatDoorRag
import Derived.Test.YtkclndkbccbhaaaGreatDoorRad
import Derived.Test.YtkclndkbccbhaaaGreatDoorRae
import Derived.Test.YtkclndkbccbhaaaGreatDoorRaf
import Derived.ChangeMaps4
import Derived.Deep.MidRow
set_option linter.unusedVariables false
set_option linter.unusedSimpArgs false
section
namespace Go.Proofs.YtkclndkbccbhaaaGreatDoor.P
open Go Go.RowKit Go.Proofs.ag.bK Go.Proofs.ag.dV Go.Proofs.ag.fE
def Bs (w:List UInt8):ByteArray:=⟨w.toArray⟩
theorem lZ (s:ByteArray):Bs s.data.toList=s:=by cases s;rfl
theorem GK (w:List UInt8):(Bs w).data.toList=w:=rfl
theorem lu (w:List UInt8):(Bs w).toList=w:=by rw [ByteArray.toList_eq];rfl
theorem fP (w:List UInt8):(Bs w).size=w.length:=by simp [Bs,ByteArray.size]
theorem yI (s:ByteArray):s.data.toList.length=s.size:=(Lib.size_eq s).symm
def conv (L:List (List (List UInt8))):List (List ByteArray):=L.map (·.map Bs)
theorem IQ (a b:List (List (List UInt8))):conv (a++b)=conv a++conv b:=by simp [conv]
theorem xP (a:List (List (List UInt8))):(conv a).length=a.length:=by simp [conv]
def ED (R:List (List (List UInt8)) × Nat × Nat):List (List ByteArray) × Int × Int:=(conv R.1,(R.2.1:Int),(R.2.2:Int))
theorem PY (L:List (List UInt8)) (i:Nat) (x:List UInt8) (h:L[i]? = some x):eF ByteArray.empty (L.map Bs) (i:Int)=Bs x:=by
  unfold eF
  rw [Int.toNat_natCast,List.getD_eq_getElem?_getD,List.getElem?_map,h]
  rfl
theorem BL (w:List UInt8) (i:Nat) (c:UInt8) (h:w[i]? = some c):bt (Bs w) (i:Int)=(c.toNat:Int):=by
  obtain ⟨hl,hc⟩:=List.getElem?_eq_some_iff.1 h
  have hs:((i:Int)).toNat < (Bs w).size:=by rw [Int.toNat_natCast,fP];exact hl
  unfold bt
  rw [dif_pos hs]
  have:(Bs w)[((i:Int)).toNat]'hs=c:=by rw [← hc];rfl
  rw [this]
theorem jD (i:Nat) (h:i < 4611686018427387904):wrap64 ((i:Int)+1)=((i+1:Nat):Int):=by unfold wrap64;omega
theorem KU (s:ByteArray) (c:UInt8) (hs:s.size < 4294967281):strings_Split.f s ⟨#[c]⟩=some ((qi c s.data.toList).map Bs):=by
  unfold strings_Split.f
  rw [if_pos ⟨hs,by simp [ByteArray.size]⟩]
  congr 1
  have h:=Lib.splitB_data ⟨#[c]⟩ 0 (Lib.countB s ⟨#[c]⟩) s
  have hk:Lib.countB s ⟨#[c]⟩=s.data.toList.count c:=Lib.count_one c s.data.toList
  have h1:Lib.splitK [c] 0 (Lib.countB s ⟨#[c]⟩) s.data.toList=qi c s.data.toList:=Dl c _ _ (by rw [hk];exact Nat.le_refl _)
  have h2:(Lib.splitB ⟨#[c]⟩ 0 (Lib.countB s ⟨#[c]⟩) s).map (·.data.toList)=qi c s.data.toList:=h.trans h1
  rw [← h2,List.map_map]
  conv=>lhs;rw [← List.map_id (Lib.splitB ⟨#[c]⟩ 0 (Lib.countB s ⟨#[c]⟩) s)]
  refine List.map_congr_left fun x _=>?_
  exact (lZ x).symm
theorem ab6 (s:ByteArray) (hs:s.size < 4294967281):∃ b t,strings_Cut.f s ⟨#[35]⟩=some (Bs (s.data.toList.takeWhile (· ≠ 35)),b,t):=by
  unfold strings_Cut.f
  rw [if_pos hs]
  refine ⟨⟨(Lib.cut s.data.toList [35]).2.1.toArray⟩,(Lib.cut s.data.toList [35]).2.2,?_⟩
  rw [← Xy 35 s.data.toList]
  rfl
theorem Lc:∀ b:UInt8,([97,98,99,100,101,102,103,104,105,106,107,108,109,110,111,112,113,114,115,116,117,118,119,120,121,122,48,49,50,51,52,53,54,55,56,57,45]:List UInt8).contains b=Og b:=by
  have h:∀ n:Fin 256,([97,98,99,100,101,102,103,104,105,106,107,108,109,110,111,112,113,114,115,116,117,118,119,120,121,122,48,49,50,51,52,53,54,55,56,57,45]:List UInt8).contains (UInt8.ofNat n.val)=Og (UInt8.ofNat n.val):=by decide +kernel
  intro b
  have:=h ⟨b.toNat,b.toNat_lt⟩
  simpa using this
theorem abv (w:List UInt8):tH.f (Bs w)=some (F8 w):=by
  unfold tH.f F8
  rw [fP]
  by_cases hl:w.length≤30
  · rw [if_pos (by omega)]
    unfold jw.f
    rw [if_pos ⟨by rw [fP];omega,by decide,by decide +kernel⟩]
    simp only [Option.bind_some]
    congr 1
    rw [decide_eq_true hl,Bool.true_and,Bool.eq_iff_iff,beq_iff_eq,ByteArray.toList_eq,List.all_eq_true]
    show Lib.trimS w [97,98,99,100,101,102,103,104,105,106,107,108,109,110,111,112,113,114,115,116,117,118,119,120,121,122,48,49,50,51,52,53,54,55,56,57,45]=[] ↔ _
    rw [AB]
    constructor
    · intro h x hx
      rw [← Lc]
      exact h x hx
    · intro h x hx
      rw [Lc]
      exact h x hx
  · rw [if_neg (by omega),decide_eq_false hl,Bool.false_and]
theorem IL {M:List (List UInt8)} {j:Nat} {w:List UInt8} (h:M[j]? = some w):(M.drop j).filter (· ≠ [])=(if w=[] then [] else [w])++(M.drop (j+1)).filter (· ≠ []):=by
  obtain ⟨hl,hw⟩:=List.getElem?_eq_some_iff.1 h
  rw [List.drop_eq_getElem_cons hl,hw,List.filter_cons]
  by_cases e:w=[]
  · simp [e]
  · simp [e]
theorem Yf (T:List ByteArray) (n:Int) (i:Nat) (hi:i < 1000000) (x5:List (List ByteArray)) (hx5:x5.length≤1000000) (M:List (List UInt8)) (hM:M.length≤1000000) :
    ∀ (d j:Nat),j+d=M.length→∀ (acc:List (List UInt8)),acc.length≤j →
      ((((M.drop j).filter (· ≠ [])).all F8=false→Ev (fun k=>bZ.l1 k x5 (i:Int) (acc.map Bs) T n (i:Int) (M.map Bs) ((M.length:Nat):Int) (j:Int)) ([],((i+1:Nat):Int),4)) ∧
       (((M.drop j).filter (· ≠ [])).all F8=true→∀ r,Ev (fun k=>bZ.l0 k (x5++conv (keep (acc++(M.drop j).filter (· ≠ [])))) T n ((i+1:Nat):Int)) r →
        Ev (fun k=>bZ.l1 k x5 (i:Int) (acc.map Bs) T n (i:Int) (M.map Bs) ((M.length:Nat):Int) (j:Int)) r))
  | 0,j,hj,acc,ha=>by
    have hd:M.drop j=[]:=List.drop_eq_nil_of_le (by omega)
    rw [hd]
    refine ⟨fun h=>by simp at h,fun _ r hr=>?_⟩
    refine Ev.step (fun k=>?_) hr
    simp only [bZ.l1]
    rw [if_neg (by omega),List.length_map,jD i (by omega)]
    simp only [List.filter_nil,List.append_nil]
    by_cases e:acc=[]
    · subst e
      rw [if_neg (by simp)]
      simp [keep,conv]
    · have hp:0 < acc.length:=List.length_pos_iff.2 e
      rw [if_pos (by omega),if_pos (by omega)]
      simp [keep,conv,e]
  | d+1,j,hj,acc,ha=>by
    have hlt:j < M.length:=by omega
    have hw:M[j]? = some M[j]:=List.getElem?_eq_getElem hlt
    generalize M[j]=w at hw
    have ih:=Yf T n i hi x5 hx5 M hM d (j+1) (by omega)
    rw [IL hw]
    have uj:∀ k,bZ.l1 (k+1) x5 (i:Int) (acc.map Bs) T n (i:Int) (M.map Bs) ((M.length:Nat):Int) (j:Int) =
        if w=[] then bZ.l1 k x5 (i:Int) (acc.map Bs) T n (i:Int) (M.map Bs) ((M.length:Nat):Int) ((j+1:Nat):Int)
        else if F8 w=true then bZ.l1 k x5 (i:Int) ((acc++[w]).map Bs) T n (i:Int) (M.map Bs) ((M.length:Nat):Int) ((j+1:Nat):Int) else some ([],((i+1:Nat):Int),4):=by
      intro k
      conv=>lhs;simp only [bZ.l1]
      rw [if_pos (by omega),if_pos (by omega),if_pos (by rw [List.length_map];omega),PY M j w hw,lu,abv,Option.bind_some,jD j (by omega),jD i (by omega),
        if_pos (show (acc.map Bs).length < 8796093022208 by rw [List.length_map];omega),List.map_append]
      rfl
    by_cases e:w=[]
    · rw [if_pos e,List.nil_append]
      have h:=ih acc (by omega)
      refine ⟨fun hf=>Ev.step (fun k=>by rw [uj k,if_pos e]) (h.1 hf),fun ht r hr=>Ev.step (fun k=>by rw [uj k,if_pos e]) (h.2 ht r hr)⟩
    · rw [if_neg e,List.singleton_append,List.all_cons]
      have h:=ih (acc++[w]) (by rw [List.length_append,List.length_singleton];omega)
      cases ho:F8 w with
      | true =>
        rw [Bool.true_and]
        have e2:acc++w :: (M.drop (j+1)).filter (· ≠ [])=(acc++[w])++(M.drop (j+1)).filter (· ≠ []):=by simp
        rw [e2]
        refine ⟨fun hf=>Ev.step (fun k=>by rw [uj k,if_neg e,if_pos ho]) (h.1 hf),fun ht r hr=>Ev.step (fun k=>by rw [uj k,if_neg e,if_pos ho]) (h.2 ht r hr)⟩
      | false =>
        rw [Bool.false_and]
        refine ⟨fun _=>Ev.step (f:=fun _=>some _) (fun k=>by rw [uj k,if_neg e,if_neg (by rw [ho];simp)]) (Ev.now _),fun ht=>by cases ht⟩
theorem rC (p:UInt8→Bool) (l:List UInt8):(l.takeWhile p).length≤l.length:=(List.takeWhile_prefix _).length_le
theorem zh (c:UInt8) (l:List UInt8):(qi c l).length≤l.length+1:=by
  rw [Jl]
  have:=List.count_le_length (a:=c) (l:=l)
  omega
theorem Yg (T:List (List UInt8)) (hT:T.length≤30000) (hx:∀ x ∈ T,x.length≤30000) :
    ∀ (d i:Nat),i+d=T.length→∀ (acc:List (List (List UInt8))),acc.length≤i →
      Ev (fun k=>bZ.l0 k (conv acc) (T.map Bs) ((T.length:Nat):Int) (i:Int)) (ED (LR i acc (T.drop i)))
  | 0,i,hi,acc,ha=>by
    have hd:T.drop i=[]:=List.drop_eq_nil_of_le (by omega)
    rw [hd]
    refine Ev.step (f:=fun _=>some _) (fun k=>?_) (Ev.now _)
    simp only [bZ.l0]
    rw [if_neg (by omega)]
    rfl
  | d+1,i,hi,acc,ha=>by
    have hlt:i < T.length:=by omega
    have hw:T[i]? = some T[i]:=List.getElem?_eq_getElem hlt
    have hdr:T.drop i=T[i] :: T.drop (i+1):=List.drop_eq_getElem_cons hlt
    have hxl:=hx T[i] (List.getElem_mem hlt)
    generalize T[i]=x at hw hdr hxl
    obtain ⟨b,t,hc⟩:=ab6 (Bs x) (by rw [fP];omega)
    rw [GK] at hc
    have hlen:(qi 32 (x.takeWhile (· ≠ 35))).length≤30001:=by
      have h1:=zh 32 (x.takeWhile (· ≠ 35))
      have h2:=rC (· ≠ 35) x
      omega
    have hsp:strings_Split.f (Bs (x.takeWhile (· ≠ 35))) ⟨#[32]⟩=some ((qi 32 (x.takeWhile (· ≠ 35))).map Bs):=KU _ 32 (by rw [fP];have:=rC (· ≠ 35) x;omega)
    have uj:∀ k,bZ.l0 (k+1) (conv acc) (T.map Bs) ((T.length:Nat):Int) (i:Int) =
        bZ.l1 k (conv acc) (i:Int) (([]:List (List UInt8)).map Bs) (T.map Bs) ((T.length:Nat):Int) (i:Int) ((qi 32 (x.takeWhile (· ≠ 35))).map Bs) (((qi 32 (x.takeWhile (· ≠ 35))).length:Nat):Int) ((0:Nat):Int):=by
      intro k
      conv=>lhs;simp only [bZ.l0]
      rw [if_pos (by omega),if_pos (by omega),if_pos (by rw [List.length_map];omega),PY T i x hw,hc,Option.bind_some,hsp,Option.bind_some,List.length_map]
      rfl
    refine Ev.step uj ?_
    have h:=Yf (T.map Bs) ((T.length:Nat):Int) i (by omega) (conv acc) (by rw [xP];omega) (qi 32 (x.takeWhile (· ≠ 35))) (by omega) (qi 32 (x.takeWhile (· ≠ 35))).length 0 (Nat.zero_add _) [] (Nat.le_refl _)
    rw [hdr]
    unfold LR
    have ht:(List.drop 0 (qi 32 (x.takeWhile (· ≠ 35)))).filter (· ≠ [])=toks x:=rfl
    rw [ht,List.nil_append] at h
    cases ho:Oh x with
    | true =>
      rw [if_pos rfl]
      refine h.2 ho _ ?_
      rw [← IQ]
      refine Yg T hT hx d (i+1) (by omega) _ ?_
      rw [List.length_append]
      have:(keep (toks x)).length≤1:=by unfold keep;split <;> simp
      omega
    | false =>
      rw [if_neg (by simp)]
      exact h.1 ho
theorem Bl {c:UInt8} {l p:List UInt8} (h:p ∈ qi c l):p.length≤l.length:=by
  have h1:=FX c l
  have:∀ L:List (List UInt8),p ∈ L→p.length+1≤(L.map fun w=>w.length+1).sum:=by
    intro L
    induction L with
    | nil=>intro h;cases h
    | cons y ys ih =>
      intro h
      rcases List.mem_cons.1 h with rfl|h
      · simp only [List.map_cons,List.sum_cons];omega
      · have:=ih h
        simp only [List.map_cons,List.sum_cons];omega
  have:=this _ h
  omega
def xM (s:ByteArray):List (List (List UInt8)) × Nat × Nat:=LR 0 [] (qi 10 s.data.toList)
theorem Qd (s:ByteArray) (hs:s.size≤20000):Ev (fun k=>bZ.f k s) (ED (xM s)):=by
  have hl:=zh 10 s.data.toList
  rw [yI] at hl
  refine Ev.congr (f:=fun k=>bZ.l0 k (conv []) ((qi 10 s.data.toList).map Bs) (((qi 10 s.data.toList).length:Nat):Int) ((0:Nat):Int)) (fun k=>?_) ?_
  · unfold bZ.f
    rw [if_neg (by omega),KU s 10 (by omega),Option.bind_some,List.length_map]
    rfl
  · have:=Yg (qi 10 s.data.toList) (by omega) (fun x hx=>by have:=Bl hx;rw [yI] at this;omega) (qi 10 s.data.toList).length 0 (Nat.zero_add _) [] (Nat.le_refl _)
    exact this
theorem IM (w:List UInt8) (i:Nat) (c:UInt8) (h:w[i]? = some c):(Bs w).extract i (i+1)=Bs [c]:=by
  have h1:((Bs w).extract i (i+1)).data.toList=[c]:=by
    rw [Lib.extract_data]
    have:(Bs w).data.toList=w:=rfl
    obtain ⟨hl,hc⟩:=List.getElem?_eq_some_iff.1 h
    rw [this,List.drop_eq_getElem_cons hl,hc]
    simp
  rw [← lZ ((Bs w).extract i (i+1)),h1]
theorem aaL (a b:List UInt8):Bs a++Bs b=Bs (a++b):=by
  have:(Bs a++Bs b).data.toList=a++b:=by
    rw [ByteArray.data_append]
    simp [Bs]
  rw [← lZ (Bs a++Bs b),this]
theorem wV (w:List UInt8) (a b:Nat):(Bs w).extract a b=Bs ((w.drop a).take (b - a)):=by
  rw [← lZ ((Bs w).extract a b),Lib.extract_data]
  rfl
theorem zI {t:List (List UInt8)} {l:List UInt8} (h:t=toks l):∀ w ∈ t,w ≠ []∧w.length≤l.length:=by
  subst h
  intro w hw
  refine ⟨(Hg hw).1,?_⟩
  unfold toks at hw
  have h1:=Bl (List.mem_filter.1 hw).1
  have h2:=rC (· ≠ 35) l
  omega
theorem PD (l:List UInt8):(toks l).length≤l.length+1:=by
  have h1:(toks l).length≤(qi 32 (l.takeWhile (· ≠ 35))).length:=List.length_filter_le _ _
  have h2:=zh 32 (l.takeWhile (· ≠ 35))
  have h3:=rC (· ≠ 35) l
  omega
theorem PX (a:List (List ByteArray)) (i:Nat) (x:List ByteArray) (h:a[i]? = some x):dZ a (i:Int)=x:=by
  unfold dZ
  rw [Int.toNat_natCast,List.getD_eq_getElem?_getD,h]
  rfl
theorem TT (a:List ByteArray) (i:Nat) (x:ByteArray) (h:a[i]? = some x):eF ByteArray.empty a (i:Int)=x:=by
  unfold eF
  rw [Int.toNat_natCast,List.getD_eq_getElem?_getD,h]
  rfl
theorem toList_inj {a b:ByteArray}:a.toList=b.toList ↔ a=b:=by
  rw [ByteArray.toList_eq,ByteArray.toList_eq]
  constructor
  · intro h
    rw [← lZ a,← lZ b,h]
  · rintro rfl;rfl
theorem Ue (L:List (List (List UInt8))):ED (L,0,0)=(conv L,0,0):=rfl
theorem size_data (s:ByteArray):s.size=s.data.toList.length:=(yI s).symm
def BB (c:UInt8):Bool:=decide (48≤c.toNat∧c.toNat≤57)
def mD (acc:Nat) (D:List UInt8):Nat:=D.foldl (fun a c=>a * 10+(c.toNat - 48)) acc
theorem Tv (D:List UInt8) (acc:Nat):acc≤mD acc D:=by
  induction D generalizing acc with
  | nil=>exact Nat.le_refl _
  | cons c r ih =>
    have:=ih (acc * 10+(c.toNat - 48))
    show acc≤mD (acc * 10+(c.toNat - 48)) r
    omega
theorem yt (acc:Nat) (c:UInt8) (r:List UInt8):mD acc (c :: r)=mD (acc * 10+(c.toNat - 48)) r:=by
  unfold mD
  rw [List.foldl_cons]
theorem EM (acc:Nat) (D:List UInt8) (c:UInt8):mD acc (D++[c])=mD acc D * 10+(c.toNat - 48):=by
  unfold mD
  rw [List.foldl_append,List.foldl_cons,List.foldl_nil]
theorem Qa (a q:Nat):a * (q * 10)=a * 10 * q:=by rw [Nat.mul_comm q 10,← Nat.mul_assoc]
theorem KP:∀ (D:List UInt8),(∀ c ∈ D,BB c=true)→∀ acc:Nat,mD acc D < (acc+1) * 10 ^ D.length
  | [],_,acc=>by
    show acc < (acc+1) * 1
    omega
  | c :: r,h,acc=>by
    have h1:=KP r (fun x hx=>h x (List.mem_cons_of_mem _ hx)) (acc * 10+(c.toNat - 48))
    have hc:48≤c.toNat∧c.toNat≤57:=of_decide_eq_true (h c (List.mem_cons_self ..))
    rw [yt]
    have e:(acc+1) * 10 ^ (c :: r).length=(acc+1) * 10 * 10 ^ r.length:=by
      rw [List.length_cons,Nat.pow_succ]
      exact Qa _ _
    rw [e]
    refine Nat.lt_of_lt_of_le h1 ?_
    generalize 10 ^ r.length=q
    exact Nat.mul_le_mul_right q (by omega)
theorem Px (D:List UInt8) (acc:Nat):acc * 10 ^ D.length≤mD acc D:=by
  induction D generalizing acc with
  | nil=>simp [mD]
  | cons c r ih =>
    rw [yt]
    refine Nat.le_trans ?_ (ih _)
    rw [List.length_cons,Nat.pow_succ,Nat.mul_comm (10 ^ r.length) 10,← Nat.mul_assoc]
    exact Nat.mul_le_mul_right _ (by omega)
theorem Oc (M:Nat) (hM:M=18446744073709551615) (D:List UInt8) (h:∀ c ∈ D,BB c=true) (acc:Nat) (ha:acc≤M):Lib.parseUintM M acc D=if mD acc D≤M then .ok (mD acc D) else .range:=by
  induction D generalizing acc with
  | nil =>
    show Lib.NumEnd.ok acc=if acc≤M then Lib.NumEnd.ok acc else Lib.NumEnd.range
    rw [if_pos ha]
  | cons c r ih =>
    have hc:=h c (by simp)
    simp only [BB,decide_eq_true_eq] at hc
    have hge:=Tv r (acc * 10+(c.toNat - 48))
    rw [yt]
    unfold Lib.parseUintM
    rw [if_pos hc]
    by_cases h1:1844674407370955162≤acc
    · rw [if_pos h1,if_neg (by omega)]
    · rw [if_neg h1]
      by_cases h2:M < acc * 10+(c.toNat - 48)
      · rw [if_pos h2,if_neg (by omega)]
      · rw [if_neg h2]
        exact ih (fun x hx=>h x (by simp [hx])) _ (by omega)
theorem Fj:∀ b:UInt8,([48,49,50,51,52,53,54,55,56,57]:List UInt8).contains b=BB b:=by
  have h:∀ n:Fin 256,([48,49,50,51,52,53,54,55,56,57]:List UInt8).contains (UInt8.ofNat n.val)=BB (UInt8.ofNat n.val):=by decide +kernel
  intro b
  have:=h ⟨b.toNat,b.toNat_lt⟩
  simpa using this
theorem Hf {D:List UInt8}:Lib.trimS D [48,49,50,51,52,53,54,55,56,57]=[] ↔ ∀ c ∈ D,BB c=true:=by
  rw [AB]
  constructor
  · intro h x hx;rw [← Fj];exact h x hx
  · intro h x hx;rw [Fj];exact h x hx
theorem zH (D:List UInt8):unsigned (45 :: D)=D:=rfl
theorem wo (w:List UInt8) (h:w.head? ≠ some 45):unsigned w=w:=by
  unfold unsigned Lib.trimPrefix Lib.hasPrefix
  cases w with
  | nil=>rfl
  | cons c r =>
    rw [if_neg]
    intro hp
    simp only [List.isPrefixOf,Bool.and_true,beq_iff_eq] at hp
    exact h (by rw [← hp];rfl)
structure Num (w D:List UInt8):Prop where
  ne:D ≠ []
  dig:∀ c ∈ D,BB c=true
  zero:D.head? = some 48→w=[48]
theorem AX (w:List UInt8):rM w=true ↔ Num w (unsigned w):=by
  unfold rM
  simp only [Bool.and_eq_true,Bool.not_eq_true',List.isEmpty_iff,List.isEmpty_eq_false_iff,Bool.and_eq_false_iff,beq_eq_false_iff_ne,Bool.not_eq_false',beq_iff_eq]
  rw [Hf]
  constructor
  · rintro ⟨⟨h1,h2⟩,h3⟩
    exact ⟨h1,h2,fun h=>by rcases h3 with h3|h3;exact absurd h h3;exact h3⟩
  · rintro ⟨h1,h2,h3⟩
    refine ⟨⟨h1,h2⟩,?_⟩
    by_cases h:(unsigned w).head? = some 48
    · exact .inr (h3 h)
    · exact .inl h
def Cb (neg:Bool) (u:Nat):Bool:=if neg then decide (u≤9223372036854775808) else decide (u < 9223372036854775808)
def Zb (neg:Bool) (u:Nat):Int:=if neg then -(u:Int) else u
theorem Zu {c:UInt8} (h:BB c=true):c.toNat ≠ 43∧c.toNat ≠ 45:=by
  simp only [BB,decide_eq_true_eq] at h
  omega
theorem Jy (D:List UInt8) (h:∀ c ∈ D,BB c=true) (hne:D ≠ []):Lib.parseUintB 64 D=if mD 0 D≤18446744073709551615 then .ok (mD 0 D) else .range:=by
  unfold Lib.parseUintB
  rw [if_neg hne]
  exact Oc _ (by decide) D h 0 (by omega)
theorem Ij (neg:Bool) (D:List UInt8) (h:∀ c ∈ D,BB c=true) (hne:D ≠ []):numOf (if neg then 45 :: D else D)=if Cb neg (mD 0 D) then (Zb neg (mD 0 D),0) else (0,3):=by
  have hc:=Jy D h hne
  generalize mD 0 D=u at hc ⊢
  unfold numOf
  cases neg with
  | true =>
    simp only [if_true]
    unfold Lib.parseIntB
    dsimp only
    rw [if_pos (show (45:UInt8).toNat=43 ∨ (45:UInt8).toNat=45 from Or.inr rfl),hc]
    by_cases hu:u≤18446744073709551615
    · rw [if_pos hu]
      simp only [show ((45:UInt8).toNat=45)=True from eq_true rfl,not_true_eq_false,false_and,if_false,true_and,if_true]
      by_cases h2:2 ^ (64 - 1) < u
      · rw [if_pos h2]
        have:Cb true u=false:=by unfold Cb;rw [if_pos rfl];exact decide_eq_false (by omega)
        rw [this]
        rfl
      · rw [if_neg h2]
        have:Cb true u=true:=by unfold Cb;rw [if_pos rfl];exact decide_eq_true (by omega)
        rw [this]
        rfl
    · rw [if_neg hu]
      have:Cb true u=false:=by unfold Cb;rw [if_pos rfl];exact decide_eq_false (by omega)
      rw [this]
      rfl
  | false =>
    simp only [Bool.false_eq_true,if_false]
    cases D with
    | nil=>exact absurd rfl hne
    | cons c r =>
      have hcd:=Zu (h c (by simp))
      unfold Lib.parseIntB
      simp only []
      rw [if_neg (by intro h;rcases h with h|h;exact hcd.1 h;exact hcd.2 h),hc]
      by_cases hu:u≤18446744073709551615
      · rw [if_pos hu]
        simp only [eq_false hcd.2,not_false_eq_true,true_and,false_and,if_false]
        by_cases h2:2 ^ (64 - 1)≤u
        · rw [if_pos h2]
          have:Cb false u=false:=by unfold Cb;rw [if_neg (by simp)];exact decide_eq_false (by omega)
          rw [this]
          rfl
        · rw [if_neg h2]
          have:Cb false u=true:=by unfold Cb;rw [if_neg (by simp)];exact decide_eq_true (by omega)
          rw [this]
          rfl
      · rw [if_neg hu]
        have:Cb false u=false:=by unfold Cb;rw [if_neg (by simp)];exact decide_eq_false (by omega)
        rw [this]
        rfl
theorem signed (w:List UInt8):∃ neg:Bool,w=(if neg then 45 :: unsigned w else unsigned w)∧(neg=true ↔ w.head? = some 45):=by
  cases w with
  | nil=>exact ⟨false,rfl,by simp⟩
  | cons c r =>
    by_cases e:c=45
    · subst e
      exact ⟨true,rfl,by simp⟩
    · refine ⟨false,?_,by simp [e]⟩
      rw [wo _ (by simp [e])]
      rfl
theorem DN {c:UInt8} {r:List UInt8} (hc:BB c=true) (h48:c ≠ 48):10 ^ r.length≤mD 0 (c :: r):=by
  rw [yt]
  have hd:48≤c.toNat∧c.toNat≤57:=of_decide_eq_true hc
  have hne:c.toNat ≠ 48:=fun h=>h48 (UInt8.toNat_inj.1 h)
  have h1:=Px r (0 * 10+(c.toNat - 48))
  refine Nat.le_trans ?_ h1
  generalize 10 ^ r.length=q
  have:1 * q≤(0 * 10+(c.toNat - 48)) * q:=Nat.mul_le_mul_right q (by omega)
  omega
theorem abr:(10:Nat) ^ 19=10000000000000000000:=by decide
def Ii (w:List UInt8):Int × Int:=if rM w then numOf w else (0,4)
theorem RH (n:Nat):∀ D:List UInt8,D.length≤n→D ≠ []→(∀ c ∈ D,BB c=true)→(D.head? = some 48→D=[48])→Lib.decDigits (mD 0 D)=D:=by
  induction n with
  | zero=>intro D h h0;exact absurd (List.length_eq_zero_iff.1 (by omega)) h0
  | succ n ih =>
    intro D hl h0 hd hz
    obtain ⟨A,c,rfl⟩:∃ A c,D=A++[c]:=⟨D.dropLast,D.getLast h0,(List.dropLast_concat_getLast h0).symm⟩
    have hc:48≤c.toNat∧c.toNat≤57:=of_decide_eq_true (hd c (by simp))
    have hof:UInt8.ofNat (48+(c.toNat - 48))=c:=by
      rw [show 48+(c.toNat - 48)=c.toNat from by omega]
      exact UInt8.ofNat_toNat
    rw [EM]
    by_cases hA:A=[]
    · subst hA
      have:mD 0 ([]:List UInt8) * 10+(c.toNat - 48)=c.toNat - 48:=by show 0 * 10+_=_;omega
      rw [this,Lib.decDigits_one (by omega),hof]
      rfl
    · have hAd:∀ x ∈ A,BB x=true:=fun x hx=>hd x (by simp [hx])
      have hhead:(A++[c]).head? = A.head?:=by
        cases A with
        | nil=>exact absurd rfl hA
        | cons a b=>rfl
      have hAz:A.head? = some 48→False:=by
        intro h
        have:=hz (by rw [hhead];exact h)
        have h2:=congrArg List.length this
        rw [List.length_append] at h2
        simp at h2
        exact hA h2
      have hpos:1≤mD 0 A:=by
        cases A with
        | nil=>exact absurd rfl hA
        | cons a b =>
          have h1:=DN (r:=b) (hAd a (by simp)) (fun e=>hAz (by rw [e];rfl))
          have h2:1≤10 ^ b.length:=Nat.one_le_pow _ _ (by omega)
          omega
      have hih:=ih A (by rw [List.length_append] at hl;simp at hl;omega) hA hAd (fun h=>(hAz h).elim)
      rw [Lib.decDigits,dif_neg (by omega),show (mD 0 A * 10+(c.toNat - 48)) / 10=mD 0 A from by omega,show (mD 0 A * 10+(c.toNat - 48)) % 10=c.toNat - 48 from by omega,hih,hof]
theorem P8 (w:List UInt8) (h:rM w=true) (x:Int) (hx:numOf w=(x,0)):Lib.itoa x=w∧-9223372036854775808≤x∧x≤9223372036854775807:=by
  obtain ⟨hne,hdig,hzero⟩:=(AX w).1 h
  obtain ⟨neg,hs,hneg⟩:=signed w
  have hof:numOf w=if Cb neg (mD 0 (unsigned w)) then (Zb neg (mD 0 (unsigned w)),0) else (0,3):=by
    rw [← Ij neg (unsigned w) hdig hne,← hs]
  rw [hof] at hx
  cases hr:Cb neg (mD 0 (unsigned w)) with
  | false=>rw [hr,if_neg (by simp)] at hx;injection hx with _ h2;cases h2
  | true =>
    rw [hr,if_pos rfl] at hx
    injection hx with hx _
    have hz:(unsigned w).head? = some 48→unsigned w=[48]∧w=[48]:=fun hh=>by
      have:=hzero hh
      exact ⟨by rw [this];rfl,this⟩
    have hb:=RH (unsigned w).length (unsigned w) (Nat.le_refl _) hne hdig (fun hh=>(hz hh).1)
    have hpos:neg=true→1≤mD 0 (unsigned w):=by
      rintro rfl
      cases hu:unsigned w with
      | nil=>exact absurd hu hne
      | cons c r =>
        have h48:c ≠ 48:=by
          rintro rfl
          have h1:=(hz (by rw [hu];rfl)).2
          have h2:=hneg.1 rfl
          rw [h1] at h2
          exact absurd h2 (by decide)
        have h1:=DN (r:=r) (hdig c (by rw [hu];simp)) h48
        have h2:1≤10 ^ r.length:=Nat.one_le_pow _ _ (by omega)
        omega
    generalize mD 0 (unsigned w)=u at hb hpos hr hx
    unfold Zb at hx
    unfold Cb at hr
    unfold Lib.itoa
    cases neg with
    | true =>
      have:=hpos rfl
      rw [if_pos rfl] at hx hr hs
      have hr:=of_decide_eq_true hr
      subst hx
      refine ⟨?_,by omega,by omega⟩
      rw [if_pos (by omega),show (-(u:Int)).natAbs=u from by omega,hb]
      exact hs.symm
    | false =>
      rw [if_neg (by simp)] at hx hr hs
      have hr:=of_decide_eq_true hr
      subst hx
      refine ⟨?_,by omega,by omega⟩
      rw [if_neg (by omega),Int.toNat_natCast,hb]
      exact hs.symm
theorem Yb (w:List UInt8) (hw:w.length≤10000):nX.f (Bs w)=some (Ii w):=by
  unfold nX.f Ii
  rw [fP,if_pos (by omega),GK]
  split <;> rfl
def FV (x:List (List UInt8)):Nat:=(x.map fun w=>w.length+1).sum
def tot (L:List (List (List UInt8))):Nat:=(L.map fun x=>FV x+1).sum
theorem EN (w:List UInt8) (x:List (List UInt8)):FV (w :: x)=w.length+1+FV x:=by simp [FV]
theorem Di (x:List (List UInt8)) (L:List (List (List UInt8))):tot (x :: L)=FV x+1+tot L:=by simp [tot]
theorem Qh (x:List (List UInt8)):x.length≤FV x:=by
  induction x with
  | nil=>simp [FV]
  | cons w r ih=>rw [EN,List.length_cons];omega
theorem Um (L:List (List (List UInt8))):L.length≤tot L:=by
  induction L with
  | nil=>simp [tot]
  | cons x r ih=>rw [Di,List.length_cons];omega
theorem Uh {L:List (List (List UInt8))} {x:List (List UInt8)} (h:x ∈ L):FV x+1≤tot L:=by
  induction L with
  | nil=>cases h
  | cons y r ih =>
    rw [Di]
    rcases List.mem_cons.1 h with rfl|h
    · omega
    · have:=ih h;omega
theorem Io (x:List (List UInt8)):(Lib.joinTail [32] x).length=FV x:=zQ x
theorem JO (x:List (List UInt8)) (L:List (List (List UInt8))):joinL (x :: L)=Lib.join x [32]++10 :: joinL L:=by simp [joinL]
end Go.Proofs.YtkclndkbccbhaaaGreatDoor.P
end
section
namespace Go.Proofs.YtkclndkbccbhaaaGreatDoor.P
open Go Go.RowKit Go.Proofs.ag.bK Go.Proofs.ag.dV Go.Proofs.ag.fE
def BA (b:UInt8):Bool:=decide (97≤b.toNat∧b.toNat≤122) || decide (48≤b.toNat∧b.toNat≤57)
def DL (w:List UInt8):Bool:=decide (w.length≤30) && w.all BA
def qj (s:ByteArray):Bool:=DL s.data.toList
theorem E5:∀ b:UInt8,([97,98,99,100,101,102,103,104,105,106,107,108,109,110,111,112,113,114,115,116,117,118,119,120,121,122,48,49,50,51,52,53,54,55,56,57]:List UInt8).contains b=BA b:=by
  intro b
  have h:∀ n:Fin 256,([97,98,99,100,101,102,103,104,105,106,107,108,109,110,111,112,113,114,115,116,117,118,119,120,121,122,48,49,50,51,52,53,54,55,56,57]:List UInt8).contains (UInt8.ofNat n.val)=BA (UInt8.ofNat n.val):=by decide +kernel
  have:=h ⟨b.toNat,b.toNat_lt⟩
  simpa using this
theorem Ul (w:List UInt8):fQ.f (Bs w)=some (DL w):=by
  unfold fQ.f DL
  rw [fP]
  by_cases hl:w.length≤30
  · rw [if_pos (by omega)]
    unfold jw.f
    rw [if_pos ⟨by rw [fP];omega,by decide,by decide +kernel⟩]
    simp only [Option.bind_some]
    congr 1
    rw [decide_eq_true hl,Bool.true_and,Bool.eq_iff_iff,beq_iff_eq,ByteArray.toList_eq,List.all_eq_true]
    show Lib.trimS w [97,98,99,100,101,102,103,104,105,106,107,108,109,110,111,112,113,114,115,116,117,118,119,120,121,122,48,49,50,51,52,53,54,55,56,57]=[] ↔ _
    rw [AB]
    constructor
    · intro h x hx
      rw [← E5]
      exact h x hx
    · intro h x hx
      rw [E5]
      exact h x hx
  · rw [if_neg (by omega),decide_eq_false hl,Bool.false_and]
theorem Qg (s:ByteArray):fQ.f s=some (qj s):=by
  have h:=Ul s.data.toList
  rw [lZ] at h
  exact h
def Dq (x:jR):Bool:=(ig.f x.f0 x.f1 x.f2 x.f3 x.f4).getD false
def okT (s:ByteArray):Bool:=decide (s.toList ≠ []) && qj s
theorem Dt (a:List ByteArray) (i:Nat) (h:i < a.length):eF ByteArray.empty a (i:Int)=a[i]:=TT a i _ (List.getElem?_eq_getElem h)
theorem KY (a:List jR) (i:Nat) (h:i < a.length):aU a (i:Int)=a[i]:=by
  unfold aU
  rw [Int.toNat_natCast,List.getD_eq_getElem?_getD,List.getElem?_eq_getElem h]
  rfl
def ql (s:ByteArray):ByteArray:=if s.toList=[] then ⟨#[45]⟩ else s
def FP (x:jR):List ByteArray:=AA x.f0.toNat x.f1 x.f2 x.f3 x.f4
def JJ (lo gl:ByteArray):List (List ByteArray):=[[⟨#[108,111,99,97,108,115]⟩,ql lo],[⟨#[103,108,111,98,97,108,115]⟩,ql gl]]
def abh (s:ByteArray):List ByteArray:=[⟨#[116,121,112,101]⟩,s]
def JK (ts:List ByteArray) (lo gl:ByteArray) (cs:List jR):List (List ByteArray):=ts.map abh++JJ lo gl++cs.map FP
end Go.Proofs.YtkclndkbccbhaaaGreatDoor.P
end
section
namespace Go.Proofs.YtkclndkbccbhaaaGreatDoor.P
open Go.RowKit Go.MapKept Go.MapFrom Go.Proofs.ag.bK Go.Proofs.ag.dV Go.Proofs.ag.fE
def setArg (ch:Nat) (v:Int) (x:Int × Int × Int × Int):Int × Int × Int × Int :=
  if ch=110 then (x.1,x.2.1,x.2.2.1,v) else if ch=97 then (v,x.2.1,x.2.2.1,x.2.2.2) else if ch=98 then (x.1,v,x.2.2.1,x.2.2.2) else (x.1,x.2.1,v,x.2.2.2)
def jy:List UInt8→List ByteArray→Int × Int × Int × Int→Option (Option (Int × Int × Int × Int))
  | [],_,x=>some (some x)
  | _ :: _,[],_=>none
  | ch :: hs,w :: ws,x=>(nX.f w).bind fun r=>if r.2=0 then (if ch.toNat=110 then jy hs ws (setArg 110 r.1 x) else if 0≤r.1∧r.1≤255 then jy hs ws (setArg ch.toNat r.1 x) else some none) else some none
def EU (k:Int):Option (Int × Int × Int × Int)→Int × Int × Int × Int × Int × Bool
  | none=>(0,0,0,0,0,false)
  | some x=>(k,x.1,x.2.1,x.2.2.1,x.2.2.2,true)
def ve:Nat→Nat→List ByteArray→Option (Int × Int × Int × Int × Int × Bool)
  | 0,_,_=>some (0,0,0,0,0,false)
  | d+1,k,l=>if k=0 ∨ (nameOf k).toList ≠ (eF ByteArray.empty l 0).toList ∨ l.length ≠ (pF k).size+1 then ve d (k+1) l else (jy (pF k).data.toList l.tail (0,0,0,0)).map (EU k)
def mf.f (l:List ByteArray):Option (Int × Int × Int × Int × Int × Bool):=if 0 < l.length then ve 16 0 l else none
def zi (bi:Nat):Nat→Array MapEntry
  | 0=>#[]
  | 1=>#[⟨.int .i32 97,.pointer (some ⟨bi,1,none⟩),0⟩]
  | 2=>#[⟨.int .i32 97,.pointer (some ⟨bi,1,none⟩),0⟩,⟨.int .i32 98,.pointer (some ⟨bi,2,none⟩),1⟩]
  | _=>#[⟨.int .i32 97,.pointer (some ⟨bi,1,none⟩),0⟩,⟨.int .i32 98,.pointer (some ⟨bi,2,none⟩),1⟩,⟨.int .i32 99,.pointer (some ⟨bi,3,none⟩),2⟩]
def qy (w:World) (b:Nat) (o:Obj):World:={ w with heap:=w.heap.setIfInBounds b o }
theorem Gi (W:World) (bm bi j:Nat) (x:Int) (hx:x=((97+j:Nat):Int)) (hj:j < 3) (hm:W.heap[bm]? = some (.map (zi bi j) j)) :
    (Instr.mapUpdate 92 (.map (some bm)) (.int .i32 x) (.pointer (some ⟨bi,1+j,none⟩))).run Tryz.prog W=.ok () (qy W bm (.map (zi bi (j+1)) (j+1))):=by
  have hu:Tryz.prog.underlying 92=some (.map 21 91):=by kernel_rfl
  have hk:Tryz.prog.underlying 21=some (.int .i32):=by kernel_rfl
  have hkey:IsKey (.int .i32) (.int .i32 x):=rfl
  have h1:Instr.findNow (.int .i32) (.int .i32 x) (zi bi j).toList 0=some none:=by
    obtain rfl|rfl|rfl:j=0 ∨ j=1 ∨ j=2:=by omega
    all_goals (subst hx;rfl)
  have h2:(zi bi j).push ⟨.int .i32 x,.pointer (some ⟨bi,1+j,none⟩),j⟩=zi bi (j+1):=by
    obtain rfl|rfl|rfl:j=0 ∨ j=1 ∨ j=2:=by omega
    all_goals (subst hx;rfl)
  simp [Instr.mapUpdate,run_underlying hu,MapKept.run_getObj_map hm,run_checkKey hk hkey,run_findKey hk h1,MapKept.run_setObj_map _ hm,Result.andThen,h2,qy]
theorem DK (W:World) (bm bi j:Nat) (x:Int) (hx:x=((97+j:Nat):Int)) (hj:j < 3) (hm:W.heap[bm]? = some (.map (zi bi 3) 3)) :
    (Instr.lookup 92 (.map (some bm)) (.int .i32 x) false).run Tryz.prog W=.ok (.pointer (some ⟨bi,1+j,none⟩)) W:=by
  have hu:Tryz.prog.underlying 92=some (.map 21 91):=by kernel_rfl
  have hk:Tryz.prog.underlying 21=some (.int .i32):=by kernel_rfl
  have hkey:IsKey (.int .i32) (.int .i32 x):=rfl
  have h1:Instr.findNow (.int .i32) (.int .i32 x) (zi bi 3).toList 0=some (some (j,.pointer (some ⟨bi,1+j,none⟩))):=by
    obtain rfl|rfl|rfl:j=0 ∨ j=1 ∨ j=2:=by omega
    all_goals (subst hx;rfl)
  simp [Instr.lookup,run_underlying hu,MapKept.run_getObj_map hm,run_checkKey hk hkey,run_findKey hk h1,Result.andThen]
theorem Oy (k:Nat) (hk:k < 16) (w:World):(Instr.index 52 (.agg (opsL.map Value.string).toArray) (.int .i64 k)).run Tryz.prog w=.ok (.agg #[.string (nameOf k),.string (pF k)]) w:=by
  have hu:Tryz.prog.underlying 52=some (.array 16 51):=by kernel_rfl
  have hs:(sizeOf 51).run Tryz.prog w=.ok 2 w:=by simp [go_sem]
  have ha:(isAgg 51).run Tryz.prog w=.ok true w:=by simp [go_sem]
  have he:(List.take 2 (List.drop (k * 2) (List.map Value.string opsL))).toArray=#[.string (nameOf k),.string (pF k)]:=by
    obtain rfl|rfl|rfl|rfl|rfl|rfl|rfl|rfl|rfl|rfl|rfl|rfl|rfl|rfl|rfl|rfl:k=0 ∨ k=1 ∨ k=2 ∨ k=3 ∨ k=4 ∨ k=5 ∨ k=6 ∨ k=7 ∨ k=8 ∨ k=9 ∨ k=10 ∨ k=11 ∨ k=12 ∨ k=13 ∨ k=14 ∨ k=15:=by omega
    all_goals rfl
  simp [Instr.index,run_underlying hu,asIntOf,Result.andThen,part,hs,ha]
  rw [if_pos hk,he]
theorem JS:∀ o:Nat,1≤o→o≤15→∀ ch ∈ (pF o).data.toList,ch.toNat=97 ∨ ch.toNat=98 ∨ ch.toNat=99 ∨ ch.toNat=110:=by
  intro o h1 h2
  obtain rfl|rfl|rfl|rfl|rfl|rfl|rfl|rfl|rfl|rfl|rfl|rfl|rfl|rfl|rfl:o=1 ∨ o=2 ∨ o=3 ∨ o=4 ∨ o=5 ∨ o=6 ∨ o=7 ∨ o=8 ∨ o=9 ∨ o=10 ∨ o=11 ∨ o=12 ∨ o=13 ∨ o=14 ∨ o=15:=by omega
  all_goals decide
structure YI (G:Nat) (w0 w:World):Prop where
  bk:w.heap[G]? = some (.cells #[.int .u8 0,.int .u8 0,.int .u8 0,.int .u8 0,.int .i64 0] 27 (0,0))
  bel:Below G w0 w
structure EG (G bi bm it pos:Nat) (hs:ByteArray) (k:Int) (x:Int × Int × Int × Int) (w0 w:World):Prop where
  bk:w.heap[G]? = some (.cells #[.int .u8 0,.int .u8 0,.int .u8 0,.int .u8 0,.int .i64 0] 27 (0,0))
  ins:w.heap[bi]? = some (.cells #[.int .u8 k,.int .u8 x.1,.int .u8 x.2.1,.int .u8 x.2.2.1,.int .i64 x.2.2.2] 27 (0,0))
  map:w.heap[bm]? = some (.map (zi bi 3) 3)
  iter:w.heap[it]? = some (.stringIter hs pos)
  bel:Below G w0 w
  lo:G < bi∧bi < bm∧bm < it
section
variable {G bi bm it pos:Nat} {hs:ByteArray} {k:Int} {x:Int × Int × Int × Int} {w0 w w1:World}
theorem fA {w:World} {j:Nat} {o:Obj} (h:w.heap[j]? = some o):j < w.heap.size:=(Array.getElem?_eq_some_iff.1 h).1
theorem YI.below (h:YI G w0 w) (hb:Below w.heap.size w w1):YI G w0 w1:=⟨(hb.block G (fA h.bk)).trans h.bk,h.bel.trans (hb.mono (Nat.le_of_lt (fA h.bk)))⟩
theorem EG.below (h:EG G bi bm it pos hs k x w0 w) (hb:Below w.heap.size w w1):EG G bi bm it pos hs k x w0 w1 :=
  ⟨(hb.block G (fA h.bk)).trans h.bk,(hb.block bi (fA h.ins)).trans h.ins,(hb.block bm (fA h.map)).trans h.map,(hb.block it (fA h.iter)).trans h.iter,h.bel.trans (hb.mono (Nat.le_of_lt (fA h.bk))),h.lo⟩
theorem EG.drewN (h:EG G bi bm it pos hs k x w0 w) (n:Nat):EG G bi bm it pos hs k x w0 (w.drewN n):=h.below (af (Below.refl _ _) n)
theorem EG.next (h:EG G bi bm it pos hs k x w0 w) (pos':Nat):EG G bi bm it pos' hs k x w0 (w.iterAt it hs pos'):=by
  have far:∀ j,j ≠ it→(w.iterAt it hs pos').heap[j]? = w.heap[j]?:=fun j hj=>Lib.iterAt_other w it j hs pos' hj
  have hl:=h.lo
  exact ⟨(far G (by omega)).trans h.bk,(far bi (by omega)).trans h.ins,(far bm (by omega)).trans h.map,Lib.iterAt_heap w it hs pos pos' h.iter,Lib.below_iterAt h.bel (by omega) hs pos',h.lo⟩
theorem EG.cell (h:EG G bi bm it pos hs k x w0 w) (j:Nat):w.cell? ⟨bi,j,none⟩=(#[.int .u8 k,.int .u8 x.1,.int .u8 x.2.1,.int .u8 x.2.2.1,.int .i64 x.2.2.2]:Array Value)[j]?:=by simp [World.cell?,h.ins]
theorem EG.fr (h:EG G bi bm it pos hs k x w0 w) (j:Nat):w.frozen? ⟨bi,j,none⟩=false:=by simp [World.frozen?,h.ins]
theorem EG.zero (h:EG G bi bm it pos hs k x w0 w) (j:Nat):w.cell? ⟨G,j,none⟩=(#[.int .u8 0,.int .u8 0,.int .u8 0,.int .u8 0,.int .i64 0]:Array Value)[j]?:=by simp [World.cell?,h.bk]
theorem EG.set (h:EG G bi bm it pos hs k x w0 w) (j:Nat) (v:Value) (x':Int × Int × Int × Int) (e:(#[.int .u8 k,.int .u8 x.1,.int .u8 x.2.1,.int .u8 x.2.2.1,.int .i64 x.2.2.2]:Array Value).setIfInBounds j v=#[.int .u8 k,.int .u8 x'.1,.int .u8 x'.2.1,.int .u8 x'.2.2.1,.int .i64 x'.2.2.2]):EG G bi bm it pos hs k x' w0 (w.setCell ⟨bi,j,none⟩ v):=by
  have hl:=h.lo
  have far:∀ i,i ≠ bi→(w.setCell ⟨bi,j,none⟩ v).heap[i]? = w.heap[i]?:=fun i hi=>Below.heap_setCell w ⟨bi,j,none⟩ v i hi
  refine ⟨(far G (by omega)).trans h.bk,?_,(far bm (by omega)).trans h.map,(far it (by omega)).trans h.iter,h.bel.setCell (p:=⟨bi,j,none⟩) (by show G≤bi;omega) v,h.lo⟩
  rw [← e]
  exact Nr h.ins j v
end
theorem iF {w:World} {g t:Nat} {old:Array Value} (hg:w.heap[g]? = some (.cells old t (0,0))) (cs:Array Value):(w.setRow g cs).heap[g]? = some (.cells cs t (0,0)):=by
  simp [World.setRow,Array.getElem?_modify,hg]
theorem ru {w:World} {g:Nat} (cs:Array Value) (k:Nat) (hk:k ≠ g):(w.setRow g cs).heap[k]? = w.heap[k]?:=by
  simp only [World.setRow,Array.getElem?_modify]
  rw [if_neg (by omega)]
theorem eX {B g:Nat} {w0 w:World} (hb:Below B w0 w) (hBg:B≤g) (cs:Array Value):Below B w0 (w.setRow g cs) :=
  hb.trans ⟨rfl,rfl,rfl,by simp [World.setRow],fun k hk=>ru cs k (by omega)⟩
theorem O1 (s:ByteArray) (pos:Nat) (h:pos < s.size):s.data.toList.drop pos=(s[pos]'h) :: s.data.toList.drop (pos+1):=by
  have hl:pos < s.data.toList.length:=by simpa using h
  rw [List.drop_eq_getElem_cons hl]
  rfl
theorem AO {w:World} {b:Nat} {o o':Obj} (h:w.heap[b]? = some o):(qy w b o').heap[b]? = some o':=by
  simp [qy,(Array.getElem?_eq_some_iff.1 h).1]
theorem wu {w:World} {b:Nat} {o':Obj} (j:Nat) (h:j ≠ b):(qy w b o').heap[j]? = w.heap[j]?:=by simp [qy,Ne.symm h]
theorem wz {B b:Nat} {w0 w:World} {o':Obj} (hb:Below B w0 w) (hBb:B≤b):Below B w0 (qy w b o') :=
  ⟨hb.os,hb.tape,hb.output,by simp [qy];exact hb.size,fun k hk=>(wu k (by omega)).trans (hb.block k hk)⟩
set_option maxRecDepth 100000 in
set_option maxHeartbeats 6400000 in
theorem mf.calls (A0:Option Addr) (c0:Nat) (l0:List ByteArray) (r1 r2 r3 r4 r5:Int) (r6:Bool) (w:World) (hr0:Kd.C Kd.string w A0 l0.length l0) (lC:Kd.C xE w xG oL.length oL) (h:mf.f l0=some (r1,r2,r3,r4,r5,r6)) :
    Calls Tryz.prog 33 #[.slice A0 l0.length c0] w fun e w'=>e=.returned (.tuple #[.agg #[.int .u8 r1,.int .u8 r2,.int .u8 r3,.int .u8 r4,.int .i64 r5],.bool r6])∧Below w.heap.size w w':=by
  unfold mf.f at h
  by_cases hl0:0 < l0.length
  case neg =>
    rw [if_neg hl0] at h
    cases h
  rw [if_pos hl0] at h
  obtain ⟨ad,e0,hx0⟩:=Kd.fO hr0 0 (by omega) (by omega)
  subst e0
  rw [show (0:Int).toNat=0 from rfl,Addr.add_zero'] at hx0
  obtain ⟨l00,hl00⟩:∃ x,eF ByteArray.empty l0 0=x:=⟨_,rfl⟩
  rw [hl00] at hx0
  have abS:=World.block_lt_of_cell? w _ hx0
  obtain ⟨arr,harr⟩:∃ arr,(opsL.map Value.string).toArray=arr:=⟨_,rfl⟩
  have HIX:=ae.mk Oy
  rw [harr] at HIX
  have hT:=(xC lC).ops
  have hrange:∀ W:World,Kd.C Kd.string W uQ opsL.length opsL→W.rangeAt 0 0 arr.toList:=by
    intro W hW j v hv
    rw [← harr] at hv
    simp only [List.getElem?_map,List.toList_toArray] at hv
    obtain ⟨x,hx,rfl⟩:=Option.map_eq_some_iff.1 hv
    have hj:=(List.getElem?_eq_some_iff.1 hx).1
    rw [Nat.zero_add,zJ hW j (by have:opsL.length=32:=rfl;omega),List.getD_eq_getElem?_getD,hx]
    rfl
  have ajJ:arr.toList.length=32:=by rw [← harr];rfl
  obtain ⟨G,hG⟩:∃ G,w.heap.size=G:=⟨_,rfl⟩
  obtain ⟨w1,hw1⟩:∃ w1,w.alloc (.cells #[.int .u8 0,.int .u8 0,.int .u8 0,.int .u8 0,.int .i64 0] 27)=w1:=⟨_,rfl⟩
  have hB1:Below G w w1:=by rw [← hw1,← hG];exact (Below.refl _ w).alloc (Nat.le_refl _) _
  have hk1:w1.heap[G]? = some (.cells #[.int .u8 0,.int .u8 0,.int .u8 0,.int .u8 0,.int .i64 0] 27 (0,0)):=by rw [← hw1,← hG];exact heap_alloc_new w _
  have HRG:=Lib.hid (hrange w1 (Kd.gY hT (by rw [hG];exact hB1)))
  have HO:=ae.mk (show YI G w w1 from ⟨hk1,hB1⟩)
  have HR:=ae.mk hr0
  have HT:=ae.mk lC
  have HH:=ae.mk h
  have HL:=Lib.hid hl0
  have HX0:=Lib.hid hx0
  have HLT:=Lib.hid (show ad.block < G by rw [← hG];exact abS)
  have hlen0:(0 < l0.length)=True:=eq_true hl0
  clear h lC hT hrange hr0 hB1 hk1 hx0 abS hl0
  go_enter Tryz.func33,Tryz.ntmps33
  go_wp2_with (first|((with_reducible refine fF (N:=12) rfl ?_);refine wpList_load_mid rfl 52 (.global 0) rfl 0 0 rfl arr.toList _ HRG.out Tryz.underlying52 rfl (by rw [ajJ];kernel_rfl) ?_;rw [Array.toArray_toList]))
  clear hw1
  go_loopg [13] 16 (fun kq v wr=>∃ (k:Nat),kq+k=16∧v=.int .i64 k∧ae (ve kq k l0=some (r1,r2,r3,r4,r5,r6))∧ae (YI G w wr))
  case atStart=>exact ⟨0,rfl,rfl,HH,HO⟩
  case round =>
  clear HH HO HRG
  obtain ⟨k,hkq,rfl,HH,HX⟩:=hrel
  cases gk with
  | zero =>
    have hd0:decide ((k:Int) < 16)=false:=decide_eq_false (by omega)
    have hH:=HH.out
    rw [ve] at hH
    injection hH with hH
    simp only [Prod.mk.injEq] at hH
    obtain ⟨rfl,rfl,rfl,rfl,rfl,rfl⟩:=hH
    clear HH
    have kG:=HX.out.bk
    have kz:=iF kG #[.int .u8 0,.int .u8 0,.int .u8 0,.int .u8 0,.int .i64 0]
    have yR:=ae.mk (eX HX.out.bel (Nat.le_refl G) #[.int .u8 0,.int .u8 0,.int .u8 0,.int .u8 0,.int .i64 0])
    have KZ:=ae.mk kz
    clear HX kz
    go_wp2_with (skip;refine wpList_store_row rfl 27 (.tmp 2) (.tmp 87) rfl G (#[.int .u8 0,.int .u8 0,.int .u8 0,.int .u8 0,.int .i64 0]) rfl rfl 27 _ kG (by kernel_rfl) rfl (by simp [Value.oneCell']) ?_)
    (try simp only [Exit.inBlock,Exit.then])
    refine bodyPost_ret (kP rfl _ _ G 27 #[.int .u8 0,.int .u8 0,.int .u8 0,.int .u8 0,.int .i64 0] (0,0) _ rfl KZ.out Tryz.underlying27 rfl (by kernel_rfl)) rfl ?_
    exact ⟨rfl,by have q:=yR.out;first|exact q|(rw [hG];exact q)⟩
  | succ ng =>
  have hd0:decide ((k:Int) < 16)=true:=decide_eq_true (by omega)
  have ajH:k < 16:=by omega
  have hix:=HIX.out k ajH
  obtain ⟨nm,hnm⟩:∃ nm,nameOf k=nm:=⟨_,rfl⟩
  obtain ⟨hs,Qv⟩:∃ hs,pF k=hs:=⟨_,rfl⟩
  rw [hnm,Qv] at hix
  obtain ⟨b5,hb5⟩:∃ b,wr.heap.size=b:=⟨_,rfl⟩
  obtain ⟨Wa,hWa⟩:∃ Wa,wr.alloc (.cells #[.string ⟨#[]⟩,.string ⟨#[]⟩] 51)=Wa:=⟨_,rfl⟩
  have hzb:Wa.heap[b5]? = some (.cells #[.string ⟨#[]⟩,.string ⟨#[]⟩] 51 (0,0)):=by rw [← hWa,← hb5];exact heap_alloc_new wr _
  have hGb:G < b5:=by rw [← hb5];exact fA HX.out.bk
  have hBr:Below wr.heap.size wr (Wa.setRow b5 #[.string nm,.string hs]):=eX (by rw [← hWa];exact (Below.refl _ wr).alloc (Nat.le_refl _) _) (by omega) _
  have HY:=ae.mk (HX.out.below hBr)
  have Je:=ae.mk (iF hzb #[.string nm,.string hs])
  clear HX hBr
  go_upto_region 4 with (first|(skip;refine wpList_store_row rfl 51 (.tmp 5) (.tmp 16) rfl b5 (#[.string nm,.string hs]) rfl rfl 51 _ hzb (by kernel_rfl) rfl (by simp [Value.oneCell']) ?_))
  clear hzb hWa hb5 hix
  change Code.wp _ _ _ _ (Wa.setRow b5 #[.string nm,.string hs])
  generalize Wa.setRow b5 #[.string nm,.string hs]=Wm at HY Je ⊢
  have n0:Wm.cell? ⟨b5,0,none⟩=some (.string nm):=by simp [World.cell?,Je.out]
  have n1:Wm.cell? ⟨b5,1,none⟩=some (.string hs):=by simp [World.cell?,Je.out]
  have m0:Wm.cell? ad=some (.string l00):=(HY.out.bel.cell HLT.out).trans HX0.out
  have hsz3:hs.size≤3:=by
    by_cases h0:k=0
    · rw [← Qv,h0];decide
    · rw [← Qv];exact (BH k (by omega) (by omega)).1
  obtain ⟨z1,hz1⟩:∃ z:Int,z=(hs.size:Int)+1:=⟨_,rfl⟩
  have hw1:IntKind.i64.wrap ((hs.size:Int)+1)=z1:=by rw [hz1];exact IntWalk.i64_in _ (by omega)
  have hH:=HH.out
  rw [ve,hnm,Qv,hl00] at hH
  clear HH
  by_cases hk0:k=0
  case pos =>
    rw [if_pos (.inl hk0)] at hH
    have g0:((k:Int) == 0)=true:=beq_iff_eq.2 (by omega)
    have HH:=ae.mk hH
    clear hH
    go_quiet (fail)
    rename_i nq
    have HX:=ae.mk (show YI G w (Wm.drewN nq) from HY.out.below (af (Below.refl _ _) nq))
    clear HY Je n0 n1 m0
    have e3:=Lib.hid (show wrap64 ((k:Int)+1)=((k+1:Nat):Int) by unfold wrap64;omega)
    go_wp2
    go_roundg ng
    case measure=>omega
    case rel=>exact ⟨k+1,by omega,by first|rfl|rw [e3.out]|(simp;omega),HH,HX⟩
  have g0:((k:Int) == 0)=false:=beq_eq_false_iff_ne.2 (by omega)
  by_cases hnn:nm.toList=l00.toList
  case neg =>
    rw [if_pos (.inr (.inl hnn))] at hH
    have g1:(nm.toList == l00.toList)=false:=beq_eq_false_iff_ne.2 hnn
    have g2:(nm.toList != l00.toList)=true:=by simp [hnn]
    have HH:=ae.mk hH
    clear hH hnn
    go_quiet (fail)
    rename_i nq
    have HX:=ae.mk (show YI G w (Wm.drewN nq) from HY.out.below (af (Below.refl _ _) nq))
    clear HY Je n0 n1 m0
    have e3:=Lib.hid (show wrap64 ((k:Int)+1)=((k+1:Nat):Int) by unfold wrap64;omega)
    go_wp2
    go_roundg ng
    case measure=>omega
    case rel=>exact ⟨k+1,by omega,by first|rfl|rw [e3.out]|(simp;omega),HH,HX⟩
  have g1:(nm.toList == l00.toList)=true:=beq_iff_eq.2 hnn
  have g2:(nm.toList != l00.toList)=false:=by simp [hnn]
  by_cases hll:l0.length=hs.size+1
  case neg =>
    rw [if_pos (.inr (.inr hll))] at hH
    have g3:((l0.length:Int) == z1)=false:=beq_eq_false_iff_ne.2 (by omega)
    have g4:((l0.length:Int) != z1)=true:=by simp;omega
    have HH:=ae.mk hH
    clear hH hnn hll hz1
    go_quiet (fail)
    rename_i nq
    have HX:=ae.mk (show YI G w (Wm.drewN nq) from HY.out.below (af (Below.refl _ _) nq))
    clear HY Je n0 n1 m0
    have e3:=Lib.hid (show wrap64 ((k:Int)+1)=((k+1:Nat):Int) by unfold wrap64;omega)
    go_wp2
    go_roundg ng
    case measure=>omega
    case rel=>exact ⟨k+1,by omega,by first|rfl|rw [e3.out]|(simp;omega),HH,HX⟩
  rw [if_neg (by simp [hk0,hnn,hll])] at hH
  obtain ⟨r0,hra,hrr⟩:=Option.map_eq_some_iff.1 hH
  have g3:((l0.length:Int) == z1)=true:=beq_iff_eq.2 (by omega)
  have g4:((l0.length:Int) != z1)=false:=by simp;omega
  have HRA:=ae.mk hra
  have HRR:=ae.mk hrr
  have HLL:=Lib.hid (show l0.length=hs.size+1∧hs.size≤3∧1≤k∧k≤15 from ⟨hll,hsz3,by omega,by omega⟩)
  have HHS:=Lib.hid Qv
  clear hH hra hrr hnn hk0 hsz3
  go_quiet (fail)
  rename_i nq
  have hbq:Below Wm.heap.size Wm (Wm.drewN nq):=af (Below.refl _ _) nq
  have HX:=ae.mk (HY.out.below hbq)
  have HB6:=ae.mk ((hbq.block b5 (fA Je.out)).trans Je.out)
  clear HY Je n0 n1 m0 g0 g1 g2 g3 g4 hll hw1 hz1 hbq hnm Qv
  generalize Wm.drewN nq=Wq at HX HB6 ⊢
  obtain ⟨bi,hbi⟩:∃ b,Wq.heap.size=b:=⟨_,rfl⟩
  obtain ⟨Wb,hWb⟩:∃ Wb,Wq.alloc (.cells #[.int .u8 0,.int .u8 0,.int .u8 0,.int .u8 0,.int .i64 0] 27)=Wb:=⟨_,rfl⟩
  have hzi:Wb.heap[bi]? = some (.cells #[.int .u8 0,.int .u8 0,.int .u8 0,.int .u8 0,.int .i64 0] 27 (0,0)):=by rw [← hWb,← hbi];exact heap_alloc_new Wq _
  have hku:IntKind.u8.wrap (k:Int)=k:=IntWalk.u8_in _ (by omega)
  have h5i:b5 < bi:=by rw [← hbi];exact fA HB6.out
  have hBr:Below Wq.heap.size Wq (Wb.setRow bi #[.int .u8 k,.int .u8 0,.int .u8 0,.int .u8 0,.int .i64 0]):=eX (by rw [← hWb];exact (Below.refl _ Wq).alloc (Nat.le_refl _) _) (by omega) _
  have HY:=ae.mk (HX.out.below hBr)
  have Je:=ae.mk ((hBr.block b5 (by omega)).trans HB6.out)
  have HBI:=ae.mk (iF hzi #[.int .u8 k,.int .u8 0,.int .u8 0,.int .u8 0,.int .i64 0])
  clear HX HB6 hBr
  go_upto_region 6 with (first|(skip;refine wpList_store_row rfl 27 (.tmp 6) (.tmp 38) rfl bi (#[.int .u8 k,.int .u8 0,.int .u8 0,.int .u8 0,.int .i64 0]) rfl rfl 27 _ hzi (by kernel_rfl) rfl (by simp [Value.oneCell']) ?_))
  clear hzi hWb hbi
  change Code.wp _ _ _ _ (Wb.setRow bi #[.int .u8 k,.int .u8 0,.int .u8 0,.int .u8 0,.int .i64 0])
  generalize Wb.setRow bi #[.int .u8 k,.int .u8 0,.int .u8 0,.int .u8 0,.int .i64 0]=Wc at HY Je HBI ⊢
  obtain ⟨bm,hbm⟩:∃ b,Wc.heap.size=b:=⟨_,rfl⟩
  have him:bi < bm:=by rw [← hbm];exact fA HBI.out
  obtain ⟨V0,hV0⟩:∃ V,Wc.alloc (.map #[] 0)=V:=⟨_,rfl⟩
  have hm0:V0.heap[bm]? = some (.map (zi bi 0) 0):=by rw [← hV0,← hbm];exact heap_alloc_new Wc _
  obtain ⟨V1,hV1⟩:∃ V,qy V0 bm (.map (zi bi (0+1)) (0+1))=V:=⟨_,rfl⟩
  have hi1:=Gi V0 bm bi 0 97 rfl (by decide) hm0
  rw [hV1,Nat.add_zero] at hi1
  have hm1:V1.heap[bm]? = some (.map (zi bi 1) 1):=by rw [← hV1];exact AO hm0
  obtain ⟨V2,hV2⟩:∃ V,qy V1 bm (.map (zi bi (1+1)) (1+1))=V:=⟨_,rfl⟩
  have hi2:=Gi V1 bm bi 1 98 rfl (by decide) hm1
  rw [hV2,show 1+1=2 from rfl] at hi2
  have hm2:V2.heap[bm]? = some (.map (zi bi 2) 2):=by rw [← hV2];exact AO hm1
  obtain ⟨V3,hV3⟩:∃ V,qy V2 bm (.map (zi bi (2+1)) (2+1))=V:=⟨_,rfl⟩
  have hi3:=Gi V2 bm bi 2 99 rfl (by decide) hm2
  rw [hV3,show 1+2=3 from rfl] at hi3
  have hm3:V3.heap[bm]? = some (.map (zi bi 3) 3):=by rw [← hV3];exact AO hm2
  have VJ:∀ j,j < bm→V3.heap[j]? = Wc.heap[j]?:=fun j hj=>by
    rw [← hV3,wu j (by omega),← hV2,wu j (by omega),← hV1,wu j (by omega),← hV0]
    exact Below.heap_alloc Wc _ j (by omega)
  have Yp:Below G w V3:=by
    rw [← hV3]
    refine wz ?_ (by omega)
    rw [← hV2]
    refine wz ?_ (by omega)
    rw [← hV1]
    refine wz ?_ (by omega)
    rw [← hV0]
    exact HY.out.bel.alloc (by omega) _
  have hn1:V3.cell? ⟨b5,1,none⟩=some (.string hs):=by simp [World.cell?,(VJ b5 (by omega)).trans Je.out]
  obtain ⟨it,hit⟩:∃ b,V3.heap.size=b:=⟨_,rfl⟩
  obtain ⟨V4,hV4⟩:∃ V,V3.iter hs 0=V:=⟨_,rfl⟩
  have hmt:bm < it:=by rw [← hit];exact fA hm3
  have hup:∀ j,j < it→V4.heap[j]? = V3.heap[j]?:=fun j hj=>by rw [← hV4];exact Below.heap_alloc V3 _ j (by omega)
  have HI:=ae.mk (show EG G bi bm it 0 hs k (0,0,0,0) w V4 from ⟨(hup G (by omega)).trans ((VJ G (by omega)).trans HY.out.bk),(hup bi (by omega)).trans ((VJ bi him).trans HBI.out),(hup bm hmt).trans hm3,by rw [← hV4,← hit];exact World.iter_heap V3 hs 0,by rw [← hV4];exact Yp.alloc (by omega) _,by omega,by omega,by omega⟩)
  have hmm:=@run_makeMap Tryz.prog
  clear HY Je HBI hm0 hm1 hm2 hm3 VJ Yp hup him hmt h5i hGb hV1 hV2 hV3
  go_wp2
  clear hi1 hi2 hi3 hn1 hbm hV0 hit hV4 hmm
  have HRB:=ae.mk (show jy (hs.data.toList.drop 0) (l0.drop (0+1)) (0,0,0,0)=some r0 from by rw [List.drop_zero,Nat.zero_add,List.drop_one,← HHS.out];rw [HHS.out];exact HRA.out)
  go_loopg [] hs.size (fun kq wr=>∃ (pos:Nat) (x:Int × Int × Int × Int),kq+pos=hs.size∧ae (jy (hs.data.toList.drop pos) (l0.drop (pos+1)) x=some r0)∧ae (EG G bi bm it pos hs k x w wr))
  case atStart=>exact ⟨0,(0,0,0,0),Nat.add_zero _,HRB,HI⟩
  case round =>
  clear HRA HRB HI
  obtain ⟨pos,x,hpk,HA,HX⟩:=hrel
  by_cases hp:pos < hs.size
  case neg =>
    have hnx:∀ ty,(Instr.next (.pointer (some ⟨it,0,none⟩)) true ty).run Tryz.prog wr=.ok (.tuple #[.bool false]) wr:=fun ty=>Lib.run_next_end_at wr it hs pos ty HX.out.iter hp
    have hA:=HA.out
    rw [List.drop_eq_nil_of_le (by simp;omega),jy] at hA
    have hr0:=(Option.some.inj hA).symm
    have hrr:=HRR.out
    rw [hr0] at hrr
    simp only [EU,Prod.mk.injEq] at hrr
    obtain ⟨rfl,rfl,rfl,rfl,rfl,rfl⟩:=hrr
    have kI:=HX.out.ins
    have kG:=HX.out.bk
    have KZ:=ae.mk (iF kG #[.int .u8 k,.int .u8 x.1,.int .u8 x.2.1,.int .u8 x.2.2.1,.int .i64 x.2.2.2])
    have yR:=ae.mk (eX HX.out.bel (Nat.le_refl G) #[.int .u8 k,.int .u8 x.1,.int .u8 x.2.1,.int .u8 x.2.2.1,.int .i64 x.2.2.2])
    clear HX HA HRR hA hr0 hp hpk
    go_wp2_with (first|((with_reducible refine fF (N:=85) rfl ?_);refine wpList_load_row rfl 27 (.tmp 6) rfl bi rfl 27 (#[.int .u8 k,.int .u8 x.1,.int .u8 x.2.1,.int .u8 x.2.2.1,.int .i64 x.2.2.2]) (0,0) _ kI Tryz.underlying27 rfl (by kernel_rfl) ?_)|(skip;refine wpList_store_row rfl 27 (.tmp 2) (.tmp 85) rfl G (#[.int .u8 k,.int .u8 x.1,.int .u8 x.2.1,.int .u8 x.2.2.1,.int .i64 x.2.2.2]) rfl rfl 27 _ kG (by kernel_rfl) rfl (by simp [Value.oneCell']) ?_))
    (try simp only [Exit.inBlock,Exit.then])
    refine bodyPost_ret (kP rfl _ _ G 27 #[.int .u8 k,.int .u8 x.1,.int .u8 x.2.1,.int .u8 x.2.2.1,.int .i64 x.2.2.2] (0,0) _ rfl KZ.out Tryz.underlying27 rfl (by kernel_rfl)) rfl ?_
    exact ⟨rfl,by have q:=yR.out;first|exact q|(rw [hG];exact q)⟩
  have QU:=JS k HLL.out.2.2.1 HLL.out.2.2.2 (hs[pos]'hp) (by rw [HHS.out];simp [ByteArray.getElem_eq_getElem_data])
  obtain ⟨ch,hch⟩:∃ c:Nat,(hs[pos]'hp).toNat=c:=⟨_,rfl⟩
  rw [hch] at QU
  obtain ⟨Wn,ZY⟩:∃ Wn,wr.iterAt it hs (pos+1)=Wn:=⟨_,rfl⟩
  have hnx:∀ ty,(Instr.next (.pointer (some ⟨it,0,none⟩)) true ty).run Tryz.prog wr=.ok (.tuple #[.bool true,.int .i64 pos,.int .i32 ch]) Wn:=fun ty=>by rw [← ZY,← hch];exact Lib.run_next_ascii_at wr it hs pos ty HX.out.iter hp (by omega)
  replace HX:=ae.mk (show EG G bi bm it (pos+1) hs k x w Wn from by rw [← ZY];exact HX.out.next (pos+1))
  obtain ⟨z,hz⟩:∃ z:Int,z=(pos:Int)+1:=⟨_,rfl⟩
  have hpl:pos+1 < l0.length:=by have:=HLL.out;omega
  have hzw:IntKind.i64.wrap ((pos:Int)+1)=z:=by rw [hz];exact IntWalk.i64_in _ (by have:=HLL.out;omega)
  have hz0:0≤z:=by omega
  have hz1:z < (l0.length:Int):=by omega
  obtain ⟨ad',e,hx⟩:=Kd.fO (Kd.gY HR.out (by rw [hG];exact HX.out.bel)) z hz0 hz1
  injection e with e
  subst e
  obtain ⟨wd,hwd⟩:∃ wd,eF ByteArray.empty l0 z=wd:=⟨_,rfl⟩
  rw [hwd] at hx
  have hdl:l0.drop (pos+1)=wd :: l0.drop (pos+1+1):=by
    rw [List.drop_eq_getElem_cons hpl,← hwd,eF,hz,List.getD_eq_getElem?_getD,show ((pos:Int)+1).toNat=pos+1 by omega,List.getElem?_eq_getElem hpl]
    rfl
  have hA:=HA.out
  rw [O1 hs pos hp,hdl,jy,hch] at hA
  obtain ⟨⟨nv,ev⟩,hN,hA⟩:=Option.bind_eq_some_iff.1 hA
  have HN:=Lib.hid hN
  have HA2:=ae.mk hA
  have SN:=Lib.hid (show gk+pos=hs.size∧pos < hs.size from ⟨hpk,hp⟩)
  clear hA hN HA hdl hpk hwd hz hpl ZY hch
  have hz2:(z < (hs.size:Int)+1)=True:=eq_true (by have:=HLL.out;omega)
  replace hz0:=eq_true hz0
  replace hz1:=eq_true hz1
  go_upto_region 11 with (go_at_call 53;refine (nX.calls wd nv ev _ (Kd.gY HT.out (by rw [hG];exact HX.out.bel)) HN.out).mono ?_;rintro e w4 ⟨rfl,hb4⟩;replace HX:=ae.mk (HX.out.below hb4);clear hb4)
  clear hx hnx hzw hz0 hz1 hz2 HN
  have hA:=HA2.out
  by_cases hev:ev=0
  case neg =>
    rw [if_neg hev] at hA
    have hr0:=(Option.some.inj hA).symm
    have hrr:=HRR.out
    rw [hr0] at hrr
    simp only [EU,Prod.mk.injEq] at hrr
    obtain ⟨rfl,rfl,rfl,rfl,rfl,rfl⟩:=hrr
    have b1:(ev != 0)=true:=by simp [hev]
    clear hA HA2 HRR hr0 hev QU hp
    have kG:=HX.out.bk
    have kz:=iF kG #[.int .u8 0,.int .u8 0,.int .u8 0,.int .u8 0,.int .i64 0]
    have yR:=ae.mk (eX HX.out.bel (Nat.le_refl G) #[.int .u8 0,.int .u8 0,.int .u8 0,.int .u8 0,.int .i64 0])
    have KZ:=ae.mk kz
    clear HX kz
    go_wp2_with (skip;refine wpList_store_row rfl 27 (.tmp 2) (.tmp 74) rfl G (#[.int .u8 0,.int .u8 0,.int .u8 0,.int .u8 0,.int .i64 0]) rfl rfl 27 _ kG (by kernel_rfl) rfl (by simp [Value.oneCell']) ?_)
    (try simp only [Exit.inBlock,Exit.then])
    refine bodyPost_ret (kP rfl _ _ G 27 #[.int .u8 0,.int .u8 0,.int .u8 0,.int .u8 0,.int .i64 0] (0,0) _ rfl KZ.out Tryz.underlying27 rfl (by kernel_rfl)) rfl ?_
    exact ⟨rfl,by have q:=yR.out;first|exact q|(rw [hG];exact q)⟩
  subst hev
  rw [if_pos rfl] at hA
  by_cases hc:ch=110
  case pos =>
    subst hc
    rw [if_pos rfl] at hA
    have HA3:=ae.mk hA
    have c4:w4.cell? ⟨bi,4,none⟩=some (.int .i64 x.2.2.2):=HX.out.cell 4
    have f4:=HX.out.fr 4
    have Bj:=ae.mk (HX.out.set 4 (.int .i64 nv) (setArg 110 nv x) rfl)
    clear hA HA2 QU HX
    go_wp2
    go_roundg (gk - 1)
    case measure=>have:=SN.out;omega
    case rel=>exact ⟨pos+1,setArg 110 nv x,by have:=SN.out;omega,HA3,Bj⟩
  rw [if_neg hc] at hA
  have b2:((ch:Int) != 110)=true:=by simp;omega
  have b3:((ch:Int) == 110)=false:=beq_eq_false_iff_ne.2 (by omega)
  by_cases hr:0≤nv∧nv≤255
  case neg =>
    rw [if_neg hr] at hA
    have hr0:=(Option.some.inj hA).symm
    have hrr:=HRR.out
    rw [hr0] at hrr
    simp only [EU,Prod.mk.injEq] at hrr
    obtain ⟨rfl,rfl,rfl,rfl,rfl,rfl⟩:=hrr
    by_cases hn0:nv < 0
    case' pos =>
      have d1:decide (nv < 0)=true:=decide_eq_true hn0
    case' neg =>
      have d1:decide (nv < 0)=false:=decide_eq_false hn0
      have d2:decide (255 < nv)=true:=decide_eq_true (by omega)
    all_goals
      clear hA HA2 HRR hr0 QU hr hn0 hc hp
      have kG:=HX.out.bk
      have kz:=iF kG #[.int .u8 0,.int .u8 0,.int .u8 0,.int .u8 0,.int .i64 0]
      have yR:=ae.mk (eX HX.out.bel (Nat.le_refl G) #[.int .u8 0,.int .u8 0,.int .u8 0,.int .u8 0,.int .i64 0])
      have KZ:=ae.mk kz
      clear HX kz
      go_wp2_with (skip;refine wpList_store_row rfl 27 (.tmp 2) (.tmp 74) rfl G (#[.int .u8 0,.int .u8 0,.int .u8 0,.int .u8 0,.int .i64 0]) rfl rfl 27 _ kG (by kernel_rfl) rfl (by simp [Value.oneCell']) ?_)
      (try simp only [Exit.inBlock,Exit.then])
      refine bodyPost_ret (kP rfl _ _ G 27 #[.int .u8 0,.int .u8 0,.int .u8 0,.int .u8 0,.int .i64 0] (0,0) _ rfl KZ.out Tryz.underlying27 rfl (by kernel_rfl)) rfl ?_
      exact ⟨rfl,by have q:=yR.out;first|exact q|(rw [hG];exact q)⟩
  rw [if_pos hr] at hA
  have HA3:=ae.mk hA
  have d1:decide (nv < 0)=false:=decide_eq_false (by omega)
  have d2:decide (255 < nv)=false:=decide_eq_false (by omega)
  have hnu:IntKind.u8.wrap nv=nv:=IntWalk.u8_in _ (by omega)
  clear hA HA2 hr
  rcases QU with rfl|rfl|rfl|OY
  · have hlk:=DK w4 bm bi 0 97 rfl (by decide) HX.out.map
    have c4:w4.cell? ⟨bi,1,none⟩=some (.int .u8 x.1):=HX.out.cell 1
    have f4:=HX.out.fr 1
    have Bj:=ae.mk (HX.out.set 1 (.int .u8 nv) (setArg 97 nv x) rfl)
    clear HX
    go_wp2
    go_roundg (gk - 1)
    case measure=>have:=SN.out;omega
    case rel=>exact ⟨pos+1,setArg 97 nv x,by have:=SN.out;omega,HA3,Bj⟩
  · have hlk:=DK w4 bm bi 1 98 rfl (by decide) HX.out.map
    have c4:w4.cell? ⟨bi,2,none⟩=some (.int .u8 x.2.1):=HX.out.cell 2
    have f4:=HX.out.fr 2
    have Bj:=ae.mk (HX.out.set 2 (.int .u8 nv) (setArg 98 nv x) rfl)
    clear HX
    go_wp2
    go_roundg (gk - 1)
    case measure=>have:=SN.out;omega
    case rel=>exact ⟨pos+1,setArg 98 nv x,by have:=SN.out;omega,HA3,Bj⟩
  · have hlk:=DK w4 bm bi 2 99 rfl (by decide) HX.out.map
    have c4:w4.cell? ⟨bi,3,none⟩=some (.int .u8 x.2.2.1):=HX.out.cell 3
    have f4:=HX.out.fr 3
    have Bj:=ae.mk (HX.out.set 3 (.int .u8 nv) (setArg 99 nv x) rfl)
    clear HX
    go_wp2
    go_roundg (gk - 1)
    case measure=>have:=SN.out;omega
    case rel=>exact ⟨pos+1,setArg 99 nv x,by have:=SN.out;omega,HA3,Bj⟩
  · exact absurd OY hc
end Go.Proofs.YtkclndkbccbhaaaGreatDoor.P
end
