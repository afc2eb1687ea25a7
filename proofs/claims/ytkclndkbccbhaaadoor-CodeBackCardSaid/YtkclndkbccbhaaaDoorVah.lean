/- Parts of the proof of CodeBack: what the functions that it reaches compute, and plain facts about that. -/
import Derived.Test.YtkclndkbccbhaaaDoorVac
import Derived.Test.YtkclndkbccbhaaaDoorVag
import Derived.Test.YtkclndkbccbhaaaDoorVad
import Derived.Test.YtkclndkbccbhaaaDoorVae
import Derived.Test.YtkclndkbccbhaaaDoorVaf
import Derived.ChangeMaps4
import Derived.Deep.MidRow
set_option linter.unusedVariables false
set_option linter.unusedSimpArgs false
section
namespace Go.Proofs.YtkclndkbccbhaaaDoor.P
open Go Go.RowKit Go.Proofs.ay.bY Go.Proofs.ay.fJ Go.Proofs.ay.gG
def Bs (w:List UInt8):ByteArray:=⟨w.toArray⟩
theorem nC (s:ByteArray):Bs s.data.toList=s:=by cases s;rfl
theorem Ep (w:List UInt8):(Bs w).data.toList=w:=rfl
theorem BJ (w:List UInt8):(Bs w).toList=w:=by rw [ByteArray.toList_eq];rfl
theorem qm (w:List UInt8):(Bs w).size=w.length:=by simp [Bs,ByteArray.size]
theorem xA (s:ByteArray):s.data.toList.length=s.size:=(Lib.size_eq s).symm
def conv (L:List (List (List UInt8))):List (List ByteArray):=L.map (·.map Bs)
theorem OI (a b:List (List (List UInt8))):conv (a++b)=conv a++conv b:=by simp [conv]
theorem tq (a:List (List (List UInt8))):(conv a).length=a.length:=by simp [conv]
def Vr (R:List (List (List UInt8)) × Nat × Nat):List (List ByteArray) × Int × Int:=(conv R.1,(R.2.1:Int),(R.2.2:Int))
theorem UF (L:List (List UInt8)) (i:Nat) (x:List UInt8) (h:L[i]? = some x):iD ByteArray.empty (L.map Bs) (i:Int)=Bs x:=by
  unfold iD
  rw [Int.toNat_natCast,List.getD_eq_getElem?_getD,List.getElem?_map,h]
  rfl
theorem lK (i:Nat) (h:i < 4611686018427387904):wrap64 ((i:Int)+1)=((i+1:Nat):Int):=by unfold wrap64;omega
theorem IE (s:ByteArray) (c:UInt8) (hs:s.size < 4294967281):strings_Split.f s ⟨#[c]⟩=some ((qy c s.data.toList).map Bs):=by
  unfold strings_Split.f
  rw [if_pos ⟨hs,by simp [ByteArray.size]⟩]
  congr 1
  have h:=Lib.splitB_data ⟨#[c]⟩ 0 (Lib.countB s ⟨#[c]⟩) s
  have hk:Lib.countB s ⟨#[c]⟩=s.data.toList.count c:=Lib.count_one c s.data.toList
  have h1:Lib.splitK [c] 0 (Lib.countB s ⟨#[c]⟩) s.data.toList=qy c s.data.toList:=zg c _ _ (by rw [hk];exact Nat.le_refl _)
  have h2:(Lib.splitB ⟨#[c]⟩ 0 (Lib.countB s ⟨#[c]⟩) s).map (·.data.toList)=qy c s.data.toList:=h.trans h1
  rw [← h2,List.map_map]
  conv=>lhs;rw [← List.map_id (Lib.splitB ⟨#[c]⟩ 0 (Lib.countB s ⟨#[c]⟩) s)]
  refine List.map_congr_left fun x _=>?_
  exact (nC x).symm
theorem Y5 (s:ByteArray) (hs:s.size < 4294967281):∃ b t,strings_Cut.f s ⟨#[35]⟩=some (Bs (s.data.toList.takeWhile (· ≠ 35)),b,t):=by
  unfold strings_Cut.f
  rw [if_pos hs]
  refine ⟨⟨(Lib.cut s.data.toList [35]).2.1.toArray⟩,(Lib.cut s.data.toList [35]).2.2,?_⟩
  rw [← TZ 35 s.data.toList]
  rfl
theorem IM:∀ b:UInt8,([97,98,99,100,101,102,103,104,105,106,107,108,109,110,111,112,113,114,115,116,117,118,119,120,121,122,48,49,50,51,52,53,54,55,56,57,45]:List UInt8).contains b=UG b:=by
  have h:∀ n:Fin 256,([97,98,99,100,101,102,103,104,105,106,107,108,109,110,111,112,113,114,115,116,117,118,119,120,121,122,48,49,50,51,52,53,54,55,56,57,45]:List UInt8).contains (UInt8.ofNat n.val)=UG (UInt8.ofNat n.val):=by decide +kernel
  intro b
  have:=h ⟨b.toNat,b.toNat_lt⟩
  simpa using this
theorem WW (w:List UInt8):oK.f (Bs w)=some (Ba w):=by
  unfold oK.f Ba
  rw [qm]
  by_cases hl:w.length≤30
  · rw [if_pos (by omega)]
    unfold iL.f
    rw [if_pos ⟨by rw [qm];omega,by decide,by decide +kernel⟩]
    simp only [Option.bind_some]
    congr 1
    rw [decide_eq_true hl,Bool.true_and,Bool.eq_iff_iff,beq_iff_eq,ByteArray.toList_eq,List.all_eq_true]
    show Lib.trimS w [97,98,99,100,101,102,103,104,105,106,107,108,109,110,111,112,113,114,115,116,117,118,119,120,121,122,48,49,50,51,52,53,54,55,56,57,45]=[] ↔ _
    rw [xk]
    constructor
    · intro h x hx
      rw [← IM]
      exact h x hx
    · intro h x hx
      rw [IM]
      exact h x hx
  · rw [if_neg (by omega),decide_eq_false hl,Bool.false_and]
theorem Gf {M:List (List UInt8)} {j:Nat} {w:List UInt8} (h:M[j]? = some w):(M.drop j).filter (· ≠ [])=(if w=[] then [] else [w])++(M.drop (j+1)).filter (· ≠ []):=by
  obtain ⟨hl,hw⟩:=List.getElem?_eq_some_iff.1 h
  rw [List.drop_eq_getElem_cons hl,hw,List.filter_cons]
  by_cases e:w=[]
  · simp [e]
  · simp [e]
theorem UJ (T:List ByteArray) (n:Int) (i:Nat) (hi:i < 1000000) (x5:List (List ByteArray)) (hx5:x5.length≤1000000) (M:List (List UInt8)) (hM:M.length≤1000000) :
    ∀ (d j:Nat),j+d=M.length→∀ (acc:List (List UInt8)),acc.length≤j →
      ((((M.drop j).filter (· ≠ [])).all Ba=false→Ev (fun k=>bZ.l1 k x5 (i:Int) (acc.map Bs) T n (i:Int) (M.map Bs) ((M.length:Nat):Int) (j:Int)) ([],((i+1:Nat):Int),4)) ∧
       (((M.drop j).filter (· ≠ [])).all Ba=true→∀ r,Ev (fun k=>bZ.l0 k (x5++conv (keep (acc++(M.drop j).filter (· ≠ [])))) T n ((i+1:Nat):Int)) r →
        Ev (fun k=>bZ.l1 k x5 (i:Int) (acc.map Bs) T n (i:Int) (M.map Bs) ((M.length:Nat):Int) (j:Int)) r))
  | 0,j,hj,acc,ha=>by
    have hd:M.drop j=[]:=List.drop_eq_nil_of_le (by omega)
    rw [hd]
    refine ⟨fun h=>by simp at h,fun _ r hr=>?_⟩
    refine Ev.step (fun k=>?_) hr
    simp only [bZ.l1]
    rw [if_neg (by omega),List.length_map,lK i (by omega)]
    simp only [List.filter_nil,List.append_nil]
    by_cases e:acc=[]
    · subst e
      rw [if_neg (by simp)]
      simp [keep,conv]
    · have hp:0 < acc.length:=List.length_pos_iff.2 e
      rw [if_pos (by omega),if_pos (by omega)]
      simp [keep,conv,e]
  | d+1,j,hj,acc,ha=>by
    have hlt:j < M.length:=by omega
    have hw:M[j]? = some M[j]:=List.getElem?_eq_getElem hlt
    generalize M[j]=w at hw
    have ih:=UJ T n i hi x5 hx5 M hM d (j+1) (by omega)
    rw [Gf hw]
    have Cb:∀ k,bZ.l1 (k+1) x5 (i:Int) (acc.map Bs) T n (i:Int) (M.map Bs) ((M.length:Nat):Int) (j:Int) =
        if w=[] then bZ.l1 k x5 (i:Int) (acc.map Bs) T n (i:Int) (M.map Bs) ((M.length:Nat):Int) ((j+1:Nat):Int)
        else if Ba w=true then bZ.l1 k x5 (i:Int) ((acc++[w]).map Bs) T n (i:Int) (M.map Bs) ((M.length:Nat):Int) ((j+1:Nat):Int) else some ([],((i+1:Nat):Int),4):=by
      intro k
      conv=>lhs;simp only [bZ.l1]
      rw [if_pos (by omega),if_pos (by omega),if_pos (by rw [List.length_map];omega),UF M j w hw,BJ,WW,Option.bind_some,lK j (by omega),lK i (by omega),
        if_pos (show (acc.map Bs).length < 8796093022208 by rw [List.length_map];omega),List.map_append]
      rfl
    by_cases e:w=[]
    · rw [if_pos e,List.nil_append]
      have h:=ih acc (by omega)
      refine ⟨fun hf=>Ev.step (fun k=>by rw [Cb k,if_pos e]) (h.1 hf),fun ht r hr=>Ev.step (fun k=>by rw [Cb k,if_pos e]) (h.2 ht r hr)⟩
    · rw [if_neg e,List.singleton_append,List.all_cons]
      have h:=ih (acc++[w]) (by rw [List.length_append,List.length_singleton];omega)
      cases ho:Ba w with
      | true =>
        rw [Bool.true_and]
        have e2:acc++w :: (M.drop (j+1)).filter (· ≠ [])=(acc++[w])++(M.drop (j+1)).filter (· ≠ []):=by simp
        rw [e2]
        refine ⟨fun hf=>Ev.step (fun k=>by rw [Cb k,if_neg e,if_pos ho]) (h.1 hf),fun ht r hr=>Ev.step (fun k=>by rw [Cb k,if_neg e,if_pos ho]) (h.2 ht r hr)⟩
      | false =>
        rw [Bool.false_and]
        refine ⟨fun _=>Ev.step (f:=fun _=>some _) (fun k=>by rw [Cb k,if_neg e,if_neg (by rw [ho];simp)]) (Ev.now _),fun ht=>by cases ht⟩
theorem uS (p:UInt8→Bool) (l:List UInt8):(l.takeWhile p).length≤l.length:=(List.takeWhile_prefix _).length_le
theorem zh (c:UInt8) (l:List UInt8):(qy c l).length≤l.length+1:=by
  rw [GV]
  have:=List.count_le_length (a:=c) (l:=l)
  omega
theorem UK (T:List (List UInt8)) (hT:T.length≤30000) (hx:∀ x ∈ T,x.length≤30000) :
    ∀ (d i:Nat),i+d=T.length→∀ (acc:List (List (List UInt8))),acc.length≤i →
      Ev (fun k=>bZ.l0 k (conv acc) (T.map Bs) ((T.length:Nat):Int) (i:Int)) (Vr (LR i acc (T.drop i)))
  | 0,i,hi,acc,ha=>by
    have hd:T.drop i=[]:=List.drop_eq_nil_of_le (by omega)
    rw [hd]
    refine Ev.step (f:=fun _=>some _) (fun k=>?_) (Ev.now _)
    simp only [bZ.l0]
    rw [if_neg (by omega)]
    rfl
  | d+1,i,hi,acc,ha=>by
    have hlt:i < T.length:=by omega
    have hw:T[i]? = some T[i]:=List.getElem?_eq_getElem hlt
    have hdr:T.drop i=T[i] :: T.drop (i+1):=List.drop_eq_getElem_cons hlt
    have hxl:=hx T[i] (List.getElem_mem hlt)
    generalize T[i]=x at hw hdr hxl
    obtain ⟨b,t,hc⟩:=Y5 (Bs x) (by rw [qm];omega)
    rw [Ep] at hc
    have hlen:(qy 32 (x.takeWhile (· ≠ 35))).length≤30001:=by
      have h1:=zh 32 (x.takeWhile (· ≠ 35))
      have h2:=uS (· ≠ 35) x
      omega
    have hsp:strings_Split.f (Bs (x.takeWhile (· ≠ 35))) ⟨#[32]⟩=some ((qy 32 (x.takeWhile (· ≠ 35))).map Bs):=IE _ 32 (by rw [qm];have:=uS (· ≠ 35) x;omega)
    have Cb:∀ k,bZ.l0 (k+1) (conv acc) (T.map Bs) ((T.length:Nat):Int) (i:Int) =
        bZ.l1 k (conv acc) (i:Int) (([]:List (List UInt8)).map Bs) (T.map Bs) ((T.length:Nat):Int) (i:Int) ((qy 32 (x.takeWhile (· ≠ 35))).map Bs) (((qy 32 (x.takeWhile (· ≠ 35))).length:Nat):Int) ((0:Nat):Int):=by
      intro k
      conv=>lhs;simp only [bZ.l0]
      rw [if_pos (by omega),if_pos (by omega),if_pos (by rw [List.length_map];omega),UF T i x hw,hc,Option.bind_some,hsp,Option.bind_some,List.length_map]
      rfl
    refine Ev.step Cb ?_
    have h:=UJ (T.map Bs) ((T.length:Nat):Int) i (by omega) (conv acc) (by rw [tq];omega) (qy 32 (x.takeWhile (· ≠ 35))) (by omega) (qy 32 (x.takeWhile (· ≠ 35))).length 0 (Nat.zero_add _) [] (Nat.le_refl _)
    rw [hdr]
    unfold LR
    have ht:(List.drop 0 (qy 32 (x.takeWhile (· ≠ 35)))).filter (· ≠ [])=toks x:=rfl
    rw [ht,List.nil_append] at h
    cases ho:WU x with
    | true =>
      rw [if_pos rfl]
      refine h.2 ho _ ?_
      rw [← OI]
      refine UK T hT hx d (i+1) (by omega) _ ?_
      rw [List.length_append]
      have:(keep (toks x)).length≤1:=by unfold keep;split <;> simp
      omega
    | false =>
      rw [if_neg (by simp)]
      exact h.1 ho
theorem EY {c:UInt8} {l p:List UInt8} (h:p ∈ qy c l):p.length≤l.length:=by
  have h1:=Qd c l
  have:∀ L:List (List UInt8),p ∈ L→p.length+1≤(L.map fun w=>w.length+1).sum:=by
    intro L
    induction L with
    | nil=>intro h;cases h
    | cons y ys ih =>
      intro h
      rcases List.mem_cons.1 h with rfl|h
      · simp only [List.map_cons,List.sum_cons];omega
      · have:=ih h
        simp only [List.map_cons,List.sum_cons];omega
  have:=this _ h
  omega
def MP (s:ByteArray):List (List (List UInt8)) × Nat × Nat:=LR 0 [] (qy 10 s.data.toList)
theorem MO (s:ByteArray) (hs:s.size≤20000):Ev (fun k=>bZ.f k s) (Vr (MP s)):=by
  have hl:=zh 10 s.data.toList
  rw [xA] at hl
  refine Ev.congr (f:=fun k=>bZ.l0 k (conv []) ((qy 10 s.data.toList).map Bs) (((qy 10 s.data.toList).length:Nat):Int) ((0:Nat):Int)) (fun k=>?_) ?_
  · unfold bZ.f
    rw [if_neg (by omega),IE s 10 (by omega),Option.bind_some,List.length_map]
    rfl
  · have:=UK (qy 10 s.data.toList) (by omega) (fun x hx=>by have:=EY hx;rw [xA] at this;omega) (qy 10 s.data.toList).length 0 (Nat.zero_add _) [] (Nat.le_refl _)
    exact this
theorem H8 (w:List UInt8) (a b:Nat):(Bs w).extract a b=Bs ((w.drop a).take (b - a)):=by
  rw [← nC ((Bs w).extract a b),Lib.extract_data]
  rfl
theorem MB (a:List (List ByteArray)) (i:Nat) (x:List ByteArray) (h:a[i]? = some x):kE a (i:Int)=x:=by
  unfold kE
  rw [Int.toNat_natCast,List.getD_eq_getElem?_getD,h]
  rfl
theorem Qr (a:List ByteArray) (i:Nat) (x:ByteArray) (h:a[i]? = some x):iD ByteArray.empty a (i:Int)=x:=by
  unfold iD
  rw [Int.toNat_natCast,List.getD_eq_getElem?_getD,h]
  rfl
theorem toList_inj {a b:ByteArray}:a.toList=b.toList ↔ a=b:=by
  rw [ByteArray.toList_eq,ByteArray.toList_eq]
  constructor
  · intro h
    rw [← nC a,← nC b,h]
  · rintro rfl;rfl
def Small (A:List (List (List UInt8))):Prop:=A.length≤1000000∧∀ x ∈ A,x.length≤1000000
theorem zH (L:List (List (List UInt8))):mr (conv L)=joinL L:=by
  unfold mr conv joinL
  rw [List.map_map]
  congr 1
  refine List.map_congr_left fun ws _=>?_
  show Lib.join ((ws.map Bs).map (·.data.toList)) [32]++[10]=_
  rw [List.map_map]
  congr 2
  conv=>rhs;rw [← List.map_id ws]
  exact List.map_congr_left fun x _=>rfl
theorem Vu (L:List (List (List UInt8))) (h:Small L) (hl:(joinL L).length≤1000000):jW.f (conv L)=some (Bs (joinL L)):=by
  unfold jW.f
  rw [zH,if_pos]
  · rfl
  · refine ⟨by rw [tq];have:=h.1;omega,fun x hx=>?_,by omega⟩
    obtain ⟨y,hy,rfl⟩:=List.mem_map.1 hx
    rw [List.length_map]
    have:=h.2 y hy
    omega
theorem Qy (L:List (List (List UInt8))):Vr (L,0,0)=(conv L,0,0):=rfl
theorem size_data (s:ByteArray):s.size=s.data.toList.length:=(xA s).symm
def GN (c:UInt8):Bool:=decide (48≤c.toNat∧c.toNat≤57)
def qQ (acc:Nat) (D:List UInt8):Nat:=D.foldl (fun a c=>a * 10+(c.toNat - 48)) acc
theorem Qa (D:List UInt8) (acc:Nat):acc≤qQ acc D:=by
  induction D generalizing acc with
  | nil=>exact Nat.le_refl _
  | cons c r ih =>
    have:=ih (acc * 10+(c.toNat - 48))
    show acc≤qQ (acc * 10+(c.toNat - 48)) r
    omega
theorem uk (acc:Nat) (c:UInt8) (r:List UInt8):qQ acc (c :: r)=qQ (acc * 10+(c.toNat - 48)) r:=by
  unfold qQ
  rw [List.foldl_cons]
theorem JX (acc:Nat) (D:List UInt8) (c:UInt8):qQ acc (D++[c])=qQ acc D * 10+(c.toNat - 48):=by
  unfold qQ
  rw [List.foldl_append,List.foldl_cons,List.foldl_nil]
theorem LG (D:List UInt8) (acc:Nat):acc * 10 ^ D.length≤qQ acc D:=by
  induction D generalizing acc with
  | nil=>simp [qQ]
  | cons c r ih =>
    rw [uk]
    refine Nat.le_trans ?_ (ih _)
    rw [List.length_cons,Nat.pow_succ,Nat.mul_comm (10 ^ r.length) 10,← Nat.mul_assoc]
    exact Nat.mul_le_mul_right _ (by omega)
theorem J6 (M:Nat) (hM:M=18446744073709551615) (D:List UInt8) (h:∀ c ∈ D,GN c=true) (acc:Nat) (ha:acc≤M):Lib.parseUintM M acc D=if qQ acc D≤M then .ok (qQ acc D) else .range:=by
  induction D generalizing acc with
  | nil =>
    show Lib.NumEnd.ok acc=if acc≤M then Lib.NumEnd.ok acc else Lib.NumEnd.range
    rw [if_pos ha]
  | cons c r ih =>
    have hc:=h c (by simp)
    simp only [GN,decide_eq_true_eq] at hc
    have hge:=Qa r (acc * 10+(c.toNat - 48))
    rw [uk]
    unfold Lib.parseUintM
    rw [if_pos hc]
    by_cases h1:1844674407370955162≤acc
    · rw [if_pos h1,if_neg (by omega)]
    · rw [if_neg h1]
      by_cases h2:M < acc * 10+(c.toNat - 48)
      · rw [if_pos h2,if_neg (by omega)]
      · rw [if_neg h2]
        exact ih (fun x hx=>h x (by simp [hx])) _ (by omega)
theorem BC:∀ b:UInt8,([48,49,50,51,52,53,54,55,56,57]:List UInt8).contains b=GN b:=by
  have h:∀ n:Fin 256,([48,49,50,51,52,53,54,55,56,57]:List UInt8).contains (UInt8.ofNat n.val)=GN (UInt8.ofNat n.val):=by decide +kernel
  intro b
  have:=h ⟨b.toNat,b.toNat_lt⟩
  simpa using this
theorem ET {D:List UInt8}:Lib.trimS D [48,49,50,51,52,53,54,55,56,57]=[] ↔ ∀ c ∈ D,GN c=true:=by
  rw [xk]
  constructor
  · intro h x hx;rw [← BC];exact h x hx
  · intro h x hx;rw [BC];exact h x hx
theorem BZ (D:List UInt8):unsigned (45 :: D)=D:=rfl
theorem BX (w:List UInt8) (h:w.head? ≠ some 45):unsigned w=w:=by
  unfold unsigned Lib.trimPrefix Lib.hasPrefix
  cases w with
  | nil=>rfl
  | cons c r =>
    rw [if_neg]
    intro hp
    simp only [List.isPrefixOf,Bool.and_true,beq_iff_eq] at hp
    exact h (by rw [← hp];rfl)
structure Num (w D:List UInt8):Prop where
  ne:D ≠ []
  dig:∀ c ∈ D,GN c=true
  zero:D.head? = some 48→w=[48]
theorem Ko (w:List UInt8):qF w=true ↔ Num w (unsigned w):=by
  unfold qF
  simp only [Bool.and_eq_true,Bool.not_eq_true',List.isEmpty_iff,List.isEmpty_eq_false_iff,Bool.and_eq_false_iff,beq_eq_false_iff_ne,Bool.not_eq_false',beq_iff_eq]
  rw [ET]
  constructor
  · rintro ⟨⟨h1,h2⟩,h3⟩
    exact ⟨h1,h2,fun h=>by rcases h3 with h3|h3;exact absurd h h3;exact h3⟩
  · rintro ⟨h1,h2,h3⟩
    refine ⟨⟨h1,h2⟩,?_⟩
    by_cases h:(unsigned w).head? = some 48
    · exact .inr (h3 h)
    · exact .inl h
def IY (neg:Bool) (u:Nat):Bool:=if neg then decide (u≤9223372036854775808) else decide (u < 9223372036854775808)
def sgn (neg:Bool) (u:Nat):Int:=if neg then -(u:Int) else u
theorem Vw {c:UInt8} (h:GN c=true):c.toNat ≠ 43∧c.toNat ≠ 45:=by
  simp only [GN,decide_eq_true_eq] at h
  omega
theorem Hf (D:List UInt8) (h:∀ c ∈ D,GN c=true) (hne:D ≠ []):Lib.parseUintB 64 D=if qQ 0 D≤18446744073709551615 then .ok (qQ 0 D) else .range:=by
  unfold Lib.parseUintB
  rw [if_neg hne]
  exact J6 _ (by decide) D h 0 (by omega)
theorem MJ (neg:Bool) (D:List UInt8) (h:∀ c ∈ D,GN c=true) (hne:D ≠ []):numOf (if neg then 45 :: D else D)=if IY neg (qQ 0 D) then (sgn neg (qQ 0 D),0) else (0,3):=by
  have hc:=Hf D h hne
  generalize qQ 0 D=u at hc ⊢
  unfold numOf
  cases neg with
  | true =>
    simp only [if_true]
    unfold Lib.parseIntB
    dsimp only
    rw [if_pos (show (45:UInt8).toNat=43 ∨ (45:UInt8).toNat=45 from Or.inr rfl),hc]
    by_cases hu:u≤18446744073709551615
    · rw [if_pos hu]
      simp only [show ((45:UInt8).toNat=45)=True from eq_true rfl,not_true_eq_false,false_and,if_false,true_and,if_true]
      by_cases h2:2 ^ (64 - 1) < u
      · rw [if_pos h2]
        have:IY true u=false:=by unfold IY;rw [if_pos rfl];exact decide_eq_false (by omega)
        rw [this]
        rfl
      · rw [if_neg h2]
        have:IY true u=true:=by unfold IY;rw [if_pos rfl];exact decide_eq_true (by omega)
        rw [this]
        rfl
    · rw [if_neg hu]
      have:IY true u=false:=by unfold IY;rw [if_pos rfl];exact decide_eq_false (by omega)
      rw [this]
      rfl
  | false =>
    simp only [Bool.false_eq_true,if_false]
    cases D with
    | nil=>exact absurd rfl hne
    | cons c r =>
      have hcd:=Vw (h c (by simp))
      unfold Lib.parseIntB
      simp only []
      rw [if_neg (by intro h;rcases h with h|h;exact hcd.1 h;exact hcd.2 h),hc]
      by_cases hu:u≤18446744073709551615
      · rw [if_pos hu]
        simp only [eq_false hcd.2,not_false_eq_true,true_and,false_and,if_false]
        by_cases h2:2 ^ (64 - 1)≤u
        · rw [if_pos h2]
          have:IY false u=false:=by unfold IY;rw [if_neg (by simp)];exact decide_eq_false (by omega)
          rw [this]
          rfl
        · rw [if_neg h2]
          have:IY false u=true:=by unfold IY;rw [if_neg (by simp)];exact decide_eq_true (by omega)
          rw [this]
          rfl
      · rw [if_neg hu]
        have:IY false u=false:=by unfold IY;rw [if_neg (by simp)];exact decide_eq_false (by omega)
        rw [this]
        rfl
theorem MR {c:UInt8} {r:List UInt8} (hc:GN c=true) (h48:c ≠ 48):10 ^ r.length≤qQ 0 (c :: r):=by
  rw [uk]
  have hd:48≤c.toNat∧c.toNat≤57:=of_decide_eq_true hc
  have hne:c.toNat ≠ 48:=fun h=>h48 (UInt8.toNat_inj.1 h)
  have h1:=LG r (0 * 10+(c.toNat - 48))
  refine Nat.le_trans ?_ h1
  generalize 10 ^ r.length=q
  have:1 * q≤(0 * 10+(c.toNat - 48)) * q:=Nat.mul_le_mul_right q (by omega)
  omega
theorem WS:(10:Nat) ^ 19=10000000000000000000:=by decide
def Vs (w:List UInt8):Int × Int:=if qF w then numOf w else (0,4)
theorem Gi (d:Nat) (h:d < 10):(UInt8.ofNat (48+d)).toNat=48+d:=by
  have:(UInt8.ofNat (48+d)).toNat=(48+d) % 256:=UInt8.toNat_ofNat'
  omega
theorem xy (n:Nat):∀ u:Nat,u≤n→(∀ c ∈ Lib.decDigits u,GN c=true)∧Lib.decDigits u ≠ []∧qQ 0 (Lib.decDigits u)=u∧((Lib.decDigits u).head? = some 48→u=0):=by
  induction n with
  | zero =>
    intro u hu
    obtain rfl:u=0:=by omega
    rw [Lib.decDigits_one (by omega)]
    refine ⟨by decide,by decide,?_,fun _=>rfl⟩
    decide
  | succ n ih =>
    intro u hu
    by_cases h:u < 10
    · rw [Lib.decDigits_one h]
      have hd:=Gi u h
      refine ⟨?_,by simp,?_,?_⟩
      · intro c hc
        rw [List.mem_singleton.1 hc]
        unfold GN
        rw [hd]
        exact decide_eq_true (by omega)
      · rw [uk,hd]
        show 0 * 10+(48+u - 48)=u
        omega
      · intro hh
        simp only [List.head?_cons,Option.some.injEq] at hh
        have:=congrArg UInt8.toNat hh
        rw [hd] at this
        have h48:(48:UInt8).toNat=48:=rfl
        omega
    · have ih':=ih (u / 10) (by omega)
      rw [Lib.decDigits,dif_neg h]
      have hd:=Gi (u % 10) (by omega)
      refine ⟨?_,by simp,?_,?_⟩
      · intro c hc
        rcases List.mem_append.1 hc with hc|hc
        · exact ih'.1 c hc
        · rw [List.mem_singleton.1 hc]
          unfold GN
          rw [hd]
          exact decide_eq_true (by omega)
      · rw [JX,ih'.2.2.1,hd]
        omega
      · intro hh
        have:(Lib.decDigits (u / 10)++[UInt8.ofNat (48+u % 10)]).head? = (Lib.decDigits (u / 10)).head?:=by
          cases hq:Lib.decDigits (u / 10) with
          | nil=>exact absurd hq ih'.2.1
          | cons a b=>rfl
        rw [this] at hh
        have:=ih'.2.2.2 hh
        omega
theorem TY (u:Nat) (h:u≤9223372036854775808):(Lib.decDigits u).length≤20:=by
  have hp:=xy u u (Nat.le_refl _)
  cases hq:Lib.decDigits u with
  | nil=>simp
  | cons c r =>
    rw [hq] at hp
    by_cases h48:c=48
    · subst h48
      have h0:=hp.2.2.2 rfl
      subst h0
      rw [Lib.decDigits_one (by omega)] at hq
      rw [← hq]
      decide
    · have h1:=MR (r:=r) (hp.1 c (by simp)) h48
      rw [hp.2.2.1] at h1
      rw [List.length_cons]
      rcases Nat.lt_or_ge r.length 19 with h2|h2
      · omega
      · have h3:(10:Nat) ^ 19≤10 ^ r.length:=Nat.pow_le_pow_right (by omega) h2
        rw [WS] at h3
        omega
theorem Bi (n:Int):∃ neg:Bool,Lib.itoa n=(if neg then 45 :: Lib.decDigits n.natAbs else Lib.decDigits n.natAbs)∧sgn neg n.natAbs=n∧(neg=true→n < 0)∧(neg=false→0≤n):=by
  unfold Lib.itoa
  by_cases h:n < 0
  · rw [if_pos h]
    refine ⟨true,rfl,?_,fun _=>h,(fun h=>by cases h)⟩
    unfold sgn
    rw [if_pos rfl]
    omega
  · rw [if_neg h]
    refine ⟨false,?_,?_,(fun h=>by cases h),fun _=>by omega⟩
    · rw [if_neg (by simp),show n.toNat=n.natAbs from by omega]
    · unfold sgn
      rw [if_neg (by simp)]
      omega
theorem zI (n:Int) (h0:-9223372036854775808≤n) (h1:n≤9223372036854775807):qF (Lib.itoa n)=true∧numOf (Lib.itoa n)=(n,0)∧(Lib.itoa n).length≤21:=by
  obtain ⟨neg,hi,hs,hn1,hn2⟩:=Bi n
  have hp:=xy n.natAbs n.natAbs (Nat.le_refl _)
  have hl:=TY n.natAbs (by omega)
  rw [hi]
  have hhead:(Lib.decDigits n.natAbs).head? ≠ some 45:=by
    intro h
    cases hq:Lib.decDigits n.natAbs with
    | nil=>exact hp.2.1 hq
    | cons c r =>
      rw [hq] at h hp
      have:=hp.1 c (by simp)
      simp only [List.head?_cons,Option.some.injEq] at h
      subst h
      exact absurd this (by decide)
  refine ⟨?_,?_,?_⟩
  · rw [Ko]
    cases neg with
    | true =>
      rw [if_pos rfl,BZ]
      refine ⟨hp.2.1,hp.1,fun h=>?_⟩
      have:=hp.2.2.2 h
      have:=hn1 rfl
      omega
    | false =>
      rw [if_neg (by simp),BX _ hhead]
      refine ⟨hp.2.1,hp.1,fun h=>?_⟩
      rw [hp.2.2.2 h,Lib.decDigits_one (by omega)]
      rfl
  · rw [MJ neg _ hp.1 hp.2.1,hp.2.2.1,if_pos,hs]
    unfold IY
    cases neg with
    | true=>rw [if_pos rfl];exact decide_eq_true (by omega)
    | false=>have:=hn2 rfl;rw [if_neg (by simp)];exact decide_eq_true (by omega)
  · cases neg with
    | true=>rw [if_pos rfl,List.length_cons];omega
    | false=>rw [if_neg (by simp)];omega
theorem WV (w:List UInt8) (hw:w.length≤10000):kD.f (Bs w)=some (Vs w):=by
  unfold kD.f Vs
  rw [qm,if_pos (by omega),Ep]
  split <;> rfl
def uK (x:List (List UInt8)):Nat:=(x.map fun w=>w.length+1).sum
def tot (L:List (List (List UInt8))):Nat:=(L.map fun x=>uK x+1).sum
theorem kM (w:List UInt8) (x:List (List UInt8)):uK (w :: x)=w.length+1+uK x:=by simp [uK]
theorem oL (x:List (List UInt8)) (L:List (List (List UInt8))):tot (x :: L)=uK x+1+tot L:=by simp [tot]
theorem MQ (x:List (List UInt8)):x.length≤uK x:=by
  induction x with
  | nil=>simp [uK]
  | cons w r ih=>rw [kM,List.length_cons];omega
theorem IQ (L:List (List (List UInt8))):L.length≤tot L:=by
  induction L with
  | nil=>simp [tot]
  | cons x r ih=>rw [oL,List.length_cons];omega
theorem QA {L:List (List (List UInt8))} {x:List (List UInt8)} (h:x ∈ L):uK x+1≤tot L:=by
  induction L with
  | nil=>cases h
  | cons y r ih =>
    rw [oL]
    rcases List.mem_cons.1 h with rfl|h
    · omega
    · have:=ih h;omega
theorem FO (x:List (List UInt8)):(Lib.joinTail [32] x).length=uK x:=CB x
theorem FP (x:List (List UInt8)):(Lib.join x [32]).length≤uK x:=by
  cases x with
  | nil=>simp [Lib.join_nil]
  | cons w r=>rw [Lib.join_cons,List.length_append,FO,kM];omega
theorem Hy (x:List (List UInt8)) (L:List (List (List UInt8))):joinL (x :: L)=Lib.join x [32]++10 :: joinL L:=by simp [joinL]
theorem Bh (L:List (List (List UInt8))):(joinL L).length≤tot L:=by
  induction L with
  | nil=>simp [joinL]
  | cons x r ih =>
    rw [Hy,oL,List.length_append,List.length_cons]
    have:=FP x
    omega
end Go.Proofs.YtkclndkbccbhaaaDoor.P
end
section
namespace Go.Proofs.YtkclndkbccbhaaaDoor.P
open Go Go.RowKit Go.Proofs.ay.bY Go.Proofs.ay.fJ Go.Proofs.ay.gG
def Be (b:UInt8):Bool:=decide (97≤b.toNat∧b.toNat≤122) || decide (48≤b.toNat∧b.toNat≤57)
def FN (w:List UInt8):Bool:=decide (w.length≤30) && w.all Be
def jQ (s:ByteArray):Bool:=FN s.data.toList
theorem Bd:∀ b:UInt8,([97,98,99,100,101,102,103,104,105,106,107,108,109,110,111,112,113,114,115,116,117,118,119,120,121,122,48,49,50,51,52,53,54,55,56,57]:List UInt8).contains b=Be b:=by
  intro b
  have h:∀ n:Fin 256,([97,98,99,100,101,102,103,104,105,106,107,108,109,110,111,112,113,114,115,116,117,118,119,120,121,122,48,49,50,51,52,53,54,55,56,57]:List UInt8).contains (UInt8.ofNat n.val)=Be (UInt8.ofNat n.val):=by decide +kernel
  have:=h ⟨b.toNat,b.toNat_lt⟩
  simpa using this
theorem QC (w:List UInt8):fH.f (Bs w)=some (FN w):=by
  unfold fH.f FN
  rw [qm]
  by_cases hl:w.length≤30
  · rw [if_pos (by omega)]
    unfold iL.f
    rw [if_pos ⟨by rw [qm];omega,by decide,by decide +kernel⟩]
    simp only [Option.bind_some]
    congr 1
    rw [decide_eq_true hl,Bool.true_and,Bool.eq_iff_iff,beq_iff_eq,ByteArray.toList_eq,List.all_eq_true]
    show Lib.trimS w [97,98,99,100,101,102,103,104,105,106,107,108,109,110,111,112,113,114,115,116,117,118,119,120,121,122,48,49,50,51,52,53,54,55,56,57]=[] ↔ _
    rw [xk]
    constructor
    · intro h x hx
      rw [← Bd]
      exact h x hx
    · intro h x hx
      rw [Bd]
      exact h x hx
  · rw [if_neg (by omega),decide_eq_false hl,Bool.false_and]
theorem Cm (s:ByteArray):fH.f s=some (jQ s):=by
  have h:=QC s.data.toList
  rw [nC] at h
  exact h
def jJ (x:iZ):Bool:=(fO.f x.f0 x.f1 x.f2 x.f3 x.f4).getD false
theorem GZ (a b c d e:Int):∃ r,fO.f a b c d e=some r:=by
  unfold fO.f
  split
  · exact ⟨_,rfl⟩
  · split <;> exact ⟨_,rfl⟩
theorem Qh (x:iZ):fO.f x.f0 x.f1 x.f2 x.f3 x.f4=some (jJ x):=by
  obtain ⟨r,hr⟩:=GZ x.f0 x.f1 x.f2 x.f3 x.f4
  unfold jJ
  rw [hr]
  rfl
theorem AP {x:iZ} (h:jJ x=true):1≤x.f0∧x.f0≤15:=by
  unfold jJ fO.f at h
  split at h
  · cases h
  · split at h
    · cases h
    · omega
def Lr (s:ByteArray):Bool:=decide (s.toList ≠ []) && jQ s
def wC (ts:List ByteArray) (lo gl:ByteArray) (cs:List iZ):Bool:=ts.all Lr && (cs.all jJ && (jQ lo && (jQ gl && decide (cs.length≤200))))
theorem sU (a:List ByteArray) (i:Nat) (h:i < a.length):iD ByteArray.empty a (i:Int)=a[i]:=Qr a i _ (List.getElem?_eq_getElem h)
theorem yw (a:List iZ) (i:Nat) (h:i < a.length):aN a (i:Int)=a[i]:=by
  unfold aN
  rw [Int.toNat_natCast,List.getD_eq_getElem?_getD,List.getElem?_eq_getElem h]
  rfl
theorem Gh {α:Type} (p:α→Bool) (l:List α) (i:Nat) (h:i < l.length):(l.drop i).all p=(p l[i] && (l.drop (i+1)).all p):=by
  rw [List.drop_eq_getElem_cons h,List.all_cons]
theorem MM (ts:List ByteArray) (lo gl:ByteArray) (cs:List iZ) (hc:cs.length≤140737488355328):∀ (d i:Nat),i+d=cs.length →
    Ev (fun k=>dR.l1 k cs ((cs.length:Nat):Int) (i:Int) ts lo gl cs) ((cs.drop i).all jJ && (jQ lo && (jQ gl && decide (cs.length≤200))))
  | 0,i,hi=>by
    refine Ev.step (f:=fun _=>some _) (fun k=>?_) (Ev.now _)
    simp only [dR.l1]
    rw [if_neg (by omega),Cm,Cm,Option.bind_some,List.drop_eq_nil_of_le (by omega)]
    cases jQ lo with
    | false=>rfl
    | true =>
      rw [if_pos rfl,Option.bind_some]
      cases jQ gl with
      | false=>rfl
      | true =>
        rw [if_pos rfl]
        simp
        omega
  | d+1,i,hi=>by
    have hlt:i < cs.length:=by omega
    have ih:=MM ts lo gl cs hc d (i+1) (by omega)
    rw [Gh jJ cs i hlt]
    have Cb:∀ k,dR.l1 (k+1) cs ((cs.length:Nat):Int) (i:Int) ts lo gl cs=if jJ cs[i]=true then dR.l1 k cs ((cs.length:Nat):Int) ((i+1:Nat):Int) ts lo gl cs else some false:=by
      intro k
      conv=>lhs;simp only [dR.l1]
      rw [if_pos (by omega),if_pos (by omega),if_pos (by omega),yw cs i hlt,Qh,Option.bind_some,lK i (by omega)]
    cases hr:jJ cs[i] with
    | true =>
      rw [Bool.true_and]
      exact Ev.step (fun k=>by rw [Cb k,if_pos hr]) ih
    | false =>
      rw [Bool.false_and,Bool.false_and]
      exact Ev.step (f:=fun _=>some _) (fun k=>by rw [Cb k,if_neg (by rw [hr];simp)]) (Ev.now _)
theorem IP (ts:List ByteArray) (lo gl:ByteArray) (cs:List iZ) (ht:ts.length≤140737488355328) (hc:cs.length≤140737488355328):∀ (d i:Nat),i+d=ts.length →
    Ev (fun k=>dR.l0 k ts ((ts.length:Nat):Int) (i:Int) ts lo gl cs) ((ts.drop i).all Lr && (cs.all jJ && (jQ lo && (jQ gl && decide (cs.length≤200)))))
  | 0,i,hi=>by
    have h:=MM ts lo gl cs hc cs.length 0 (Nat.zero_add _)
    rw [List.drop_zero] at h
    rw [List.drop_eq_nil_of_le (by omega),List.all_nil,Bool.true_and]
    refine Ev.step (fun k=>?_) h
    simp only [dR.l0]
    rw [if_neg (by omega)]
    rfl
  | d+1,i,hi=>by
    have hlt:i < ts.length:=by omega
    have ih:=IP ts lo gl cs ht hc d (i+1) (by omega)
    rw [Gh Lr ts i hlt]
    have Cb:∀ k,dR.l0 (k+1) ts ((ts.length:Nat):Int) (i:Int) ts lo gl cs=if Lr ts[i]=true then dR.l0 k ts ((ts.length:Nat):Int) ((i+1:Nat):Int) ts lo gl cs else some false:=by
      intro k
      conv=>lhs;simp only [dR.l0]
      rw [if_pos (by omega),if_pos (by omega),if_pos (by omega),sU ts i hlt,Cm,Option.bind_some,lK i (by omega)]
      unfold Lr
      by_cases e:ts[i].toList=[]
      · rw [if_pos e,if_neg (by simp [e])]
      · rw [if_neg e]
        simp [e]
    cases hr:Lr ts[i] with
    | true =>
      rw [Bool.true_and]
      exact Ev.step (fun k=>by rw [Cb k,if_pos hr]) ih
    | false =>
      rw [Bool.false_and,Bool.false_and]
      exact Ev.step (f:=fun _=>some _) (fun k=>by rw [Cb k,if_neg (by rw [hr];simp)]) (Ev.now _)
theorem QB (ts:List ByteArray) (lo gl:ByteArray) (cs:List iZ) (ht:ts.length≤140737488355328) (hc:cs.length≤140737488355328):Ev (fun k=>dR.f k ts lo gl cs) (wC ts lo gl cs):=by
  have h:=IP ts lo gl cs ht hc ts.length 0 (Nat.zero_add _)
  rw [List.drop_zero] at h
  exact h
def lh (s:ByteArray):ByteArray:=if s.toList=[] then ⟨#[45]⟩ else s
theorem OH (s:ByteArray):jX.f s=some (lh s):=by
  unfold jX.f lh
  split <;> rfl
def Wf (cs:List iZ):Prop:=∀ x ∈ cs,(0≤x.f1∧x.f1≤255)∧(0≤x.f2∧x.f2≤255)∧(0≤x.f3∧x.f3≤255)∧(-9223372036854775808≤x.f4∧x.f4≤9223372036854775807)
def lY (x:iZ):List ByteArray:=qP x.f0.toNat x.f1 x.f2 x.f3 x.f4
theorem PV {x:iZ} (h:jJ x=true) (hw:(0≤x.f1∧x.f1≤255)∧(0≤x.f2∧x.f2≤255)∧(0≤x.f3∧x.f3≤255)∧(-9223372036854775808≤x.f4∧x.f4≤9223372036854775807)):l7.f x.f0 x.f1 x.f2 x.f3 x.f4=some (lY x):=by
  unfold l7.f
  rw [if_pos ⟨AP h,hw⟩]
  rfl
def oq (lo gl:ByteArray):List (List ByteArray):=[[⟨#[108,111,99,97,108,115]⟩,lh lo],[⟨#[103,108,111,98,97,108,115]⟩,lh gl]]
def xK (s:ByteArray):List ByteArray:=[⟨#[116,121,112,101]⟩,s]
def oP (ts:List ByteArray) (lo gl:ByteArray) (cs:List iZ):List (List ByteArray):=ts.map xK++oq lo gl++cs.map lY
def vY (ts:List ByteArray) (lo gl:ByteArray) (cs:List iZ):ByteArray:=Bs (mr (oP ts lo gl cs))
theorem AO {α:Type} (l:List α) (i:Nat) (h:i < l.length):l.take (i+1)=l.take i++[l[i]]:=List.take_succ_eq_append_getElem h
theorem Fg (acc:List (List ByteArray)) (ha:acc.length≤1000002) (cs:List iZ) (hc:cs.length≤1000000) (hr:∀ x ∈ cs,jJ x=true) (hw:Wf cs) (r:ByteArray) (hj:jW.f (acc++cs.map lY)=some r):∀ (d i:Nat),i+d=cs.length →
    Ev (fun k=>aY.l1 k (acc++(cs.take i).map lY) cs ((cs.length:Nat):Int) (i:Int)) (r,0)
  | 0,i,hi=>by
    refine Ev.step (f:=fun _=>some _) (fun k=>?_) (Ev.now _)
    simp only [aY.l1]
    rw [if_neg (by omega),List.take_of_length_le (by omega),hj,Option.bind_some]
  | d+1,i,hi=>by
    have hlt:i < cs.length:=by omega
    have ih:=Fg acc ha cs hc hr hw r hj d (i+1) (by omega)
    refine Ev.step (fun k=>?_) ih
    have hm:cs[i] ∈ cs:=List.getElem_mem hlt
    conv=>lhs;simp only [aY.l1]
    rw [if_pos (by omega),if_pos (by omega),if_pos (by omega),yw cs i hlt,PV (hr _ hm) (hw _ hm),Option.bind_some,if_pos (by simp;omega),lK i (by omega),AO cs i hlt,List.map_append,List.append_assoc]
    rfl
theorem Fh (ts:List ByteArray) (lo gl:ByteArray) (cs:List iZ) (ht:ts.length≤1000000) (hc:cs.length≤1000000) (hr:∀ x ∈ cs,jJ x=true) (hw:Wf cs) (r:ByteArray) (hj:jW.f (oP ts lo gl cs)=some r):∀ (d i:Nat),i+d=ts.length →
    Ev (fun k=>aY.l0 k ((ts.take i).map xK) ts ((ts.length:Nat):Int) (i:Int) ts lo gl cs) (r,0)
  | 0,i,hi=>by
    have h:=Fg (ts.map xK++oq lo gl) (by simp [oq];omega) cs hc hr hw r hj cs.length 0 (Nat.zero_add _)
    rw [List.take_zero,List.map_nil,List.append_nil] at h
    refine Ev.step (fun k=>?_) h
    simp only [aY.l0]
    rw [if_neg (by omega),OH,OH,Option.bind_some,Option.bind_some,Option.bind_some,if_pos (by simp;omega),List.take_of_length_le (by omega)]
    rfl
  | d+1,i,hi=>by
    have hlt:i < ts.length:=by omega
    have ih:=Fh ts lo gl cs ht hc hr hw r hj d (i+1) (by omega)
    refine Ev.step (fun k=>?_) ih
    conv=>lhs;simp only [aY.l0]
    rw [if_pos (by omega),if_pos (by omega),if_pos (by omega),if_pos (by simp;omega),sU ts i hlt,lK i (by omega),AO ts i hlt,List.map_append]
    rfl
theorem MF (ts:List ByteArray) (lo gl:ByteArray) (cs:List iZ) (ht:ts.length≤140737488355328) (hc:cs.length≤140737488355328) (hw:Wf cs) (hj:wC ts lo gl cs=true→ts.length≤1000000∧jW.f (oP ts lo gl cs)=some (vY ts lo gl cs)) :
    Ev (fun k=>aY.f k ts lo gl cs) (if wC ts lo gl cs=true then (vY ts lo gl cs,0) else (⟨#[]⟩,2)):=by
  unfold aY.f
  refine Ev.bind (QB ts lo gl cs ht hc) ?_
  by_cases h:wC ts lo gl cs=true
  · rw [if_pos h]
    have hr:∀ x ∈ cs,jJ x=true:=by
      unfold wC at h
      simp only [Bool.and_eq_true,List.all_eq_true] at h
      exact h.2.1
    have hc2:cs.length≤1000000:=by
      unfold wC at h
      simp only [Bool.and_eq_true,decide_eq_true_eq] at h
      omega
    have h0:=Fh ts lo gl cs (hj h).1 hc2 hr hw _ (hj h).2 ts.length 0 (Nat.zero_add _)
    rw [List.take_zero,List.map_nil] at h0
    have hm:wC ts lo gl cs=true:=h
    rw [hm]
    exact h0
  · have hf:wC ts lo gl cs=false:=by simpa using h
    rw [if_neg h,hf]
    exact Ev.now _
end Go.Proofs.YtkclndkbccbhaaaDoor.P
end
section
namespace Go.Proofs.YtkclndkbccbhaaaDoor.P
open Go.RowKit Go.MapKept Go.MapFrom Go.Proofs.ay.bY Go.Proofs.ay.fJ Go.Proofs.ay.gG
def setArg (ch:Nat) (v:Int) (x:Int × Int × Int × Int):Int × Int × Int × Int :=
  if ch=110 then (x.1,x.2.1,x.2.2.1,v) else if ch=97 then (v,x.2.1,x.2.2.1,x.2.2.2) else if ch=98 then (x.1,v,x.2.2.1,x.2.2.2) else (x.1,x.2.1,v,x.2.2.2)
def lL:List UInt8→List ByteArray→Int × Int × Int × Int→Option (Option (Int × Int × Int × Int))
  | [],_,x=>some (some x)
  | _ :: _,[],_=>none
  | ch :: hs,w :: ws,x=>(kD.f w).bind fun r=>if r.2=0 then (if ch.toNat=110 then lL hs ws (setArg 110 r.1 x) else if 0≤r.1∧r.1≤255 then lL hs ws (setArg ch.toNat r.1 x) else some none) else some none
def AQ (k:Int):Option (Int × Int × Int × Int)→Int × Int × Int × Int × Int × Bool
  | none=>(0,0,0,0,0,false)
  | some x=>(k,x.1,x.2.1,x.2.2.1,x.2.2.2,true)
def zq:Nat→Nat→List ByteArray→Option (Int × Int × Int × Int × Int × Bool)
  | 0,_,_=>some (0,0,0,0,0,false)
  | d+1,k,l=>if k=0 ∨ (nameOf k).toList ≠ (iD ByteArray.empty l 0).toList ∨ l.length ≠ (mJ k).size+1 then zq d (k+1) l else (lL (mJ k).data.toList l.tail (0,0,0,0)).map (AQ k)
def mD.f (l:List ByteArray):Option (Int × Int × Int × Int × Int × Bool):=if 0 < l.length then zq 16 0 l else none
def vw (bi:Nat):Nat→Array MapEntry
  | 0=>#[]
  | 1=>#[⟨.int .i32 97,.pointer (some ⟨bi,1,none⟩),0⟩]
  | 2=>#[⟨.int .i32 97,.pointer (some ⟨bi,1,none⟩),0⟩,⟨.int .i32 98,.pointer (some ⟨bi,2,none⟩),1⟩]
  | _=>#[⟨.int .i32 97,.pointer (some ⟨bi,1,none⟩),0⟩,⟨.int .i32 98,.pointer (some ⟨bi,2,none⟩),1⟩,⟨.int .i32 99,.pointer (some ⟨bi,3,none⟩),2⟩]
def mG (w:World) (b:Nat) (o:Obj):World:={ w with heap:=w.heap.setIfInBounds b o }
theorem CE (W:World) (bm bi j:Nat) (x:Int) (hx:x=((97+j:Nat):Int)) (hj:j < 3) (hm:W.heap[bm]? = some (.map (vw bi j) j)) :
    (Instr.mapUpdate 76 (.map (some bm)) (.int .i32 x) (.pointer (some ⟨bi,1+j,none⟩))).run Tryd.prog W=.ok () (mG W bm (.map (vw bi (j+1)) (j+1))):=by
  have hu:Tryd.prog.underlying 76=some (.map 21 75):=by kernel_rfl
  have hk:Tryd.prog.underlying 21=some (.int .i32):=by kernel_rfl
  have hkey:IsKey (.int .i32) (.int .i32 x):=rfl
  have h1:Instr.findNow (.int .i32) (.int .i32 x) (vw bi j).toList 0=some none:=by
    obtain rfl|rfl|rfl:j=0 ∨ j=1 ∨ j=2:=by omega
    all_goals (subst hx;rfl)
  have h2:(vw bi j).push ⟨.int .i32 x,.pointer (some ⟨bi,1+j,none⟩),j⟩=vw bi (j+1):=by
    obtain rfl|rfl|rfl:j=0 ∨ j=1 ∨ j=2:=by omega
    all_goals (subst hx;rfl)
  simp [Instr.mapUpdate,run_underlying hu,MapKept.run_getObj_map hm,run_checkKey hk hkey,run_findKey hk h1,MapKept.run_setObj_map _ hm,Result.andThen,h2,mG]
theorem zD (W:World) (bm bi j:Nat) (x:Int) (hx:x=((97+j:Nat):Int)) (hj:j < 3) (hm:W.heap[bm]? = some (.map (vw bi 3) 3)) :
    (Instr.lookup 76 (.map (some bm)) (.int .i32 x) false).run Tryd.prog W=.ok (.pointer (some ⟨bi,1+j,none⟩)) W:=by
  have hu:Tryd.prog.underlying 76=some (.map 21 75):=by kernel_rfl
  have hk:Tryd.prog.underlying 21=some (.int .i32):=by kernel_rfl
  have hkey:IsKey (.int .i32) (.int .i32 x):=rfl
  have h1:Instr.findNow (.int .i32) (.int .i32 x) (vw bi 3).toList 0=some (some (j,.pointer (some ⟨bi,1+j,none⟩))):=by
    obtain rfl|rfl|rfl:j=0 ∨ j=1 ∨ j=2:=by omega
    all_goals (subst hx;rfl)
  simp [Instr.lookup,run_underlying hu,MapKept.run_getObj_map hm,run_checkKey hk hkey,run_findKey hk h1,Result.andThen]
theorem Kv (k:Nat) (hk:k < 16) (w:World):(Instr.index 58 (.agg (opsL.map Value.string).toArray) (.int .i64 k)).run Tryd.prog w=.ok (.agg #[.string (nameOf k),.string (mJ k)]) w:=by
  have hu:Tryd.prog.underlying 58=some (.array 16 57):=by kernel_rfl
  have hs:(sizeOf 57).run Tryd.prog w=.ok 2 w:=by simp [go_sem]
  have ha:(isAgg 57).run Tryd.prog w=.ok true w:=by simp [go_sem]
  have he:(List.take 2 (List.drop (k * 2) (List.map Value.string opsL))).toArray=#[.string (nameOf k),.string (mJ k)]:=by
    obtain rfl|rfl|rfl|rfl|rfl|rfl|rfl|rfl|rfl|rfl|rfl|rfl|rfl|rfl|rfl|rfl:k=0 ∨ k=1 ∨ k=2 ∨ k=3 ∨ k=4 ∨ k=5 ∨ k=6 ∨ k=7 ∨ k=8 ∨ k=9 ∨ k=10 ∨ k=11 ∨ k=12 ∨ k=13 ∨ k=14 ∨ k=15:=by omega
    all_goals rfl
  simp [Instr.index,run_underlying hu,asIntOf,Result.andThen,part,hs,ha]
  rw [if_pos hk,he]
theorem H6:∀ o:Nat,1≤o→o≤15→∀ ch ∈ (mJ o).data.toList,ch.toNat=97 ∨ ch.toNat=98 ∨ ch.toNat=99 ∨ ch.toNat=110:=by
  intro o h1 h2
  obtain rfl|rfl|rfl|rfl|rfl|rfl|rfl|rfl|rfl|rfl|rfl|rfl|rfl|rfl|rfl:o=1 ∨ o=2 ∨ o=3 ∨ o=4 ∨ o=5 ∨ o=6 ∨ o=7 ∨ o=8 ∨ o=9 ∨ o=10 ∨ o=11 ∨ o=12 ∨ o=13 ∨ o=14 ∨ o=15:=by omega
  all_goals decide
structure U0 (G:Nat) (w0 w:World):Prop where
  bk:w.heap[G]? = some (.cells #[.int .u8 0,.int .u8 0,.int .u8 0,.int .u8 0,.int .i64 0] 35 (0,0))
  bel:Below G w0 w
structure Au (G bi bm it pos:Nat) (hs:ByteArray) (k:Int) (x:Int × Int × Int × Int) (w0 w:World):Prop where
  bk:w.heap[G]? = some (.cells #[.int .u8 0,.int .u8 0,.int .u8 0,.int .u8 0,.int .i64 0] 35 (0,0))
  ins:w.heap[bi]? = some (.cells #[.int .u8 k,.int .u8 x.1,.int .u8 x.2.1,.int .u8 x.2.2.1,.int .i64 x.2.2.2] 35 (0,0))
  map:w.heap[bm]? = some (.map (vw bi 3) 3)
  iter:w.heap[it]? = some (.stringIter hs pos)
  bel:Below G w0 w
  lo:G < bi∧bi < bm∧bm < it
section
variable {G bi bm it pos:Nat} {hs:ByteArray} {k:Int} {x:Int × Int × Int × Int} {w0 w w1:World}
theorem fB {w:World} {j:Nat} {o:Obj} (h:w.heap[j]? = some o):j < w.heap.size:=(Array.getElem?_eq_some_iff.1 h).1
theorem U0.below (h:U0 G w0 w) (hb:Below w.heap.size w w1):U0 G w0 w1:=⟨(hb.block G (fB h.bk)).trans h.bk,h.bel.trans (hb.mono (Nat.le_of_lt (fB h.bk)))⟩
theorem Au.below (h:Au G bi bm it pos hs k x w0 w) (hb:Below w.heap.size w w1):Au G bi bm it pos hs k x w0 w1 :=
  ⟨(hb.block G (fB h.bk)).trans h.bk,(hb.block bi (fB h.ins)).trans h.ins,(hb.block bm (fB h.map)).trans h.map,(hb.block it (fB h.iter)).trans h.iter,h.bel.trans (hb.mono (Nat.le_of_lt (fB h.bk))),h.lo⟩
theorem Au.drewN (h:Au G bi bm it pos hs k x w0 w) (n:Nat):Au G bi bm it pos hs k x w0 (w.drewN n):=h.below (ae (Below.refl _ _) n)
theorem Au.next (h:Au G bi bm it pos hs k x w0 w) (pos':Nat):Au G bi bm it pos' hs k x w0 (w.iterAt it hs pos'):=by
  have far:∀ j,j ≠ it→(w.iterAt it hs pos').heap[j]? = w.heap[j]?:=fun j hj=>Lib.iterAt_other w it j hs pos' hj
  have hl:=h.lo
  exact ⟨(far G (by omega)).trans h.bk,(far bi (by omega)).trans h.ins,(far bm (by omega)).trans h.map,Lib.iterAt_heap w it hs pos pos' h.iter,Lib.below_iterAt h.bel (by omega) hs pos',h.lo⟩
theorem Au.cell (h:Au G bi bm it pos hs k x w0 w) (j:Nat):w.cell? ⟨bi,j,none⟩=(#[.int .u8 k,.int .u8 x.1,.int .u8 x.2.1,.int .u8 x.2.2.1,.int .i64 x.2.2.2]:Array Value)[j]?:=by simp [World.cell?,h.ins]
theorem Au.fr (h:Au G bi bm it pos hs k x w0 w) (j:Nat):w.frozen? ⟨bi,j,none⟩=false:=by simp [World.frozen?,h.ins]
theorem Au.zero (h:Au G bi bm it pos hs k x w0 w) (j:Nat):w.cell? ⟨G,j,none⟩=(#[.int .u8 0,.int .u8 0,.int .u8 0,.int .u8 0,.int .i64 0]:Array Value)[j]?:=by simp [World.cell?,h.bk]
theorem Au.set (h:Au G bi bm it pos hs k x w0 w) (j:Nat) (v:Value) (x':Int × Int × Int × Int) (e:(#[.int .u8 k,.int .u8 x.1,.int .u8 x.2.1,.int .u8 x.2.2.1,.int .i64 x.2.2.2]:Array Value).setIfInBounds j v=#[.int .u8 k,.int .u8 x'.1,.int .u8 x'.2.1,.int .u8 x'.2.2.1,.int .i64 x'.2.2.2]):Au G bi bm it pos hs k x' w0 (w.setCell ⟨bi,j,none⟩ v):=by
  have hl:=h.lo
  have far:∀ i,i ≠ bi→(w.setCell ⟨bi,j,none⟩ v).heap[i]? = w.heap[i]?:=fun i hi=>Below.heap_setCell w ⟨bi,j,none⟩ v i hi
  refine ⟨(far G (by omega)).trans h.bk,?_,(far bm (by omega)).trans h.map,(far it (by omega)).trans h.iter,h.bel.setCell (p:=⟨bi,j,none⟩) (by show G≤bi;omega) v,h.lo⟩
  rw [← e]
  exact JI h.ins j v
end
theorem gz {w:World} {g t:Nat} {old:Array Value} (hg:w.heap[g]? = some (.cells old t (0,0))) (cs:Array Value):(w.setRow g cs).heap[g]? = some (.cells cs t (0,0)):=by
  simp [World.setRow,Array.getElem?_modify,hg]
theorem nH {w:World} {g:Nat} (cs:Array Value) (k:Nat) (hk:k ≠ g):(w.setRow g cs).heap[k]? = w.heap[k]?:=by
  simp only [World.setRow,Array.getElem?_modify]
  rw [if_neg (by omega)]
theorem fA {B g:Nat} {w0 w:World} (hb:Below B w0 w) (hBg:B≤g) (cs:Array Value):Below B w0 (w.setRow g cs) :=
  hb.trans ⟨rfl,rfl,rfl,by simp [World.setRow],fun k hk=>nH cs k (by omega)⟩
theorem KT (s:ByteArray) (pos:Nat) (h:pos < s.size):s.data.toList.drop pos=(s[pos]'h) :: s.data.toList.drop (pos+1):=by
  have hl:pos < s.data.toList.length:=by simpa using h
  rw [List.drop_eq_getElem_cons hl]
  rfl
theorem xn {w:World} {b:Nat} {o o':Obj} (h:w.heap[b]? = some o):(mG w b o').heap[b]? = some o':=by
  simp [mG,(Array.getElem?_eq_some_iff.1 h).1]
theorem qU {w:World} {b:Nat} {o':Obj} (j:Nat) (h:j ≠ b):(mG w b o').heap[j]? = w.heap[j]?:=by simp [mG,Ne.symm h]
theorem qV {B b:Nat} {w0 w:World} {o':Obj} (hb:Below B w0 w) (hBb:B≤b):Below B w0 (mG w b o') :=
  ⟨hb.os,hb.tape,hb.output,by simp [mG];exact hb.size,fun k hk=>(qU k (by omega)).trans (hb.block k hk)⟩
set_option maxRecDepth 100000 in
set_option maxHeartbeats 6400000 in
theorem mD.calls (A0:Option Addr) (c0:Nat) (l0:List ByteArray) (r1 r2 r3 r4 r5:Int) (r6:Bool) (w:World) (hr0:Kd.C Kd.string w A0 l0.length l0) (jC:Kd.C sQ w sS kX.length kX) (h:mD.f l0=some (r1,r2,r3,r4,r5,r6)) :
    Calls Tryd.prog 20 #[.slice A0 l0.length c0] w fun e w'=>e=.returned (.tuple #[.agg #[.int .u8 r1,.int .u8 r2,.int .u8 r3,.int .u8 r4,.int .i64 r5],.bool r6])∧Below w.heap.size w w':=by
  unfold mD.f at h
  by_cases hl0:0 < l0.length
  case neg =>
    rw [if_neg hl0] at h
    cases h
  rw [if_pos hl0] at h
  obtain ⟨ad,e0,hx0⟩:=Kd.ik hr0 0 (by omega) (by omega)
  subst e0
  rw [show (0:Int).toNat=0 from rfl,Addr.add_zero'] at hx0
  obtain ⟨Wp,hl00⟩:∃ x,iD ByteArray.empty l0 0=x:=⟨_,rfl⟩
  rw [hl00] at hx0
  have Xf:=World.block_lt_of_cell? w _ hx0
  obtain ⟨arr,harr⟩:∃ arr,(opsL.map Value.string).toArray=arr:=⟨_,rfl⟩
  have HIX:=af.mk Kv
  rw [harr] at HIX
  have hT:=(sO jC).ops
  have hrange:∀ W:World,Kd.C Kd.string W qw opsL.length opsL→W.rangeAt 0 0 arr.toList:=by
    intro W hW j v hv
    rw [← harr] at hv
    simp only [List.getElem?_map,List.toList_toArray] at hv
    obtain ⟨x,hx,rfl⟩:=Option.map_eq_some_iff.1 hv
    have hj:=(List.getElem?_eq_some_iff.1 hx).1
    rw [Nat.zero_add,vZ hW j (by have:opsL.length=32:=rfl;omega),List.getD_eq_getElem?_getD,hx]
    rfl
  have afq:arr.toList.length=32:=by rw [← harr];rfl
  obtain ⟨G,hG⟩:∃ G,w.heap.size=G:=⟨_,rfl⟩
  obtain ⟨w1,hw1⟩:∃ w1,w.alloc (.cells #[.int .u8 0,.int .u8 0,.int .u8 0,.int .u8 0,.int .i64 0] 35)=w1:=⟨_,rfl⟩
  have hB1:Below G w w1:=by rw [← hw1,← hG];exact (Below.refl _ w).alloc (Nat.le_refl _) _
  have hk1:w1.heap[G]? = some (.cells #[.int .u8 0,.int .u8 0,.int .u8 0,.int .u8 0,.int .i64 0] 35 (0,0)):=by rw [← hw1,← hG];exact heap_alloc_new w _
  have HRG:=Lib.hid (hrange w1 (Kd.bP hT (by rw [hG];exact hB1)))
  have HO:=af.mk (show U0 G w w1 from ⟨hk1,hB1⟩)
  have HR:=af.mk hr0
  have HT:=af.mk jC
  have HH:=af.mk h
  have HL:=Lib.hid hl0
  have HX0:=Lib.hid hx0
  have ZZ:=Lib.hid (show ad.block < G by rw [← hG];exact Xf)
  have hlen0:(0 < l0.length)=True:=eq_true hl0
  clear h jC hT hrange hr0 hB1 hk1 hx0 Xf hl0
  go_enter Tryd.func20,Tryd.ntmps20
  go_wp2_with (first|((with_reducible refine dX (N:=12) rfl ?_);refine wpList_load_mid rfl 58 (.global 0) rfl 0 0 rfl arr.toList _ HRG.out Tryd.underlying58 rfl (by rw [afq];kernel_rfl) ?_;rw [Array.toArray_toList]))
  clear hw1
  go_loopg [13] 16 (fun kq v wr=>∃ (k:Nat),kq+k=16∧v=.int .i64 k∧af (zq kq k l0=some (r1,r2,r3,r4,r5,r6))∧af (U0 G w wr))
  case atStart=>exact ⟨0,rfl,rfl,HH,HO⟩
  case round =>
  clear HH HO HRG
  obtain ⟨k,hkq,rfl,HH,HX⟩:=hrel
  cases gk with
  | zero =>
    have hd0:decide ((k:Int) < 16)=false:=decide_eq_false (by omega)
    have hH:=HH.out
    rw [zq] at hH
    injection hH with hH
    simp only [Prod.mk.injEq] at hH
    obtain ⟨rfl,rfl,rfl,rfl,rfl,rfl⟩:=hH
    clear HH
    have kG:=HX.out.bk
    have kz:=gz kG #[.int .u8 0,.int .u8 0,.int .u8 0,.int .u8 0,.int .i64 0]
    have uO:=af.mk (fA HX.out.bel (Nat.le_refl G) #[.int .u8 0,.int .u8 0,.int .u8 0,.int .u8 0,.int .i64 0])
    have KZ:=af.mk kz
    clear HX kz
    go_wp2_with (skip;refine wpList_store_row rfl 35 (.tmp 2) (.tmp 87) rfl G (#[.int .u8 0,.int .u8 0,.int .u8 0,.int .u8 0,.int .i64 0]) rfl rfl 35 _ kG (by kernel_rfl) rfl (by simp [Value.oneCell']) ?_)
    (try simp only [Exit.inBlock,Exit.then])
    refine bodyPost_ret (qW rfl _ _ G 35 #[.int .u8 0,.int .u8 0,.int .u8 0,.int .u8 0,.int .i64 0] (0,0) _ rfl KZ.out Tryd.underlying35 rfl (by kernel_rfl)) rfl ?_
    exact ⟨rfl,by have q:=uO.out;first|exact q|(rw [hG];exact q)⟩
  | succ ng =>
  have hd0:decide ((k:Int) < 16)=true:=decide_eq_true (by omega)
  have afh:k < 16:=by omega
  have hix:=HIX.out k afh
  obtain ⟨nm,hnm⟩:∃ nm,nameOf k=nm:=⟨_,rfl⟩
  obtain ⟨hs,Nk⟩:∃ hs,mJ k=hs:=⟨_,rfl⟩
  rw [hnm,Nk] at hix
  obtain ⟨b5,hb5⟩:∃ b,wr.heap.size=b:=⟨_,rfl⟩
  obtain ⟨Wa,hWa⟩:∃ Wa,wr.alloc (.cells #[.string ⟨#[]⟩,.string ⟨#[]⟩] 57)=Wa:=⟨_,rfl⟩
  have hzb:Wa.heap[b5]? = some (.cells #[.string ⟨#[]⟩,.string ⟨#[]⟩] 57 (0,0)):=by rw [← hWa,← hb5];exact heap_alloc_new wr _
  have hGb:G < b5:=by rw [← hb5];exact fB HX.out.bk
  have hBr:Below wr.heap.size wr (Wa.setRow b5 #[.string nm,.string hs]):=fA (by rw [← hWa];exact (Below.refl _ wr).alloc (Nat.le_refl _) _) (by omega) _
  have HY:=af.mk (HX.out.below hBr)
  have GH:=af.mk (gz hzb #[.string nm,.string hs])
  clear HX hBr
  go_upto_region 4 with (first|(skip;refine wpList_store_row rfl 57 (.tmp 5) (.tmp 16) rfl b5 (#[.string nm,.string hs]) rfl rfl 57 _ hzb (by kernel_rfl) rfl (by simp [Value.oneCell']) ?_))
  clear hzb hWa hb5 hix
  change Code.wp _ _ _ _ (Wa.setRow b5 #[.string nm,.string hs])
  generalize Wa.setRow b5 #[.string nm,.string hs]=Wm at HY GH ⊢
  have n0:Wm.cell? ⟨b5,0,none⟩=some (.string nm):=by simp [World.cell?,GH.out]
  have n1:Wm.cell? ⟨b5,1,none⟩=some (.string hs):=by simp [World.cell?,GH.out]
  have m0:Wm.cell? ad=some (.string Wp):=(HY.out.bel.cell ZZ.out).trans HX0.out
  have hsz3:hs.size≤3:=by
    by_cases h0:k=0
    · rw [← Nk,h0];decide
    · rw [← Nk];exact (xQ k (by omega) (by omega)).1
  obtain ⟨z1,hz1⟩:∃ z:Int,z=(hs.size:Int)+1:=⟨_,rfl⟩
  have hw1:IntKind.i64.wrap ((hs.size:Int)+1)=z1:=by rw [hz1];exact IntWalk.i64_in _ (by omega)
  have hH:=HH.out
  rw [zq,hnm,Nk,hl00] at hH
  clear HH
  by_cases hk0:k=0
  case pos =>
    rw [if_pos (.inl hk0)] at hH
    have g0:((k:Int) == 0)=true:=beq_iff_eq.2 (by omega)
    have HH:=af.mk hH
    clear hH
    go_quiet (fail)
    rename_i nq
    have HX:=af.mk (show U0 G w (Wm.drewN nq) from HY.out.below (ae (Below.refl _ _) nq))
    clear HY GH n0 n1 m0
    have e3:=Lib.hid (show wrap64 ((k:Int)+1)=((k+1:Nat):Int) by unfold wrap64;omega)
    go_wp2
    go_roundg ng
    case measure=>omega
    case rel=>exact ⟨k+1,by omega,by first|rfl|rw [e3.out]|(simp;omega),HH,HX⟩
  have g0:((k:Int) == 0)=false:=beq_eq_false_iff_ne.2 (by omega)
  by_cases hnn:nm.toList=Wp.toList
  case neg =>
    rw [if_pos (.inr (.inl hnn))] at hH
    have g1:(nm.toList == Wp.toList)=false:=beq_eq_false_iff_ne.2 hnn
    have g2:(nm.toList != Wp.toList)=true:=by simp [hnn]
    have HH:=af.mk hH
    clear hH hnn
    go_quiet (fail)
    rename_i nq
    have HX:=af.mk (show U0 G w (Wm.drewN nq) from HY.out.below (ae (Below.refl _ _) nq))
    clear HY GH n0 n1 m0
    have e3:=Lib.hid (show wrap64 ((k:Int)+1)=((k+1:Nat):Int) by unfold wrap64;omega)
    go_wp2
    go_roundg ng
    case measure=>omega
    case rel=>exact ⟨k+1,by omega,by first|rfl|rw [e3.out]|(simp;omega),HH,HX⟩
  have g1:(nm.toList == Wp.toList)=true:=beq_iff_eq.2 hnn
  have g2:(nm.toList != Wp.toList)=false:=by simp [hnn]
  by_cases hll:l0.length=hs.size+1
  case neg =>
    rw [if_pos (.inr (.inr hll))] at hH
    have g3:((l0.length:Int) == z1)=false:=beq_eq_false_iff_ne.2 (by omega)
    have g4:((l0.length:Int) != z1)=true:=by simp;omega
    have HH:=af.mk hH
    clear hH hnn hll hz1
    go_quiet (fail)
    rename_i nq
    have HX:=af.mk (show U0 G w (Wm.drewN nq) from HY.out.below (ae (Below.refl _ _) nq))
    clear HY GH n0 n1 m0
    have e3:=Lib.hid (show wrap64 ((k:Int)+1)=((k+1:Nat):Int) by unfold wrap64;omega)
    go_wp2
    go_roundg ng
    case measure=>omega
    case rel=>exact ⟨k+1,by omega,by first|rfl|rw [e3.out]|(simp;omega),HH,HX⟩
  rw [if_neg (by simp [hk0,hnn,hll])] at hH
  obtain ⟨r0,hra,hrr⟩:=Option.map_eq_some_iff.1 hH
  have g3:((l0.length:Int) == z1)=true:=beq_iff_eq.2 (by omega)
  have g4:((l0.length:Int) != z1)=false:=by simp;omega
  have HRA:=af.mk hra
  have HRR:=af.mk hrr
  have Z4:=Lib.hid (show l0.length=hs.size+1∧hs.size≤3∧1≤k∧k≤15 from ⟨hll,hsz3,by omega,by omega⟩)
  have HHS:=Lib.hid Nk
  clear hH hra hrr hnn hk0 hsz3
  go_quiet (fail)
  rename_i nq
  have hbq:Below Wm.heap.size Wm (Wm.drewN nq):=ae (Below.refl _ _) nq
  have HX:=af.mk (HY.out.below hbq)
  have HB6:=af.mk ((hbq.block b5 (fB GH.out)).trans GH.out)
  clear HY GH n0 n1 m0 g0 g1 g2 g3 g4 hll hw1 hz1 hbq hnm Nk
  generalize Wm.drewN nq=Wq at HX HB6 ⊢
  obtain ⟨bi,hbi⟩:∃ b,Wq.heap.size=b:=⟨_,rfl⟩
  obtain ⟨Wb,hWb⟩:∃ Wb,Wq.alloc (.cells #[.int .u8 0,.int .u8 0,.int .u8 0,.int .u8 0,.int .i64 0] 35)=Wb:=⟨_,rfl⟩
  have hzi:Wb.heap[bi]? = some (.cells #[.int .u8 0,.int .u8 0,.int .u8 0,.int .u8 0,.int .i64 0] 35 (0,0)):=by rw [← hWb,← hbi];exact heap_alloc_new Wq _
  have hku:IntKind.u8.wrap (k:Int)=k:=IntWalk.u8_in _ (by omega)
  have h5i:b5 < bi:=by rw [← hbi];exact fB HB6.out
  have hBr:Below Wq.heap.size Wq (Wb.setRow bi #[.int .u8 k,.int .u8 0,.int .u8 0,.int .u8 0,.int .i64 0]):=fA (by rw [← hWb];exact (Below.refl _ Wq).alloc (Nat.le_refl _) _) (by omega) _
  have HY:=af.mk (HX.out.below hBr)
  have GH:=af.mk ((hBr.block b5 (by omega)).trans HB6.out)
  have HBI:=af.mk (gz hzi #[.int .u8 k,.int .u8 0,.int .u8 0,.int .u8 0,.int .i64 0])
  clear HX HB6 hBr
  go_upto_region 6 with (first|(skip;refine wpList_store_row rfl 35 (.tmp 6) (.tmp 38) rfl bi (#[.int .u8 k,.int .u8 0,.int .u8 0,.int .u8 0,.int .i64 0]) rfl rfl 35 _ hzi (by kernel_rfl) rfl (by simp [Value.oneCell']) ?_))
  clear hzi hWb hbi
  change Code.wp _ _ _ _ (Wb.setRow bi #[.int .u8 k,.int .u8 0,.int .u8 0,.int .u8 0,.int .i64 0])
  generalize Wb.setRow bi #[.int .u8 k,.int .u8 0,.int .u8 0,.int .u8 0,.int .i64 0]=Wc at HY GH HBI ⊢
  obtain ⟨bm,hbm⟩:∃ b,Wc.heap.size=b:=⟨_,rfl⟩
  have him:bi < bm:=by rw [← hbm];exact fB HBI.out
  obtain ⟨V0,hV0⟩:∃ V,Wc.alloc (.map #[] 0)=V:=⟨_,rfl⟩
  have hm0:V0.heap[bm]? = some (.map (vw bi 0) 0):=by rw [← hV0,← hbm];exact heap_alloc_new Wc _
  obtain ⟨V1,hV1⟩:∃ V,mG V0 bm (.map (vw bi (0+1)) (0+1))=V:=⟨_,rfl⟩
  have hi1:=CE V0 bm bi 0 97 rfl (by decide) hm0
  rw [hV1,Nat.add_zero] at hi1
  have hm1:V1.heap[bm]? = some (.map (vw bi 1) 1):=by rw [← hV1];exact xn hm0
  obtain ⟨V2,hV2⟩:∃ V,mG V1 bm (.map (vw bi (1+1)) (1+1))=V:=⟨_,rfl⟩
  have hi2:=CE V1 bm bi 1 98 rfl (by decide) hm1
  rw [hV2,show 1+1=2 from rfl] at hi2
  have hm2:V2.heap[bm]? = some (.map (vw bi 2) 2):=by rw [← hV2];exact xn hm1
  obtain ⟨V3,YF⟩:∃ V,mG V2 bm (.map (vw bi (2+1)) (2+1))=V:=⟨_,rfl⟩
  have hi3:=CE V2 bm bi 2 99 rfl (by decide) hm2
  rw [YF,show 1+2=3 from rfl] at hi3
  have hm3:V3.heap[bm]? = some (.map (vw bi 3) 3):=by rw [← YF];exact xn hm2
  have RU:∀ j,j < bm→V3.heap[j]? = Wc.heap[j]?:=fun j hj=>by
    rw [← YF,qU j (by omega),← hV2,qU j (by omega),← hV1,qU j (by omega),← hV0]
    exact Below.heap_alloc Wc _ j (by omega)
  have UN:Below G w V3:=by
    rw [← YF]
    refine qV ?_ (by omega)
    rw [← hV2]
    refine qV ?_ (by omega)
    rw [← hV1]
    refine qV ?_ (by omega)
    rw [← hV0]
    exact HY.out.bel.alloc (by omega) _
  have hn1:V3.cell? ⟨b5,1,none⟩=some (.string hs):=by simp [World.cell?,(RU b5 (by omega)).trans GH.out]
  obtain ⟨it,hit⟩:∃ b,V3.heap.size=b:=⟨_,rfl⟩
  obtain ⟨V4,hV4⟩:∃ V,V3.iter hs 0=V:=⟨_,rfl⟩
  have hmt:bm < it:=by rw [← hit];exact fB hm3
  have hup:∀ j,j < it→V4.heap[j]? = V3.heap[j]?:=fun j hj=>by rw [← hV4];exact Below.heap_alloc V3 _ j (by omega)
  have HI:=af.mk (show Au G bi bm it 0 hs k (0,0,0,0) w V4 from ⟨(hup G (by omega)).trans ((RU G (by omega)).trans HY.out.bk),(hup bi (by omega)).trans ((RU bi him).trans HBI.out),(hup bm hmt).trans hm3,by rw [← hV4,← hit];exact World.iter_heap V3 hs 0,by rw [← hV4];exact UN.alloc (by omega) _,by omega,by omega,by omega⟩)
  have hmm:=@run_makeMap Tryd.prog
  clear HY GH HBI hm0 hm1 hm2 hm3 RU UN hup him hmt h5i hGb hV1 hV2 YF
  go_wp2
  clear hi1 hi2 hi3 hn1 hbm hV0 hit hV4 hmm
  have HRB:=af.mk (show lL (hs.data.toList.drop 0) (l0.drop (0+1)) (0,0,0,0)=some r0 from by rw [List.drop_zero,Nat.zero_add,List.drop_one,← HHS.out];rw [HHS.out];exact HRA.out)
  go_loopg [] hs.size (fun kq wr=>∃ (pos:Nat) (x:Int × Int × Int × Int),kq+pos=hs.size∧af (lL (hs.data.toList.drop pos) (l0.drop (pos+1)) x=some r0)∧af (Au G bi bm it pos hs k x w wr))
  case atStart=>exact ⟨0,(0,0,0,0),Nat.add_zero _,HRB,HI⟩
  case round =>
  clear HRA HRB HI
  obtain ⟨pos,x,hpk,HA,HX⟩:=hrel
  by_cases hp:pos < hs.size
  case neg =>
    have hnx:∀ ty,(Instr.next (.pointer (some ⟨it,0,none⟩)) true ty).run Tryd.prog wr=.ok (.tuple #[.bool false]) wr:=fun ty=>Lib.run_next_end_at wr it hs pos ty HX.out.iter hp
    have hA:=HA.out
    rw [List.drop_eq_nil_of_le (by simp;omega),lL] at hA
    have hr0:=(Option.some.inj hA).symm
    have hrr:=HRR.out
    rw [hr0] at hrr
    simp only [AQ,Prod.mk.injEq] at hrr
    obtain ⟨rfl,rfl,rfl,rfl,rfl,rfl⟩:=hrr
    have kI:=HX.out.ins
    have kG:=HX.out.bk
    have KZ:=af.mk (gz kG #[.int .u8 k,.int .u8 x.1,.int .u8 x.2.1,.int .u8 x.2.2.1,.int .i64 x.2.2.2])
    have uO:=af.mk (fA HX.out.bel (Nat.le_refl G) #[.int .u8 k,.int .u8 x.1,.int .u8 x.2.1,.int .u8 x.2.2.1,.int .i64 x.2.2.2])
    clear HX HA HRR hA hr0 hp hpk
    go_wp2_with (first|((with_reducible refine dX (N:=85) rfl ?_);refine wpList_load_row rfl 35 (.tmp 6) rfl bi rfl 35 (#[.int .u8 k,.int .u8 x.1,.int .u8 x.2.1,.int .u8 x.2.2.1,.int .i64 x.2.2.2]) (0,0) _ kI Tryd.underlying35 rfl (by kernel_rfl) ?_)|(skip;refine wpList_store_row rfl 35 (.tmp 2) (.tmp 85) rfl G (#[.int .u8 k,.int .u8 x.1,.int .u8 x.2.1,.int .u8 x.2.2.1,.int .i64 x.2.2.2]) rfl rfl 35 _ kG (by kernel_rfl) rfl (by simp [Value.oneCell']) ?_))
    (try simp only [Exit.inBlock,Exit.then])
    refine bodyPost_ret (qW rfl _ _ G 35 #[.int .u8 k,.int .u8 x.1,.int .u8 x.2.1,.int .u8 x.2.2.1,.int .i64 x.2.2.2] (0,0) _ rfl KZ.out Tryd.underlying35 rfl (by kernel_rfl)) rfl ?_
    exact ⟨rfl,by have q:=uO.out;first|exact q|(rw [hG];exact q)⟩
  have N9:=H6 k Z4.out.2.2.1 Z4.out.2.2.2 (hs[pos]'hp) (by rw [HHS.out];simp [ByteArray.getElem_eq_getElem_data])
  obtain ⟨ch,hch⟩:∃ c:Nat,(hs[pos]'hp).toNat=c:=⟨_,rfl⟩
  rw [hch] at N9
  obtain ⟨Wn,VG⟩:∃ Wn,wr.iterAt it hs (pos+1)=Wn:=⟨_,rfl⟩
  have hnx:∀ ty,(Instr.next (.pointer (some ⟨it,0,none⟩)) true ty).run Tryd.prog wr=.ok (.tuple #[.bool true,.int .i64 pos,.int .i32 ch]) Wn:=fun ty=>by rw [← VG,← hch];exact Lib.run_next_ascii_at wr it hs pos ty HX.out.iter hp (by omega)
  replace HX:=af.mk (show Au G bi bm it (pos+1) hs k x w Wn from by rw [← VG];exact HX.out.next (pos+1))
  obtain ⟨z,hz⟩:∃ z:Int,z=(pos:Int)+1:=⟨_,rfl⟩
  have hpl:pos+1 < l0.length:=by have:=Z4.out;omega
  have hzw:IntKind.i64.wrap ((pos:Int)+1)=z:=by rw [hz];exact IntWalk.i64_in _ (by have:=Z4.out;omega)
  have hz0:0≤z:=by omega
  have hz1:z < (l0.length:Int):=by omega
  obtain ⟨ad',e,hx⟩:=Kd.ik (Kd.bP HR.out (by rw [hG];exact HX.out.bel)) z hz0 hz1
  injection e with e
  subst e
  obtain ⟨wd,hwd⟩:∃ wd,iD ByteArray.empty l0 z=wd:=⟨_,rfl⟩
  rw [hwd] at hx
  have hdl:l0.drop (pos+1)=wd :: l0.drop (pos+1+1):=by
    rw [List.drop_eq_getElem_cons hpl,← hwd,iD,hz,List.getD_eq_getElem?_getD,show ((pos:Int)+1).toNat=pos+1 by omega,List.getElem?_eq_getElem hpl]
    rfl
  have hA:=HA.out
  rw [KT hs pos hp,hdl,lL,hch] at hA
  obtain ⟨⟨nv,ev⟩,hN,hA⟩:=Option.bind_eq_some_iff.1 hA
  have HN:=Lib.hid hN
  have HA2:=af.mk hA
  have PD:=Lib.hid (show gk+pos=hs.size∧pos < hs.size from ⟨hpk,hp⟩)
  clear hA hN HA hdl hpk hwd hz hpl VG hch
  have hz2:(z < (hs.size:Int)+1)=True:=eq_true (by have:=Z4.out;omega)
  replace hz0:=eq_true hz0
  replace hz1:=eq_true hz1
  go_upto_region 11 with (go_at_call 33;refine (kD.calls wd nv ev _ (Kd.bP HT.out (by rw [hG];exact HX.out.bel)) HN.out).mono ?_;rintro e w4 ⟨rfl,hb4⟩;replace HX:=af.mk (HX.out.below hb4);clear hb4)
  clear hx hnx hzw hz0 hz1 hz2 HN
  have hA:=HA2.out
  by_cases hev:ev=0
  case neg =>
    rw [if_neg hev] at hA
    have hr0:=(Option.some.inj hA).symm
    have hrr:=HRR.out
    rw [hr0] at hrr
    simp only [AQ,Prod.mk.injEq] at hrr
    obtain ⟨rfl,rfl,rfl,rfl,rfl,rfl⟩:=hrr
    have b1:(ev != 0)=true:=by simp [hev]
    clear hA HA2 HRR hr0 hev N9 hp
    have kG:=HX.out.bk
    have kz:=gz kG #[.int .u8 0,.int .u8 0,.int .u8 0,.int .u8 0,.int .i64 0]
    have uO:=af.mk (fA HX.out.bel (Nat.le_refl G) #[.int .u8 0,.int .u8 0,.int .u8 0,.int .u8 0,.int .i64 0])
    have KZ:=af.mk kz
    clear HX kz
    go_wp2_with (skip;refine wpList_store_row rfl 35 (.tmp 2) (.tmp 74) rfl G (#[.int .u8 0,.int .u8 0,.int .u8 0,.int .u8 0,.int .i64 0]) rfl rfl 35 _ kG (by kernel_rfl) rfl (by simp [Value.oneCell']) ?_)
    (try simp only [Exit.inBlock,Exit.then])
    refine bodyPost_ret (qW rfl _ _ G 35 #[.int .u8 0,.int .u8 0,.int .u8 0,.int .u8 0,.int .i64 0] (0,0) _ rfl KZ.out Tryd.underlying35 rfl (by kernel_rfl)) rfl ?_
    exact ⟨rfl,by have q:=uO.out;first|exact q|(rw [hG];exact q)⟩
  subst hev
  rw [if_pos rfl] at hA
  by_cases hc:ch=110
  case pos =>
    subst hc
    rw [if_pos rfl] at hA
    have HA3:=af.mk hA
    have c4:w4.cell? ⟨bi,4,none⟩=some (.int .i64 x.2.2.2):=HX.out.cell 4
    have f4:=HX.out.fr 4
    have xI:=af.mk (HX.out.set 4 (.int .i64 nv) (setArg 110 nv x) rfl)
    clear hA HA2 N9 HX
    go_wp2
    go_roundg (gk - 1)
    case measure=>have:=PD.out;omega
    case rel=>exact ⟨pos+1,setArg 110 nv x,by have:=PD.out;omega,HA3,xI⟩
  rw [if_neg hc] at hA
  have b2:((ch:Int) != 110)=true:=by simp;omega
  have b3:((ch:Int) == 110)=false:=beq_eq_false_iff_ne.2 (by omega)
  by_cases hr:0≤nv∧nv≤255
  case neg =>
    rw [if_neg hr] at hA
    have hr0:=(Option.some.inj hA).symm
    have hrr:=HRR.out
    rw [hr0] at hrr
    simp only [AQ,Prod.mk.injEq] at hrr
    obtain ⟨rfl,rfl,rfl,rfl,rfl,rfl⟩:=hrr
    by_cases hn0:nv < 0
    case' pos =>
      have d1:decide (nv < 0)=true:=decide_eq_true hn0
    case' neg =>
      have d1:decide (nv < 0)=false:=decide_eq_false hn0
      have d2:decide (255 < nv)=true:=decide_eq_true (by omega)
    all_goals
      clear hA HA2 HRR hr0 N9 hr hn0 hc hp
      have kG:=HX.out.bk
      have kz:=gz kG #[.int .u8 0,.int .u8 0,.int .u8 0,.int .u8 0,.int .i64 0]
      have uO:=af.mk (fA HX.out.bel (Nat.le_refl G) #[.int .u8 0,.int .u8 0,.int .u8 0,.int .u8 0,.int .i64 0])
      have KZ:=af.mk kz
      clear HX kz
      go_wp2_with (skip;refine wpList_store_row rfl 35 (.tmp 2) (.tmp 74) rfl G (#[.int .u8 0,.int .u8 0,.int .u8 0,.int .u8 0,.int .i64 0]) rfl rfl 35 _ kG (by kernel_rfl) rfl (by simp [Value.oneCell']) ?_)
      (try simp only [Exit.inBlock,Exit.then])
      refine bodyPost_ret (qW rfl _ _ G 35 #[.int .u8 0,.int .u8 0,.int .u8 0,.int .u8 0,.int .i64 0] (0,0) _ rfl KZ.out Tryd.underlying35 rfl (by kernel_rfl)) rfl ?_
      exact ⟨rfl,by have q:=uO.out;first|exact q|(rw [hG];exact q)⟩
  rw [if_pos hr] at hA
  have HA3:=af.mk hA
  have d1:decide (nv < 0)=false:=decide_eq_false (by omega)
  have d2:decide (255 < nv)=false:=decide_eq_false (by omega)
  have hnu:IntKind.u8.wrap nv=nv:=IntWalk.u8_in _ (by omega)
  clear hA HA2 hr
  rcases N9 with rfl|rfl|rfl|afw
  · have hlk:=zD w4 bm bi 0 97 rfl (by decide) HX.out.map
    have c4:w4.cell? ⟨bi,1,none⟩=some (.int .u8 x.1):=HX.out.cell 1
    have f4:=HX.out.fr 1
    have xI:=af.mk (HX.out.set 1 (.int .u8 nv) (setArg 97 nv x) rfl)
    clear HX
    go_wp2
    go_roundg (gk - 1)
    case measure=>have:=PD.out;omega
    case rel=>exact ⟨pos+1,setArg 97 nv x,by have:=PD.out;omega,HA3,xI⟩
  · have hlk:=zD w4 bm bi 1 98 rfl (by decide) HX.out.map
    have c4:w4.cell? ⟨bi,2,none⟩=some (.int .u8 x.2.1):=HX.out.cell 2
    have f4:=HX.out.fr 2
    have xI:=af.mk (HX.out.set 2 (.int .u8 nv) (setArg 98 nv x) rfl)
    clear HX
    go_wp2
    go_roundg (gk - 1)
    case measure=>have:=PD.out;omega
    case rel=>exact ⟨pos+1,setArg 98 nv x,by have:=PD.out;omega,HA3,xI⟩
  · have hlk:=zD w4 bm bi 2 99 rfl (by decide) HX.out.map
    have c4:w4.cell? ⟨bi,3,none⟩=some (.int .u8 x.2.2.1):=HX.out.cell 3
    have f4:=HX.out.fr 3
    have xI:=af.mk (HX.out.set 3 (.int .u8 nv) (setArg 99 nv x) rfl)
    clear HX
    go_wp2
    go_roundg (gk - 1)
    case measure=>have:=PD.out;omega
    case rel=>exact ⟨pos+1,setArg 99 nv x,by have:=PD.out;omega,HA3,xI⟩
  · exact absurd afw hc
end Go.Proofs.YtkclndkbccbhaaaDoor.P
end
