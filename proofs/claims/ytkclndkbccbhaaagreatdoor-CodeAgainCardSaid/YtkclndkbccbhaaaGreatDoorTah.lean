/- Parts of the proof of CodeAgain: what the functions that it reaches compute, and plain facts about that. -/
import Derived.Test.YtkclndkbccbhaaaGreatDoorTac
import Derived.Test.YtkclndkbccbhaaaGreatDoorTag
import Derived.Test.YtkclndkbccbhaaaGreatDoorTad
import Derived.Test.YtkclndkbccbhaaaGreatDoorTae
import Derived.Test.YtkclndkbccbhaaaGreatDoorTaf
set_option linter.unusedVariables false
set_option linter.unusedSimpArgs false
section
namespace Go.Proofs.YtkclndkbccbhaaaGreatDoor.P
open Go Go.RowKit Go.Proofs.ae.bg Go.Proofs.ae.dw Go.Proofs.ae.dO
def Bs (w:List UInt8):ByteArray:=⟨w.toArray⟩
theorem jJ (s:ByteArray):Bs s.data.toList=s:=by cases s;rfl
theorem DC (w:List UInt8):(Bs w).data.toList=w:=rfl
theorem pG (w:List UInt8):(Bs w).toList=w:=by rw [ByteArray.toList_eq];rfl
theorem gI (w:List UInt8):(Bs w).size=w.length:=by simp [Bs,ByteArray.size]
theorem UU {a b:List UInt8} (h:Bs a=Bs b):a=b:=by
  have:=congrArg (fun s:ByteArray=>s.data.toList) h
  exact this
theorem Jt {a b:List (List UInt8)} (h:a.map Bs=b.map Bs):a=b:=by
  induction a generalizing b with
  | nil=>cases b with|nil=>rfl|cons y ys=>simp at h
  | cons x xs ih =>
    cases b with
    | nil=>simp at h
    | cons y ys =>
      simp only [List.map_cons,List.cons.injEq] at h
      rw [UU h.1,ih h.2]
theorem uI (s:ByteArray):s.data.toList.length=s.size:=(Lib.size_eq s).symm
def conv (L:List (List (List UInt8))):List (List ByteArray):=L.map (·.map Bs)
theorem NS {a b:List (List (List UInt8))} (h:conv a=conv b):a=b:=by
  unfold conv at h
  induction a generalizing b with
  | nil=>cases b with|nil=>rfl|cons y ys=>simp at h
  | cons x xs ih =>
    cases b with
    | nil=>simp at h
    | cons y ys =>
      simp only [List.map_cons,List.cons.injEq] at h
      rw [Jt h.1,ih h.2]
theorem Fb (a b:List (List (List UInt8))):conv (a++b)=conv a++conv b:=by simp [conv]
theorem jD (a:List (List (List UInt8))):(conv a).length=a.length:=by simp [conv]
def CX (R:List (List (List UInt8)) × Nat × Nat):List (List ByteArray) × Int × Int:=(conv R.1,(R.2.1:Int),(R.2.2:Int))
theorem Ej (L:List (List UInt8)) (i:Nat) (x:List UInt8) (h:L[i]? = some x):eX ByteArray.empty (L.map Bs) (i:Int)=Bs x:=by
  unfold eX
  rw [Int.toNat_natCast,List.getD_eq_getElem?_getD,List.getElem?_map,h]
  rfl
theorem N9 (w:List UInt8) (i:Nat) (c:UInt8) (h:w[i]? = some c):bt (Bs w) (i:Int)=(c.toNat:Int):=by
  obtain ⟨hl,hc⟩:=List.getElem?_eq_some_iff.1 h
  have hs:((i:Int)).toNat < (Bs w).size:=by rw [Int.toNat_natCast,gI];exact hl
  unfold bt
  rw [dif_pos hs]
  have:(Bs w)[((i:Int)).toNat]'hs=c:=by rw [← hc];rfl
  rw [this]
theorem iG (i:Nat) (h:i < 4611686018427387904):wrap64 ((i:Int)+1)=((i+1:Nat):Int):=by unfold wrap64;omega
theorem Ht (s:ByteArray) (c:UInt8) (hs:s.size < 4294967281):strings_Split.f s ⟨#[c]⟩=some ((lU c s.data.toList).map Bs):=by
  unfold strings_Split.f
  rw [if_pos ⟨hs,by simp [ByteArray.size]⟩]
  congr 1
  have h:=Lib.splitB_data ⟨#[c]⟩ 0 (Lib.countB s ⟨#[c]⟩) s
  have hk:Lib.countB s ⟨#[c]⟩=s.data.toList.count c:=Lib.count_one c s.data.toList
  have h1:Lib.splitK [c] 0 (Lib.countB s ⟨#[c]⟩) s.data.toList=lU c s.data.toList:=zo c _ _ (by rw [hk];exact Nat.le_refl _)
  have h2:(Lib.splitB ⟨#[c]⟩ 0 (Lib.countB s ⟨#[c]⟩) s).map (·.data.toList)=lU c s.data.toList:=h.trans h1
  rw [← h2,List.map_map]
  conv=>lhs;rw [← List.map_id (Lib.splitB ⟨#[c]⟩ 0 (Lib.countB s ⟨#[c]⟩) s)]
  refine List.map_congr_left fun x _=>?_
  exact (jJ x).symm
theorem VJ (s:ByteArray) (hs:s.size < 4294967281):∃ b t,strings_Cut.f s ⟨#[35]⟩=some (Bs (s.data.toList.takeWhile (· ≠ 35)),b,t):=by
  unfold strings_Cut.f
  rw [if_pos hs]
  refine ⟨⟨(Lib.cut s.data.toList [35]).2.1.toArray⟩,(Lib.cut s.data.toList [35]).2.2,?_⟩
  rw [← Q3 35 s.data.toList]
  rfl
theorem H5:∀ b:UInt8,([97,98,99,100,101,102,103,104,105,106,107,108,109,110,111,112,113,114,115,116,117,118,119,120,121,122,48,49,50,51,52,53,54,55,56,57,45]:List UInt8).contains b=H6 b:=by
  have h:∀ n:Fin 256,([97,98,99,100,101,102,103,104,105,106,107,108,109,110,111,112,113,114,115,116,117,118,119,120,121,122,48,49,50,51,52,53,54,55,56,57,45]:List UInt8).contains (UInt8.ofNat n.val)=H6 (UInt8.ofNat n.val):=by decide +kernel
  intro b
  have:=h ⟨b.toNat,b.toNat_lt⟩
  simpa using this
theorem Vs (w:List UInt8):pI.f (Bs w)=some (ve w):=by
  unfold pI.f ve
  rw [gI]
  by_cases hl:w.length≤30
  · rw [if_pos (by omega)]
    unfold gV.f
    rw [if_pos ⟨by rw [gI];omega,by decide,by decide +kernel⟩]
    simp only [Option.bind_some]
    congr 1
    rw [decide_eq_true hl,Bool.true_and,Bool.eq_iff_iff,beq_iff_eq,ByteArray.toList_eq,List.all_eq_true]
    show Lib.trimS w [97,98,99,100,101,102,103,104,105,106,107,108,109,110,111,112,113,114,115,116,117,118,119,120,121,122,48,49,50,51,52,53,54,55,56,57,45]=[] ↔ _
    rw [xn]
    constructor
    · intro h x hx
      rw [← H5]
      exact h x hx
    · intro h x hx
      rw [H5]
      exact h x hx
  · rw [if_neg (by omega),decide_eq_false hl,Bool.false_and]
theorem EX {M:List (List UInt8)} {j:Nat} {w:List UInt8} (h:M[j]? = some w):(M.drop j).filter (· ≠ [])=(if w=[] then [] else [w])++(M.drop (j+1)).filter (· ≠ []):=by
  obtain ⟨hl,hw⟩:=List.getElem?_eq_some_iff.1 h
  rw [List.drop_eq_getElem_cons hl,hw,List.filter_cons]
  by_cases e:w=[]
  · simp [e]
  · simp [e]
theorem Si (T:List ByteArray) (n:Int) (i:Nat) (hi:i < 1000000) (x5:List (List ByteArray)) (hx5:x5.length≤1000000) (M:List (List UInt8)) (hM:M.length≤1000000) :
    ∀ (d j:Nat),j+d=M.length→∀ (acc:List (List UInt8)),acc.length≤j →
      ((((M.drop j).filter (· ≠ [])).all ve=false→Ev (fun k=>bG.l1 k x5 (i:Int) (acc.map Bs) T n (i:Int) (M.map Bs) ((M.length:Nat):Int) (j:Int)) ([],((i+1:Nat):Int),4)) ∧
       (((M.drop j).filter (· ≠ [])).all ve=true→∀ r,Ev (fun k=>bG.l0 k (x5++conv (keep (acc++(M.drop j).filter (· ≠ [])))) T n ((i+1:Nat):Int)) r →
        Ev (fun k=>bG.l1 k x5 (i:Int) (acc.map Bs) T n (i:Int) (M.map Bs) ((M.length:Nat):Int) (j:Int)) r))
  | 0,j,hj,acc,ha=>by
    have hd:M.drop j=[]:=List.drop_eq_nil_of_le (by omega)
    rw [hd]
    refine ⟨fun h=>by simp at h,fun _ r hr=>?_⟩
    refine Ev.step (fun k=>?_) hr
    simp only [bG.l1]
    rw [if_neg (by omega),List.length_map,iG i (by omega)]
    simp only [List.filter_nil,List.append_nil]
    by_cases e:acc=[]
    · subst e
      rw [if_neg (by simp)]
      simp [keep,conv]
    · have hp:0 < acc.length:=List.length_pos_iff.2 e
      rw [if_pos (by omega),if_pos (by omega)]
      simp [keep,conv,e]
  | d+1,j,hj,acc,ha=>by
    have hlt:j < M.length:=by omega
    have hw:M[j]? = some M[j]:=List.getElem?_eq_getElem hlt
    generalize M[j]=w at hw
    have ih:=Si T n i hi x5 hx5 M hM d (j+1) (by omega)
    rw [EX hw]
    have ru:∀ k,bG.l1 (k+1) x5 (i:Int) (acc.map Bs) T n (i:Int) (M.map Bs) ((M.length:Nat):Int) (j:Int) =
        if w=[] then bG.l1 k x5 (i:Int) (acc.map Bs) T n (i:Int) (M.map Bs) ((M.length:Nat):Int) ((j+1:Nat):Int)
        else if ve w=true then bG.l1 k x5 (i:Int) ((acc++[w]).map Bs) T n (i:Int) (M.map Bs) ((M.length:Nat):Int) ((j+1:Nat):Int) else some ([],((i+1:Nat):Int),4):=by
      intro k
      conv=>lhs;simp only [bG.l1]
      rw [if_pos (by omega),if_pos (by omega),if_pos (by rw [List.length_map];omega),Ej M j w hw,pG,Vs,Option.bind_some,iG j (by omega),iG i (by omega),
        if_pos (show (acc.map Bs).length < 8796093022208 by rw [List.length_map];omega),List.map_append]
      rfl
    by_cases e:w=[]
    · rw [if_pos e,List.nil_append]
      have h:=ih acc (by omega)
      refine ⟨fun hf=>Ev.step (fun k=>by rw [ru k,if_pos e]) (h.1 hf),fun ht r hr=>Ev.step (fun k=>by rw [ru k,if_pos e]) (h.2 ht r hr)⟩
    · rw [if_neg e,List.singleton_append,List.all_cons]
      have h:=ih (acc++[w]) (by rw [List.length_append,List.length_singleton];omega)
      cases ho:ve w with
      | true =>
        rw [Bool.true_and]
        have e2:acc++w :: (M.drop (j+1)).filter (· ≠ [])=(acc++[w])++(M.drop (j+1)).filter (· ≠ []):=by simp
        rw [e2]
        refine ⟨fun hf=>Ev.step (fun k=>by rw [ru k,if_neg e,if_pos ho]) (h.1 hf),fun ht r hr=>Ev.step (fun k=>by rw [ru k,if_neg e,if_pos ho]) (h.2 ht r hr)⟩
      | false =>
        rw [Bool.false_and]
        refine ⟨fun _=>Ev.step (f:=fun _=>some _) (fun k=>by rw [ru k,if_neg e,if_neg (by rw [ho];simp)]) (Ev.now _),fun ht=>by cases ht⟩
theorem oD (p:UInt8→Bool) (l:List UInt8):(l.takeWhile p).length≤l.length:=(List.takeWhile_prefix _).length_le
theorem vI (c:UInt8) (l:List UInt8):(lU c l).length≤l.length+1:=by
  rw [FQ]
  have:=List.count_le_length (a:=c) (l:=l)
  omega
theorem Sj (T:List (List UInt8)) (hT:T.length≤30000) (hx:∀ x ∈ T,x.length≤30000) :
    ∀ (d i:Nat),i+d=T.length→∀ (acc:List (List (List UInt8))),acc.length≤i →
      Ev (fun k=>bG.l0 k (conv acc) (T.map Bs) ((T.length:Nat):Int) (i:Int)) (CX (LR i acc (T.drop i)))
  | 0,i,hi,acc,ha=>by
    have hd:T.drop i=[]:=List.drop_eq_nil_of_le (by omega)
    rw [hd]
    refine Ev.step (f:=fun _=>some _) (fun k=>?_) (Ev.now _)
    simp only [bG.l0]
    rw [if_neg (by omega)]
    rfl
  | d+1,i,hi,acc,ha=>by
    have hlt:i < T.length:=by omega
    have hw:T[i]? = some T[i]:=List.getElem?_eq_getElem hlt
    have hdr:T.drop i=T[i] :: T.drop (i+1):=List.drop_eq_getElem_cons hlt
    have hxl:=hx T[i] (List.getElem_mem hlt)
    generalize T[i]=x at hw hdr hxl
    obtain ⟨b,t,hc⟩:=VJ (Bs x) (by rw [gI];omega)
    rw [DC] at hc
    have hlen:(lU 32 (x.takeWhile (· ≠ 35))).length≤30001:=by
      have h1:=vI 32 (x.takeWhile (· ≠ 35))
      have h2:=oD (· ≠ 35) x
      omega
    have hsp:strings_Split.f (Bs (x.takeWhile (· ≠ 35))) ⟨#[32]⟩=some ((lU 32 (x.takeWhile (· ≠ 35))).map Bs):=Ht _ 32 (by rw [gI];have:=oD (· ≠ 35) x;omega)
    have ru:∀ k,bG.l0 (k+1) (conv acc) (T.map Bs) ((T.length:Nat):Int) (i:Int) =
        bG.l1 k (conv acc) (i:Int) (([]:List (List UInt8)).map Bs) (T.map Bs) ((T.length:Nat):Int) (i:Int) ((lU 32 (x.takeWhile (· ≠ 35))).map Bs) (((lU 32 (x.takeWhile (· ≠ 35))).length:Nat):Int) ((0:Nat):Int):=by
      intro k
      conv=>lhs;simp only [bG.l0]
      rw [if_pos (by omega),if_pos (by omega),if_pos (by rw [List.length_map];omega),Ej T i x hw,hc,Option.bind_some,hsp,Option.bind_some,List.length_map]
      rfl
    refine Ev.step ru ?_
    have h:=Si (T.map Bs) ((T.length:Nat):Int) i (by omega) (conv acc) (by rw [jD];omega) (lU 32 (x.takeWhile (· ≠ 35))) (by omega) (lU 32 (x.takeWhile (· ≠ 35))).length 0 (Nat.zero_add _) [] (Nat.le_refl _)
    rw [hdr]
    unfold LR
    have ht:(List.drop 0 (lU 32 (x.takeWhile (· ≠ 35)))).filter (· ≠ [])=toks x:=rfl
    rw [ht,List.nil_append] at h
    cases ho:Gu x with
    | true =>
      rw [if_pos rfl]
      refine h.2 ho _ ?_
      rw [← Fb]
      refine Sj T hT hx d (i+1) (by omega) _ ?_
      rw [List.length_append]
      have:(keep (toks x)).length≤1:=by unfold keep;split <;> simp
      omega
    | false =>
      rw [if_neg (by simp)]
      exact h.1 ho
theorem xR {c:UInt8} {l p:List UInt8} (h:p ∈ lU c l):p.length≤l.length:=by
  have h1:=CO c l
  have:∀ L:List (List UInt8),p ∈ L→p.length+1≤(L.map fun w=>w.length+1).sum:=by
    intro L
    induction L with
    | nil=>intro h;cases h
    | cons y ys ih =>
      intro h
      rcases List.mem_cons.1 h with rfl|h
      · simp only [List.map_cons,List.sum_cons];omega
      · have:=ih h
        simp only [List.map_cons,List.sum_cons];omega
  have:=this _ h
  omega
def qH (s:ByteArray):List (List (List UInt8)) × Nat × Nat:=LR 0 [] (lU 10 s.data.toList)
theorem EE (s:ByteArray) (hs:s.size≤20000):Ev (fun k=>bG.f k s) (CX (qH s)):=by
  have hl:=vI 10 s.data.toList
  rw [uI] at hl
  refine Ev.congr (f:=fun k=>bG.l0 k (conv []) ((lU 10 s.data.toList).map Bs) (((lU 10 s.data.toList).length:Nat):Int) ((0:Nat):Int)) (fun k=>?_) ?_
  · unfold bG.f
    rw [if_neg (by omega),Ht s 10 (by omega),Option.bind_some,List.length_map]
    rfl
  · have:=Sj (lU 10 s.data.toList) (by omega) (fun x hx=>by have:=xR hx;rw [uI] at this;omega) (lU 10 s.data.toList).length 0 (Nat.zero_add _) [] (Nat.le_refl _)
    exact this
theorem EY (w:List UInt8) (i:Nat) (c:UInt8) (h:w[i]? = some c):(Bs w).extract i (i+1)=Bs [c]:=by
  have h1:((Bs w).extract i (i+1)).data.toList=[c]:=by
    rw [Lib.extract_data]
    have:(Bs w).data.toList=w:=rfl
    obtain ⟨hl,hc⟩:=List.getElem?_eq_some_iff.1 h
    rw [this,List.drop_eq_getElem_cons hl,hc]
    simp
  rw [← jJ ((Bs w).extract i (i+1)),h1]
theorem Af (a b:List UInt8):Bs a++Bs b=Bs (a++b):=by
  have:(Bs a++Bs b).data.toList=a++b:=by
    rw [ByteArray.data_append]
    simp [Bs]
  rw [← jJ (Bs a++Bs b),this]
theorem zS (w:List UInt8) (a b:Nat):(Bs w).extract a b=Bs ((w.drop a).take (b - a)):=by
  rw [← jJ ((Bs w).extract a b),Lib.extract_data]
  rfl
theorem vZ {t:List (List UInt8)} {l:List UInt8} (h:t=toks l):∀ w ∈ t,w ≠ []∧w.length≤l.length:=by
  subst h
  intro w hw
  refine ⟨(Ec hw).1,?_⟩
  unfold toks at hw
  have h1:=xR (List.mem_filter.1 hw).1
  have h2:=oD (· ≠ 35) l
  omega
theorem KI (l:List UInt8):(toks l).length≤l.length+1:=by
  have h1:(toks l).length≤(lU 32 (l.takeWhile (· ≠ 35))).length:=List.length_filter_le _ _
  have h2:=vI 32 (l.takeWhile (· ≠ 35))
  have h3:=oD (· ≠ 35) l
  omega
theorem zt (a:List (List ByteArray)) (i:Nat) (x:List ByteArray) (h:a[i]? = some x):fM a (i:Int)=x:=by
  unfold fM
  rw [Int.toNat_natCast,List.getD_eq_getElem?_getD,h]
  rfl
theorem Pj (a:List ByteArray) (i:Nat) (x:ByteArray) (h:a[i]? = some x):eX ByteArray.empty a (i:Int)=x:=by
  unfold eX
  rw [Int.toNat_natCast,List.getD_eq_getElem?_getD,h]
  rfl
theorem toList_inj {a b:ByteArray}:a.toList=b.toList ↔ a=b:=by
  rw [ByteArray.toList_eq,ByteArray.toList_eq]
  constructor
  · intro h
    rw [← jJ a,← jJ b,h]
  · rintro rfl;rfl
def Small (A:List (List (List UInt8))):Prop:=A.length≤1000000∧∀ x ∈ A,x.length≤1000000
theorem zK (L:List (List (List UInt8))):mQ (conv L)=joinL L:=by
  unfold mQ conv joinL
  rw [List.map_map]
  congr 1
  refine List.map_congr_left fun ws _=>?_
  show Lib.join ((ws.map Bs).map (·.data.toList)) [32]++[10]=_
  rw [List.map_map]
  congr 2
  conv=>rhs;rw [← List.map_id ws]
  exact List.map_congr_left fun x _=>rfl
theorem Uj (L:List (List (List UInt8))) (h:Small L) (hl:(joinL L).length≤1000000):kH.f (conv L)=some (Bs (joinL L)):=by
  unfold kH.f
  rw [zK,if_pos]
  · rfl
  · refine ⟨by rw [jD];have:=h.1;omega,fun x hx=>?_,by omega⟩
    obtain ⟨y,hy,rfl⟩:=List.mem_map.1 hx
    rw [List.length_map]
    have:=h.2 y hy
    omega
theorem CW (L:List (List (List UInt8))):CX (L,0,0)=(conv L,0,0):=rfl
theorem size_data (s:ByteArray):s.size=s.data.toList.length:=(uI s).symm
def D8 (c:UInt8):Bool:=decide (48≤c.toNat∧c.toNat≤57)
def ni (acc:Nat) (D:List UInt8):Nat:=D.foldl (fun a c=>a * 10+(c.toNat - 48)) acc
theorem OO (D:List UInt8) (acc:Nat):acc≤ni acc D:=by
  induction D generalizing acc with
  | nil=>exact Nat.le_refl _
  | cons c r ih =>
    have:=ih (acc * 10+(c.toNat - 48))
    show acc≤ni (acc * 10+(c.toNat - 48)) r
    omega
theorem uo (acc:Nat) (c:UInt8) (r:List UInt8):ni acc (c :: r)=ni (acc * 10+(c.toNat - 48)) r:=by
  unfold ni
  rw [List.foldl_cons]
theorem AY (acc:Nat) (D:List UInt8) (c:UInt8):ni acc (D++[c])=ni acc D * 10+(c.toNat - 48):=by
  unfold ni
  rw [List.foldl_append,List.foldl_cons,List.foldl_nil]
theorem KC (D:List UInt8) (acc:Nat):acc * 10 ^ D.length≤ni acc D:=by
  induction D generalizing acc with
  | nil=>simp [ni]
  | cons c r ih =>
    rw [uo]
    refine Nat.le_trans ?_ (ih _)
    rw [List.length_cons,Nat.pow_succ,Nat.mul_comm (10 ^ r.length) 10,← Nat.mul_assoc]
    exact Nat.mul_le_mul_right _ (by omega)
theorem Jn (M:Nat) (hM:M=18446744073709551615) (D:List UInt8) (h:∀ c ∈ D,D8 c=true) (acc:Nat) (ha:acc≤M):Lib.parseUintM M acc D=if ni acc D≤M then .ok (ni acc D) else .range:=by
  induction D generalizing acc with
  | nil =>
    show Lib.NumEnd.ok acc=if acc≤M then Lib.NumEnd.ok acc else Lib.NumEnd.range
    rw [if_pos ha]
  | cons c r ih =>
    have hc:=h c (by simp)
    simp only [D8,decide_eq_true_eq] at hc
    have hge:=OO r (acc * 10+(c.toNat - 48))
    rw [uo]
    unfold Lib.parseUintM
    rw [if_pos hc]
    by_cases h1:1844674407370955162≤acc
    · rw [if_pos h1,if_neg (by omega)]
    · rw [if_neg h1]
      by_cases h2:M < acc * 10+(c.toNat - 48)
      · rw [if_pos h2,if_neg (by omega)]
      · rw [if_neg h2]
        exact ih (fun x hx=>h x (by simp [hx])) _ (by omega)
theorem BQ:∀ b:UInt8,([48,49,50,51,52,53,54,55,56,57]:List UInt8).contains b=D8 b:=by
  have h:∀ n:Fin 256,([48,49,50,51,52,53,54,55,56,57]:List UInt8).contains (UInt8.ofNat n.val)=D8 (UInt8.ofNat n.val):=by decide +kernel
  intro b
  have:=h ⟨b.toNat,b.toNat_lt⟩
  simpa using this
theorem Eb {D:List UInt8}:Lib.trimS D [48,49,50,51,52,53,54,55,56,57]=[] ↔ ∀ c ∈ D,D8 c=true:=by
  rw [xn]
  constructor
  · intro h x hx;rw [← BQ];exact h x hx
  · intro h x hx;rw [BQ];exact h x hx
theorem CJ (D:List UInt8):unsigned (45 :: D)=D:=rfl
theorem vY (w:List UInt8) (h:w.head? ≠ some 45):unsigned w=w:=by
  unfold unsigned Lib.trimPrefix Lib.hasPrefix
  cases w with
  | nil=>rfl
  | cons c r =>
    rw [if_neg]
    intro hp
    simp only [List.isPrefixOf,Bool.and_true,beq_iff_eq] at hp
    exact h (by rw [← hp];rfl)
structure Num (w D:List UInt8):Prop where
  ne:D ≠ []
  dig:∀ c ∈ D,D8 c=true
  zero:D.head? = some 48→w=[48]
theorem Bq (w:List UInt8):pR w=true ↔ Num w (unsigned w):=by
  unfold pR
  simp only [Bool.and_eq_true,Bool.not_eq_true',List.isEmpty_iff,List.isEmpty_eq_false_iff,Bool.and_eq_false_iff,beq_eq_false_iff_ne,Bool.not_eq_false',beq_iff_eq]
  rw [Eb]
  constructor
  · rintro ⟨⟨h1,h2⟩,h3⟩
    exact ⟨h1,h2,fun h=>by rcases h3 with h3|h3;exact absurd h h3;exact h3⟩
  · rintro ⟨h1,h2,h3⟩
    refine ⟨⟨h1,h2⟩,?_⟩
    by_cases h:(unsigned w).head? = some 48
    · exact .inr (h3 h)
    · exact .inl h
def EH (neg:Bool) (u:Nat):Bool:=if neg then decide (u≤9223372036854775808) else decide (u < 9223372036854775808)
def UY (neg:Bool) (u:Nat):Int:=if neg then -(u:Int) else u
theorem Uk {c:UInt8} (h:D8 c=true):c.toNat ≠ 43∧c.toNat ≠ 45:=by
  simp only [D8,decide_eq_true_eq] at h
  omega
theorem Gh (D:List UInt8) (h:∀ c ∈ D,D8 c=true) (hne:D ≠ []):Lib.parseUintB 64 D=if ni 0 D≤18446744073709551615 then .ok (ni 0 D) else .range:=by
  unfold Lib.parseUintB
  rw [if_neg hne]
  exact Jn _ (by decide) D h 0 (by omega)
theorem EC (neg:Bool) (D:List UInt8) (h:∀ c ∈ D,D8 c=true) (hne:D ≠ []):numOf (if neg then 45 :: D else D)=if EH neg (ni 0 D) then (UY neg (ni 0 D),0) else (0,3):=by
  have hc:=Gh D h hne
  generalize ni 0 D=u at hc ⊢
  unfold numOf
  cases neg with
  | true =>
    simp only [if_true]
    unfold Lib.parseIntB
    dsimp only
    rw [if_pos (show (45:UInt8).toNat=43 ∨ (45:UInt8).toNat=45 from Or.inr rfl),hc]
    by_cases hu:u≤18446744073709551615
    · rw [if_pos hu]
      simp only [show ((45:UInt8).toNat=45)=True from eq_true rfl,not_true_eq_false,false_and,if_false,true_and,if_true]
      by_cases h2:2 ^ (64 - 1) < u
      · rw [if_pos h2]
        have:EH true u=false:=by unfold EH;rw [if_pos rfl];exact decide_eq_false (by omega)
        rw [this]
        rfl
      · rw [if_neg h2]
        have:EH true u=true:=by unfold EH;rw [if_pos rfl];exact decide_eq_true (by omega)
        rw [this]
        rfl
    · rw [if_neg hu]
      have:EH true u=false:=by unfold EH;rw [if_pos rfl];exact decide_eq_false (by omega)
      rw [this]
      rfl
  | false =>
    simp only [Bool.false_eq_true,if_false]
    cases D with
    | nil=>exact absurd rfl hne
    | cons c r =>
      have hcd:=Uk (h c (by simp))
      unfold Lib.parseIntB
      simp only []
      rw [if_neg (by intro h;rcases h with h|h;exact hcd.1 h;exact hcd.2 h),hc]
      by_cases hu:u≤18446744073709551615
      · rw [if_pos hu]
        simp only [eq_false hcd.2,not_false_eq_true,true_and,false_and,if_false]
        by_cases h2:2 ^ (64 - 1)≤u
        · rw [if_pos h2]
          have:EH false u=false:=by unfold EH;rw [if_neg (by simp)];exact decide_eq_false (by omega)
          rw [this]
          rfl
        · rw [if_neg h2]
          have:EH false u=true:=by unfold EH;rw [if_neg (by simp)];exact decide_eq_true (by omega)
          rw [this]
          rfl
      · rw [if_neg hu]
        have:EH false u=false:=by unfold EH;rw [if_neg (by simp)];exact decide_eq_false (by omega)
        rw [this]
        rfl
theorem signed (w:List UInt8):∃ neg:Bool,w=(if neg then 45 :: unsigned w else unsigned w)∧(neg=true ↔ w.head? = some 45):=by
  cases w with
  | nil=>exact ⟨false,rfl,by simp⟩
  | cons c r =>
    by_cases e:c=45
    · subst e
      exact ⟨true,rfl,by simp⟩
    · refine ⟨false,?_,by simp [e]⟩
      rw [vY _ (by simp [e])]
      rfl
theorem zI {c:UInt8} {r:List UInt8} (hc:D8 c=true) (h48:c ≠ 48):10 ^ r.length≤ni 0 (c :: r):=by
  rw [uo]
  have hd:48≤c.toNat∧c.toNat≤57:=of_decide_eq_true hc
  have hne:c.toNat ≠ 48:=fun h=>h48 (UInt8.toNat_inj.1 h)
  have h1:=KC r (0 * 10+(c.toNat - 48))
  refine Nat.le_trans ?_ h1
  generalize 10 ^ r.length=q
  have:1 * q≤(0 * 10+(c.toNat - 48)) * q:=Nat.mul_le_mul_right q (by omega)
  omega
theorem Vq:(10:Nat) ^ 19=10000000000000000000:=by decide
def Jq (w:List UInt8):Int × Int:=if pR w then numOf w else (0,4)
theorem E8 (d:Nat) (h:d < 10):(UInt8.ofNat (48+d)).toNat=48+d:=by
  have:(UInt8.ofNat (48+d)).toNat=(48+d) % 256:=UInt8.toNat_ofNat'
  omega
theorem xE (n:Nat):∀ u:Nat,u≤n→(∀ c ∈ Lib.decDigits u,D8 c=true)∧Lib.decDigits u ≠ []∧ni 0 (Lib.decDigits u)=u∧((Lib.decDigits u).head? = some 48→u=0):=by
  induction n with
  | zero =>
    intro u hu
    obtain rfl:u=0:=by omega
    rw [Lib.decDigits_one (by omega)]
    refine ⟨by decide,by decide,?_,fun _=>rfl⟩
    decide
  | succ n ih =>
    intro u hu
    by_cases h:u < 10
    · rw [Lib.decDigits_one h]
      have hd:=E8 u h
      refine ⟨?_,by simp,?_,?_⟩
      · intro c hc
        rw [List.mem_singleton.1 hc]
        unfold D8
        rw [hd]
        exact decide_eq_true (by omega)
      · rw [uo,hd]
        show 0 * 10+(48+u - 48)=u
        omega
      · intro hh
        simp only [List.head?_cons,Option.some.injEq] at hh
        have:=congrArg UInt8.toNat hh
        rw [hd] at this
        have h48:(48:UInt8).toNat=48:=rfl
        omega
    · have ih':=ih (u / 10) (by omega)
      rw [Lib.decDigits,dif_neg h]
      have hd:=E8 (u % 10) (by omega)
      refine ⟨?_,by simp,?_,?_⟩
      · intro c hc
        rcases List.mem_append.1 hc with hc|hc
        · exact ih'.1 c hc
        · rw [List.mem_singleton.1 hc]
          unfold D8
          rw [hd]
          exact decide_eq_true (by omega)
      · rw [AY,ih'.2.2.1,hd]
        omega
      · intro hh
        have:(Lib.decDigits (u / 10)++[UInt8.ofNat (48+u % 10)]).head? = (Lib.decDigits (u / 10)).head?:=by
          cases hq:Lib.decDigits (u / 10) with
          | nil=>exact absurd hq ih'.2.1
          | cons a b=>rfl
        rw [this] at hh
        have:=ih'.2.2.2 hh
        omega
theorem NQ (n:Nat):∀ D:List UInt8,D.length≤n→D ≠ []→(∀ c ∈ D,D8 c=true)→(D.head? = some 48→D=[48])→Lib.decDigits (ni 0 D)=D:=by
  induction n with
  | zero=>intro D h h0;exact absurd (List.length_eq_zero_iff.1 (by omega)) h0
  | succ n ih =>
    intro D hl h0 hd hz
    obtain ⟨A,c,rfl⟩:∃ A c,D=A++[c]:=⟨D.dropLast,D.getLast h0,(List.dropLast_concat_getLast h0).symm⟩
    have hc:48≤c.toNat∧c.toNat≤57:=of_decide_eq_true (hd c (by simp))
    have hof:UInt8.ofNat (48+(c.toNat - 48))=c:=by
      rw [show 48+(c.toNat - 48)=c.toNat from by omega]
      exact UInt8.ofNat_toNat
    rw [AY]
    by_cases hA:A=[]
    · subst hA
      have:ni 0 ([]:List UInt8) * 10+(c.toNat - 48)=c.toNat - 48:=by show 0 * 10+_=_;omega
      rw [this,Lib.decDigits_one (by omega),hof]
      rfl
    · have hAd:∀ x ∈ A,D8 x=true:=fun x hx=>hd x (by simp [hx])
      have hhead:(A++[c]).head? = A.head?:=by
        cases A with
        | nil=>exact absurd rfl hA
        | cons a b=>rfl
      have hAz:A.head? = some 48→False:=by
        intro h
        have:=hz (by rw [hhead];exact h)
        have h2:=congrArg List.length this
        rw [List.length_append] at h2
        simp at h2
        exact hA h2
      have hpos:1≤ni 0 A:=by
        cases A with
        | nil=>exact absurd rfl hA
        | cons a b =>
          have h1:=zI (r:=b) (hAd a (by simp)) (fun e=>hAz (by rw [e];rfl))
          have h2:1≤10 ^ b.length:=Nat.one_le_pow _ _ (by omega)
          omega
      have hih:=ih A (by rw [List.length_append] at hl;simp at hl;omega) hA hAd (fun h=>(hAz h).elim)
      rw [Lib.decDigits,dif_neg (by omega),show (ni 0 A * 10+(c.toNat - 48)) / 10=ni 0 A from by omega,show (ni 0 A * 10+(c.toNat - 48)) % 10=c.toNat - 48 from by omega,hih,hof]
theorem QZ (u:Nat) (h:u≤9223372036854775808):(Lib.decDigits u).length≤20:=by
  have hp:=xE u u (Nat.le_refl _)
  cases hq:Lib.decDigits u with
  | nil=>simp
  | cons c r =>
    rw [hq] at hp
    by_cases h48:c=48
    · subst h48
      have h0:=hp.2.2.2 rfl
      subst h0
      rw [Lib.decDigits_one (by omega)] at hq
      rw [← hq]
      decide
    · have h1:=zI (r:=r) (hp.1 c (by simp)) h48
      rw [hp.2.2.1] at h1
      rw [List.length_cons]
      rcases Nat.lt_or_ge r.length 19 with h2|h2
      · omega
      · have h3:(10:Nat) ^ 19≤10 ^ r.length:=Nat.pow_le_pow_right (by omega) h2
        rw [Vq] at h3
        omega
theorem BH (n:Int):∃ neg:Bool,Lib.itoa n=(if neg then 45 :: Lib.decDigits n.natAbs else Lib.decDigits n.natAbs)∧UY neg n.natAbs=n∧(neg=true→n < 0)∧(neg=false→0≤n):=by
  unfold Lib.itoa
  by_cases h:n < 0
  · rw [if_pos h]
    refine ⟨true,rfl,?_,fun _=>h,(fun h=>by cases h)⟩
    unfold UY
    rw [if_pos rfl]
    omega
  · rw [if_neg h]
    refine ⟨false,?_,?_,(fun h=>by cases h),fun _=>by omega⟩
    · rw [if_neg (by simp),show n.toNat=n.natAbs from by omega]
    · unfold UY
      rw [if_neg (by simp)]
      omega
theorem zL (n:Int) (h0:-9223372036854775808≤n) (h1:n≤9223372036854775807):pR (Lib.itoa n)=true∧numOf (Lib.itoa n)=(n,0)∧(Lib.itoa n).length≤21:=by
  obtain ⟨neg,hi,hs,hn1,hn2⟩:=BH n
  have hp:=xE n.natAbs n.natAbs (Nat.le_refl _)
  have hl:=QZ n.natAbs (by omega)
  rw [hi]
  have hhead:(Lib.decDigits n.natAbs).head? ≠ some 45:=by
    intro h
    cases hq:Lib.decDigits n.natAbs with
    | nil=>exact hp.2.1 hq
    | cons c r =>
      rw [hq] at h hp
      have:=hp.1 c (by simp)
      simp only [List.head?_cons,Option.some.injEq] at h
      subst h
      exact absurd this (by decide)
  refine ⟨?_,?_,?_⟩
  · rw [Bq]
    cases neg with
    | true =>
      rw [if_pos rfl,CJ]
      refine ⟨hp.2.1,hp.1,fun h=>?_⟩
      have:=hp.2.2.2 h
      have:=hn1 rfl
      omega
    | false =>
      rw [if_neg (by simp),vY _ hhead]
      refine ⟨hp.2.1,hp.1,fun h=>?_⟩
      rw [hp.2.2.2 h,Lib.decDigits_one (by omega)]
      rfl
  · rw [EC neg _ hp.1 hp.2.1,hp.2.2.1,if_pos,hs]
    unfold EH
    cases neg with
    | true=>rw [if_pos rfl];exact decide_eq_true (by omega)
    | false=>have:=hn2 rfl;rw [if_neg (by simp)];exact decide_eq_true (by omega)
  · cases neg with
    | true=>rw [if_pos rfl,List.length_cons];omega
    | false=>rw [if_neg (by simp)];omega
theorem Ls (w:List UInt8) (h:pR w=true) (x:Int) (hx:numOf w=(x,0)):Lib.itoa x=w∧-9223372036854775808≤x∧x≤9223372036854775807:=by
  obtain ⟨hne,hdig,hzero⟩:=(Bq w).1 h
  obtain ⟨neg,hs,hneg⟩:=signed w
  have hof:numOf w=if EH neg (ni 0 (unsigned w)) then (UY neg (ni 0 (unsigned w)),0) else (0,3):=by
    rw [← EC neg (unsigned w) hdig hne,← hs]
  rw [hof] at hx
  cases hr:EH neg (ni 0 (unsigned w)) with
  | false=>rw [hr,if_neg (by simp)] at hx;injection hx with _ h2;cases h2
  | true =>
    rw [hr,if_pos rfl] at hx
    injection hx with hx _
    have hz:(unsigned w).head? = some 48→unsigned w=[48]∧w=[48]:=fun hh=>by
      have:=hzero hh
      exact ⟨by rw [this];rfl,this⟩
    have hb:=NQ (unsigned w).length (unsigned w) (Nat.le_refl _) hne hdig (fun hh=>(hz hh).1)
    have hpos:neg=true→1≤ni 0 (unsigned w):=by
      rintro rfl
      cases hu:unsigned w with
      | nil=>exact absurd hu hne
      | cons c r =>
        have h48:c ≠ 48:=by
          rintro rfl
          have h1:=(hz (by rw [hu];rfl)).2
          have h2:=hneg.1 rfl
          rw [h1] at h2
          exact absurd h2 (by decide)
        have h1:=zI (r:=r) (hdig c (by rw [hu];simp)) h48
        have h2:1≤10 ^ r.length:=Nat.one_le_pow _ _ (by omega)
        omega
    generalize ni 0 (unsigned w)=u at hb hpos hr hx
    unfold UY at hx
    unfold EH at hr
    unfold Lib.itoa
    cases neg with
    | true =>
      have:=hpos rfl
      rw [if_pos rfl] at hx hr hs
      have hr:=of_decide_eq_true hr
      subst hx
      refine ⟨?_,by omega,by omega⟩
      rw [if_pos (by omega),show (-(u:Int)).natAbs=u from by omega,hb]
      exact hs.symm
    | false =>
      rw [if_neg (by simp)] at hx hr hs
      have hr:=of_decide_eq_true hr
      subst hx
      refine ⟨?_,by omega,by omega⟩
      rw [if_neg (by omega),Int.toNat_natCast,hb]
      exact hs.symm
theorem RX (w:List UInt8) (hw:w.length≤10000):jP.f (Bs w)=some (Jq w):=by
  unfold jP.f Jq
  rw [gI,if_pos (by omega),DC]
  split <;> rfl
def vH (x:List (List UInt8)):Nat:=(x.map fun w=>w.length+1).sum
def tot (L:List (List (List UInt8))):Nat:=(L.map fun x=>vH x+1).sum
theorem pz (w:List UInt8) (x:List (List UInt8)):vH (w :: x)=w.length+1+vH x:=by simp [vH]
theorem tq (x:List (List UInt8)) (L:List (List (List UInt8))):tot (x :: L)=vH x+1+tot L:=by simp [tot]
theorem EG (x:List (List UInt8)):x.length≤vH x:=by
  induction x with
  | nil=>simp [vH]
  | cons w r ih=>rw [pz,List.length_cons];omega
theorem LC {x:List (List UInt8)} {w:List UInt8} (h:w ∈ x):w.length+1≤vH x:=by
  induction x with
  | nil=>cases h
  | cons y r ih =>
    rw [pz]
    rcases List.mem_cons.1 h with rfl|h
    · omega
    · have:=ih h;omega
theorem wF (L:List (List (List UInt8))):L.length≤tot L:=by
  induction L with
  | nil=>simp [tot]
  | cons x r ih=>rw [tq,List.length_cons];omega
theorem H9 {L:List (List (List UInt8))} {x:List (List UInt8)} (h:x ∈ L):vH x+1≤tot L:=by
  induction L with
  | nil=>cases h
  | cons y r ih =>
    rw [tq]
    rcases List.mem_cons.1 h with rfl|h
    · omega
    · have:=ih h;omega
theorem yf (x:List (List UInt8)):(Lib.joinTail [32] x).length=vH x:=wG x
theorem yg (x:List (List UInt8)):(Lib.join x [32]).length≤vH x:=by
  cases x with
  | nil=>simp [Lib.join_nil]
  | cons w r=>rw [Lib.join_cons,List.length_append,yf,pz];omega
theorem vM (x:List (List UInt8)) (L:List (List (List UInt8))):joinL (x :: L)=Lib.join x [32]++10 :: joinL L:=by simp [joinL]
theorem BG (L:List (List (List UInt8))):(joinL L).length≤tot L:=by
  induction L with
  | nil=>simp [joinL]
  | cons x r ih =>
    rw [vM,tq,List.length_append,List.length_cons]
    have:=yg x
    omega
theorem CU (L:List (List (List UInt8))) (i:Nat) (x:List (List UInt8)) (h:L[i]? = some x):fM (conv L) (i:Int)=x.map Bs:=by
  refine zt _ i _ ?_
  unfold conv
  rw [List.getElem?_map,h]
  rfl
end Go.Proofs.YtkclndkbccbhaaaGreatDoor.P
end
section
namespace Go.Proofs.YtkclndkbccbhaaaGreatDoor.P
open Go Go.RowKit Go.Proofs.ae.bg Go.Proofs.ae.dw Go.Proofs.ae.dO
def BB (b:UInt8):Bool:=decide (97≤b.toNat∧b.toNat≤122) || decide (48≤b.toNat∧b.toNat≤57)
def EF (w:List UInt8):Bool:=decide (w.length≤30) && w.all BB
def jC (s:ByteArray):Bool:=EF s.data.toList
theorem BA:∀ b:UInt8,([97,98,99,100,101,102,103,104,105,106,107,108,109,110,111,112,113,114,115,116,117,118,119,120,121,122,48,49,50,51,52,53,54,55,56,57]:List UInt8).contains b=BB b:=by
  intro b
  have h:∀ n:Fin 256,([97,98,99,100,101,102,103,104,105,106,107,108,109,110,111,112,113,114,115,116,117,118,119,120,121,122,48,49,50,51,52,53,54,55,56,57]:List UInt8).contains (UInt8.ofNat n.val)=BB (UInt8.ofNat n.val):=by decide +kernel
  have:=h ⟨b.toNat,b.toNat_lt⟩
  simpa using this
theorem PG (w:List UInt8):dR.f (Bs w)=some (EF w):=by
  unfold dR.f EF
  rw [gI]
  by_cases hl:w.length≤30
  · rw [if_pos (by omega)]
    unfold gV.f
    rw [if_pos ⟨by rw [gI];omega,by decide,by decide +kernel⟩]
    simp only [Option.bind_some]
    congr 1
    rw [decide_eq_true hl,Bool.true_and,Bool.eq_iff_iff,beq_iff_eq,ByteArray.toList_eq,List.all_eq_true]
    show Lib.trimS w [97,98,99,100,101,102,103,104,105,106,107,108,109,110,111,112,113,114,115,116,117,118,119,120,121,122,48,49,50,51,52,53,54,55,56,57]=[] ↔ _
    rw [xn]
    constructor
    · intro h x hx
      rw [← BA]
      exact h x hx
    · intro h x hx
      rw [BA]
      exact h x hx
  · rw [if_neg (by omega),decide_eq_false hl,Bool.false_and]
theorem zH (s:ByteArray):dR.f s=some (jC s):=by
  have h:=PG s.data.toList
  rw [jJ] at h
  exact h
def jh (x:iR):Bool:=(dQ.f x.f0 x.f1 x.f2 x.f3 x.f4).getD false
theorem FV (a b c d e:Int):∃ r,dQ.f a b c d e=some r:=by
  unfold dQ.f
  split
  · exact ⟨_,rfl⟩
  · split <;> exact ⟨_,rfl⟩
theorem O3 (x:iR):dQ.f x.f0 x.f1 x.f2 x.f3 x.f4=some (jh x):=by
  obtain ⟨r,hr⟩:=FV x.f0 x.f1 x.f2 x.f3 x.f4
  unfold jh
  rw [hr]
  rfl
theorem Bd {x:iR} (h:jh x=true):1≤x.f0∧x.f0≤15:=by
  unfold jh dQ.f at h
  split at h
  · cases h
  · split at h
    · cases h
    · omega
def H7 (s:ByteArray):Bool:=decide (s.toList ≠ []) && jC s
def Aq (ts:List ByteArray) (lo gl:ByteArray) (cs:List iR):Bool:=ts.all H7 && (cs.all jh && (jC lo && (jC gl && decide (cs.length≤200))))
theorem wC (a:List ByteArray) (i:Nat) (h:i < a.length):eX ByteArray.empty a (i:Int)=a[i]:=Pj a i _ (List.getElem?_eq_getElem h)
theorem yN (a:List iR) (i:Nat) (h:i < a.length):aJ a (i:Int)=a[i]:=by
  unfold aJ
  rw [Int.toNat_natCast,List.getD_eq_getElem?_getD,List.getElem?_eq_getElem h]
  rfl
theorem E5 {α:Type} (p:α→Bool) (l:List α) (i:Nat) (h:i < l.length):(l.drop i).all p=(p l[i] && (l.drop (i+1)).all p):=by
  rw [List.drop_eq_getElem_cons h,List.all_cons]
theorem LD (ts:List ByteArray) (lo gl:ByteArray) (cs:List iR) (hc:cs.length≤140737488355328):∀ (d i:Nat),i+d=cs.length →
    Ev (fun k=>dh.l1 k cs ((cs.length:Nat):Int) (i:Int) ts lo gl cs) ((cs.drop i).all jh && (jC lo && (jC gl && decide (cs.length≤200))))
  | 0,i,hi=>by
    refine Ev.step (f:=fun _=>some _) (fun k=>?_) (Ev.now _)
    simp only [dh.l1]
    rw [if_neg (by omega),zH,zH,Option.bind_some,List.drop_eq_nil_of_le (by omega)]
    cases jC lo with
    | false=>rfl
    | true =>
      rw [if_pos rfl,Option.bind_some]
      cases jC gl with
      | false=>rfl
      | true =>
        rw [if_pos rfl]
        simp
        omega
  | d+1,i,hi=>by
    have hlt:i < cs.length:=by omega
    have ih:=LD ts lo gl cs hc d (i+1) (by omega)
    rw [E5 jh cs i hlt]
    have ru:∀ k,dh.l1 (k+1) cs ((cs.length:Nat):Int) (i:Int) ts lo gl cs=if jh cs[i]=true then dh.l1 k cs ((cs.length:Nat):Int) ((i+1:Nat):Int) ts lo gl cs else some false:=by
      intro k
      conv=>lhs;simp only [dh.l1]
      rw [if_pos (by omega),if_pos (by omega),if_pos (by omega),yN cs i hlt,O3,Option.bind_some,iG i (by omega)]
    cases hr:jh cs[i] with
    | true =>
      rw [Bool.true_and]
      exact Ev.step (fun k=>by rw [ru k,if_pos hr]) ih
    | false =>
      rw [Bool.false_and,Bool.false_and]
      exact Ev.step (f:=fun _=>some _) (fun k=>by rw [ru k,if_neg (by rw [hr];simp)]) (Ev.now _)
theorem Ia (ts:List ByteArray) (lo gl:ByteArray) (cs:List iR) (ht:ts.length≤140737488355328) (hc:cs.length≤140737488355328):∀ (d i:Nat),i+d=ts.length →
    Ev (fun k=>dh.l0 k ts ((ts.length:Nat):Int) (i:Int) ts lo gl cs) ((ts.drop i).all H7 && (cs.all jh && (jC lo && (jC gl && decide (cs.length≤200)))))
  | 0,i,hi=>by
    have h:=LD ts lo gl cs hc cs.length 0 (Nat.zero_add _)
    rw [List.drop_zero] at h
    rw [List.drop_eq_nil_of_le (by omega),List.all_nil,Bool.true_and]
    refine Ev.step (fun k=>?_) h
    simp only [dh.l0]
    rw [if_neg (by omega)]
    rfl
  | d+1,i,hi=>by
    have hlt:i < ts.length:=by omega
    have ih:=Ia ts lo gl cs ht hc d (i+1) (by omega)
    rw [E5 H7 ts i hlt]
    have ru:∀ k,dh.l0 (k+1) ts ((ts.length:Nat):Int) (i:Int) ts lo gl cs=if H7 ts[i]=true then dh.l0 k ts ((ts.length:Nat):Int) ((i+1:Nat):Int) ts lo gl cs else some false:=by
      intro k
      conv=>lhs;simp only [dh.l0]
      rw [if_pos (by omega),if_pos (by omega),if_pos (by omega),wC ts i hlt,zH,Option.bind_some,iG i (by omega)]
      unfold H7
      by_cases e:ts[i].toList=[]
      · rw [if_pos e,if_neg (by simp [e])]
      · rw [if_neg e]
        simp [e]
    cases hr:H7 ts[i] with
    | true =>
      rw [Bool.true_and]
      exact Ev.step (fun k=>by rw [ru k,if_pos hr]) ih
    | false =>
      rw [Bool.false_and,Bool.false_and]
      exact Ev.step (f:=fun _=>some _) (fun k=>by rw [ru k,if_neg (by rw [hr];simp)]) (Ev.now _)
theorem Pz (ts:List ByteArray) (lo gl:ByteArray) (cs:List iR) (ht:ts.length≤140737488355328) (hc:cs.length≤140737488355328):Ev (fun k=>dh.f k ts lo gl cs) (Aq ts lo gl cs):=by
  have h:=Ia ts lo gl cs ht hc ts.length 0 (Nat.zero_add _)
  rw [List.drop_zero] at h
  exact h
def jK (s:ByteArray):ByteArray:=if s.toList=[] then ⟨#[45]⟩ else s
theorem NR (s:ByteArray):kK.f s=some (jK s):=by
  unfold kK.f jK
  split <;> rfl
def Wf (cs:List iR):Prop:=∀ x ∈ cs,(0≤x.f1∧x.f1≤255)∧(0≤x.f2∧x.f2≤255)∧(0≤x.f3∧x.f3≤255)∧(-9223372036854775808≤x.f4∧x.f4≤9223372036854775807)
def lh (x:iR):List ByteArray:=rq x.f0.toNat x.f1 x.f2 x.f3 x.f4
theorem OL {x:iR} (h:jh x=true) (hw:(0≤x.f1∧x.f1≤255)∧(0≤x.f2∧x.f2≤255)∧(0≤x.f3∧x.f3≤255)∧(-9223372036854775808≤x.f4∧x.f4≤9223372036854775807)):mF.f x.f0 x.f1 x.f2 x.f3 x.f4=some (lh x):=by
  unfold mF.f
  rw [if_pos ⟨Bd h,hw⟩]
  rfl
def ou (lo gl:ByteArray):List (List ByteArray):=[[⟨#[108,111,99,97,108,115]⟩,jK lo],[⟨#[103,108,111,98,97,108,115]⟩,jK gl]]
def xQ (s:ByteArray):List ByteArray:=[⟨#[116,121,112,101]⟩,s]
def oz (ts:List ByteArray) (lo gl:ByteArray) (cs:List iR):List (List ByteArray):=ts.map xQ++ou lo gl++cs.map lh
def Ba (ts:List ByteArray) (lo gl:ByteArray) (cs:List iR):ByteArray:=Bs (mQ (oz ts lo gl cs))
theorem Bc {α:Type} (l:List α) (i:Nat) (h:i < l.length):l.take (i+1)=l.take i++[l[i]]:=List.take_succ_eq_append_getElem h
theorem Em (acc:List (List ByteArray)) (ha:acc.length≤1000002) (cs:List iR) (hc:cs.length≤1000000) (hr:∀ x ∈ cs,jh x=true) (hw:Wf cs) (r:ByteArray) (hj:kH.f (acc++cs.map lh)=some r):∀ (d i:Nat),i+d=cs.length →
    Ev (fun k=>bf.l1 k (acc++(cs.take i).map lh) cs ((cs.length:Nat):Int) (i:Int)) (r,0)
  | 0,i,hi=>by
    refine Ev.step (f:=fun _=>some _) (fun k=>?_) (Ev.now _)
    simp only [bf.l1]
    rw [if_neg (by omega),List.take_of_length_le (by omega),hj,Option.bind_some]
  | d+1,i,hi=>by
    have hlt:i < cs.length:=by omega
    have ih:=Em acc ha cs hc hr hw r hj d (i+1) (by omega)
    refine Ev.step (fun k=>?_) ih
    have hm:cs[i] ∈ cs:=List.getElem_mem hlt
    conv=>lhs;simp only [bf.l1]
    rw [if_pos (by omega),if_pos (by omega),if_pos (by omega),yN cs i hlt,OL (hr _ hm) (hw _ hm),Option.bind_some,if_pos (by simp;omega),iG i (by omega),Bc cs i hlt,List.map_append,List.append_assoc]
    rfl
theorem En (ts:List ByteArray) (lo gl:ByteArray) (cs:List iR) (ht:ts.length≤1000000) (hc:cs.length≤1000000) (hr:∀ x ∈ cs,jh x=true) (hw:Wf cs) (r:ByteArray) (hj:kH.f (oz ts lo gl cs)=some r):∀ (d i:Nat),i+d=ts.length →
    Ev (fun k=>bf.l0 k ((ts.take i).map xQ) ts ((ts.length:Nat):Int) (i:Int) ts lo gl cs) (r,0)
  | 0,i,hi=>by
    have h:=Em (ts.map xQ++ou lo gl) (by simp [ou];omega) cs hc hr hw r hj cs.length 0 (Nat.zero_add _)
    rw [List.take_zero,List.map_nil,List.append_nil] at h
    refine Ev.step (fun k=>?_) h
    simp only [bf.l0]
    rw [if_neg (by omega),NR,NR,Option.bind_some,Option.bind_some,Option.bind_some,if_pos (by simp;omega),List.take_of_length_le (by omega)]
    rfl
  | d+1,i,hi=>by
    have hlt:i < ts.length:=by omega
    have ih:=En ts lo gl cs ht hc hr hw r hj d (i+1) (by omega)
    refine Ev.step (fun k=>?_) ih
    conv=>lhs;simp only [bf.l0]
    rw [if_pos (by omega),if_pos (by omega),if_pos (by omega),if_pos (by simp;omega),wC ts i hlt,iG i (by omega),Bc ts i hlt,List.map_append]
    rfl
theorem Lm (ts:List ByteArray) (lo gl:ByteArray) (cs:List iR) (ht:ts.length≤140737488355328) (hc:cs.length≤140737488355328) (hw:Wf cs) (hj:Aq ts lo gl cs=true→ts.length≤1000000∧kH.f (oz ts lo gl cs)=some (Ba ts lo gl cs)) :
    Ev (fun k=>bf.f k ts lo gl cs) (if Aq ts lo gl cs=true then (Ba ts lo gl cs,0) else (⟨#[]⟩,2)):=by
  unfold bf.f
  refine Ev.bind (Pz ts lo gl cs ht hc) ?_
  by_cases h:Aq ts lo gl cs=true
  · rw [if_pos h]
    have hr:∀ x ∈ cs,jh x=true:=by
      unfold Aq at h
      simp only [Bool.and_eq_true,List.all_eq_true] at h
      exact h.2.1
    have hc2:cs.length≤1000000:=by
      unfold Aq at h
      simp only [Bool.and_eq_true,decide_eq_true_eq] at h
      omega
    have h0:=En ts lo gl cs (hj h).1 hc2 hr hw _ (hj h).2 ts.length 0 (Nat.zero_add _)
    rw [List.take_zero,List.map_nil] at h0
    have hm:Aq ts lo gl cs=true:=h
    rw [hm]
    exact h0
  · have hf:Aq ts lo gl cs=false:=by simpa using h
    rw [if_neg h,hf]
    exact Ev.now _
end Go.Proofs.YtkclndkbccbhaaaGreatDoor.P
end
