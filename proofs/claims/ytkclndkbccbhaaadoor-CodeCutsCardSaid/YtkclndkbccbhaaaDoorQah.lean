/- Parts of the proof of Both: what the functions that it reaches compute, and plain facts about that. -/
import Derived.Test.YtkclndkbccbhaaaDoorQac
import Derived.Test.YtkclndkbccbhaaaDoorQag
import Derived.Test.YtkclndkbccbhaaaDoorQad
import Derived.Test.YtkclndkbccbhaaaDoorQae
import Derived.Test.YtkclndkbccbhaaaDoorQaf
import Derived.ChangeMaps4
import Derived.Deep.MidRow
set_option linter.unusedVariables false
set_option linter.unusedSimpArgs false
section
namespace Go.Proofs.YtkclndkbccbhaaaDoor.P
open Go Go.RowKit Go.Proofs.az.dw Go.Proofs.az.gB Go.Proofs.az.gX
def Bs (w:List UInt8):ByteArray:=⟨w.toArray⟩
theorem oV (s:ByteArray):Bs s.data.toList=s:=by cases s;rfl
theorem ED (w:List UInt8):(Bs w).data.toList=w:=rfl
theorem Hr (w:List UInt8):(Bs w).toList=w:=by rw [ByteArray.toList_eq];rfl
theorem mJ (w:List UInt8):(Bs w).size=w.length:=by simp [Bs,ByteArray.size]
theorem BM (s:ByteArray):s.data.toList.length=s.size:=(Lib.size_eq s).symm
def conv (L:List (List (List UInt8))):List (List ByteArray):=L.map (·.map Bs)
theorem LW (a b:List (List (List UInt8))):conv (a++b)=conv a++conv b:=by simp [conv]
theorem ru (a:List (List (List UInt8))):(conv a).length=a.length:=by simp [conv]
def acd (R:List (List (List UInt8)) × Nat × Nat):List (List ByteArray) × Int × Int:=(conv R.1,(R.2.1:Int),(R.2.2:Int))
theorem aaS (L:List (List UInt8)) (i:Nat) (x:List UInt8) (h:L[i]? = some x):ja ByteArray.empty (L.map Bs) (i:Int)=Bs x:=by
  unfold ja
  rw [Int.toNat_natCast,List.getD_eq_getElem?_getD,List.getElem?_map,h]
  rfl
theorem abp (w:List UInt8) (i:Nat) (c:UInt8) (h:w[i]? = some c):bt (Bs w) (i:Int)=(c.toNat:Int):=by
  obtain ⟨hl,hc⟩:=List.getElem?_eq_some_iff.1 h
  have hs:((i:Int)).toNat < (Bs w).size:=by rw [Int.toNat_natCast,mJ];exact hl
  unfold bt
  rw [dif_pos hs]
  have:(Bs w)[((i:Int)).toNat]'hs=c:=by rw [← hc];rfl
  rw [this]
theorem nK (i:Nat) (h:i < 4611686018427387904):wrap64 ((i:Int)+1)=((i+1:Nat):Int):=by unfold wrap64;omega
theorem Ox (s:ByteArray) (c:UInt8) (hs:s.size < 4294967281):strings_Split.f s ⟨#[c]⟩=some ((uq c s.data.toList).map Bs):=by
  unfold strings_Split.f
  rw [if_pos ⟨hs,by simp [ByteArray.size]⟩]
  congr 1
  have h:=Lib.splitB_data ⟨#[c]⟩ 0 (Lib.countB s ⟨#[c]⟩) s
  have hk:Lib.countB s ⟨#[c]⟩=s.data.toList.count c:=Lib.count_one c s.data.toList
  have h1:Lib.splitK [c] 0 (Lib.countB s ⟨#[c]⟩) s.data.toList=uq c s.data.toList:=EO c _ _ (by rw [hk];exact Nat.le_refl _)
  have h2:(Lib.splitB ⟨#[c]⟩ 0 (Lib.countB s ⟨#[c]⟩) s).map (·.data.toList)=uq c s.data.toList:=h.trans h1
  rw [← h2,List.map_map]
  conv=>lhs;rw [← List.map_id (Lib.splitB ⟨#[c]⟩ 0 (Lib.countB s ⟨#[c]⟩) s)]
  refine List.map_congr_left fun x _=>?_
  exact (oV x).symm
theorem akD (s:ByteArray) (hs:s.size < 4294967281):∃ b t,strings_Cut.f s ⟨#[35]⟩=some (Bs (s.data.toList.takeWhile (· ≠ 35)),b,t):=by
  unfold strings_Cut.f
  rw [if_pos hs]
  refine ⟨⟨(Lib.cut s.data.toList [35]).2.1.toArray⟩,(Lib.cut s.data.toList [35]).2.2,?_⟩
  rw [← aan 35 s.data.toList]
  rfl
theorem OH:∀ b:UInt8,([97,98,99,100,101,102,103,104,105,106,107,108,109,110,111,112,113,114,115,116,117,118,119,120,121,122,48,49,50,51,52,53,54,55,56,57,45]:List UInt8).contains b=okc b:=by
  have h:∀ n:Fin 256,([97,98,99,100,101,102,103,104,105,106,107,108,109,110,111,112,113,114,115,116,117,118,119,120,121,122,48,49,50,51,52,53,54,55,56,57,45]:List UInt8).contains (UInt8.ofNat n.val)=okc (UInt8.ofNat n.val):=by decide +kernel
  intro b
  have:=h ⟨b.toNat,b.toNat_lt⟩
  simpa using this
theorem adD (w:List UInt8):sN.f (Bs w)=some (F6 w):=by
  unfold sN.f F6
  rw [mJ]
  by_cases hl:w.length≤30
  · rw [if_pos (by omega)]
    unfold jm.f
    rw [if_pos ⟨by rw [mJ];omega,by decide,by decide +kernel⟩]
    simp only [Option.bind_some]
    congr 1
    rw [decide_eq_true hl,Bool.true_and,Bool.eq_iff_iff,beq_iff_eq,ByteArray.toList_eq,List.all_eq_true]
    show Lib.trimS w [97,98,99,100,101,102,103,104,105,106,107,108,109,110,111,112,113,114,115,116,117,118,119,120,121,122,48,49,50,51,52,53,54,55,56,57,45]=[] ↔ _
    rw [Bz]
    constructor
    · intro h x hx
      rw [← OH]
      exact h x hx
    · intro h x hx
      rw [OH]
      exact h x hx
  · rw [if_neg (by omega),decide_eq_false hl,Bool.false_and]
theorem LJ {M:List (List UInt8)} {j:Nat} {w:List UInt8} (h:M[j]? = some w):(M.drop j).filter (· ≠ [])=(if w=[] then [] else [w])++(M.drop (j+1)).filter (· ≠ []):=by
  obtain ⟨hl,hw⟩:=List.getElem?_eq_some_iff.1 h
  rw [List.drop_eq_getElem_cons hl,hw,List.filter_cons]
  by_cases e:w=[]
  · simp [e]
  · simp [e]
theorem aaX (T:List ByteArray) (n:Int) (i:Nat) (hi:i < 1000000) (x5:List (List ByteArray)) (hx5:x5.length≤1000000) (M:List (List UInt8)) (hM:M.length≤1000000) :
    ∀ (d j:Nat),j+d=M.length→∀ (acc:List (List UInt8)),acc.length≤j →
      ((((M.drop j).filter (· ≠ [])).all F6=false→Ev (fun k=>dK.l1 k x5 (i:Int) (acc.map Bs) T n (i:Int) (M.map Bs) ((M.length:Nat):Int) (j:Int)) ([],((i+1:Nat):Int),4)) ∧
       (((M.drop j).filter (· ≠ [])).all F6=true→∀ r,Ev (fun k=>dK.l0 k (x5++conv (keep (acc++(M.drop j).filter (· ≠ [])))) T n ((i+1:Nat):Int)) r →
        Ev (fun k=>dK.l1 k x5 (i:Int) (acc.map Bs) T n (i:Int) (M.map Bs) ((M.length:Nat):Int) (j:Int)) r))
  | 0,j,hj,acc,ha=>by
    have hd:M.drop j=[]:=List.drop_eq_nil_of_le (by omega)
    rw [hd]
    refine ⟨fun h=>by simp at h,fun _ r hr=>?_⟩
    refine Ev.step (fun k=>?_) hr
    simp only [dK.l1]
    rw [if_neg (by omega),List.length_map,nK i (by omega)]
    simp only [List.filter_nil,List.append_nil]
    by_cases e:acc=[]
    · subst e
      rw [if_neg (by simp)]
      simp [keep,conv]
    · have hp:0 < acc.length:=List.length_pos_iff.2 e
      rw [if_pos (by omega),if_pos (by omega)]
      simp [keep,conv,e]
  | d+1,j,hj,acc,ha=>by
    have hlt:j < M.length:=by omega
    have hw:M[j]? = some M[j]:=List.getElem?_eq_getElem hlt
    generalize M[j]=w at hw
    have ih:=aaX T n i hi x5 hx5 M hM d (j+1) (by omega)
    rw [LJ hw]
    have Ib:∀ k,dK.l1 (k+1) x5 (i:Int) (acc.map Bs) T n (i:Int) (M.map Bs) ((M.length:Nat):Int) (j:Int) =
        if w=[] then dK.l1 k x5 (i:Int) (acc.map Bs) T n (i:Int) (M.map Bs) ((M.length:Nat):Int) ((j+1:Nat):Int)
        else if F6 w=true then dK.l1 k x5 (i:Int) ((acc++[w]).map Bs) T n (i:Int) (M.map Bs) ((M.length:Nat):Int) ((j+1:Nat):Int) else some ([],((i+1:Nat):Int),4):=by
      intro k
      conv=>lhs;simp only [dK.l1]
      rw [if_pos (by omega),if_pos (by omega),if_pos (by rw [List.length_map];omega),aaS M j w hw,Hr,adD,Option.bind_some,nK j (by omega),nK i (by omega),
        if_pos (show (acc.map Bs).length < 8796093022208 by rw [List.length_map];omega),List.map_append]
      rfl
    by_cases e:w=[]
    · rw [if_pos e,List.nil_append]
      have h:=ih acc (by omega)
      refine ⟨fun hf=>Ev.step (fun k=>by rw [Ib k,if_pos e]) (h.1 hf),fun ht r hr=>Ev.step (fun k=>by rw [Ib k,if_pos e]) (h.2 ht r hr)⟩
    · rw [if_neg e,List.singleton_append,List.all_cons]
      have h:=ih (acc++[w]) (by rw [List.length_append,List.length_singleton];omega)
      cases ho:F6 w with
      | true =>
        rw [Bool.true_and]
        have e2:acc++w :: (M.drop (j+1)).filter (· ≠ [])=(acc++[w])++(M.drop (j+1)).filter (· ≠ []):=by simp
        rw [e2]
        refine ⟨fun hf=>Ev.step (fun k=>by rw [Ib k,if_neg e,if_pos ho]) (h.1 hf),fun ht r hr=>Ev.step (fun k=>by rw [Ib k,if_neg e,if_pos ho]) (h.2 ht r hr)⟩
      | false =>
        rw [Bool.false_and]
        refine ⟨fun _=>Ev.step (f:=fun _=>some _) (fun k=>by rw [Ib k,if_neg e,if_neg (by rw [ho];simp)]) (Ev.now _),fun ht=>by cases ht⟩
theorem zB (p:UInt8→Bool) (l:List UInt8):(l.takeWhile p).length≤l.length:=(List.takeWhile_prefix _).length_le
theorem EP (c:UInt8) (l:List UInt8):(uq c l).length≤l.length+1:=by
  rw [Nc]
  have:=List.count_le_length (a:=c) (l:=l)
  omega
theorem aaY (T:List (List UInt8)) (hT:T.length≤30000) (hx:∀ x ∈ T,x.length≤30000) :
    ∀ (d i:Nat),i+d=T.length→∀ (acc:List (List (List UInt8))),acc.length≤i →
      Ev (fun k=>dK.l0 k (conv acc) (T.map Bs) ((T.length:Nat):Int) (i:Int)) (acd (LR i acc (T.drop i)))
  | 0,i,hi,acc,ha=>by
    have hd:T.drop i=[]:=List.drop_eq_nil_of_le (by omega)
    rw [hd]
    refine Ev.step (f:=fun _=>some _) (fun k=>?_) (Ev.now _)
    simp only [dK.l0]
    rw [if_neg (by omega)]
    rfl
  | d+1,i,hi,acc,ha=>by
    have hlt:i < T.length:=by omega
    have hw:T[i]? = some T[i]:=List.getElem?_eq_getElem hlt
    have hdr:T.drop i=T[i] :: T.drop (i+1):=List.drop_eq_getElem_cons hlt
    have hxl:=hx T[i] (List.getElem_mem hlt)
    generalize T[i]=x at hw hdr hxl
    obtain ⟨b,t,hc⟩:=akD (Bs x) (by rw [mJ];omega)
    rw [ED] at hc
    have hlen:(uq 32 (x.takeWhile (· ≠ 35))).length≤30001:=by
      have h1:=EP 32 (x.takeWhile (· ≠ 35))
      have h2:=zB (· ≠ 35) x
      omega
    have hsp:strings_Split.f (Bs (x.takeWhile (· ≠ 35))) ⟨#[32]⟩=some ((uq 32 (x.takeWhile (· ≠ 35))).map Bs):=Ox _ 32 (by rw [mJ];have:=zB (· ≠ 35) x;omega)
    have Ib:∀ k,dK.l0 (k+1) (conv acc) (T.map Bs) ((T.length:Nat):Int) (i:Int) =
        dK.l1 k (conv acc) (i:Int) (([]:List (List UInt8)).map Bs) (T.map Bs) ((T.length:Nat):Int) (i:Int) ((uq 32 (x.takeWhile (· ≠ 35))).map Bs) (((uq 32 (x.takeWhile (· ≠ 35))).length:Nat):Int) ((0:Nat):Int):=by
      intro k
      conv=>lhs;simp only [dK.l0]
      rw [if_pos (by omega),if_pos (by omega),if_pos (by rw [List.length_map];omega),aaS T i x hw,hc,Option.bind_some,hsp,Option.bind_some,List.length_map]
      rfl
    refine Ev.step Ib ?_
    have h:=aaX (T.map Bs) ((T.length:Nat):Int) i (by omega) (conv acc) (by rw [ru];omega) (uq 32 (x.takeWhile (· ≠ 35))) (by omega) (uq 32 (x.takeWhile (· ≠ 35))).length 0 (Nat.zero_add _) [] (Nat.le_refl _)
    rw [hdr]
    unfold LR
    have ht:(List.drop 0 (uq 32 (x.takeWhile (· ≠ 35)))).filter (· ≠ [])=toks x:=rfl
    rw [ht,List.nil_append] at h
    cases ho:okL x with
    | true =>
      rw [if_pos rfl]
      refine h.2 ho _ ?_
      rw [← LW]
      refine aaY T hT hx d (i+1) (by omega) _ ?_
      rw [List.length_append]
      have:(keep (toks x)).length≤1:=by unfold keep;split <;> simp
      omega
    | false =>
      rw [if_neg (by simp)]
      exact h.1 ho
theorem Ky {c:UInt8} {l p:List UInt8} (h:p ∈ uq c l):p.length≤l.length:=by
  have h1:=Xm c l
  have:∀ L:List (List UInt8),p ∈ L→p.length+1≤(L.map fun w=>w.length+1).sum:=by
    intro L
    induction L with
    | nil=>intro h;cases h
    | cons y ys ih =>
      intro h
      rcases List.mem_cons.1 h with rfl|h
      · simp only [List.map_cons,List.sum_cons];omega
      · have:=ih h
        simp only [List.map_cons,List.sum_cons];omega
  have:=this _ h
  omega
def NP (s:ByteArray):List (List (List UInt8)) × Nat × Nat:=LR 0 [] (uq 10 s.data.toList)
theorem KW (s:ByteArray) (hs:s.size≤20000):Ev (fun k=>dK.f k s) (acd (NP s)):=by
  have hl:=EP 10 s.data.toList
  rw [BM] at hl
  refine Ev.congr (f:=fun k=>dK.l0 k (conv []) ((uq 10 s.data.toList).map Bs) (((uq 10 s.data.toList).length:Nat):Int) ((0:Nat):Int)) (fun k=>?_) ?_
  · unfold dK.f
    rw [if_neg (by omega),Ox s 10 (by omega),Option.bind_some,List.length_map]
    rfl
  · have:=aaY (uq 10 s.data.toList) (by omega) (fun x hx=>by have:=Ky hx;rw [BM] at this;omega) (uq 10 s.data.toList).length 0 (Nat.zero_add _) [] (Nat.le_refl _)
    exact this
theorem ac7 (a b:List UInt8):Bs a++Bs b=Bs (a++b):=by
  have:(Bs a++Bs b).data.toList=a++b:=by
    rw [ByteArray.data_append]
    simp [Bs]
  rw [← oV (Bs a++Bs b),this]
theorem Fz (w:List UInt8) (a b:Nat):(Bs w).extract a b=Bs ((w.drop a).take (b - a)):=by
  rw [← oV ((Bs w).extract a b),Lib.extract_data]
  rfl
theorem SG (a:List (List ByteArray)) (i:Nat) (x:List ByteArray) (h:a[i]? = some x):lM a (i:Int)=x:=by
  unfold lM
  rw [Int.toNat_natCast,List.getD_eq_getElem?_getD,h]
  rfl
theorem XA (a:List ByteArray) (i:Nat) (x:ByteArray) (h:a[i]? = some x):ja ByteArray.empty a (i:Int)=x:=by
  unfold ja
  rw [Int.toNat_natCast,List.getD_eq_getElem?_getD,h]
  rfl
theorem toList_inj {a b:ByteArray}:a.toList=b.toList ↔ a=b:=by
  rw [ByteArray.toList_eq,ByteArray.toList_eq]
  constructor
  · intro h
    rw [← oV a,← oV b,h]
  · rintro rfl;rfl
def Small (A:List (List (List UInt8))):Prop:=A.length≤1000000∧∀ x ∈ A,x.length≤1000000
theorem Fg (L:List (List (List UInt8))):o9 (conv L)=joinL L:=by
  unfold o9 conv joinL
  rw [List.map_map]
  congr 1
  refine List.map_congr_left fun ws _=>?_
  show Lib.join ((ws.map Bs).map (·.data.toList)) [32]++[10]=_
  rw [List.map_map]
  congr 2
  conv=>rhs;rw [← List.map_id ws]
  exact List.map_congr_left fun x _=>rfl
theorem ach (L:List (List (List UInt8))) (h:Small L) (hl:(joinL L).length≤1000000):lW.f (conv L)=some (Bs (joinL L)):=by
  unfold lW.f
  rw [Fg,if_pos]
  · rfl
  · refine ⟨by rw [ru];have:=h.1;omega,fun x hx=>?_,by omega⟩
    obtain ⟨y,hy,rfl⟩:=List.mem_map.1 hx
    rw [List.length_map]
    have:=h.2 y hy
    omega
theorem OG (L:List (List (List UInt8))):acd (L,0,0)=(conv L,0,0):=rfl
theorem size_data (s:ByteArray):s.size=s.data.toList.length:=(BM s).symm
theorem Rf (a b:List (List UInt8)):rW (a++b)=rW a++rW b:=by simp [rW]
theorem NW (x:List UInt8) (b:List (List UInt8)):rW (x :: b)=keep (toks x)++rW b:=by simp [rW]
def MW (c:UInt8):Bool:=decide (48≤c.toNat∧c.toNat≤57)
def vX (acc:Nat) (D:List UInt8):Nat:=D.foldl (fun a c=>a * 10+(c.toNat - 48)) acc
theorem Xi (D:List UInt8) (acc:Nat):acc≤vX acc D:=by
  induction D generalizing acc with
  | nil=>exact Nat.le_refl _
  | cons c r ih =>
    have:=ih (acc * 10+(c.toNat - 48))
    show acc≤vX (acc * 10+(c.toNat - 48)) r
    omega
theorem yM (acc:Nat) (c:UInt8) (r:List UInt8):vX acc (c :: r)=vX (acc * 10+(c.toNat - 48)) r:=by
  unfold vX
  rw [List.foldl_cons]
theorem Qx (acc:Nat) (D:List UInt8) (c:UInt8):vX acc (D++[c])=vX acc D * 10+(c.toNat - 48):=by
  unfold vX
  rw [List.foldl_append,List.foldl_cons,List.foldl_nil]
theorem RS (D:List UInt8) (acc:Nat):acc * 10 ^ D.length≤vX acc D:=by
  induction D generalizing acc with
  | nil=>simp [vX]
  | cons c r ih =>
    rw [yM]
    refine Nat.le_trans ?_ (ih _)
    rw [List.length_cons,Nat.pow_succ,Nat.mul_comm (10 ^ r.length) 10,← Nat.mul_assoc]
    exact Nat.mul_le_mul_right _ (by omega)
theorem QD (M:Nat) (hM:M=18446744073709551615) (D:List UInt8) (h:∀ c ∈ D,MW c=true) (acc:Nat) (ha:acc≤M):Lib.parseUintM M acc D=if vX acc D≤M then .ok (vX acc D) else .range:=by
  induction D generalizing acc with
  | nil =>
    show Lib.NumEnd.ok acc=if acc≤M then Lib.NumEnd.ok acc else Lib.NumEnd.range
    rw [if_pos ha]
  | cons c r ih =>
    have hc:=h c (by simp)
    simp only [MW,decide_eq_true_eq] at hc
    have hge:=Xi r (acc * 10+(c.toNat - 48))
    rw [yM]
    unfold Lib.parseUintM
    rw [if_pos hc]
    by_cases h1:1844674407370955162≤acc
    · rw [if_pos h1,if_neg (by omega)]
    · rw [if_neg h1]
      by_cases h2:M < acc * 10+(c.toNat - 48)
      · rw [if_pos h2,if_neg (by omega)]
      · rw [if_neg h2]
        exact ih (fun x hx=>h x (by simp [hx])) _ (by omega)
theorem G8:∀ b:UInt8,([48,49,50,51,52,53,54,55,56,57]:List UInt8).contains b=MW b:=by
  have h:∀ n:Fin 256,([48,49,50,51,52,53,54,55,56,57]:List UInt8).contains (UInt8.ofNat n.val)=MW (UInt8.ofNat n.val):=by decide +kernel
  intro b
  have:=h ⟨b.toNat,b.toNat_lt⟩
  simpa using this
theorem Kt {D:List UInt8}:Lib.trimS D [48,49,50,51,52,53,54,55,56,57]=[] ↔ ∀ c ∈ D,MW c=true:=by
  rw [Bz]
  constructor
  · intro h x hx;rw [← G8];exact h x hx
  · intro h x hx;rw [G8];exact h x hx
theorem Ia (D:List UInt8):unsigned (45 :: D)=D:=rfl
theorem H9 (w:List UInt8) (h:w.head? ≠ some 45):unsigned w=w:=by
  unfold unsigned Lib.trimPrefix Lib.hasPrefix
  cases w with
  | nil=>rfl
  | cons c r =>
    rw [if_neg]
    intro hp
    simp only [List.isPrefixOf,Bool.and_true,beq_iff_eq] at hp
    exact h (by rw [← hp];rfl)
structure Num (w D:List UInt8):Prop where
  ne:D ≠ []
  dig:∀ c ∈ D,MW c=true
  zero:D.head? = some 48→w=[48]
theorem QI (w:List UInt8):vG w=true ↔ Num w (unsigned w):=by
  unfold vG
  simp only [Bool.and_eq_true,Bool.not_eq_true',List.isEmpty_iff,List.isEmpty_eq_false_iff,Bool.and_eq_false_iff,beq_eq_false_iff_ne,Bool.not_eq_false',beq_iff_eq]
  rw [Kt]
  constructor
  · rintro ⟨⟨h1,h2⟩,h3⟩
    exact ⟨h1,h2,fun h=>by rcases h3 with h3|h3;exact absurd h h3;exact h3⟩
  · rintro ⟨h1,h2,h3⟩
    refine ⟨⟨h1,h2⟩,?_⟩
    by_cases h:(unsigned w).head? = some 48
    · exact .inr (h3 h)
    · exact .inl h
def OQ (neg:Bool) (u:Nat):Bool:=if neg then decide (u≤9223372036854775808) else decide (u < 9223372036854775808)
def sgn (neg:Bool) (u:Nat):Int:=if neg then -(u:Int) else u
theorem aci {c:UInt8} (h:MW c=true):c.toNat ≠ 43∧c.toNat ≠ 45:=by
  simp only [MW,decide_eq_true_eq] at h
  omega
theorem Ny (D:List UInt8) (h:∀ c ∈ D,MW c=true) (hne:D ≠ []):Lib.parseUintB 64 D=if vX 0 D≤18446744073709551615 then .ok (vX 0 D) else .range:=by
  unfold Lib.parseUintB
  rw [if_neg hne]
  exact QD _ (by decide) D h 0 (by omega)
theorem SQ (neg:Bool) (D:List UInt8) (h:∀ c ∈ D,MW c=true) (hne:D ≠ []):numOf (if neg then 45 :: D else D)=if OQ neg (vX 0 D) then (sgn neg (vX 0 D),0) else (0,3):=by
  have hc:=Ny D h hne
  generalize vX 0 D=u at hc ⊢
  unfold numOf
  cases neg with
  | true =>
    simp only [if_true]
    unfold Lib.parseIntB
    dsimp only
    rw [if_pos (show (45:UInt8).toNat=43 ∨ (45:UInt8).toNat=45 from Or.inr rfl),hc]
    by_cases hu:u≤18446744073709551615
    · rw [if_pos hu]
      simp only [show ((45:UInt8).toNat=45)=True from eq_true rfl,not_true_eq_false,false_and,if_false,true_and,if_true]
      by_cases h2:2 ^ (64 - 1) < u
      · rw [if_pos h2]
        have:OQ true u=false:=by unfold OQ;rw [if_pos rfl];exact decide_eq_false (by omega)
        rw [this]
        rfl
      · rw [if_neg h2]
        have:OQ true u=true:=by unfold OQ;rw [if_pos rfl];exact decide_eq_true (by omega)
        rw [this]
        rfl
    · rw [if_neg hu]
      have:OQ true u=false:=by unfold OQ;rw [if_pos rfl];exact decide_eq_false (by omega)
      rw [this]
      rfl
  | false =>
    simp only [Bool.false_eq_true,if_false]
    cases D with
    | nil=>exact absurd rfl hne
    | cons c r =>
      have hcd:=aci (h c (by simp))
      unfold Lib.parseIntB
      simp only []
      rw [if_neg (by intro h;rcases h with h|h;exact hcd.1 h;exact hcd.2 h),hc]
      by_cases hu:u≤18446744073709551615
      · rw [if_pos hu]
        simp only [eq_false hcd.2,not_false_eq_true,true_and,false_and,if_false]
        by_cases h2:2 ^ (64 - 1)≤u
        · rw [if_pos h2]
          have:OQ false u=false:=by unfold OQ;rw [if_neg (by simp)];exact decide_eq_false (by omega)
          rw [this]
          rfl
        · rw [if_neg h2]
          have:OQ false u=true:=by unfold OQ;rw [if_neg (by simp)];exact decide_eq_true (by omega)
          rw [this]
          rfl
      · rw [if_neg hu]
        have:OQ false u=false:=by unfold OQ;rw [if_neg (by simp)];exact decide_eq_false (by omega)
        rw [this]
        rfl
theorem Tc {c:UInt8} {r:List UInt8} (hc:MW c=true) (h48:c ≠ 48):10 ^ r.length≤vX 0 (c :: r):=by
  rw [yM]
  have hd:48≤c.toNat∧c.toNat≤57:=of_decide_eq_true hc
  have hne:c.toNat ≠ 48:=fun h=>h48 (UInt8.toNat_inj.1 h)
  have h1:=RS r (0 * 10+(c.toNat - 48))
  refine Nat.le_trans ?_ h1
  generalize 10 ^ r.length=q
  have:1 * q≤(0 * 10+(c.toNat - 48)) * q:=Nat.mul_le_mul_right q (by omega)
  omega
theorem adA:(10:Nat) ^ 19=10000000000000000000:=by decide
def ace (w:List UInt8):Int × Int:=if vG w then numOf w else (0,4)
theorem LQ (d:Nat) (h:d < 10):(UInt8.ofNat (48+d)).toNat=48+d:=by
  have:(UInt8.ofNat (48+d)).toNat=(48+d) % 256:=UInt8.toNat_ofNat'
  omega
theorem BL (n:Nat):∀ u:Nat,u≤n→(∀ c ∈ Lib.decDigits u,MW c=true)∧Lib.decDigits u ≠ []∧vX 0 (Lib.decDigits u)=u∧((Lib.decDigits u).head? = some 48→u=0):=by
  induction n with
  | zero =>
    intro u hu
    obtain rfl:u=0:=by omega
    rw [Lib.decDigits_one (by omega)]
    refine ⟨by decide,by decide,?_,fun _=>rfl⟩
    decide
  | succ n ih =>
    intro u hu
    by_cases h:u < 10
    · rw [Lib.decDigits_one h]
      have hd:=LQ u h
      refine ⟨?_,by simp,?_,?_⟩
      · intro c hc
        rw [List.mem_singleton.1 hc]
        unfold MW
        rw [hd]
        exact decide_eq_true (by omega)
      · rw [yM,hd]
        show 0 * 10+(48+u - 48)=u
        omega
      · intro hh
        simp only [List.head?_cons,Option.some.injEq] at hh
        have:=congrArg UInt8.toNat hh
        rw [hd] at this
        have h48:(48:UInt8).toNat=48:=rfl
        omega
    · have ih':=ih (u / 10) (by omega)
      rw [Lib.decDigits,dif_neg h]
      have hd:=LQ (u % 10) (by omega)
      refine ⟨?_,by simp,?_,?_⟩
      · intro c hc
        rcases List.mem_append.1 hc with hc|hc
        · exact ih'.1 c hc
        · rw [List.mem_singleton.1 hc]
          unfold MW
          rw [hd]
          exact decide_eq_true (by omega)
      · rw [Qx,ih'.2.2.1,hd]
        omega
      · intro hh
        have:(Lib.decDigits (u / 10)++[UInt8.ofNat (48+u % 10)]).head? = (Lib.decDigits (u / 10)).head?:=by
          cases hq:Lib.decDigits (u / 10) with
          | nil=>exact absurd hq ih'.2.1
          | cons a b=>rfl
        rw [this] at hh
        have:=ih'.2.2.2 hh
        omega
theorem aam (u:Nat) (h:u≤9223372036854775808):(Lib.decDigits u).length≤20:=by
  have hp:=BL u u (Nat.le_refl _)
  cases hq:Lib.decDigits u with
  | nil=>simp
  | cons c r =>
    rw [hq] at hp
    by_cases h48:c=48
    · subst h48
      have h0:=hp.2.2.2 rfl
      subst h0
      rw [Lib.decDigits_one (by omega)] at hq
      rw [← hq]
      decide
    · have h1:=Tc (r:=r) (hp.1 c (by simp)) h48
      rw [hp.2.2.1] at h1
      rw [List.length_cons]
      rcases Nat.lt_or_ge r.length 19 with h2|h2
      · omega
      · have h3:(10:Nat) ^ 19≤10 ^ r.length:=Nat.pow_le_pow_right (by omega) h2
        rw [adA] at h3
        omega
theorem GU (n:Int):∃ neg:Bool,Lib.itoa n=(if neg then 45 :: Lib.decDigits n.natAbs else Lib.decDigits n.natAbs)∧sgn neg n.natAbs=n∧(neg=true→n < 0)∧(neg=false→0≤n):=by
  unfold Lib.itoa
  by_cases h:n < 0
  · rw [if_pos h]
    refine ⟨true,rfl,?_,fun _=>h,(fun h=>by cases h)⟩
    unfold sgn
    rw [if_pos rfl]
    omega
  · rw [if_neg h]
    refine ⟨false,?_,?_,(fun h=>by cases h),fun _=>by omega⟩
    · rw [if_neg (by simp),show n.toNat=n.natAbs from by omega]
    · unfold sgn
      rw [if_neg (by simp)]
      omega
theorem Fh (n:Int) (h0:-9223372036854775808≤n) (h1:n≤9223372036854775807):vG (Lib.itoa n)=true∧numOf (Lib.itoa n)=(n,0)∧(Lib.itoa n).length≤21:=by
  obtain ⟨neg,hi,hs,hn1,hn2⟩:=GU n
  have hp:=BL n.natAbs n.natAbs (Nat.le_refl _)
  have hl:=aam n.natAbs (by omega)
  rw [hi]
  have hhead:(Lib.decDigits n.natAbs).head? ≠ some 45:=by
    intro h
    cases hq:Lib.decDigits n.natAbs with
    | nil=>exact hp.2.1 hq
    | cons c r =>
      rw [hq] at h hp
      have:=hp.1 c (by simp)
      simp only [List.head?_cons,Option.some.injEq] at h
      subst h
      exact absurd this (by decide)
  refine ⟨?_,?_,?_⟩
  · rw [QI]
    cases neg with
    | true =>
      rw [if_pos rfl,Ia]
      refine ⟨hp.2.1,hp.1,fun h=>?_⟩
      have:=hp.2.2.2 h
      have:=hn1 rfl
      omega
    | false =>
      rw [if_neg (by simp),H9 _ hhead]
      refine ⟨hp.2.1,hp.1,fun h=>?_⟩
      rw [hp.2.2.2 h,Lib.decDigits_one (by omega)]
      rfl
  · rw [SQ neg _ hp.1 hp.2.1,hp.2.2.1,if_pos,hs]
    unfold OQ
    cases neg with
    | true=>rw [if_pos rfl];exact decide_eq_true (by omega)
    | false=>have:=hn2 rfl;rw [if_neg (by simp)];exact decide_eq_true (by omega)
  · cases neg with
    | true=>rw [if_pos rfl,List.length_cons];omega
    | false=>rw [if_neg (by simp)];omega
theorem adC (w:List UInt8) (hw:w.length≤10000):mf.f (Bs w)=some (ace w):=by
  unfold mf.f ace
  rw [mJ,if_pos (by omega),ED]
  split <;> rfl
def zl (x:List (List UInt8)):Nat:=(x.map fun w=>w.length+1).sum
def tot (L:List (List (List UInt8))):Nat:=(L.map fun x=>zl x+1).sum
theorem mQ (w:List UInt8) (x:List (List UInt8)):zl (w :: x)=w.length+1+zl x:=by simp [zl]
theorem sO (x:List (List UInt8)) (L:List (List (List UInt8))):tot (x :: L)=zl x+1+tot L:=by simp [tot]
theorem S9 (x:List (List UInt8)):x.length≤zl x:=by
  induction x with
  | nil=>simp [zl]
  | cons w r ih=>rw [mQ,List.length_cons];omega
theorem Ij (L:List (List (List UInt8))):L.length≤tot L:=by
  induction L with
  | nil=>simp [tot]
  | cons x r ih=>rw [sO,List.length_cons];omega
theorem XH {L:List (List (List UInt8))} {x:List (List UInt8)} (h:x ∈ L):zl x+1≤tot L:=by
  induction L with
  | nil=>cases h
  | cons y r ih =>
    rw [sO]
    rcases List.mem_cons.1 h with rfl|h
    · omega
    · have:=ih h;omega
theorem KY (x:List (List UInt8)):(Lib.joinTail [32] x).length=zl x:=Ik x
theorem La (x:List (List UInt8)):(Lib.join x [32]).length≤zl x:=by
  cases x with
  | nil=>simp [Lib.join_nil]
  | cons w r=>rw [Lib.join_cons,List.length_append,KY,mQ];omega
theorem Ff (x:List (List UInt8)) (L:List (List (List UInt8))):joinL (x :: L)=Lib.join x [32]++10 :: joinL L:=by simp [joinL]
theorem yQ (L:List (List (List UInt8))):(joinL L).length≤tot L:=by
  induction L with
  | nil=>simp [joinL]
  | cons x r ih =>
    rw [Ff,sO,List.length_append,List.length_cons]
    have:=La x
    omega
end Go.Proofs.YtkclndkbccbhaaaDoor.P
end
section
namespace Go.Proofs.YtkclndkbccbhaaaDoor.P
open Go Go.RowKit Go.Proofs.az.dw Go.Proofs.az.gB Go.Proofs.az.gX
def GM (b:UInt8):Bool:=decide (97≤b.toNat∧b.toNat≤122) || decide (48≤b.toNat∧b.toNat≤57)
def KX (w:List UInt8):Bool:=decide (w.length≤30) && w.all GM
def lq (s:ByteArray):Bool:=KX s.data.toList
theorem GL:∀ b:UInt8,([97,98,99,100,101,102,103,104,105,106,107,108,109,110,111,112,113,114,115,116,117,118,119,120,121,122,48,49,50,51,52,53,54,55,56,57]:List UInt8).contains b=GM b:=by
  intro b
  have h:∀ n:Fin 256,([97,98,99,100,101,102,103,104,105,106,107,108,109,110,111,112,113,114,115,116,117,118,119,120,121,122,48,49,50,51,52,53,54,55,56,57]:List UInt8).contains (UInt8.ofNat n.val)=GM (UInt8.ofNat n.val):=by decide +kernel
  have:=h ⟨b.toNat,b.toNat_lt⟩
  simpa using this
theorem XJ (w:List UInt8):gI.f (Bs w)=some (KX w):=by
  unfold gI.f KX
  rw [mJ]
  by_cases hl:w.length≤30
  · rw [if_pos (by omega)]
    unfold jm.f
    rw [if_pos ⟨by rw [mJ];omega,by decide,by decide +kernel⟩]
    simp only [Option.bind_some]
    congr 1
    rw [decide_eq_true hl,Bool.true_and,Bool.eq_iff_iff,beq_iff_eq,ByteArray.toList_eq,List.all_eq_true]
    show Lib.trimS w [97,98,99,100,101,102,103,104,105,106,107,108,109,110,111,112,113,114,115,116,117,118,119,120,121,122,48,49,50,51,52,53,54,55,56,57]=[] ↔ _
    rw [Bz]
    constructor
    · intro h x hx
      rw [← GL]
      exact h x hx
    · intro h x hx
      rw [GL]
      exact h x hx
  · rw [if_neg (by omega),decide_eq_false hl,Bool.false_and]
theorem Ii (s:ByteArray):gI.f s=some (lq s):=by
  have h:=XJ s.data.toList
  rw [oV] at h
  exact h
def jJ (x:jo):Bool:=(gu.f x.f0 x.f1 x.f2 x.f3 x.f4).getD false
theorem Nl (a b c d e:Int):∃ r,gu.f a b c d e=some r:=by
  unfold gu.f
  split
  · exact ⟨_,rfl⟩
  · split <;> exact ⟨_,rfl⟩
theorem OB (x:jo):gu.f x.f0 x.f1 x.f2 x.f3 x.f4=some (jJ x):=by
  obtain ⟨r,hr⟩:=Nl x.f0 x.f1 x.f2 x.f3 x.f4
  unfold jJ
  rw [hr]
  rfl
theorem Gv {x:jo} (h:jJ x=true):1≤x.f0∧x.f0≤15:=by
  unfold jJ gu.f at h
  split at h
  · cases h
  · split at h
    · cases h
    · omega
def QG (s:ByteArray):Bool:=decide (s.toList ≠ []) && lq s
def wB (ts:List ByteArray) (lo gl:ByteArray) (cs:List jo):Bool:=ts.all QG && (cs.all jJ && (lq lo && (lq gl && decide (cs.length≤200))))
theorem xI (a:List ByteArray) (i:Nat) (h:i < a.length):ja ByteArray.empty a (i:Int)=a[i]:=XA a i _ (List.getElem?_eq_getElem h)
theorem AL (a:List jo) (i:Nat) (h:i < a.length):bf a (i:Int)=a[i]:=by
  unfold bf
  rw [Int.toNat_natCast,List.getD_eq_getElem?_getD,List.getElem?_eq_getElem h]
  rfl
theorem LP {α:Type} (p:α→Bool) (l:List α) (i:Nat) (h:i < l.length):(l.drop i).all p=(p l[i] && (l.drop (i+1)).all p):=by
  rw [List.drop_eq_getElem_cons h,List.all_cons]
theorem SX (ts:List ByteArray) (lo gl:ByteArray) (cs:List jo) (hc:cs.length≤140737488355328):∀ (d i:Nat),i+d=cs.length →
    Ev (fun k=>fB.l1 k cs ((cs.length:Nat):Int) (i:Int) ts lo gl cs) ((cs.drop i).all jJ && (lq lo && (lq gl && decide (cs.length≤200))))
  | 0,i,hi=>by
    refine Ev.step (f:=fun _=>some _) (fun k=>?_) (Ev.now _)
    simp only [fB.l1]
    rw [if_neg (by omega),Ii,Ii,Option.bind_some,List.drop_eq_nil_of_le (by omega)]
    cases lq lo with
    | false=>rfl
    | true =>
      rw [if_pos rfl,Option.bind_some]
      cases lq gl with
      | false=>rfl
      | true =>
        rw [if_pos rfl]
        simp
        omega
  | d+1,i,hi=>by
    have hlt:i < cs.length:=by omega
    have ih:=SX ts lo gl cs hc d (i+1) (by omega)
    rw [LP jJ cs i hlt]
    have Ib:∀ k,fB.l1 (k+1) cs ((cs.length:Nat):Int) (i:Int) ts lo gl cs=if jJ cs[i]=true then fB.l1 k cs ((cs.length:Nat):Int) ((i+1:Nat):Int) ts lo gl cs else some false:=by
      intro k
      conv=>lhs;simp only [fB.l1]
      rw [if_pos (by omega),if_pos (by omega),if_pos (by omega),AL cs i hlt,OB,Option.bind_some,nK i (by omega)]
    cases hr:jJ cs[i] with
    | true =>
      rw [Bool.true_and]
      exact Ev.step (fun k=>by rw [Ib k,if_pos hr]) ih
    | false =>
      rw [Bool.false_and,Bool.false_and]
      exact Ev.step (f:=fun _=>some _) (fun k=>by rw [Ib k,if_neg (by rw [hr];simp)]) (Ev.now _)
theorem OI (ts:List ByteArray) (lo gl:ByteArray) (cs:List jo) (ht:ts.length≤140737488355328) (hc:cs.length≤140737488355328):∀ (d i:Nat),i+d=ts.length →
    Ev (fun k=>fB.l0 k ts ((ts.length:Nat):Int) (i:Int) ts lo gl cs) ((ts.drop i).all QG && (cs.all jJ && (lq lo && (lq gl && decide (cs.length≤200)))))
  | 0,i,hi=>by
    have h:=SX ts lo gl cs hc cs.length 0 (Nat.zero_add _)
    rw [List.drop_zero] at h
    rw [List.drop_eq_nil_of_le (by omega),List.all_nil,Bool.true_and]
    refine Ev.step (fun k=>?_) h
    simp only [fB.l0]
    rw [if_neg (by omega)]
    rfl
  | d+1,i,hi=>by
    have hlt:i < ts.length:=by omega
    have ih:=OI ts lo gl cs ht hc d (i+1) (by omega)
    rw [LP QG ts i hlt]
    have Ib:∀ k,fB.l0 (k+1) ts ((ts.length:Nat):Int) (i:Int) ts lo gl cs=if QG ts[i]=true then fB.l0 k ts ((ts.length:Nat):Int) ((i+1:Nat):Int) ts lo gl cs else some false:=by
      intro k
      conv=>lhs;simp only [fB.l0]
      rw [if_pos (by omega),if_pos (by omega),if_pos (by omega),xI ts i hlt,Ii,Option.bind_some,nK i (by omega)]
      unfold QG
      by_cases e:ts[i].toList=[]
      · rw [if_pos e,if_neg (by simp [e])]
      · rw [if_neg e]
        simp [e]
    cases hr:QG ts[i] with
    | true =>
      rw [Bool.true_and]
      exact Ev.step (fun k=>by rw [Ib k,if_pos hr]) ih
    | false =>
      rw [Bool.false_and,Bool.false_and]
      exact Ev.step (f:=fun _=>some _) (fun k=>by rw [Ib k,if_neg (by rw [hr];simp)]) (Ev.now _)
theorem XI (ts:List ByteArray) (lo gl:ByteArray) (cs:List jo) (ht:ts.length≤140737488355328) (hc:cs.length≤140737488355328):Ev (fun k=>fB.f k ts lo gl cs) (wB ts lo gl cs):=by
  have h:=OI ts lo gl cs ht hc ts.length 0 (Nat.zero_add _)
  rw [List.drop_zero] at h
  exact h
def nR (s:ByteArray):ByteArray:=if s.toList=[] then ⟨#[45]⟩ else s
theorem Vx (s:ByteArray):lY.f s=some (nR s):=by
  unfold lY.f nR
  split <;> rfl
def Wf (cs:List jo):Prop:=∀ x ∈ cs,(0≤x.f1∧x.f1≤255)∧(0≤x.f2∧x.f2≤255)∧(0≤x.f3∧x.f3≤255)∧(-9223372036854775808≤x.f4∧x.f4≤9223372036854775807)
def mr (x:jo):List ByteArray:=vW x.f0.toNat x.f1 x.f2 x.f3 x.f4
theorem WZ {x:jo} (h:jJ x=true) (hw:(0≤x.f1∧x.f1≤255)∧(0≤x.f2∧x.f2≤255)∧(0≤x.f3∧x.f3≤255)∧(-9223372036854775808≤x.f4∧x.f4≤9223372036854775807)):o6.f x.f0 x.f1 x.f2 x.f3 x.f4=some (mr x):=by
  unfold o6.f
  rw [if_pos ⟨Gv h,hw⟩]
  rfl
def pO (lo gl:ByteArray):List (List ByteArray):=[[⟨#[108,111,99,97,108,115]⟩,nR lo],[⟨#[103,108,111,98,97,108,115]⟩,nR gl]]
def Au (s:ByteArray):List ByteArray:=[⟨#[116,121,112,101]⟩,s]
def ni (ts:List ByteArray) (lo gl:ByteArray) (cs:List jo):List (List ByteArray):=ts.map Au++pO lo gl++cs.map mr
def rQ (ts:List ByteArray) (lo gl:ByteArray) (cs:List jo):ByteArray:=Bs (o9 (ni ts lo gl cs))
theorem BB {α:Type} (l:List α) (i:Nat) (h:i < l.length):l.take (i+1)=l.take i++[l[i]]:=List.take_succ_eq_append_getElem h
theorem KG (acc:List (List ByteArray)) (ha:acc.length≤1000002) (cs:List jo) (hc:cs.length≤1000000) (hr:∀ x ∈ cs,jJ x=true) (hw:Wf cs) (r:ByteArray) (hj:lW.f (acc++cs.map mr)=some r):∀ (d i:Nat),i+d=cs.length →
    Ev (fun k=>bH.l1 k (acc++(cs.take i).map mr) cs ((cs.length:Nat):Int) (i:Int)) (r,0)
  | 0,i,hi=>by
    refine Ev.step (f:=fun _=>some _) (fun k=>?_) (Ev.now _)
    simp only [bH.l1]
    rw [if_neg (by omega),List.take_of_length_le (by omega),hj,Option.bind_some]
  | d+1,i,hi=>by
    have hlt:i < cs.length:=by omega
    have ih:=KG acc ha cs hc hr hw r hj d (i+1) (by omega)
    refine Ev.step (fun k=>?_) ih
    have hm:cs[i] ∈ cs:=List.getElem_mem hlt
    conv=>lhs;simp only [bH.l1]
    rw [if_pos (by omega),if_pos (by omega),if_pos (by omega),AL cs i hlt,WZ (hr _ hm) (hw _ hm),Option.bind_some,if_pos (by simp;omega),nK i (by omega),BB cs i hlt,List.map_append,List.append_assoc]
    rfl
theorem KH (ts:List ByteArray) (lo gl:ByteArray) (cs:List jo) (ht:ts.length≤1000000) (hc:cs.length≤1000000) (hr:∀ x ∈ cs,jJ x=true) (hw:Wf cs) (r:ByteArray) (hj:lW.f (ni ts lo gl cs)=some r):∀ (d i:Nat),i+d=ts.length →
    Ev (fun k=>bH.l0 k ((ts.take i).map Au) ts ((ts.length:Nat):Int) (i:Int) ts lo gl cs) (r,0)
  | 0,i,hi=>by
    have h:=KG (ts.map Au++pO lo gl) (by simp [pO];omega) cs hc hr hw r hj cs.length 0 (Nat.zero_add _)
    rw [List.take_zero,List.map_nil,List.append_nil] at h
    refine Ev.step (fun k=>?_) h
    simp only [bH.l0]
    rw [if_neg (by omega),Vx,Vx,Option.bind_some,Option.bind_some,Option.bind_some,if_pos (by simp;omega),List.take_of_length_le (by omega)]
    rfl
  | d+1,i,hi=>by
    have hlt:i < ts.length:=by omega
    have ih:=KH ts lo gl cs ht hc hr hw r hj d (i+1) (by omega)
    refine Ev.step (fun k=>?_) ih
    conv=>lhs;simp only [bH.l0]
    rw [if_pos (by omega),if_pos (by omega),if_pos (by omega),if_pos (by simp;omega),xI ts i hlt,nK i (by omega),BB ts i hlt,List.map_append]
    rfl
theorem SI (ts:List ByteArray) (lo gl:ByteArray) (cs:List jo) (ht:ts.length≤140737488355328) (hc:cs.length≤140737488355328) (hw:Wf cs) (hj:wB ts lo gl cs=true→ts.length≤1000000∧lW.f (ni ts lo gl cs)=some (rQ ts lo gl cs)) :
    Ev (fun k=>bH.f k ts lo gl cs) (if wB ts lo gl cs=true then (rQ ts lo gl cs,0) else (⟨#[]⟩,2)):=by
  unfold bH.f
  refine Ev.bind (XI ts lo gl cs ht hc) ?_
  by_cases h:wB ts lo gl cs=true
  · rw [if_pos h]
    have hr:∀ x ∈ cs,jJ x=true:=by
      unfold wB at h
      simp only [Bool.and_eq_true,List.all_eq_true] at h
      exact h.2.1
    have hc2:cs.length≤1000000:=by
      unfold wB at h
      simp only [Bool.and_eq_true,decide_eq_true_eq] at h
      omega
    have h0:=KH ts lo gl cs (hj h).1 hc2 hr hw _ (hj h).2 ts.length 0 (Nat.zero_add _)
    rw [List.take_zero,List.map_nil] at h0
    have hm:wB ts lo gl cs=true:=h
    rw [hm]
    exact h0
  · have hf:wB ts lo gl cs=false:=by simpa using h
    rw [if_neg h,hf]
    exact Ev.now _
end Go.Proofs.YtkclndkbccbhaaaDoor.P
end
section
namespace Go.Proofs.YtkclndkbccbhaaaDoor.P
open Go.RowKit Go.MapKept Go.MapFrom Go.Proofs.az.dw Go.Proofs.az.gB Go.Proofs.az.gX
def setArg (ch:Nat) (v:Int) (x:Int × Int × Int × Int):Int × Int × Int × Int :=
  if ch=110 then (x.1,x.2.1,x.2.2.1,v) else if ch=97 then (v,x.2.1,x.2.2.1,x.2.2.2) else if ch=98 then (x.1,v,x.2.2.1,x.2.2.2) else (x.1,x.2.1,v,x.2.2.2)
def oI:List UInt8→List ByteArray→Int × Int × Int × Int→Option (Option (Int × Int × Int × Int))
  | [],_,x=>some (some x)
  | _ :: _,[],_=>none
  | ch :: hs,w :: ws,x=>(mf.f w).bind fun r=>if r.2=0 then (if ch.toNat=110 then oI hs ws (setArg 110 r.1 x) else if 0≤r.1∧r.1≤255 then oI hs ws (setArg ch.toNat r.1 x) else some none) else some none
def Gx (k:Int):Option (Int × Int × Int × Int)→Int × Int × Int × Int × Int × Bool
  | none=>(0,0,0,0,0,false)
  | some x=>(k,x.1,x.2.1,x.2.2.1,x.2.2.2,true)
def EW:Nat→Nat→List ByteArray→Option (Int × Int × Int × Int × Int × Bool)
  | 0,_,_=>some (0,0,0,0,0,false)
  | d+1,k,l=>if k=0 ∨ (nameOf k).toList ≠ (ja ByteArray.empty l 0).toList ∨ l.length ≠ (pX k).size+1 then EW d (k+1) l else (oI (pX k).data.toList l.tail (0,0,0,0)).map (Gx k)
def mV.f (l:List ByteArray):Option (Int × Int × Int × Int × Int × Bool):=if 0 < l.length then EW 16 0 l else none
def zM (bi:Nat):Nat→Array MapEntry
  | 0=>#[]
  | 1=>#[⟨.int .i32 97,.pointer (some ⟨bi,1,none⟩),0⟩]
  | 2=>#[⟨.int .i32 97,.pointer (some ⟨bi,1,none⟩),0⟩,⟨.int .i32 98,.pointer (some ⟨bi,2,none⟩),1⟩]
  | _=>#[⟨.int .i32 97,.pointer (some ⟨bi,1,none⟩),0⟩,⟨.int .i32 98,.pointer (some ⟨bi,2,none⟩),1⟩,⟨.int .i32 99,.pointer (some ⟨bi,3,none⟩),2⟩]
def pM (w:World) (b:Nat) (o:Obj):World:={ w with heap:=w.heap.setIfInBounds b o }
theorem Io (W:World) (bm bi j:Nat) (x:Int) (hx:x=((97+j:Nat):Int)) (hj:j < 3) (hm:W.heap[bm]? = some (.map (zM bi j) j)) :
    (Instr.mapUpdate 76 (.map (some bm)) (.int .i32 x) (.pointer (some ⟨bi,1+j,none⟩))).run Tryd.prog W=.ok () (pM W bm (.map (zM bi (j+1)) (j+1))):=by
  have hu:Tryd.prog.underlying 76=some (.map 21 75):=by kernel_rfl
  have hk:Tryd.prog.underlying 21=some (.int .i32):=by kernel_rfl
  have hkey:IsKey (.int .i32) (.int .i32 x):=rfl
  have h1:Instr.findNow (.int .i32) (.int .i32 x) (zM bi j).toList 0=some none:=by
    obtain rfl|rfl|rfl:j=0 ∨ j=1 ∨ j=2:=by omega
    all_goals (subst hx;rfl)
  have h2:(zM bi j).push ⟨.int .i32 x,.pointer (some ⟨bi,1+j,none⟩),j⟩=zM bi (j+1):=by
    obtain rfl|rfl|rfl:j=0 ∨ j=1 ∨ j=2:=by omega
    all_goals (subst hx;rfl)
  simp [Instr.mapUpdate,run_underlying hu,MapKept.run_getObj_map hm,run_checkKey hk hkey,run_findKey hk h1,MapKept.run_setObj_map _ hm,Result.andThen,h2,pM]
theorem Fa (W:World) (bm bi j:Nat) (x:Int) (hx:x=((97+j:Nat):Int)) (hj:j < 3) (hm:W.heap[bm]? = some (.map (zM bi 3) 3)) :
    (Instr.lookup 76 (.map (some bm)) (.int .i32 x) false).run Tryd.prog W=.ok (.pointer (some ⟨bi,1+j,none⟩)) W:=by
  have hu:Tryd.prog.underlying 76=some (.map 21 75):=by kernel_rfl
  have hk:Tryd.prog.underlying 21=some (.int .i32):=by kernel_rfl
  have hkey:IsKey (.int .i32) (.int .i32 x):=rfl
  have h1:Instr.findNow (.int .i32) (.int .i32 x) (zM bi 3).toList 0=some (some (j,.pointer (some ⟨bi,1+j,none⟩))):=by
    obtain rfl|rfl|rfl:j=0 ∨ j=1 ∨ j=2:=by omega
    all_goals (subst hx;rfl)
  simp [Instr.lookup,run_underlying hu,MapKept.run_getObj_map hm,run_checkKey hk hkey,run_findKey hk h1,Result.andThen]
theorem QN (k:Nat) (hk:k < 16) (w:World):(Instr.index 58 (.agg (opsL.map Value.string).toArray) (.int .i64 k)).run Tryd.prog w=.ok (.agg #[.string (nameOf k),.string (pX k)]) w:=by
  have hu:Tryd.prog.underlying 58=some (.array 16 57):=by kernel_rfl
  have hs:(sizeOf 57).run Tryd.prog w=.ok 2 w:=by simp [go_sem]
  have ha:(isAgg 57).run Tryd.prog w=.ok true w:=by simp [go_sem]
  have he:(List.take 2 (List.drop (k * 2) (List.map Value.string opsL))).toArray=#[.string (nameOf k),.string (pX k)]:=by
    obtain rfl|rfl|rfl|rfl|rfl|rfl|rfl|rfl|rfl|rfl|rfl|rfl|rfl|rfl|rfl|rfl:k=0 ∨ k=1 ∨ k=2 ∨ k=3 ∨ k=4 ∨ k=5 ∨ k=6 ∨ k=7 ∨ k=8 ∨ k=9 ∨ k=10 ∨ k=11 ∨ k=12 ∨ k=13 ∨ k=14 ∨ k=15:=by omega
    all_goals rfl
  simp [Instr.index,run_underlying hu,asIntOf,Result.andThen,part,hs,ha]
  rw [if_pos hk,he]
theorem NV:∀ o:Nat,1≤o→o≤15→∀ ch ∈ (pX o).data.toList,ch.toNat=97 ∨ ch.toNat=98 ∨ ch.toNat=99 ∨ ch.toNat=110:=by
  intro o h1 h2
  obtain rfl|rfl|rfl|rfl|rfl|rfl|rfl|rfl|rfl|rfl|rfl|rfl|rfl|rfl|rfl:o=1 ∨ o=2 ∨ o=3 ∨ o=4 ∨ o=5 ∨ o=6 ∨ o=7 ∨ o=8 ∨ o=9 ∨ o=10 ∨ o=11 ∨ o=12 ∨ o=13 ∨ o=14 ∨ o=15:=by omega
  all_goals decide
structure RdO (G:Nat) (w0 w:World):Prop where
  bk:w.heap[G]? = some (.cells #[.int .u8 0,.int .u8 0,.int .u8 0,.int .u8 0,.int .i64 0] 35 (0,0))
  bel:Below G w0 w
structure Gn (G bi bm it pos:Nat) (hs:ByteArray) (k:Int) (x:Int × Int × Int × Int) (w0 w:World):Prop where
  bk:w.heap[G]? = some (.cells #[.int .u8 0,.int .u8 0,.int .u8 0,.int .u8 0,.int .i64 0] 35 (0,0))
  ins:w.heap[bi]? = some (.cells #[.int .u8 k,.int .u8 x.1,.int .u8 x.2.1,.int .u8 x.2.2.1,.int .i64 x.2.2.2] 35 (0,0))
  map:w.heap[bm]? = some (.map (zM bi 3) 3)
  iter:w.heap[it]? = some (.stringIter hs pos)
  bel:Below G w0 w
  lo:G < bi∧bi < bm∧bm < it
section
variable {G bi bm it pos:Nat} {hs:ByteArray} {k:Int} {x:Int × Int × Int × Int} {w0 w w1:World}
theorem fP {w:World} {j:Nat} {o:Obj} (h:w.heap[j]? = some o):j < w.heap.size:=(Array.getElem?_eq_some_iff.1 h).1
theorem RdO.below (h:RdO G w0 w) (hb:Below w.heap.size w w1):RdO G w0 w1:=⟨(hb.block G (fP h.bk)).trans h.bk,h.bel.trans (hb.mono (Nat.le_of_lt (fP h.bk)))⟩
theorem Gn.below (h:Gn G bi bm it pos hs k x w0 w) (hb:Below w.heap.size w w1):Gn G bi bm it pos hs k x w0 w1 :=
  ⟨(hb.block G (fP h.bk)).trans h.bk,(hb.block bi (fP h.ins)).trans h.ins,(hb.block bm (fP h.map)).trans h.map,(hb.block it (fP h.iter)).trans h.iter,h.bel.trans (hb.mono (Nat.le_of_lt (fP h.bk))),h.lo⟩
theorem Gn.drewN (h:Gn G bi bm it pos hs k x w0 w) (n:Nat):Gn G bi bm it pos hs k x w0 (w.drewN n):=h.below (ae (Below.refl _ _) n)
theorem Gn.next (h:Gn G bi bm it pos hs k x w0 w) (pos':Nat):Gn G bi bm it pos' hs k x w0 (w.iterAt it hs pos'):=by
  have far:∀ j,j ≠ it→(w.iterAt it hs pos').heap[j]? = w.heap[j]?:=fun j hj=>Lib.iterAt_other w it j hs pos' hj
  have hl:=h.lo
  exact ⟨(far G (by omega)).trans h.bk,(far bi (by omega)).trans h.ins,(far bm (by omega)).trans h.map,Lib.iterAt_heap w it hs pos pos' h.iter,Lib.below_iterAt h.bel (by omega) hs pos',h.lo⟩
theorem Gn.cell (h:Gn G bi bm it pos hs k x w0 w) (j:Nat):w.cell? ⟨bi,j,none⟩=(#[.int .u8 k,.int .u8 x.1,.int .u8 x.2.1,.int .u8 x.2.2.1,.int .i64 x.2.2.2]:Array Value)[j]?:=by simp [World.cell?,h.ins]
theorem Gn.fr (h:Gn G bi bm it pos hs k x w0 w) (j:Nat):w.frozen? ⟨bi,j,none⟩=false:=by simp [World.frozen?,h.ins]
theorem Gn.zero (h:Gn G bi bm it pos hs k x w0 w) (j:Nat):w.cell? ⟨G,j,none⟩=(#[.int .u8 0,.int .u8 0,.int .u8 0,.int .u8 0,.int .i64 0]:Array Value)[j]?:=by simp [World.cell?,h.bk]
theorem Gn.set (h:Gn G bi bm it pos hs k x w0 w) (j:Nat) (v:Value) (x':Int × Int × Int × Int) (e:(#[.int .u8 k,.int .u8 x.1,.int .u8 x.2.1,.int .u8 x.2.2.1,.int .i64 x.2.2.2]:Array Value).setIfInBounds j v=#[.int .u8 k,.int .u8 x'.1,.int .u8 x'.2.1,.int .u8 x'.2.2.1,.int .i64 x'.2.2.2]):Gn G bi bm it pos hs k x' w0 (w.setCell ⟨bi,j,none⟩ v):=by
  have hl:=h.lo
  have far:∀ i,i ≠ bi→(w.setCell ⟨bi,j,none⟩ v).heap[i]? = w.heap[i]?:=fun i hi=>Below.heap_setCell w ⟨bi,j,none⟩ v i hi
  refine ⟨(far G (by omega)).trans h.bk,?_,(far bm (by omega)).trans h.map,(far it (by omega)).trans h.iter,h.bel.setCell (p:=⟨bi,j,none⟩) (by show G≤bi;omega) v,h.lo⟩
  rw [← e]
  exact Qi h.ins j v
end
theorem iC {w:World} {g t:Nat} {old:Array Value} (hg:w.heap[g]? = some (.cells old t (0,0))) (cs:Array Value):(w.setRow g cs).heap[g]? = some (.cells cs t (0,0)):=by
  simp [World.setRow,Array.getElem?_modify,hg]
theorem qA {w:World} {g:Nat} (cs:Array Value) (k:Nat) (hk:k ≠ g):(w.setRow g cs).heap[k]? = w.heap[k]?:=by
  simp only [World.setRow,Array.getElem?_modify]
  rw [if_neg (by omega)]
theorem fO {B g:Nat} {w0 w:World} (hb:Below B w0 w) (hBg:B≤g) (cs:Array Value):Below B w0 (w.setRow g cs) :=
  hb.trans ⟨rfl,rfl,rfl,by simp [World.setRow],fun k hk=>qA cs k (by omega)⟩
theorem Rj (s:ByteArray) (pos:Nat) (h:pos < s.size):s.data.toList.drop pos=(s[pos]'h) :: s.data.toList.drop (pos+1):=by
  have hl:pos < s.data.toList.length:=by simpa using h
  rw [List.drop_eq_getElem_cons hl]
  rfl
theorem BD {w:World} {b:Nat} {o o':Obj} (h:w.heap[b]? = some o):(pM w b o').heap[b]? = some o':=by
  simp [pM,(Array.getElem?_eq_some_iff.1 h).1]
theorem vZ {w:World} {b:Nat} {o':Obj} (j:Nat) (h:j ≠ b):(pM w b o').heap[j]? = w.heap[j]?:=by simp [pM,Ne.symm h]
theorem wo {B b:Nat} {w0 w:World} {o':Obj} (hb:Below B w0 w) (hBb:B≤b):Below B w0 (pM w b o') :=
  ⟨hb.os,hb.tape,hb.output,by simp [pM];exact hb.size,fun k hk=>(vZ k (by omega)).trans (hb.block k hk)⟩
set_option maxRecDepth 100000 in
set_option maxHeartbeats 6400000 in
theorem mV.calls (A0:Option Addr) (c0:Nat) (l0:List ByteArray) (r1 r2 r3 r4 r5:Int) (r6:Bool) (w:World) (hr0:Kd.C Kd.string w A0 l0.length l0) (kP:Kd.C xu w xw mX.length mX) (h:mV.f l0=some (r1,r2,r3,r4,r5,r6)) :
    Calls Tryd.prog 20 #[.slice A0 l0.length c0] w fun e w'=>e=.returned (.tuple #[.agg #[.int .u8 r1,.int .u8 r2,.int .u8 r3,.int .u8 r4,.int .i64 r5],.bool r6])∧Below w.heap.size w w':=by
  unfold mV.f at h
  by_cases hl0:0 < l0.length
  case neg =>
    rw [if_neg hl0] at h
    cases h
  rw [if_pos hl0] at h
  obtain ⟨ad,e0,hx0⟩:=Kd.iU hr0 0 (by omega) (by omega)
  subst e0
  rw [show (0:Int).toNat=0 from rfl,Addr.add_zero'] at hx0
  obtain ⟨l00,hl00⟩:∃ x,ja ByteArray.empty l0 0=x:=⟨_,rfl⟩
  rw [hl00] at hx0
  have adU:=World.block_lt_of_cell? w _ hx0
  obtain ⟨arr,harr⟩:∃ arr,(opsL.map Value.string).toArray=arr:=⟨_,rfl⟩
  have HIX:=ah.mk QN
  rw [harr] at HIX
  have hT:=(xC kP).ops
  have hrange:∀ W:World,Kd.C Kd.string W uZ opsL.length opsL→W.rangeAt 0 0 arr.toList:=by
    intro W hW j v hv
    rw [← harr] at hv
    simp only [List.getElem?_map,List.toList_toArray] at hv
    obtain ⟨x,hx,rfl⟩:=Option.map_eq_some_iff.1 hv
    have hj:=(List.getElem?_eq_some_iff.1 hx).1
    rw [Nat.zero_add,Aw hW j (by have:opsL.length=32:=rfl;omega),List.getD_eq_getElem?_getD,hx]
    rfl
  have aqU:arr.toList.length=32:=by rw [← harr];rfl
  obtain ⟨G,hG⟩:∃ G,w.heap.size=G:=⟨_,rfl⟩
  obtain ⟨w1,hw1⟩:∃ w1,w.alloc (.cells #[.int .u8 0,.int .u8 0,.int .u8 0,.int .u8 0,.int .i64 0] 35)=w1:=⟨_,rfl⟩
  have hB1:Below G w w1:=by rw [← hw1,← hG];exact (Below.refl _ w).alloc (Nat.le_refl _) _
  have hk1:w1.heap[G]? = some (.cells #[.int .u8 0,.int .u8 0,.int .u8 0,.int .u8 0,.int .i64 0] 35 (0,0)):=by rw [← hw1,← hG];exact heap_alloc_new w _
  have HRG:=Lib.hid (hrange w1 (Kd.dB hT (by rw [hG];exact hB1)))
  have HO:=ah.mk (show RdO G w w1 from ⟨hk1,hB1⟩)
  have HR:=ah.mk hr0
  have HT:=ah.mk kP
  have HH:=ah.mk h
  have HL:=Lib.hid hl0
  have HX0:=Lib.hid hx0
  have HLT:=Lib.hid (show ad.block < G by rw [← hG];exact adU)
  have hlen0:(0 < l0.length)=True:=eq_true hl0
  clear h kP hT hrange hr0 hB1 hk1 hx0 adU hl0
  go_enter Tryd.func20,Tryd.ntmps20
  go_wp2_with (first|((with_reducible refine dL (N:=12) rfl ?_);refine wpList_load_mid rfl 58 (.global 0) rfl 0 0 rfl arr.toList _ HRG.out Tryd.underlying58 rfl (by rw [aqU];kernel_rfl) ?_;rw [Array.toArray_toList]))
  clear hw1
  go_loopg [13] 16 (fun kq v wr=>∃ (k:Nat),kq+k=16∧v=.int .i64 k∧ah (EW kq k l0=some (r1,r2,r3,r4,r5,r6))∧ah (RdO G w wr))
  case atStart=>exact ⟨0,rfl,rfl,HH,HO⟩
  case round =>
  clear HH HO HRG
  obtain ⟨k,hkq,rfl,HH,HX⟩:=hrel
  cases gk with
  | zero =>
    have hd0:decide ((k:Int) < 16)=false:=decide_eq_false (by omega)
    have hH:=HH.out
    rw [EW] at hH
    injection hH with hH
    simp only [Prod.mk.injEq] at hH
    obtain ⟨rfl,rfl,rfl,rfl,rfl,rfl⟩:=hH
    clear HH
    have kG:=HX.out.bk
    have kz:=iC kG #[.int .u8 0,.int .u8 0,.int .u8 0,.int .u8 0,.int .i64 0]
    have zt:=ah.mk (fO HX.out.bel (Nat.le_refl G) #[.int .u8 0,.int .u8 0,.int .u8 0,.int .u8 0,.int .i64 0])
    have KZ:=ah.mk kz
    clear HX kz
    go_wp2_with (skip;refine wpList_store_row rfl 35 (.tmp 2) (.tmp 87) rfl G (#[.int .u8 0,.int .u8 0,.int .u8 0,.int .u8 0,.int .i64 0]) rfl rfl 35 _ kG (by kernel_rfl) rfl (by simp [Value.oneCell']) ?_)
    (try simp only [Exit.inBlock,Exit.then])
    refine bodyPost_ret (wu rfl _ _ G 35 #[.int .u8 0,.int .u8 0,.int .u8 0,.int .u8 0,.int .i64 0] (0,0) _ rfl KZ.out Tryd.underlying35 rfl (by kernel_rfl)) rfl ?_
    exact ⟨rfl,by have q:=zt.out;first|exact q|(rw [hG];exact q)⟩
  | succ ng =>
  have hd0:decide ((k:Int) < 16)=true:=decide_eq_true (by omega)
  have aqR:k < 16:=by omega
  have hix:=HIX.out k aqR
  obtain ⟨nm,hnm⟩:∃ nm,nameOf k=nm:=⟨_,rfl⟩
  obtain ⟨hs,TN⟩:∃ hs,pX k=hs:=⟨_,rfl⟩
  rw [hnm,TN] at hix
  obtain ⟨b5,hb5⟩:∃ b,wr.heap.size=b:=⟨_,rfl⟩
  obtain ⟨Wa,hWa⟩:∃ Wa,wr.alloc (.cells #[.string ⟨#[]⟩,.string ⟨#[]⟩] 57)=Wa:=⟨_,rfl⟩
  have hzb:Wa.heap[b5]? = some (.cells #[.string ⟨#[]⟩,.string ⟨#[]⟩] 57 (0,0)):=by rw [← hWa,← hb5];exact heap_alloc_new wr _
  have hGb:G < b5:=by rw [← hb5];exact fP HX.out.bk
  have hBr:Below wr.heap.size wr (Wa.setRow b5 #[.string nm,.string hs]):=fO (by rw [← hWa];exact (Below.refl _ wr).alloc (Nat.le_refl _) _) (by omega) _
  have HY:=ah.mk (HX.out.below hBr)
  have MO:=ah.mk (iC hzb #[.string nm,.string hs])
  clear HX hBr
  go_upto_region 4 with (first|(skip;refine wpList_store_row rfl 57 (.tmp 5) (.tmp 16) rfl b5 (#[.string nm,.string hs]) rfl rfl 57 _ hzb (by kernel_rfl) rfl (by simp [Value.oneCell']) ?_))
  clear hzb hWa hb5 hix
  change Code.wp _ _ _ _ (Wa.setRow b5 #[.string nm,.string hs])
  generalize Wa.setRow b5 #[.string nm,.string hs]=Wm at HY MO ⊢
  have n0:Wm.cell? ⟨b5,0,none⟩=some (.string nm):=by simp [World.cell?,MO.out]
  have n1:Wm.cell? ⟨b5,1,none⟩=some (.string hs):=by simp [World.cell?,MO.out]
  have m0:Wm.cell? ad=some (.string l00):=(HY.out.bel.cell HLT.out).trans HX0.out
  have hsz3:hs.size≤3:=by
    by_cases h0:k=0
    · rw [← TN,h0];decide
    · rw [← TN];exact (CJ k (by omega) (by omega)).1
  obtain ⟨z1,hz1⟩:∃ z:Int,z=(hs.size:Int)+1:=⟨_,rfl⟩
  have hw1:IntKind.i64.wrap ((hs.size:Int)+1)=z1:=by rw [hz1];exact IntWalk.i64_in _ (by omega)
  have hH:=HH.out
  rw [EW,hnm,TN,hl00] at hH
  clear HH
  by_cases hk0:k=0
  case pos =>
    rw [if_pos (.inl hk0)] at hH
    have g0:((k:Int) == 0)=true:=beq_iff_eq.2 (by omega)
    have HH:=ah.mk hH
    clear hH
    go_quiet (fail)
    rename_i nq
    have HX:=ah.mk (show RdO G w (Wm.drewN nq) from HY.out.below (ae (Below.refl _ _) nq))
    clear HY MO n0 n1 m0
    have e3:=Lib.hid (show wrap64 ((k:Int)+1)=((k+1:Nat):Int) by unfold wrap64;omega)
    go_wp2
    go_roundg ng
    case measure=>omega
    case rel=>exact ⟨k+1,by omega,by first|rfl|rw [e3.out]|(simp;omega),HH,HX⟩
  have g0:((k:Int) == 0)=false:=beq_eq_false_iff_ne.2 (by omega)
  by_cases hnn:nm.toList=l00.toList
  case neg =>
    rw [if_pos (.inr (.inl hnn))] at hH
    have g1:(nm.toList == l00.toList)=false:=beq_eq_false_iff_ne.2 hnn
    have g2:(nm.toList != l00.toList)=true:=by simp [hnn]
    have HH:=ah.mk hH
    clear hH hnn
    go_quiet (fail)
    rename_i nq
    have HX:=ah.mk (show RdO G w (Wm.drewN nq) from HY.out.below (ae (Below.refl _ _) nq))
    clear HY MO n0 n1 m0
    have e3:=Lib.hid (show wrap64 ((k:Int)+1)=((k+1:Nat):Int) by unfold wrap64;omega)
    go_wp2
    go_roundg ng
    case measure=>omega
    case rel=>exact ⟨k+1,by omega,by first|rfl|rw [e3.out]|(simp;omega),HH,HX⟩
  have g1:(nm.toList == l00.toList)=true:=beq_iff_eq.2 hnn
  have g2:(nm.toList != l00.toList)=false:=by simp [hnn]
  by_cases hll:l0.length=hs.size+1
  case neg =>
    rw [if_pos (.inr (.inr hll))] at hH
    have g3:((l0.length:Int) == z1)=false:=beq_eq_false_iff_ne.2 (by omega)
    have g4:((l0.length:Int) != z1)=true:=by simp;omega
    have HH:=ah.mk hH
    clear hH hnn hll hz1
    go_quiet (fail)
    rename_i nq
    have HX:=ah.mk (show RdO G w (Wm.drewN nq) from HY.out.below (ae (Below.refl _ _) nq))
    clear HY MO n0 n1 m0
    have e3:=Lib.hid (show wrap64 ((k:Int)+1)=((k+1:Nat):Int) by unfold wrap64;omega)
    go_wp2
    go_roundg ng
    case measure=>omega
    case rel=>exact ⟨k+1,by omega,by first|rfl|rw [e3.out]|(simp;omega),HH,HX⟩
  rw [if_neg (by simp [hk0,hnn,hll])] at hH
  obtain ⟨r0,hra,hrr⟩:=Option.map_eq_some_iff.1 hH
  have g3:((l0.length:Int) == z1)=true:=beq_iff_eq.2 (by omega)
  have g4:((l0.length:Int) != z1)=false:=by simp;omega
  have HRA:=ah.mk hra
  have HRR:=ah.mk hrr
  have HLL:=Lib.hid (show l0.length=hs.size+1∧hs.size≤3∧1≤k∧k≤15 from ⟨hll,hsz3,by omega,by omega⟩)
  have HHS:=Lib.hid TN
  clear hH hra hrr hnn hk0 hsz3
  go_quiet (fail)
  rename_i nq
  have hbq:Below Wm.heap.size Wm (Wm.drewN nq):=ae (Below.refl _ _) nq
  have HX:=ah.mk (HY.out.below hbq)
  have HB6:=ah.mk ((hbq.block b5 (fP MO.out)).trans MO.out)
  clear HY MO n0 n1 m0 g0 g1 g2 g3 g4 hll hw1 hz1 hbq hnm TN
  generalize Wm.drewN nq=Wq at HX HB6 ⊢
  obtain ⟨bi,hbi⟩:∃ b,Wq.heap.size=b:=⟨_,rfl⟩
  obtain ⟨Wb,hWb⟩:∃ Wb,Wq.alloc (.cells #[.int .u8 0,.int .u8 0,.int .u8 0,.int .u8 0,.int .i64 0] 35)=Wb:=⟨_,rfl⟩
  have hzi:Wb.heap[bi]? = some (.cells #[.int .u8 0,.int .u8 0,.int .u8 0,.int .u8 0,.int .i64 0] 35 (0,0)):=by rw [← hWb,← hbi];exact heap_alloc_new Wq _
  have hku:IntKind.u8.wrap (k:Int)=k:=IntWalk.u8_in _ (by omega)
  have h5i:b5 < bi:=by rw [← hbi];exact fP HB6.out
  have hBr:Below Wq.heap.size Wq (Wb.setRow bi #[.int .u8 k,.int .u8 0,.int .u8 0,.int .u8 0,.int .i64 0]):=fO (by rw [← hWb];exact (Below.refl _ Wq).alloc (Nat.le_refl _) _) (by omega) _
  have HY:=ah.mk (HX.out.below hBr)
  have MO:=ah.mk ((hBr.block b5 (by omega)).trans HB6.out)
  have HBI:=ah.mk (iC hzi #[.int .u8 k,.int .u8 0,.int .u8 0,.int .u8 0,.int .i64 0])
  clear HX HB6 hBr
  go_upto_region 6 with (first|(skip;refine wpList_store_row rfl 35 (.tmp 6) (.tmp 38) rfl bi (#[.int .u8 k,.int .u8 0,.int .u8 0,.int .u8 0,.int .i64 0]) rfl rfl 35 _ hzi (by kernel_rfl) rfl (by simp [Value.oneCell']) ?_))
  clear hzi hWb hbi
  change Code.wp _ _ _ _ (Wb.setRow bi #[.int .u8 k,.int .u8 0,.int .u8 0,.int .u8 0,.int .i64 0])
  generalize Wb.setRow bi #[.int .u8 k,.int .u8 0,.int .u8 0,.int .u8 0,.int .i64 0]=Wc at HY MO HBI ⊢
  obtain ⟨bm,hbm⟩:∃ b,Wc.heap.size=b:=⟨_,rfl⟩
  have him:bi < bm:=by rw [← hbm];exact fP HBI.out
  obtain ⟨V0,hV0⟩:∃ V,Wc.alloc (.map #[] 0)=V:=⟨_,rfl⟩
  have hm0:V0.heap[bm]? = some (.map (zM bi 0) 0):=by rw [← hV0,← hbm];exact heap_alloc_new Wc _
  obtain ⟨V1,hV1⟩:∃ V,pM V0 bm (.map (zM bi (0+1)) (0+1))=V:=⟨_,rfl⟩
  have hi1:=Io V0 bm bi 0 97 rfl (by decide) hm0
  rw [hV1,Nat.add_zero] at hi1
  have hm1:V1.heap[bm]? = some (.map (zM bi 1) 1):=by rw [← hV1];exact BD hm0
  obtain ⟨V2,hV2⟩:∃ V,pM V1 bm (.map (zM bi (1+1)) (1+1))=V:=⟨_,rfl⟩
  have hi2:=Io V1 bm bi 1 98 rfl (by decide) hm1
  rw [hV2,show 1+1=2 from rfl] at hi2
  have hm2:V2.heap[bm]? = some (.map (zM bi 2) 2):=by rw [← hV2];exact BD hm1
  obtain ⟨V3,hV3⟩:∃ V,pM V2 bm (.map (zM bi (2+1)) (2+1))=V:=⟨_,rfl⟩
  have hi3:=Io V2 bm bi 2 99 rfl (by decide) hm2
  rw [hV3,show 1+2=3 from rfl] at hi3
  have hm3:V3.heap[bm]? = some (.map (zM bi 3) 3):=by rw [← hV3];exact BD hm2
  have YU:∀ j,j < bm→V3.heap[j]? = Wc.heap[j]?:=fun j hj=>by
    rw [← hV3,vZ j (by omega),← hV2,vZ j (by omega),← hV1,vZ j (by omega),← hV0]
    exact Below.heap_alloc Wc _ j (by omega)
  have aa7:Below G w V3:=by
    rw [← hV3]
    refine wo ?_ (by omega)
    rw [← hV2]
    refine wo ?_ (by omega)
    rw [← hV1]
    refine wo ?_ (by omega)
    rw [← hV0]
    exact HY.out.bel.alloc (by omega) _
  have hn1:V3.cell? ⟨b5,1,none⟩=some (.string hs):=by simp [World.cell?,(YU b5 (by omega)).trans MO.out]
  obtain ⟨it,hit⟩:∃ b,V3.heap.size=b:=⟨_,rfl⟩
  obtain ⟨V4,hV4⟩:∃ V,V3.iter hs 0=V:=⟨_,rfl⟩
  have hmt:bm < it:=by rw [← hit];exact fP hm3
  have hup:∀ j,j < it→V4.heap[j]? = V3.heap[j]?:=fun j hj=>by rw [← hV4];exact Below.heap_alloc V3 _ j (by omega)
  have HI:=ah.mk (show Gn G bi bm it 0 hs k (0,0,0,0) w V4 from ⟨(hup G (by omega)).trans ((YU G (by omega)).trans HY.out.bk),(hup bi (by omega)).trans ((YU bi him).trans HBI.out),(hup bm hmt).trans hm3,by rw [← hV4,← hit];exact World.iter_heap V3 hs 0,by rw [← hV4];exact aa7.alloc (by omega) _,by omega,by omega,by omega⟩)
  have hmm:=@run_makeMap Tryd.prog
  clear HY MO HBI hm0 hm1 hm2 hm3 YU aa7 hup him hmt h5i hGb hV1 hV2 hV3
  go_wp2
  clear hi1 hi2 hi3 hn1 hbm hV0 hit hV4 hmm
  have HRB:=ah.mk (show oI (hs.data.toList.drop 0) (l0.drop (0+1)) (0,0,0,0)=some r0 from by rw [List.drop_zero,Nat.zero_add,List.drop_one,← HHS.out];rw [HHS.out];exact HRA.out)
  go_loopg [] hs.size (fun kq wr=>∃ (pos:Nat) (x:Int × Int × Int × Int),kq+pos=hs.size∧ah (oI (hs.data.toList.drop pos) (l0.drop (pos+1)) x=some r0)∧ah (Gn G bi bm it pos hs k x w wr))
  case atStart=>exact ⟨0,(0,0,0,0),Nat.add_zero _,HRB,HI⟩
  case round =>
  clear HRA HRB HI
  obtain ⟨pos,x,hpk,HA,HX⟩:=hrel
  by_cases hp:pos < hs.size
  case neg =>
    have hnx:∀ ty,(Instr.next (.pointer (some ⟨it,0,none⟩)) true ty).run Tryd.prog wr=.ok (.tuple #[.bool false]) wr:=fun ty=>Lib.run_next_end_at wr it hs pos ty HX.out.iter hp
    have hA:=HA.out
    rw [List.drop_eq_nil_of_le (by simp;omega),oI] at hA
    have hr0:=(Option.some.inj hA).symm
    have hrr:=HRR.out
    rw [hr0] at hrr
    simp only [Gx,Prod.mk.injEq] at hrr
    obtain ⟨rfl,rfl,rfl,rfl,rfl,rfl⟩:=hrr
    have kI:=HX.out.ins
    have kG:=HX.out.bk
    have KZ:=ah.mk (iC kG #[.int .u8 k,.int .u8 x.1,.int .u8 x.2.1,.int .u8 x.2.2.1,.int .i64 x.2.2.2])
    have zt:=ah.mk (fO HX.out.bel (Nat.le_refl G) #[.int .u8 k,.int .u8 x.1,.int .u8 x.2.1,.int .u8 x.2.2.1,.int .i64 x.2.2.2])
    clear HX HA HRR hA hr0 hp hpk
    go_wp2_with (first|((with_reducible refine dL (N:=85) rfl ?_);refine wpList_load_row rfl 35 (.tmp 6) rfl bi rfl 35 (#[.int .u8 k,.int .u8 x.1,.int .u8 x.2.1,.int .u8 x.2.2.1,.int .i64 x.2.2.2]) (0,0) _ kI Tryd.underlying35 rfl (by kernel_rfl) ?_)|(skip;refine wpList_store_row rfl 35 (.tmp 2) (.tmp 85) rfl G (#[.int .u8 k,.int .u8 x.1,.int .u8 x.2.1,.int .u8 x.2.2.1,.int .i64 x.2.2.2]) rfl rfl 35 _ kG (by kernel_rfl) rfl (by simp [Value.oneCell']) ?_))
    (try simp only [Exit.inBlock,Exit.then])
    refine bodyPost_ret (wu rfl _ _ G 35 #[.int .u8 k,.int .u8 x.1,.int .u8 x.2.1,.int .u8 x.2.2.1,.int .i64 x.2.2.2] (0,0) _ rfl KZ.out Tryd.underlying35 rfl (by kernel_rfl)) rfl ?_
    exact ⟨rfl,by have q:=zt.out;first|exact q|(rw [hG];exact q)⟩
  have U0:=NV k HLL.out.2.2.1 HLL.out.2.2.2 (hs[pos]'hp) (by rw [HHS.out];simp [ByteArray.getElem_eq_getElem_data])
  obtain ⟨ch,hch⟩:∃ c:Nat,(hs[pos]'hp).toNat=c:=⟨_,rfl⟩
  rw [hch] at U0
  obtain ⟨Wn,hWn⟩:∃ Wn,wr.iterAt it hs (pos+1)=Wn:=⟨_,rfl⟩
  have hnx:∀ ty,(Instr.next (.pointer (some ⟨it,0,none⟩)) true ty).run Tryd.prog wr=.ok (.tuple #[.bool true,.int .i64 pos,.int .i32 ch]) Wn:=fun ty=>by rw [← hWn,← hch];exact Lib.run_next_ascii_at wr it hs pos ty HX.out.iter hp (by omega)
  replace HX:=ah.mk (show Gn G bi bm it (pos+1) hs k x w Wn from by rw [← hWn];exact HX.out.next (pos+1))
  obtain ⟨z,hz⟩:∃ z:Int,z=(pos:Int)+1:=⟨_,rfl⟩
  have hpl:pos+1 < l0.length:=by have:=HLL.out;omega
  have hzw:IntKind.i64.wrap ((pos:Int)+1)=z:=by rw [hz];exact IntWalk.i64_in _ (by have:=HLL.out;omega)
  have hz0:0≤z:=by omega
  have hz1:z < (l0.length:Int):=by omega
  obtain ⟨ad',e,hx⟩:=Kd.iU (Kd.dB HR.out (by rw [hG];exact HX.out.bel)) z hz0 hz1
  injection e with e
  subst e
  obtain ⟨wd,hwd⟩:∃ wd,ja ByteArray.empty l0 z=wd:=⟨_,rfl⟩
  rw [hwd] at hx
  have hdl:l0.drop (pos+1)=wd :: l0.drop (pos+1+1):=by
    rw [List.drop_eq_getElem_cons hpl,← hwd,ja,hz,List.getD_eq_getElem?_getD,show ((pos:Int)+1).toNat=pos+1 by omega,List.getElem?_eq_getElem hpl]
    rfl
  have hA:=HA.out
  rw [Rj hs pos hp,hdl,oI,hch] at hA
  obtain ⟨⟨nv,ev⟩,hN,hA⟩:=Option.bind_eq_some_iff.1 hA
  have HN:=Lib.hid hN
  have HA2:=ah.mk hA
  have Wp:=Lib.hid (show gk+pos=hs.size∧pos < hs.size from ⟨hpk,hp⟩)
  clear hA hN HA hdl hpk hwd hz hpl hWn hch
  have hz2:(z < (hs.size:Int)+1)=True:=eq_true (by have:=HLL.out;omega)
  replace hz0:=eq_true hz0
  replace hz1:=eq_true hz1
  go_upto_region 11 with (go_at_call 33;refine (mf.calls wd nv ev _ (Kd.dB HT.out (by rw [hG];exact HX.out.bel)) HN.out).mono ?_;rintro e w4 ⟨rfl,hb4⟩;replace HX:=ah.mk (HX.out.below hb4);clear hb4)
  clear hx hnx hzw hz0 hz1 hz2 HN
  have hA:=HA2.out
  by_cases hev:ev=0
  case neg =>
    rw [if_neg hev] at hA
    have hr0:=(Option.some.inj hA).symm
    have hrr:=HRR.out
    rw [hr0] at hrr
    simp only [Gx,Prod.mk.injEq] at hrr
    obtain ⟨rfl,rfl,rfl,rfl,rfl,rfl⟩:=hrr
    have b1:(ev != 0)=true:=by simp [hev]
    clear hA HA2 HRR hr0 hev U0 hp
    have kG:=HX.out.bk
    have kz:=iC kG #[.int .u8 0,.int .u8 0,.int .u8 0,.int .u8 0,.int .i64 0]
    have zt:=ah.mk (fO HX.out.bel (Nat.le_refl G) #[.int .u8 0,.int .u8 0,.int .u8 0,.int .u8 0,.int .i64 0])
    have KZ:=ah.mk kz
    clear HX kz
    go_wp2_with (skip;refine wpList_store_row rfl 35 (.tmp 2) (.tmp 74) rfl G (#[.int .u8 0,.int .u8 0,.int .u8 0,.int .u8 0,.int .i64 0]) rfl rfl 35 _ kG (by kernel_rfl) rfl (by simp [Value.oneCell']) ?_)
    (try simp only [Exit.inBlock,Exit.then])
    refine bodyPost_ret (wu rfl _ _ G 35 #[.int .u8 0,.int .u8 0,.int .u8 0,.int .u8 0,.int .i64 0] (0,0) _ rfl KZ.out Tryd.underlying35 rfl (by kernel_rfl)) rfl ?_
    exact ⟨rfl,by have q:=zt.out;first|exact q|(rw [hG];exact q)⟩
  subst hev
  rw [if_pos rfl] at hA
  by_cases hc:ch=110
  case pos =>
    subst hc
    rw [if_pos rfl] at hA
    have HA3:=ah.mk hA
    have c4:w4.cell? ⟨bi,4,none⟩=some (.int .i64 x.2.2.2):=HX.out.cell 4
    have f4:=HX.out.fr 4
    have BX:=ah.mk (HX.out.set 4 (.int .i64 nv) (setArg 110 nv x) rfl)
    clear hA HA2 U0 HX
    go_wp2
    go_roundg (gk - 1)
    case measure=>have:=Wp.out;omega
    case rel=>exact ⟨pos+1,setArg 110 nv x,by have:=Wp.out;omega,HA3,BX⟩
  rw [if_neg hc] at hA
  have b2:((ch:Int) != 110)=true:=by simp;omega
  have b3:((ch:Int) == 110)=false:=beq_eq_false_iff_ne.2 (by omega)
  by_cases hr:0≤nv∧nv≤255
  case neg =>
    rw [if_neg hr] at hA
    have hr0:=(Option.some.inj hA).symm
    have hrr:=HRR.out
    rw [hr0] at hrr
    simp only [Gx,Prod.mk.injEq] at hrr
    obtain ⟨rfl,rfl,rfl,rfl,rfl,rfl⟩:=hrr
    by_cases hn0:nv < 0
    case' pos =>
      have d1:decide (nv < 0)=true:=decide_eq_true hn0
    case' neg =>
      have d1:decide (nv < 0)=false:=decide_eq_false hn0
      have d2:decide (255 < nv)=true:=decide_eq_true (by omega)
    all_goals
      clear hA HA2 HRR hr0 U0 hr hn0 hc hp
      have kG:=HX.out.bk
      have kz:=iC kG #[.int .u8 0,.int .u8 0,.int .u8 0,.int .u8 0,.int .i64 0]
      have zt:=ah.mk (fO HX.out.bel (Nat.le_refl G) #[.int .u8 0,.int .u8 0,.int .u8 0,.int .u8 0,.int .i64 0])
      have KZ:=ah.mk kz
      clear HX kz
      go_wp2_with (skip;refine wpList_store_row rfl 35 (.tmp 2) (.tmp 74) rfl G (#[.int .u8 0,.int .u8 0,.int .u8 0,.int .u8 0,.int .i64 0]) rfl rfl 35 _ kG (by kernel_rfl) rfl (by simp [Value.oneCell']) ?_)
      (try simp only [Exit.inBlock,Exit.then])
      refine bodyPost_ret (wu rfl _ _ G 35 #[.int .u8 0,.int .u8 0,.int .u8 0,.int .u8 0,.int .i64 0] (0,0) _ rfl KZ.out Tryd.underlying35 rfl (by kernel_rfl)) rfl ?_
      exact ⟨rfl,by have q:=zt.out;first|exact q|(rw [hG];exact q)⟩
  rw [if_pos hr] at hA
  have HA3:=ah.mk hA
  have d1:decide (nv < 0)=false:=decide_eq_false (by omega)
  have d2:decide (255 < nv)=false:=decide_eq_false (by omega)
  have hnu:IntKind.u8.wrap nv=nv:=IntWalk.u8_in _ (by omega)
  clear hA HA2 hr
  rcases U0 with rfl|rfl|rfl|aqW
  · have hlk:=Fa w4 bm bi 0 97 rfl (by decide) HX.out.map
    have c4:w4.cell? ⟨bi,1,none⟩=some (.int .u8 x.1):=HX.out.cell 1
    have f4:=HX.out.fr 1
    have BX:=ah.mk (HX.out.set 1 (.int .u8 nv) (setArg 97 nv x) rfl)
    clear HX
    go_wp2
    go_roundg (gk - 1)
    case measure=>have:=Wp.out;omega
    case rel=>exact ⟨pos+1,setArg 97 nv x,by have:=Wp.out;omega,HA3,BX⟩
  · have hlk:=Fa w4 bm bi 1 98 rfl (by decide) HX.out.map
    have c4:w4.cell? ⟨bi,2,none⟩=some (.int .u8 x.2.1):=HX.out.cell 2
    have f4:=HX.out.fr 2
    have BX:=ah.mk (HX.out.set 2 (.int .u8 nv) (setArg 98 nv x) rfl)
    clear HX
    go_wp2
    go_roundg (gk - 1)
    case measure=>have:=Wp.out;omega
    case rel=>exact ⟨pos+1,setArg 98 nv x,by have:=Wp.out;omega,HA3,BX⟩
  · have hlk:=Fa w4 bm bi 2 99 rfl (by decide) HX.out.map
    have c4:w4.cell? ⟨bi,3,none⟩=some (.int .u8 x.2.2.1):=HX.out.cell 3
    have f4:=HX.out.fr 3
    have BX:=ah.mk (HX.out.set 3 (.int .u8 nv) (setArg 99 nv x) rfl)
    clear HX
    go_wp2
    go_roundg (gk - 1)
    case measure=>have:=Wp.out;omega
    case rel=>exact ⟨pos+1,setArg 99 nv x,by have:=Wp.out;omega,HA3,BX⟩
  · exact absurd aqW hc
end Go.Proofs.YtkclndkbccbhaaaDoor.P
end
