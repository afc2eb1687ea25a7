/- Parts of the proof of Both: what the functions that it reaches compute, and plain facts about that. -/
import Derived.Test.YtkclndkbccbhaaaDoorQam
import Derived.Test.YtkclndkbccbhaaaDoorQan
import Derived.Test.YtkclndkbccbhaaaDoorQao
import Derived.Test.YtkclndkbccbhaaaDoorCards
import Derived.Test.YtkclndkbccbhaaaDoorQak
set_option linter.unusedVariables false
set_option linter.unusedSimpArgs false
section
namespace Go.Proofs.YtkclndkbccbhaaaDoor.P
open Go Go.RowKit Go.Proofs.az.dw Go.Proofs.az.gB Go.Proofs.az.gX
theorem Qp (ts:List ByteArray) (lo gl:ByteArray) (cs:List jo) (x:jo):LA ts lo gl (cs++[x])=LA ts lo gl cs++[nM x]:=by
  unfold LA
  rw [List.map_append,← List.append_assoc]
  rfl
theorem zN (L:List (List (List UInt8))) (x:List (List UInt8)):joinL (L++[x])=joinL L++(Lib.join x [32]++[10]):=by
  unfold joinL
  rw [List.map_append,List.flatten_append]
  simp
theorem NS (L:List (List (List UInt8))) (x:List (List UInt8)):∃ m,joinL (L++[x])=m++[10]:=⟨joinL L++Lib.join x [32],by rw [zN,List.append_assoc]⟩
theorem NR (L:List (List (List UInt8))) (h:L ≠ []):∃ m,joinL L=m++[10]:=by
  obtain ⟨x,hx⟩:∃ x,L=L.dropLast++[x]:=⟨L.getLast h,(List.dropLast_concat_getLast h).symm⟩
  rw [hx]
  exact NS _ _
def J4 (k:Nat) (s:ByteArray) (n:Nat) (ts:List ByteArray) (lo gl:ByteArray) (cs:List jo):Option Bool :=
  (cu.f k (s.extract 0 n)).bind fun b=>(cu.f k (s++(⟨#[119,104,97,116]⟩:ByteArray))).bind fun c=>if b.2.2.2.2.2=0 then ((aH.f k b.1 b.2.1 b.2.2.1 b.2.2.2.1 ts lo gl (cs.take (cs.length - 1))).bind fun t=>if t=true then (if c.2.2.2.2.2=4 then some (c.2.2.2.2.1 == ((ts.length+3+cs.length:Nat):Int)) else some false) else some false) else some false
theorem LK (a b:List UInt8):(Bs (a++b)).extract 0 a.length=Bs a:=by
  rw [Fz]
  simp
set_option maxHeartbeats 4000000 in
theorem Qd (a l:List UInt8) (hl:(10:UInt8) ∉ l) (ha:∃ m,a=m++[10]) (ts:List ByteArray) (lo gl:ByteArray) (cs:List jo) (ht:ts.length≤1000000) (hc:cs.length≤1000000) (h1:1≤cs.length) (hs:a.length+l.length≤1000000) (r:Bool)
    (h:Ev (fun k=>J4 k (Bs (a++(l++[10]))) a.length ts lo gl cs) r):∀ (j:Nat),j≤l.length →
    Ev (fun k=>aY.l0 k (Bs (a++(l++[10]))) ((a.length+j:Nat):Int) ts lo gl cs) r
  | 0,hj=>by
    obtain ⟨m,hm⟩:=ha
    have hlen:a.length=m.length+1:=by rw [hm];simp
    refine Ev.step (fun k=>?_) h
    conv=>lhs;simp only [aY.l0]
    have hb:bt (Bs (a++(l++[10]))) ((a.length - 1:Nat):Int)=10:=by
      rw [abp _ (a.length - 1) 10 (by rw [hm];simp)]
      rfl
    have hz:(Bs (a++(l++[10]))).size=a.length+l.length+1:=by rw [mJ];simp;omega
    have w1:wrap64 (((a.length+0:Nat):Int) - 1)=((a.length - 1:Nat):Int):=by unfold wrap64;omega
    have w2:wrap64 ((cs.length:Int) - 1)=((cs.length - 1:Nat):Int):=by unfold wrap64;omega
    have w3:wrap64 (wrap64 ((ts.length:Int)+3)+(cs.length:Int))=((ts.length+3+cs.length:Nat):Int):=by
      rw [show wrap64 ((ts.length:Int)+3)=((ts.length+3:Nat):Int) from by unfold wrap64;omega]
      unfold wrap64
      omega
    rw [w1,w2,w3,hz,hb]
    rw [if_pos (by omega),if_pos (by omega),if_pos (by omega),if_pos rfl,if_pos (by omega),if_pos (by omega),Int.toNat_natCast,Int.toNat_natCast]
    simp only [if_pos (show (0:Int)≤((cs.length - 1:Nat):Int) by omega),if_pos (show ((cs.length - 1:Nat):Int)≤(cs.length:Int) by omega),if_pos (show a.length+l.length+1+4≤9223372036854775807 by omega)]
    rfl
  | j+1,hj=>by
    have ih:=Qd a l hl ha ts lo gl cs ht hc h1 hs r h j (by omega)
    refine Ev.step (fun k=>?_) ih
    conv=>lhs;simp only [aY.l0]
    have hlt:j < l.length:=by omega
    have hget:(a++(l++[10]))[a.length+j]? = some l[j]:=by
      rw [List.getElem?_append_right (by omega),show a.length+j - a.length=j from by omega,List.getElem?_append_left hlt,List.getElem?_eq_getElem hlt]
    have hb:bt (Bs (a++(l++[10]))) ((a.length+j:Nat):Int)=(l[j].toNat:Int):=abp _ _ _ hget
    have hne:¬ ((l[j].toNat:Int)=10):=by
      intro e
      have:l[j]=10:=by
        apply UInt8.toNat_inj.1
        have:(10:UInt8).toNat=10:=rfl
        omega
      exact hl (by rw [← this];exact List.getElem_mem hlt)
    have hz:(Bs (a++(l++[10]))).size=a.length+l.length+1:=by rw [mJ];simp;omega
    have w1:wrap64 (((a.length+(j+1):Nat):Int) - 1)=((a.length+j:Nat):Int):=by unfold wrap64;omega
    rw [w1,hz,hb,if_pos (by omega),if_pos (by omega),if_pos (by omega),if_neg hne]
theorem NM {L:List (List (List UInt8))} (h:∀ ws ∈ L,ws ≠ []∧∀ w ∈ ws,F6 w=true∧w ≠ []) (ht:tot L≤18000):Ev (fun k=>dK.f k (Bs (joinL L++[119,104,97,116]))) (conv (L++[[[119,104,97,116]]]),0,0):=by
  have a:=KW (Bs (joinL L++[119,104,97,116])) (by rw [mJ,List.length_append];have:=yQ L;simp;omega)
  unfold NP at a
  rw [ED] at a
  have e:uq 10 (joinL L++[119,104,97,116])=L.map (fun ws=>Lib.join ws [32])++[[119,104,97,116]]:=by
    have hn:∀ (L:List (List (List UInt8))),(∀ ws ∈ L,∀ w ∈ ws,(10:UInt8) ∉ w)→uq 10 (joinL L++[119,104,97,116])=L.map (fun ws=>Lib.join ws [32])++[[119,104,97,116]]:=by
      intro L
      induction L with
      | nil=>intro _;decide
      | cons x r ih =>
        intro hx
        rw [Ff,List.append_assoc,List.cons_append,DL,sS 10 (Il (hx x (List.mem_cons_self ..))),ih (fun ws hw=>hx ws (List.mem_cons_of_mem _ hw))]
        rfl
    exact hn L fun ws hm w hw=>(sG ((h ws hm).2 w hw).1 ((h ws hm).2 w hw).2).2
  have good:∀ x ∈ L.map (fun ws=>Lib.join ws [32])++[[119,104,97,116]],okL x=true:=by
    intro x hx
    rcases List.mem_append.1 hx with hx|hx
    · obtain ⟨ws,hm,rfl⟩:=List.mem_map.1 hx
      unfold okL
      rw [BA (fun w hw=>(sG ((h ws hm).2 w hw).1 ((h ws hm).2 w hw).2).1),List.all_eq_true]
      exact fun w hw=>((h ws hm).2 w hw).1
    · obtain rfl:x=[119,104,97,116]:=by simpa using hx
      decide
  have gl:rW (L.map (fun ws=>Lib.join ws [32])++[[119,104,97,116]])=L++[[[119,104,97,116]]]:=by
    rw [Rf]
    congr 1
    have hg:∀ (L:List (List (List UInt8))),(∀ ws ∈ L,ws ≠ []∧∀ w ∈ ws,F6 w=true∧w ≠ [])→rW (L.map fun ws=>Lib.join ws [32])=L:=by
      intro L
      induction L with
      | nil=>intro _;rfl
      | cons x r ih =>
        intro hx
        have h0:=hx x (List.mem_cons_self ..)
        rw [List.map_cons,NW,ih (fun ws hw=>hx ws (List.mem_cons_of_mem _ hw)),BA (fun w hw=>(sG (h0.2 w hw).1 (h0.2 w hw).2).1)]
        unfold keep
        rw [if_neg h0.1]
        rfl
    exact hg L h
  rw [e,aaG good,gl,List.nil_append,OG] at a
  exact a
theorem RG:mV.f [⟨#[119,104,97,116]⟩]=some (0,0,0,0,0,false):=by kernel_rfl
set_option maxHeartbeats 4000000 in
theorem Vz {ts:List ByteArray} {lo gl:ByteArray} {c0:List jo} {x:jo} {cs:List jo} (hx:cs=c0++[x]) (h:RD ts lo gl cs) (hw:∀ x ∈ cs,Ql x) (hs:sizes ts≤500):Ev (fun k=>J4 k (rQ ts lo gl cs) (joinL (LA ts lo gl c0)).length ts lo gl cs) true:=by
  have hmem:∀ y ∈ c0,y ∈ cs:=fun y hy=>by rw [hx];exact List.mem_append_left _ hy
  have hlen:c0.length≤cs.length:=by rw [hx,List.length_append];omega
  have hk':RD ts lo gl c0:=RD.code h hmem hlen
  have hw':∀ y ∈ c0,Ql y:=fun y hy=>hw y (hmem y hy)
  have q1:=Nz hk' hw' hs
  have tt:=Ic h hw hs
  have e1:(rQ ts lo gl cs).extract 0 (joinL (LA ts lo gl c0)).length=rQ ts lo gl c0:=by
    rw [sQ,sQ,hx,Qp,zN]
    exact LK _ _
  have q2:Ev (fun k=>cu.f k (rQ ts lo gl cs++(⟨#[119,104,97,116]⟩:ByteArray))) (mW (ts.length+2+cs.length)):=by
    have a:=NM (abu h hw) tt
    have e:rQ ts lo gl cs++(⟨#[119,104,97,116]⟩:ByteArray)=Bs (joinL (LA ts lo gl cs)++[119,104,97,116]):=by
      rw [sQ]
      exact ac7 _ _
    rw [← e,LW,zf] at a
    have hl:(ni ts lo gl cs++conv [[[119,104,97,116]]]).length≤1000000:=by
      rw [List.length_append,← zf,ru,ru]
      have:=Ij (LA ts lo gl cs)
      simp
      omega
    refine Cm _ _ a hl ?_
    have hb:conv [[[119,104,97,116]]]=[[(⟨#[119,104,97,116]⟩:ByteArray)]]:=rfl
    rw [hb,ET _ lo gl (cs.map mr++[[(⟨#[119,104,97,116]⟩:ByteArray)]]) h.lok h.gok ts _ [] [] 0 (by unfold ni;simp) rfl (by unfold ni;simp;omega) h.typ]
    have:=Gw (ni ts lo gl cs++[[(⟨#[119,104,97,116]⟩:ByteArray)]]) ([]++ts) lo gl _ RG cs ((ni ts lo gl cs++[[(⟨#[119,104,97,116]⟩:ByteArray)]]).length+1) (ts.map Au++pO lo gl) [] (0+ts.length+2) (by unfold ni;rfl) (by simp [pO]) (by unfold ni;simp;omega) (by simpa using h.few) h.ins hw
    rw [this,Nat.zero_add]
  unfold J4
  rw [e1]
  refine Ev.bind q1 (Ev.bind q2 ?_)
  simp only [if_true]
  rw [show cs.take (cs.length - 1)=c0 from by rw [hx];simp]
  have tl:=vF ts h.typ
  refine Ev.bind (QB ts lo gl c0 (by have:=h.few;omega) (by omega)) ?_
  simp only [if_true]
  unfold mW
  simp only [if_true]
  rw [show (((ts.length+2+cs.length+1:Nat):Int) == ((ts.length+3+cs.length:Nat):Int))=true from by rw [beq_iff_eq];omega]
  exact Ev.now _
set_option maxHeartbeats 4000000 in
theorem Vy (ts:List ByteArray) (lo gl:ByteArray) (cs:List jo) (ht:ts.length≤140737488355328) (hc:cs.length≤140737488355328) (hw:Wf cs):Ev (fun k=>aY.f k ts lo gl cs) true:=by
  have no:∀ s,Ev (fun k=>aY.j0 k s true ts lo gl cs) true:=fun s =>
    Ev.step (f:=fun _=>some true) (fun k=>by simp only [aY.j0];rw [if_pos trivial]) (Ev.now _)
  unfold aY.f
  refine Ev.bind MC (Ev.congr (fun k=>if_pos rfl) ?_)
  refine Ev.bind (Vk ts lo gl cs ht) ?_
  cases hf:Ri ts lo gl cs with
  | false=>exact Ev.now _
  | true =>
    refine Ev.congr (fun k=>if_pos rfl) ?_
    refine Ev.bind (printed ht hc hw fun h=>y9 ht (xJ.1 h) hf) ?_
    by_cases m:wB ts lo gl cs=true
    · have hk:=xJ.1 m
      have hs:=y9 ht hk hf
      simp only [m,if_true]
      by_cases h1:cs=[]
      · subst h1
        exact no _
      · have e:((cs.length:Int) == 0)=false:=by
          rw [beq_eq_false_iff_ne]
          intro hq
          exact h1 (List.eq_nil_of_length_eq_zero (by omega))
        rw [e]
        have h0:1≤cs.length:=by
          rcases Nat.eq_zero_or_pos cs.length with hq|hq
          · exact absurd (List.eq_nil_of_length_eq_zero hq) h1
          · exact hq
        obtain ⟨c0,x,hx⟩:∃ c0 x,cs=c0++[x]:=⟨cs.dropLast,cs.getLast h1,(List.dropLast_concat_getLast h1).symm⟩
        have ce:=Vz hx hk hw hs
        have et:rQ ts lo gl cs=Bs (joinL (LA ts lo gl c0)++(Lib.join (nM x) [32]++[10])):=by
          rw [sQ,hx,Qp,zN]
        have tl:=vF ts hk.typ
        have tt:=Ic hk hw hs
        have hlen:(joinL (LA ts lo gl cs)).length≤18000:=Nat.le_trans (yQ _) tt
        have hlen2:(joinL (LA ts lo gl c0)).length+(Lib.join (nM x) [32]).length+1≤18000:=by
          have:(rQ ts lo gl cs).size≤18000:=by rw [sQ,mJ];exact hlen
          rw [et,mJ] at this
          simp only [List.length_append,List.length_cons,List.length_nil] at this
          omega
        have hxm:x ∈ cs:=by rw [hx];simp
        have hwo:=(Bv (hk.ins x hxm) (hw x hxm)).2.1
        have hnl:(10:UInt8) ∉ Lib.join (nM x) [32]:=Il fun w hm=>(sG (hwo w hm).1 (hwo w hm).2).2
        rw [et] at ce
        have key:=Qd (joinL (LA ts lo gl c0)) (Lib.join (nM x) [32]) hnl (NR _ (by unfold LA BJ;simp)) ts lo gl cs (by omega) (by have:=hk.few;omega) h0 (by omega) true ce (Lib.join (nM x) [32]).length (Nat.le_refl _)
        refine Ev.step (fun k=>?_) key
        simp only [aY.j0]
        rw [if_neg (by simp),et,show wrap64 (((Bs (joinL (LA ts lo gl c0)++(Lib.join (nM x) [32]++[10]))).size:Int) - 1)=(((joinL (LA ts lo gl c0)).length+(Lib.join (nM x) [32]).length:Nat):Int) from by
          rw [mJ]
          simp only [List.length_append,List.length_cons,List.length_nil]
          unfold wrap64
          omega]
    · simp only [if_neg m]
      exact Ev.congr (fun k=>if_neg (by decide)) (no _)
end Go.Proofs.YtkclndkbccbhaaaDoor.P
end
section
namespace Go.Proofs.YtkclndkbccbhaaaDoor.codeCuts
open Go.ChangeShapes Go.WideShapes Go.ChangeAt Go.RowKit Go.Proofs.YtkclndkbccbhaaaDoor.P
theorem laidOut:laidOutB Tryd.prog=true:=by kernel_rfl
set_option maxRecDepth 100000 in
theorem contract (H:Type) (enc:TypeId × Value→H) (W:World) (base:Nat) (args:Array Value) (ds gs:List (DataW H)) (before:List MemPlace)
    (hval:∀ (j:Nat) t v,Tryd.f4.params[j]? = some t→args[j]? = some v→Value.okWide Tryd.prog W .any base t v)
    (hW:DataW.Whole enc Tryd.prog Tryd.f4.params.toList Rows.codeCutsSpec.vars false W args.toList ds gs before)
    (hz:(DataW.weightsEach Tryd.prog (Tryd.f4.params.toList++[]) (ds++gs)).all (·≤reachBytes)=true)
    (hL:laidMetH Tryd.prog Rows.codeCutsRow.laid W) (hsh:W.ShapedOpen Tryd.prog) :
    Calls Tryd.prog 4 args W fun e W'=>∃ v,e=.returned v∧Rows.codeCutsSpec.post enc Tryd.prog Tryd.f4 false true false false W args v W':=by
  have hW':=hW
  obtain ⟨p,q,hA0,hV,rfl,hfz,hnd⟩:=hW
  have hA:DataW.TrodAll enc Tryd.prog W 0 (fun _=>true) true Tryd.f4.params.toList args.toList ds p:=hA0
  rw [Tryd.params4] at hA hval hz
  obtain ⟨v0,vs0,d0,ds0,p0,q0,hargs,rfl,rfl,h0,r0⟩:=trodAll_cons hA
  obtain ⟨rfl,rfl,rfl⟩:=trodAll_nil r0
  obtain rfl:args=#[v0]:=by cases args;simp_all
  obtain ⟨rfl,rfl⟩:=trodVars_none hV
  have z0:=EL hz
  have k0:=h0
  have lt0:∀ x ∈ p0,x.block < W.heap.size:=by obtain ⟨m,hm⟩:=k0;exact DataW.trod_lt m _ _ _ hm
  obtain ⟨A0,c0,t0,lo0,gl0,B0,e0,LX,rfl,hT0,acJ,hC0,acL,hw0,ht0,hl0⟩:=GI (hval 0 25 v0 rfl rfl) h0 z0.1
  clear hA0
  obtain ⟨k,hk⟩:=Go.Proofs.az.dw.Ev.rounds (Vy t0 lo0 gl0 LX ht0 hl0 hw0)
  refine (aY.calls k A0 c0 t0 lo0 gl0 B0 e0 LX true W hT0 acJ hC0 acL (table hL hsh) hk).mono fun e W' ⟨he,bel⟩=>?_
  subst he
  exact ⟨_,rfl,_,_,_,[],_,[],hW',trodAll_mk1 (shut_bool Tryd.underlying4 _),(trodAll_cons_mk (Below.trod laidOut (by kernel_rfl) (of_decide_eq_true (by kernel_rfl)) k0 bel lt0) trodAll_mk0),rfl,bel.frame _,fun h=>by cases h⟩
set_option maxRecDepth 100000 in
theorem lifted (os:Os) (started:os.Started) (H:Type) (enc:TypeId × Value→H) (F:Stop.Interp) :
    ReturnsInHanded {} Tryd.checked os 4 .any ((OpenSpec.ofChange Rows.codeCutsSpec).preRow enc Tryd.prog Tryd.f4 Rows.codeCutsRow.domain false Rows.codeCutsRow.laid) (((OpenSpec.ofChange Rows.codeCutsSpec).at F).post enc Tryd.prog Tryd.f4 false true false false):=by
  have hx:DataW.whole enc Tryd.prog ((laidWorld os).forCall (fun _ _=>0) ⟨#[],#[.agg #[.slice none 0 0,.string ⟨#[]⟩,.string ⟨#[]⟩,.slice none 0 0]],[]⟩).memory Tryd.f4.params.toList Rows.codeCutsSpec.vars false (#[.agg #[.slice none 0 0,.string ⟨#[]⟩,.string ⟨#[]⟩,.slice none 0 0]]:Array Value).toList 8=some ([.agg [.nil,.lit (.string []),.lit (.string []),.nil]],[],[]):=by kernel_rfl
  refine returnsInHanded_of_row (C:=Tryd.checked) (s:=OpenSpec.ofChange Rows.codeCutsSpec) own started (by kernel_rfl) Tryd.func4
    (witness_row_at (enc:=enc) (C:=Tryd.checked) false (laidWorld os) #[.agg #[.slice none 0 0,.string ⟨#[]⟩,.string ⟨#[]⟩,.slice none 0 0]] (World.laidAll_os _ _ _) (by kernel_rfl) (by kernel_rfl) (by kernel_rfl)
      (OpenSpec.preRow_of_cond 8 hx (by kernel_rfl) (fun k hk=>by cases hk) (by kernel_rfl) (laid_met os _))) ?_
  intro W base args ds gs before hval hW _ _ hz hL hsh _
  exact contract H enc W base args ds gs before hval hW hz hL hsh
theorem said:Rows.CodeCutsSaid :=
  OpenClaim.holds_of_cond 4 Tryd.f4 rfl rfl rfl rfl rfl rfl rfl ⟨rfl,rfl,rfl,rfl,rfl⟩ rfl rfl rfl rfl rfl (by kernel_rfl) Tryd.func4 (by kernel_rfl)
    (of_decide_eq_true (by kernel_rfl)) (by unfold Func.isWrapper;first|(rw [if_pos (by decide +kernel)];kernel_rfl)|(rw [if_neg (by decide +kernel)];exact ⟨rfl,rfl⟩))
    (fun os started H enc _ F=>by rw [OpenClaim.pre_eq_preRow];exact lifted os started H enc F)
theorem plain (f:FuncId) (fn:Func) (hf:Tryd.pinned.checked.prog.funcNamed "lockstitch/lockstitchlaw04.CodeCuts"=some f) (hfn:Tryd.pinned.checked.prog.funcs[f]? = some fn) :
    true=Tryd.pinned.checked.prog.looks []∧∀ (j:Nat) t,fn.params[j]? = some t→Tryd.pinned.checked.prog.wantsStandIn t=false:=by
  obtain rfl:f=4:=Option.some.inj ((show Tryd.prog.funcNamed "lockstitch/lockstitchlaw04.CodeCuts"=some 4 by kernel_rfl).symm.trans hf) |>.symm
  obtain rfl:fn=Tryd.f4:=(Option.some.inj (Tryd.func4.symm.trans hfn)).symm
  refine ⟨by kernel_rfl,fun j t ht=>?_⟩
  rw [Tryd.params4] at ht
  obtain rfl:t=25:=by simpa using Array.mem_of_getElem? ht
  exact (show Tryd.prog.wantsStandIn 25=false by kernel_rfl)
theorem card:Rows.CodeCutsCardSaid :=
  Claim7.holds_tied_plain_at .later [] _ _ _ _ said (fun _ h=>by cases h) (by kernel_rfl) (fun _ h=>by cases h) codeCuts_row_tie rfl ⟨rfl,rfl⟩ (by kernel_rfl) rfl plain (by kernel_rfl)
end Go.Proofs.YtkclndkbccbhaaaDoor.codeCuts
namespace Go.Proofs.YtkclndkbccbhaaaDoor
theorem codeCuts_holds:Rows.CodeCutsCardSaid:=codeCuts.card
#print axioms codeCuts_holds
end Go.Proofs.YtkclndkbccbhaaaDoor
end
