/- Parts of the proof of CodeParses: what the functions that it reaches compute, and plain facts about that. -/
import Derived.Great.BuildSlice
import Derived.Test.YtkclndkbccbhaaaGreatDoorRag
import Derived.Test.YtkclndkbccbhaaaGreatDoorRai
set_option linter.unusedVariables false
set_option linter.unusedSimpArgs false
section
namespace Go.Proofs.YtkclndkbccbhaaaGreatDoor.P
open Go.RowKit Go.Proofs.ag.bK Go.Proofs.ag.dV Go.Proofs.ag.fE
def kU (a:Nat):List ByteArray × ByteArray × ByteArray × List jR × Int × Int:=([],⟨#[]⟩,⟨#[]⟩,[],((a+1:Nat):Int),4)
def tJ (l:List (List ByteArray)) (ts:List ByteArray) (lo gl:ByteArray):Nat→Nat→List jR→Option (List ByteArray × ByteArray × ByteArray × List jR × Int × Int)
  | 0,_,_=>none
  | d+1,a,cs=>if a < l.length then (mf.f (dZ l a)).bind fun x=>if x.2.2.2.2.2=true then (if cs.length < 200 then tJ l ts lo gl d (a+1) (cs++[⟨x.1,x.2.1,x.2.2.1,x.2.2.2.1,x.2.2.2.2.1⟩]) else some (kU a)) else some (kU a) else some (ts,lo,gl,cs,0,0)
def oN (l:List (List ByteArray)) (ts:List ByteArray):Nat→Nat→ByteArray→ByteArray→Option (List ByteArray × ByteArray × ByteArray × List jR × Int × Int)
  | 0,a,lo,gl=>tJ l ts lo gl (l.length+1) a []
  | d+1,a,lo,gl=>(sH l a (if d=1 then ⟨#[108,111,99,97,108,115]⟩ else ⟨#[103,108,111,98,97,108,115]⟩)).bind fun x=>if x.2=true then (strings_TrimSuffix.f x.1 ⟨#[45]⟩).bind fun s=>(if d=1 then oN l ts d (a+1) s gl else oN l ts d (a+1) lo s) else some (kU a)
def uZ (l:List (List ByteArray)):Nat→Nat→List ByteArray→Option (List ByteArray × ByteArray × ByteArray × List jR × Int × Int)
  | 0,_,_=>none
  | d+1,a,ts=>if a < l.length then (if 0 < (dZ l a).length then (if (eF ByteArray.empty (dZ l a) 0).toList=[116,121,112,101] then (sH l a ⟨#[116,121,112,101]⟩).bind fun x=>if x.2=true then (if x.1.toList=[45] then some (kU a) else uZ l d (a+1) (ts++[x.1])) else some (kU a) else oN l ts 2 a ⟨#[]⟩ ⟨#[]⟩) else none) else oN l ts 2 a ⟨#[]⟩ ⟨#[]⟩
def eG.f (k:Nat) (s:ByteArray):Option (List ByteArray × ByteArray × ByteArray × List jR × Int × Int) :=
  (bZ.f k s).bind fun x=>if x.2.2=0 then (if x.1.length≤1000000 then uZ x.1 (x.1.length+1) 0 [] else none) else some ([],⟨#[]⟩,⟨#[]⟩,[],x.2.1,x.2.2)
theorem eG.mono:∀ s k,dC (eG.f k s) (eG.f (k+1) s):=by
  intro s k
  unfold eG.f
  exact dC.bind (bZ.mono s k) (fun _=>dC.refl _)
theorem Fp {w:World} {g j o:Nat} {cs:Array Value} (h:j ≠ g):(w.setRow g cs).cell? ⟨j,o,none⟩=w.cell? ⟨j,o,none⟩:=by simp [World.cell?,ru cs j h]
def wrong.T1:Bool × List (List Nat × List Nat):=(true,[([],[]),([],[]),([1],[1]),([2],[2]),([3],[3]),([4],[4]),([0,0],[0]),([5,6,0,1,2,3,4,5,6],[5]),([7,0,1,2,3,4,5,6,7],[])])
def wrong.B1:List Nat:=[0,0,2,6,14,30,1,127,255]
theorem wrong.PK:rJ .any (opsOf Tryz.f30 1)=wrong.T1:=by kernel_rfl
theorem wrong.IZ:sS wrong.T1.2 wrong.B1=true:=by kernel_rfl
set_option maxRecDepth 100000 in
set_option maxHeartbeats 3200000 in
theorem lN (V R a:Nat) (ha:a≤2000000) (w:World) (hv:w.cell? ⟨V,0,none⟩=some (.pointer (some ⟨R,0,none⟩))) (hr:w.cell? ⟨R,1,none⟩=some (.int .i64 a)) :
    Calls Tryz.prog 30 #[.pointer (some ⟨V,0,none⟩)] w fun e w'=>e=.returned (.tuple #[.agg #[.slice none 0 0,.string ⟨#[]⟩,.string ⟨#[]⟩,.slice none 0 0],.int .i64 ((a+1:Nat):Int),.int .i64 4])∧Below w.heap.size w w':=by
  obtain ⟨X,hX⟩:∃ X,w.heap.size=X:=⟨_,rfl⟩
  obtain ⟨w1,hw1⟩:∃ w1,w.alloc (.cells #[.slice none 0 0,.string ⟨#[]⟩,.string ⟨#[]⟩,.slice none 0 0] 25)=w1:=⟨_,rfl⟩
  have hVX:V ≠ X:=by have:=World.block_lt_of_cell? w _ hv;show V ≠ X;simp at this;omega
  have hRX:R ≠ X:=by have:=World.block_lt_of_cell? w _ hr;show R ≠ X;simp at this;omega
  have hB:Below X w w1:=by rw [← hw1,← hX];exact (Below.refl _ w).alloc (Nat.le_refl _) _
  have hx:w1.heap[X]? = some (.cells #[.slice none 0 0,.string ⟨#[]⟩,.string ⟨#[]⟩,.slice none 0 0] 25 (0,0)):=by rw [← hw1,← hX];exact heap_alloc_new w _
  replace hv:w1.cell? ⟨V,0,none⟩=some (.pointer (some ⟨R,0,none⟩)):=(hB.cell (p:=⟨V,0,none⟩) (by rw [← hX];exact World.block_lt_of_cell? w _ hv)).trans hv
  replace hr:w1.cell? ⟨R,1,none⟩=some (.int .i64 a):=(hB.cell (p:=⟨R,1,none⟩) (by rw [← hX];exact World.block_lt_of_cell? w _ hr)).trans hr
  obtain ⟨q,hq⟩:∃ q:Int,q=((a+1:Nat):Int):=⟨_,rfl⟩
  have hw:IntKind.i64.wrap ((a:Int)+1)=q:=by rw [hq];exact IntWalk.i64_in _ (by omega)
  rw [← hq]
  clear hq
  go_enter Tryz.func30,Tryz.ntmps30
  go_wp2
  clear hw1
  refine wp_region_noPanic ?_
  refine sD (n:=9) (S:=fun w'=>w'.cell? ⟨V,0,none⟩=some (.pointer (some ⟨R,0,none⟩))∧w'.cell? ⟨R,1,none⟩=some (.int .i64 a)∧w'.heap[X]? = some (.cells #[.slice none 0 0,.string ⟨#[]⟩,.string ⟨#[]⟩,.slice none 0 0] 25 (0,0))∧Below X w w') (ds:=[]) #[false,false,false,false,false,false,false,false,false] (by kernel_rfl) rfl rfl ⟨hv,hr,hx,hB.drew⟩ (fun hHeld=>?_)
  refine l9 wrong.PK wrong.IZ (fun dR oJ=>?_)
  generalize w1.drew=Wd at hHeld ⊢
  clear hv hr hx hB
  refine bJ (i:=0) (N:=(some 4)) (v:=?_) (a':=?_) #[true,false,false,false,false,false,false,false,false] rfl rfl (aW dR.out (by kernel_rfl)) (fun _ _ _ h=>h) (Or.inl ⟨by rfl,?_⟩) ?_ ?_
  rotate_left
  · intro w'
    go_simp
    with_reducible rfl
  rotate_left
  · simp only [Act.put,List.setIfInBounds_toArray,List.set_cons_zero,List.set_cons_succ,aN,aQ]
    rfl
  refine iK (i:=1) (N:=(some 5)) (v:=?_) (a':=?_) #[true,true,false,false,false,false,false,false,false] rfl rfl (dH dR.out oJ.out (by kernel_rfl)) (fun _ _ _ h=>h) (Or.inl ⟨by rfl,?_⟩) hHeld ?_ ?_
  rotate_left
  · intro w' kJ
    obtain ⟨d0,d1,d2,d3⟩:=kJ
    go_simp
    with_reducible rfl
  rotate_left
  · simp only [Act.put,List.setIfInBounds_toArray,List.set_cons_zero,List.set_cons_succ,aN,aQ]
    rfl
  refine bJ (i:=2) (N:=(some 6)) (v:=?_) (a':=?_) #[true,true,true,false,false,false,false,false,false] rfl rfl (aW dR.out (by kernel_rfl)) (fun _ _ _ h=>h) (Or.inl ⟨by rfl,?_⟩) ?_ ?_
  rotate_left
  · intro w'
    go_simp
    with_reducible rfl
  rotate_left
  · simp only [Act.put,List.setIfInBounds_toArray,List.set_cons_zero,List.set_cons_succ,aN,aQ]
    rfl
  refine bJ (i:=3) (N:=(some 7)) (v:=?_) (a':=?_) #[true,true,true,true,false,false,false,false,false] rfl rfl (aW dR.out (by kernel_rfl)) (fun _ _ _ h=>h) (Or.inl ⟨by rfl,?_⟩) ?_ ?_
  rotate_left
  · intro w'
    go_simp
    with_reducible rfl
  rotate_left
  · simp only [Act.put,List.setIfInBounds_toArray,List.set_cons_zero,List.set_cons_succ,aN,aQ]
    rfl
  refine iK (i:=4) (N:=(some 8)) (v:=?_) (a':=?_) #[true,true,true,true,true,false,false,false,false] rfl rfl (dH dR.out oJ.out (by kernel_rfl)) (fun _ _ _ h=>h) (Or.inl ⟨by rfl,?_⟩) hHeld ?_ ?_
  rotate_left
  · intro w' kJ
    obtain ⟨d0,d1,d2,d3⟩:=kJ
    go_simp
    with_reducible rfl
  rotate_left
  · simp only [Act.put,List.setIfInBounds_toArray,List.set_cons_zero,List.set_cons_succ,aN,aQ]
    rfl
  refine bJ (i:=5) (N:=(some 9)) (v:=?_) (a':=?_) #[true,true,true,true,true,true,false,false,false] rfl rfl (aW dR.out (by kernel_rfl)) (fun _ _ _ h=>h) (Or.inl ⟨by rfl,?_⟩) ?_ ?_
  rotate_left
  · intro w'
    go_simp
    with_reducible rfl
  rotate_left
  · simp only [Act.put,List.setIfInBounds_toArray,List.set_cons_zero,List.set_cons_succ,aN,aQ]
    rfl
  refine sW (i:=6) (N:=none) #[true,true,true,true,true,true,true,false,false] rfl rfl (kC dR.out (by kernel_rfl)) (by decide) (fun K hK=>?_)
  rw [if_pos (by rfl)]
  refine wp_store_row 25 (.tmp 1) (.tmp 4) rfl X #[.slice none 0 0,.string ⟨#[]⟩,.string ⟨#[]⟩,.slice none 0 0] rfl rfl 25 _ hHeld.2.2.1 (by kernel_rfl) rfl (by simp [Value.oneCell']) ?_
  refine hK.out _ _ ⟨(Fp hVX).trans hHeld.1,(Fp hRX).trans hHeld.2.1,iF hHeld.2.2.1 _,eX hHeld.2.2.2 (Nat.le_refl X) _⟩ (fun hHeld=>?_)
  clear hK K
  refine jB (a':=?_) ?_ ?_
  rotate_left
  · simp only [lK,Act.put,List.setIfInBounds_toArray,List.set_cons_zero,List.set_cons_succ,aN,aQ]
    rfl
  refine bJ (i:=7) (N:=(some 2)) (v:=?_) (a':=?_) #[true,true,true,true,true,true,true,true,false] rfl rfl (aW dR.out (by kernel_rfl)) (fun _ _ _ h=>h) (Or.inl ⟨by rfl,?_⟩) ?_ ?_
  rotate_left
  · intro w'
    go_simp
    with_reducible rfl
  rotate_left
  · simp only [Act.put,List.setIfInBounds_toArray,List.set_cons_zero,List.set_cons_succ,aN,aQ]
    rfl
  refine bJ (i:=8) (N:=(some 3)) (v:=?_) (a':=?_) #[true,true,true,true,true,true,true,true,true] rfl rfl (aW dR.out (by kernel_rfl)) (fun _ _ _ h=>h) (Or.inl ⟨by rfl,?_⟩) ?_ ?_
  rotate_left
  · intro w'
    go_simp
    with_reducible rfl
  rotate_left
  · simp only [Act.put,List.setIfInBounds_toArray,List.set_cons_zero,List.set_cons_succ,aN,aQ]
    rfl
  refine xm (qf dR.out (by kernel_rfl)) ?_
  refine NoPanic.normal ?_
  show Exit.then _ _ .normal _ _
  simp only [Exit.then]
  have hx:=hHeld.2.2.1
  have hb:=hHeld.2.2.2
  clear hHeld
  go_wp2
  (try simp only [Exit.inBlock,Exit.then])
  refine bodyPost_ret (iw rfl _ _ X 25 #[.slice none 0 0,.string ⟨#[]⟩,.string ⟨#[]⟩,.slice none 0 0] (0,0) _ rfl hx Tryz.underlying25 rfl (by kernel_rfl)) rfl ?_
  exact ⟨rfl,by first|exact hb|(rw [hX];exact hb)⟩
structure sN (M P0 R V Q:Nat) (Al:Option Addr) (c:Nat) (l:List (List ByteArray)) (a:Nat) (vT vC:Value) (ts:List ByteArray) (lo gl:ByteArray) (cs:List jR) (w1 w:World):Prop where
  zp:w.heap[P0]? = some (.cells #[.slice none 0 0,.string ⟨#[]⟩,.string ⟨#[]⟩,.slice none 0 0] 25 (0,0))
  rd:w.heap[R]? = some (.cells #[.slice Al l.length c,.int .i64 a] 61 (0,0))
  vr:w.heap[V]? = some (.cells #[.pointer (some ⟨R,0,none⟩)] 59 (0,0))
  pq:w.heap[Q]? = some (.cells #[vT,.string lo,.string gl,vC] 25 (0,0))
  tr:Kd.R Kd.string 9 w M (fun _=>True) vT ts
  cr:Kd.R k27 27 w M (fun _=>True) vC cs
  bel:Below M w1 w
  od:P0 < M∧M≤R∧R < V∧V < Q
section
variable {M P0 R V Q:Nat} {Al:Option Addr} {c:Nat} {l:List (List ByteArray)} {a:Nat} {vT vC:Value} {ts:List ByteArray} {lo gl:ByteArray} {cs:List jR} {w1 w w2:World}
theorem sN.below (h:sN M P0 R V Q Al c l a vT vC ts lo gl cs w1 w) (hb:Below w.heap.size w w2):sN M P0 R V Q Al c l a vT vC ts lo gl cs w1 w2 :=
  have hQ:=fA h.pq
  have ho:=h.od
  ⟨(hb.block P0 (by omega)).trans h.zp,(hb.block R (by omega)).trans h.rd,(hb.block V (by omega)).trans h.vr,(hb.block Q hQ).trans h.pq,Kd.dD h.tr hb,Kd.dD h.cr hb,h.bel.trans (hb.mono (by omega)),h.od⟩
theorem sN.qQ (h:sN M P0 R V Q Al c l a vT vC ts lo gl cs w1 w) (j:Nat):w.cell? ⟨R,j,none⟩=(#[.slice Al l.length c,.int .i64 a]:Array Value)[j]?:=by simp [World.cell?,h.rd]
theorem sN.cellV (h:sN M P0 R V Q Al c l a vT vC ts lo gl cs w1 w):w.cell? ⟨V,0,none⟩=some (.pointer (some ⟨R,0,none⟩)):=by simp [World.cell?,h.vr]
theorem sN.D5 (h:sN M P0 R V Q Al c l a vT vC ts lo gl cs w1 w) (j:Nat):w.cell? ⟨Q,j,none⟩=(#[vT,.string lo,.string gl,vC]:Array Value)[j]?:=by simp [World.cell?,h.pq]
theorem sN.frQ (h:sN M P0 R V Q Al c l a vT vC ts lo gl cs w1 w) (j:Nat):w.frozen? ⟨Q,j,none⟩=false:=by simp [World.frozen?,h.pq]
theorem sN.frR (h:sN M P0 R V Q Al c l a vT vC ts lo gl cs w1 w) (j:Nat):w.frozen? ⟨R,j,none⟩=false:=by simp [World.frozen?,h.rd]
theorem sN.moved {a':Nat} (h:sN M P0 R V Q Al c l a vT vC ts lo gl cs w1 w) (hk:jq w w2 R none) (hb:Below R w w2) (hr:w2.heap[R]? = some (.cells #[.slice Al l.length c,.int .i64 a'] 61 (0,0))):sN M P0 R V Q Al c l a' vT vC ts lo gl cs w1 w2 :=
  have hQ:=fA h.pq
  have ho:=h.od
  ⟨(hk.2 P0 (by omega) (by omega) (by simp)).trans h.zp,hr,(hk.2 V (by omega) (by omega) (by simp)).trans h.vr,(hk.2 Q hQ (by omega) (by simp)).trans h.pq,
   Kd.dm (Kd.SC (Kd.dQ h.tr h.rd (by intro q hq;simp [Kd.string,Kd.scalar] at hq;omega)) hk (fun _ hk=>hk.2)) (fun _ hk=>hk.1),Kd.dm (Kd.SC (Kd.dQ h.cr h.rd (by intro q hq;simp [k27,Kd.iso,Kd.pair,Kd.int,Kd.scalar] at hq;omega)) hk (fun _ hk=>hk.2)) (fun _ hk=>hk.1),
   h.bel.trans (hb.mono (by omega)),h.od⟩
theorem sN.TE {Y5 Y6:Value} {lo' gl':ByteArray} (h:sN M P0 R V Q Al c l a vT vC ts lo gl cs w1 w) (j:Nat) (v:Value) (e:(#[vT,.string lo,.string gl,vC]:Array Value).setIfInBounds j v=#[Y5,.string lo',.string gl',Y6]) {ts':List ByteArray} {cs':List jR}
    (h1:Kd.R Kd.string 9 w M (fun _=>True) Y5 ts') (h2:Kd.R k27 27 w M (fun _=>True) Y6 cs'):sN M P0 R V Q Al c l a Y5 Y6 ts' lo' gl' cs' w1 (w.setCell ⟨Q,j,none⟩ v) :=
  have ho:=h.od
  have far:∀ i,i ≠ Q→(w.setCell ⟨Q,j,none⟩ v).heap[i]? = w.heap[i]?:=fun i hi=>Below.heap_setCell w ⟨Q,j,none⟩ v i hi
  ⟨(far P0 (by omega)).trans h.zp,(far R (by omega)).trans h.rd,(far V (by omega)).trans h.vr,bu h.pq j v e,Kd.ND h1 h.pq (by intro q hq;simp [Kd.string,Kd.scalar] at hq;omega) j v,
   Kd.ND h2 h.pq (by intro q hq;simp [k27,Kd.iso,Kd.pair,Kd.int,Kd.scalar] at hq;omega) j v,h.bel.setCell (p:=⟨Q,j,none⟩) (by show M≤Q;omega) v,h.od⟩
theorem sN.Zc {a':Nat} (h:sN M P0 R V Q Al c l a vT vC ts lo gl cs w1 w):sN M P0 R V Q Al c l a' vT vC ts lo gl cs w1 (w.setCell ⟨R,1,none⟩ (.int .i64 a')) :=
  have ho:=h.od
  h.moved ((jq.refl w R none).TD 1 _) ((Below.refl R w).setCell (p:=⟨R,1,none⟩) (Nat.le_refl R) _) (bu h.rd 1 _ rfl)
theorem other {d:Nat} {e t:Nat} {α:Type} {D:Kd α} {v:Value} {xs:List α} {cells:Array Value} (h:D.R e w M (fun _=>True) v xs) (hb:w.heap[d]? = some (.cells cells t (0,0))) (ht:e ≠ t):some d ≠ v.ownBlock:=fun he=>by
  obtain ⟨cs',hc⟩:=Kd.rF h d he.symm
  rw [hb] at hc
  injection hc with hc
  injection hc with _ hc _
  exact ht hc.symm
structure PaG (M P0 R V Q:Nat) (Al:Option Addr) (c:Nat) (l:List (List ByteArray)) (a:Nat) (vT vC:Value) (lo gl:ByteArray) (w1 w:World):Prop where
  zp:w.heap[P0]? = some (.cells #[.slice none 0 0,.string ⟨#[]⟩,.string ⟨#[]⟩,.slice none 0 0] 25 (0,0))
  rd:w.heap[R]? = some (.cells #[.slice Al l.length c,.int .i64 a] 61 (0,0))
  vr:w.heap[V]? = some (.cells #[.pointer (some ⟨R,0,none⟩)] 59 (0,0))
  pq:w.heap[Q]? = some (.cells #[vT,.string lo,.string gl,vC] 25 (0,0))
  bel:Below M w1 w
  od:P0 < M∧M≤R∧R < V∧V < Q
theorem sN.abW (h:sN M P0 R V Q Al c l a vT vC ts lo gl cs w1 w) (hb:Below M w1 w2) (hg:w.grownBy w2 vT.ownBlock):PaG M P0 R V Q Al c l a vT vC lo gl w1 w2∧Kd.R k27 27 w2 M (fun _=>True) vC cs :=
  have hQ:=fA h.pq
  have ho:=h.od
  ⟨⟨(hg.block P0 (by omega) (other h.tr h.zp (by decide))).trans h.zp,(hg.block R (by omega) (other h.tr h.rd (by decide))).trans h.rd,(hg.block V (by omega) (other h.tr h.vr (by decide))).trans h.vr,(hg.block Q hQ (other h.tr h.pq (by decide))).trans h.pq,hb,h.od⟩,
   Kd.xg h.cr (fun k hk=>Kd.rF h.tr k hk) (by intro q hq;simp [k27,Kd.iso,Kd.pair,Kd.int,Kd.scalar] at hq;omega) hg⟩
theorem sN.Yw (h:sN M P0 R V Q Al c l a vT vC ts lo gl cs w1 w) (hb:Below M w1 w2) (hg:w.grownBy w2 vC.ownBlock):PaG M P0 R V Q Al c l a vT vC lo gl w1 w2∧Kd.R Kd.string 9 w2 M (fun _=>True) vT ts :=
  have hQ:=fA h.pq
  have ho:=h.od
  ⟨⟨(hg.block P0 (by omega) (other h.cr h.zp (by decide))).trans h.zp,(hg.block R (by omega) (other h.cr h.rd (by decide))).trans h.rd,(hg.block V (by omega) (other h.cr h.vr (by decide))).trans h.vr,(hg.block Q hQ (other h.cr h.pq (by decide))).trans h.pq,hb,h.od⟩,
   Kd.xg h.tr (fun k hk=>Kd.rF h.cr k hk) (by intro q hq;simp [Kd.string,Kd.scalar] at hq;omega) hg⟩
theorem PaG.put {Y5 Y6:Value} {ts':List ByteArray} {cs':List jR} (h:PaG M P0 R V Q Al c l a vT vC lo gl w1 w) (j:Nat) (v:Value) (e:(#[vT,.string lo,.string gl,vC]:Array Value).setIfInBounds j v=#[Y5,.string lo,.string gl,Y6])
    (h1:Kd.R Kd.string 9 w M (fun _=>True) Y5 ts') (h2:Kd.R k27 27 w M (fun _=>True) Y6 cs'):sN M P0 R V Q Al c l a Y5 Y6 ts' lo gl cs' w1 (w.setCell ⟨Q,j,none⟩ v) :=
  have ho:=h.od
  have far:∀ i,i ≠ Q→(w.setCell ⟨Q,j,none⟩ v).heap[i]? = w.heap[i]?:=fun i hi=>Below.heap_setCell w ⟨Q,j,none⟩ v i hi
  ⟨(far P0 (by omega)).trans h.zp,(far R (by omega)).trans h.rd,(far V (by omega)).trans h.vr,bu h.pq j v e,Kd.ND h1 h.pq (by intro q hq;simp [Kd.string,Kd.scalar] at hq;omega) j v,
   Kd.ND h2 h.pq (by intro q hq;simp [k27,Kd.iso,Kd.pair,Kd.int,Kd.scalar] at hq;omega) j v,h.bel.setCell (p:=⟨Q,j,none⟩) (by show M≤Q;omega) v,h.od⟩
end
def parse.T21:Bool × List (List Nat × List Nat):=(true,[([],[]),([0],[0]),([],[]),([2],[2]),([1,0,1,2,3],[1]),([4,3,3,0,1,2,3],[3,4])])
def parse.B21:List Nat:=[0,1,0,4,15,31]
theorem parse.KT:rJ .any (opsOf Tryz.f13 21)=parse.T21:=by kernel_rfl
theorem parse.GU:sS parse.T21.2 parse.B21=true:=by kernel_rfl
set_option maxRecDepth 100000 in
set_option maxHeartbeats 25600000 in
theorem eG.calls (k:Nat) (a0:ByteArray) (r1:List ByteArray) (r2 r3:ByteArray) (r4:List jR) (r5 r6:Int) (w:World) (lC:Kd.C xE w xG oL.length oL) (h:eG.f k a0=some (r1,r2,r3,r4,r5,r6)) :
    Calls Tryz.prog 13 #[.string a0] w fun e w'=>∃ Df v3_:Value,e=.returned (.tuple #[.agg #[Df,.string r2,.string r3,v3_],.int .i64 r5,.int .i64 r6])∧Kd.R Kd.string 9 w' w.heap.size (fun _=>True) Df r1∧Kd.R k27 27 w' w.heap.size (fun _=>True) v3_ r4∧Below w.heap.size w w':=by
  unfold eG.f at h
  obtain ⟨⟨l,n,e0⟩,hln,h⟩:=Option.bind_eq_some_iff.1 h
  obtain ⟨P0,hP0⟩:∃ P0,w.heap.size=P0:=⟨_,rfl⟩
  obtain ⟨w0,hw0⟩:∃ w0,w.alloc (.cells #[.slice none 0 0,.string ⟨#[]⟩,.string ⟨#[]⟩,.slice none 0 0] 25)=w0:=⟨_,rfl⟩
  have hB0:Below P0 w w0:=by rw [← hw0,← hP0];exact (Below.refl _ w).alloc (Nat.le_refl _) _
  have hz0:w0.heap[P0]? = some (.cells #[.slice none 0 0,.string ⟨#[]⟩,.string ⟨#[]⟩,.slice none 0 0] 25 (0,0)):=by rw [← hw0,← hP0];exact heap_alloc_new w _
  have Ai:=ae.mk (Kd.gY lC (by rw [hP0];exact hB0))
  have HLF:=Lib.hid hln
  have HB0:=ae.mk hB0
  have HZ0:=ae.mk hz0
  have HH:=ae.mk h
  clear lC hln hB0 hz0 h
  go_enter Tryz.func13,Tryz.ntmps13
  go_upto_region 2 with (go_at_call 29;refine (bZ.calls k a0 l n e0 _ Ai.out HLF.out).mono ?_;rintro e w1 ⟨vL,rfl,hS,hb⟩;obtain ⟨Al,c,rfl⟩:=Kd.uH hS;have HS:=Lib.hid hS;have HB1:=ae.mk (show Below P0 w w1 from HB0.out.trans (hb.mono (by have:=fA HZ0.out;omega)));have HZ1:=ae.mk ((hb.block P0 (fA HZ0.out)).trans HZ0.out);have ac3:=Lib.hid (Kd.gY Ai.out hb);clear hS hb)
  clear hw0 Ai HLF HB0 HZ0
  have hH:=HH.out
  clear HH
  by_cases he:e0=0
  case neg =>
    rw [if_neg he] at hH
    have hq:=Option.some.inj hH
    simp only [Prod.mk.injEq] at hq
    obtain ⟨rfl,rfl,rfl,rfl,rfl,rfl⟩:=hq
    have g1:(e0 != 0)=true:=by simp [he]
    have g2:(e0 == 0)=false:=beq_eq_false_iff_ne.2 he
    have kG:=HZ1.out
    have KZ:=ae.mk (iF kG #[.slice none 0 0,.string ⟨#[]⟩,.string ⟨#[]⟩,.slice none 0 0])
    have yR:=ae.mk (eX HB1.out (Nat.le_refl P0) #[.slice none 0 0,.string ⟨#[]⟩,.string ⟨#[]⟩,.slice none 0 0])
    have ROW:=ae.mk (Kd.jh Kd.string 9 (w1.setRow P0 #[.slice none 0 0,.string ⟨#[]⟩,.string ⟨#[]⟩,.slice none 0 0]) P0 (fun _=>True))
    have sK:=ae.mk (Kd.jh k27 27 (w1.setRow P0 #[.slice none 0 0,.string ⟨#[]⟩,.string ⟨#[]⟩,.slice none 0 0]) P0 (fun _=>True))
    clear HZ1 HB1 HS hH he
    go_wp2_with (first|(skip;refine wpList_store_row rfl 25 (.tmp 2) (.tmp 27) rfl P0 (#[.slice none 0 0,.string ⟨#[]⟩,.string ⟨#[]⟩,.slice none 0 0]) rfl rfl 25 _ kG (by kernel_rfl) rfl (by simp [Value.oneCell']) ?_))
    (try simp only [Exit.inBlock,Exit.then])
    refine bodyPost_ret (iw rfl _ _ P0 25 #[.slice none 0 0,.string ⟨#[]⟩,.string ⟨#[]⟩,.slice none 0 0] (0,0) _ rfl KZ.out Tryz.underlying25 rfl (by kernel_rfl)) rfl ?_
    exact ⟨_,_,rfl,by have q:=ROW.out;first|exact q|(rw [hP0];exact q),by have q:=sK.out;first|exact q|(rw [hP0];exact q),by have q:=yR.out;first|exact q|(rw [hP0];exact q)⟩
  subst he
  rw [if_pos rfl] at hH
  by_cases hll:l.length≤1000000
  case neg =>
    rw [if_neg hll] at hH
    cases hH
  rw [if_pos hll] at hH
  obtain ⟨R,hM⟩:∃ R,w1.heap.size=R:=⟨_,rfl⟩
  obtain ⟨W1,hW1⟩:∃ W,w1.alloc (.cells #[.slice Al l.length c,.int .i64 0] 61)=W:=⟨_,rfl⟩
  obtain ⟨V,s1⟩:∃ V,W1.heap.size=V:=⟨_,rfl⟩
  have hV:V=R+1:=by rw [← s1,← hW1,← hM];simp
  have b1:W1.heap[R]? = some (.cells #[.slice Al l.length c,.int .i64 0] 61 (0,0)):=by rw [← hW1,← hM];exact heap_alloc_new w1 _
  obtain ⟨W2,hW2⟩:∃ W,W1.alloc (.cells #[.pointer none] 59)=W:=⟨_,rfl⟩
  have b2:W2.heap[V]? = some (.cells #[.pointer none] 59 (0,0)):=by rw [← hW2,← s1];exact heap_alloc_new W1 _
  obtain ⟨W3,hW3⟩:∃ W,W2.setCell ⟨V,0,none⟩ (.pointer (some ⟨R,0,none⟩))=W:=⟨_,rfl⟩
  obtain ⟨Q,s3⟩:∃ Q,W3.heap.size=Q:=⟨_,rfl⟩
  have hQ:Q=R+2:=by rw [← s3,← hW3,← hW2];simp [World.setCell,s1,hV]
  have b3:W3.heap[V]? = some (.cells #[.pointer (some ⟨R,0,none⟩)] 59 (0,0)):=by rw [← hW3];exact bu b2 0 _ rfl
  obtain ⟨W4,hW4⟩:∃ W,W3.alloc (.cells #[.slice none 0 0,.string ⟨#[]⟩,.string ⟨#[]⟩,.slice none 0 0] 25)=W:=⟨_,rfl⟩
  have b4:W4.heap[Q]? = some (.cells #[.slice none 0 0,.string ⟨#[]⟩,.string ⟨#[]⟩,.slice none 0 0] 25 (0,0)):=by rw [← hW4,← s3];exact heap_alloc_new W3 _
  have cV:W2.cell? ⟨V,0,none⟩=some (.pointer none):=by simp [World.cell?,b2]
  have fV:W2.frozen? ⟨V,0,none⟩=false:=by simp [World.frozen?,b2]
  have hP1:P0 < R:=by rw [← hM];exact fA HZ1.out
  have up4:∀ j,j < Q→W4.heap[j]? = W3.heap[j]?:=fun j hj=>by rw [← hW4];exact Below.heap_alloc W3 _ j (by omega)
  have up3:∀ j,j < V→W3.heap[j]? = W1.heap[j]?:=fun j hj=>by rw [← hW3,Below.heap_setCell W2 ⟨V,0,none⟩ _ j (by show j ≠ V;omega),← hW2];exact Below.heap_alloc W1 _ j (by omega)
  have hbel:Below R w1 W4:=by
    rw [← hW4]
    refine Below.alloc ?_ (by omega) _
    rw [← hW3]
    refine Below.setCell ?_ (p:=⟨V,0,none⟩) (by show R≤V;omega) _
    rw [← hW2]
    refine Below.alloc ?_ (by omega) _
    rw [← hW1]
    exact (show Below R w1 w1 by exact Below.refl _ _).alloc (by omega) _
  have HX:=ae.mk (show sN R P0 R V Q Al c l 0 (.slice none 0 0) (.slice none 0 0) [] ⟨#[]⟩ ⟨#[]⟩ [] w1 W4 from ⟨(hbel.block P0 hP1).trans HZ1.out,(up4 R (by omega)).trans ((up3 R (by omega)).trans b1),(up4 V (by omega)).trans b3,b4,Kd.jh _ _ _ _ _,Kd.jh _ _ _ _ _,hbel,hP1,by omega,by omega,by omega⟩)
  have HMQ:=Lib.hid (show V=R+1∧Q=R+2 from ⟨hV,hQ⟩)
  have YT:=Lib.hid (Kd.jr HS.out).2.2
  have EK:=Lib.hid hll
  have HH:=ae.mk hH
  have hmf:∀ (fn:Fn) (first cap:Array Value) (w:World),(Instr.makeFunc fn first cap).run Tryz.prog w=.ok (.func fn first cap) w:=fun _ _ _ _=>rfl
  clear up3 up4 hbel b1 b2 b3 b4 hH HZ1 HS hP1 hV hQ
  go_wp2
  clear hW1 hW2 hW3 hW4 cV fV s1 s3
  go_loopg [] (l.length+1) (fun kq wr=>∃ (a:Nat) (vT:Value) (ts:List ByteArray),ae (uZ l kq a ts=some (r1,r2,r3,r4,r5,r6))∧ae (sN R P0 R V Q Al c l a vT (.slice none 0 0) ts ⟨#[]⟩ ⟨#[]⟩ [] w1 wr)∧a+kq=l.length+1∧ts.length=a)
  case atStart=>exact ⟨0,_,[],HH,HX,by omega,rfl⟩
  case round =>
  clear HH HX
  obtain ⟨a,vT,ts,HH,HX,hab,hts⟩:=hrel
  cases gk with
  | zero=>exact absurd HH.out (by simp [uZ])
  | succ ng =>
  have hH:=HH.out
  rw [uZ] at hH
  clear HH
  have v0:=HX.out.cellV
  have k0:wr.cell? ⟨R,0,none⟩=some (.slice Al l.length c):=HX.out.qQ 0
  have k1:wr.cell? ⟨R,1,none⟩=some (.int .i64 a):=HX.out.qQ 1
  by_cases h1:a < l.length
  case neg =>
    rw [if_neg h1] at hH
    have g1:decide ((a:Int) < (l.length:Int))=false:=decide_eq_false (by omega)
    have g2:(a < l.length)=False:=eq_false h1
    clear h1
    obtain ⟨X5,ZW⟩:∃ X,wr.heap.size=X:=⟨_,rfl⟩
    obtain ⟨Wx,ZX⟩:∃ W,wr.alloc (.cells #[.string ⟨#[108,111,99,97,108,115]⟩,.pointer (some ⟨Q,1,none⟩),.string ⟨#[103,108,111,98,97,108,115]⟩,.pointer (some ⟨Q,2,none⟩)] 66)=W:=⟨_,rfl⟩
    have rY:=ae.mk (show Wx.heap[X5]? = some (.cells #[.string ⟨#[108,111,99,97,108,115]⟩,.pointer (some ⟨Q,1,none⟩),.string ⟨#[103,108,111,98,97,108,115]⟩,.pointer (some ⟨Q,2,none⟩)] 66 (0,0)) from by rw [← ZX,← ZW];exact heap_alloc_new wr _)
    have HX2:=ae.mk (show sN R P0 R V Q Al c l a vT (.slice none 0 0) ts ⟨#[]⟩ ⟨#[]⟩ [] w1 Wx from by rw [← ZX];exact HX.out.below ((Below.refl _ wr).alloc (Nat.le_refl _) _))
    have XU:=Lib.hid (show Q < X5 from by rw [← ZW];exact fA HX.out.pq)
    have HH2:=ae.mk hH
    clear HX hH
    go_wp2
    clear ZW ZX v0 k0 k1 g1 g2
    go_loopg [91] 2 (fun kq iv wr=>∃ (a:Nat) (lo gl:ByteArray) (i:Nat),kq+i=2∧iv=.int .i64 i∧ae (oN l ts kq a lo gl=some (r1,r2,r3,r4,r5,r6))∧ae (sN R P0 R V Q Al c l a vT (.slice none 0 0) ts lo gl [] w1 wr)∧ae (wr.heap[X5]? = some (.cells #[.string ⟨#[108,111,99,97,108,115]⟩,.pointer (some ⟨Q,1,none⟩),.string ⟨#[103,108,111,98,97,108,115]⟩,.pointer (some ⟨Q,2,none⟩)] 66 (0,0)))∧a≤l.length+i)
    case atStart=>exact ⟨a,_,_,0,rfl,rfl,HH2,HX2,rY,by omega⟩
    case round =>
    clear HH2 HX2 rY
    obtain ⟨a,lo,gl,i,hki,rfl,HH,HX,rY,ha⟩:=hrel
    rcases gk with _ | _ | _|gk
    · obtain rfl:i=2:=by omega
      have hH:=HH.out
      rw [oN] at hH
      clear HH rY
      go_wp2
      have HX3:=ae.mk (show sN R P0 R V Q Al c l a vT (.slice none 0 0) ts lo gl [] w1 wr from HX.out)
      have HH3:=ae.mk hH
      clear HX hH
      go_loopg [] (l.length+1) (fun kq wr=>∃ (a:Nat) (vC:Value) (cs:List jR),ae (tJ l ts lo gl kq a cs=some (r1,r2,r3,r4,r5,r6))∧ae (sN R P0 R V Q Al c l a vT vC ts lo gl cs w1 wr)∧a+kq≤2 * l.length+8∧cs.length≤200)
      case atStart=>exact ⟨a,_,[],HH3,HX3,by omega,by simp⟩
      case round =>
      clear HX3 HH3
      obtain ⟨a,vC,cs,HH,HX,hab,hcs⟩:=hrel
      cases gk with
      | zero=>exact absurd HH.out (by simp [tJ])
      | succ ng =>
        have hH:=HH.out
        rw [tJ] at hH
        clear HH
        have v0:=HX.out.cellV
        have k0:wr.cell? ⟨R,0,none⟩=some (.slice Al l.length c):=HX.out.qQ 0
        have k1:wr.cell? ⟨R,1,none⟩=some (.int .i64 a):=HX.out.qQ 1
        obtain ⟨Ac,cc,rfl⟩:=Kd.gI HX.out.cr
        by_cases h1:a < l.length
        case neg =>
          rw [if_neg h1] at hH
          have hq:=Option.some.inj hH
          simp only [Prod.mk.injEq] at hq
          obtain ⟨rfl,rfl,rfl,rfl,rfl,rfl⟩:=hq
          have g1:decide ((a:Int) < (l.length:Int))=false:=decide_eq_false (by omega)
          have g2:(a < l.length)=False:=eq_false h1
          have kQ:=HX.out.pq
          have kG:=HX.out.zp
          have hPM:=HX.out.od.1
          have hone:(#[vT,.string lo,.string gl,.slice Ac cs.length cc]:Array Value).all (·.oneCell')=true:=by
            obtain ⟨At,ct,hvT⟩:=Kd.gI HX.out.tr
            rw [hvT]
            simp [Value.oneCell']
          have KZ:=ae.mk (iF kG #[vT,.string lo,.string gl,.slice Ac cs.length cc])
          have yR:=ae.mk (eX (HB1.out.trans (HX.out.bel.mono (by have:=HB1.out.size;omega))) (Nat.le_refl P0) #[vT,.string lo,.string gl,.slice Ac cs.length cc])
          have ROW:=ae.mk (show Kd.R Kd.string 9 (wr.setRow P0 #[vT,.string lo,.string gl,.slice Ac cs.length cc]) P0 (fun _=>True) vT ts from Kd.dm (Kd.iW (Kd.uT (Kd.nM HX.out.tr) (fun k hk _=>ru _ k (by have:=hk.2.1;omega))) (by omega)) (fun _ _=>trivial))
          have sK:=ae.mk (show Kd.R k27 27 (wr.setRow P0 #[vT,.string lo,.string gl,.slice Ac cs.length cc]) P0 (fun _=>True) (.slice Ac cs.length cc) cs from Kd.dm (Kd.iW (Kd.uT (Kd.nM HX.out.cr) (fun k hk _=>ru _ k (by have:=hk.2.1;omega))) (by omega)) (fun _ _=>trivial))
          clear HX hH h1
          go_wp2_with (first|((with_reducible refine fF (N:=159) rfl ?_);refine wpList_load_row rfl 25 (.tmp 10) rfl Q rfl 25 (#[vT,.string lo,.string gl,.slice Ac cs.length cc]) (0,0) _ kQ Tryz.underlying25 rfl (by kernel_rfl) ?_)|(skip;refine wpList_store_row rfl 25 (.tmp 2) (.tmp 159) rfl P0 (#[vT,.string lo,.string gl,.slice Ac cs.length cc]) rfl rfl 25 _ kG (by kernel_rfl) rfl hone ?_))
          (try simp only [Exit.inBlock,Exit.then])
          refine bodyPost_ret (iw rfl _ _ P0 25 #[vT,.string lo,.string gl,.slice Ac cs.length cc] (0,0) _ rfl KZ.out Tryz.underlying25 rfl (by kernel_rfl)) rfl ?_
          exact ⟨_,_,rfl,by have q:=ROW.out;first|exact q|(rw [hP0];exact q),by have q:=sK.out;first|exact q|(rw [hP0];exact q),by have q:=yR.out;first|exact q|(rw [hP0];exact q)⟩
        rw [if_pos h1] at hH
        obtain ⟨⟨x1,x2,x3,x4,x5,x6⟩,hrd,hH⟩:=Option.bind_eq_some_iff.1 hH
        have g1:decide ((a:Int) < (l.length:Int))=true:=decide_eq_true (by omega)
        have g2:(a < l.length)=True:=eq_true h1
        have g3:((a:Int) < (l.length:Int))=True:=eq_true (by omega)
        obtain ⟨ad3,A0,c0,e0,hx,hle,hC0⟩:=rX (Kd.gY YT.out (by rw [hM];exact HX.out.bel)) a (by omega) (by omega)
        subst e0
        rw [Int.toNat_natCast] at hx
        obtain ⟨row,hrow⟩:∃ row,dZ l a=row:=⟨_,rfl⟩
        rw [hrow] at hx hle hC0 hrd
        have HRD:=Lib.hid hrd
        have HC0:=Lib.hid hC0
        have HH:=ae.mk hH
        obtain ⟨y,hy⟩:∃ y,cs++[(⟨x1,x2,x3,x4,x5⟩:jR)]=y:=⟨_,rfl⟩
        obtain ⟨q,hq⟩:∃ q:Int,q=((a+1:Nat):Int):=⟨_,rfl⟩
        have hw:IntKind.i64.wrap ((a:Int)+1)=q:=by rw [hq];exact IntWalk.i64_in _ (by have:=EK.out;omega)
        have SL:=Lib.hid hy
        have HQQ:=Lib.hid hq
        clear hrd hC0 hle hrow hH hy hq
        go_upto_region 26 with (first|(go_at_call 33;refine (mf.calls A0 c0 row x1 x2 x3 x4 x5 x6 _ HC0.out (Kd.gY ac3.out (by rw [hM];exact HX.out.bel)) HRD.out).mono ?_;rintro e w4 ⟨rfl,hb4⟩;obtain ⟨b17,QW⟩:∃ b,w4.heap.size=b:=⟨_,rfl⟩;obtain ⟨w5,hw5⟩:∃ W,w4.alloc (.cells #[.int .u8 0,.int .u8 0,.int .u8 0,.int .u8 0,.int .i64 0] 27)=W:=⟨_,rfl⟩;have hzb:w5.heap[b17]? = some (.cells #[.int .u8 0,.int .u8 0,.int .u8 0,.int .u8 0,.int .i64 0] 27 (0,0)):=(by rw [← hw5,← QW];exact heap_alloc_new w4 _);replace HX:=ae.mk (HX.out.below hb4);have HBR:=Lib.hid (show Below w4.heap.size w4 (w5.setRow b17 #[.int .u8 x1,.int .u8 x2,.int .u8 x3,.int .u8 x4,.int .i64 x5]) from eX (by rw [← hw5];exact (Below.refl _ w4).alloc (Nat.le_refl _) _) (by omega) _);have G8:=Lib.hid (iF hzb #[.int .u8 x1,.int .u8 x2,.int .u8 x3,.int .u8 x4,.int .i64 x5]);clear hb4)|(skip;refine wpList_store_row rfl 27 (.tmp 17) (.tmp 138) rfl b17 (#[.int .u8 x1,.int .u8 x2,.int .u8 x3,.int .u8 x4,.int .i64 x5]) rfl rfl 27 _ hzb (by kernel_rfl) rfl (by simp [Value.oneCell']) ?_))
        replace HX:=ae.mk (HX.out.below HBR.out)
        clear hzb hw5 QW HBR hx v0 k0 k1
        change Code.wp _ _ _ _ (w5.setRow b17 #[.int .u8 x1,.int .u8 x2,.int .u8 x3,.int .u8 x4,.int .i64 x5])
        generalize w5.setRow b17 #[.int .u8 x1,.int .u8 x2,.int .u8 x3,.int .u8 x4,.int .i64 x5]=Wm at HX G8 ⊢
        have kQ3:Wm.cell? ⟨Q,3,none⟩=some (.slice Ac cs.length cc):=HX.out.D5 3
        have hH:=HH.out
        clear HH HRD HC0
        cases x6 with
        | false =>
          rw [if_neg (by decide)] at hH
          clear G8
          have hq:=Option.some.inj hH
          simp only [kU,Prod.mk.injEq] at hq
          obtain ⟨rfl,rfl,rfl,rfl,rfl,rfl⟩:=hq
          clear hH
          go_upto_region 999 with (fail)
          refine (lN V R a (by have:=EK.out;omega) _ HX.out.cellV (HX.out.qQ 1)).mono ?_
          rintro e w5 ⟨rfl,hb5⟩
          replace HX:=ae.mk (HX.out.below hb5)
          clear hb5
          have kG:=HX.out.zp
          have KZ:=ae.mk (iF kG #[.slice none 0 0,.string ⟨#[]⟩,.string ⟨#[]⟩,.slice none 0 0])
          have yR:=ae.mk (eX (HB1.out.trans (HX.out.bel.mono (by have:=HB1.out.size;omega))) (Nat.le_refl P0) #[.slice none 0 0,.string ⟨#[]⟩,.string ⟨#[]⟩,.slice none 0 0])
          have ROW:=ae.mk (Kd.jh Kd.string 9 (w5.setRow P0 #[.slice none 0 0,.string ⟨#[]⟩,.string ⟨#[]⟩,.slice none 0 0]) P0 (fun _=>True))
          have sK:=ae.mk (Kd.jh k27 27 (w5.setRow P0 #[.slice none 0 0,.string ⟨#[]⟩,.string ⟨#[]⟩,.slice none 0 0]) P0 (fun _=>True))
          clear HX
          go_wp2_with (first|(skip;refine wpList_store_row rfl 25 (.tmp 2) (.tmp 150) rfl P0 (#[.slice none 0 0,.string ⟨#[]⟩,.string ⟨#[]⟩,.slice none 0 0]) rfl rfl 25 _ kG (by kernel_rfl) rfl (by simp [Value.oneCell']) ?_))
          (try simp only [Exit.inBlock,Exit.then])
          refine bodyPost_ret (iw rfl _ _ P0 25 #[.slice none 0 0,.string ⟨#[]⟩,.string ⟨#[]⟩,.slice none 0 0] (0,0) _ rfl KZ.out Tryz.underlying25 rfl (by kernel_rfl)) rfl ?_
          exact ⟨_,_,rfl,by have q:=ROW.out;first|exact q|(rw [hP0];exact q),by have q:=sK.out;first|exact q|(rw [hP0];exact q),by have q:=yR.out;first|exact q|(rw [hP0];exact q)⟩
        | true =>
        rw [if_pos rfl] at hH
        by_cases h5:cs.length < 200
        case neg =>
          rw [if_neg h5] at hH
          have g5:decide ((200:Int)≤(cs.length:Int))=true:=decide_eq_true (by omega)
          have g6:(200≤cs.length)=True:=eq_true (by omega)
          clear G8
          have hq:=Option.some.inj hH
          simp only [kU,Prod.mk.injEq] at hq
          obtain ⟨rfl,rfl,rfl,rfl,rfl,rfl⟩:=hq
          clear hH
          go_upto_region 999 with (fail)
          refine (lN V R a (by have:=EK.out;omega) _ HX.out.cellV (HX.out.qQ 1)).mono ?_
          rintro e w5 ⟨rfl,hb5⟩
          replace HX:=ae.mk (HX.out.below hb5)
          clear hb5
          have kG:=HX.out.zp
          have KZ:=ae.mk (iF kG #[.slice none 0 0,.string ⟨#[]⟩,.string ⟨#[]⟩,.slice none 0 0])
          have yR:=ae.mk (eX (HB1.out.trans (HX.out.bel.mono (by have:=HB1.out.size;omega))) (Nat.le_refl P0) #[.slice none 0 0,.string ⟨#[]⟩,.string ⟨#[]⟩,.slice none 0 0])
          have ROW:=ae.mk (Kd.jh Kd.string 9 (w5.setRow P0 #[.slice none 0 0,.string ⟨#[]⟩,.string ⟨#[]⟩,.slice none 0 0]) P0 (fun _=>True))
          have sK:=ae.mk (Kd.jh k27 27 (w5.setRow P0 #[.slice none 0 0,.string ⟨#[]⟩,.string ⟨#[]⟩,.slice none 0 0]) P0 (fun _=>True))
          clear HX
          go_wp2_with (first|(skip;refine wpList_store_row rfl 25 (.tmp 2) (.tmp 150) rfl P0 (#[.slice none 0 0,.string ⟨#[]⟩,.string ⟨#[]⟩,.slice none 0 0]) rfl rfl 25 _ kG (by kernel_rfl) rfl (by simp [Value.oneCell']) ?_))
          (try simp only [Exit.inBlock,Exit.then])
          refine bodyPost_ret (iw rfl _ _ P0 25 #[.slice none 0 0,.string ⟨#[]⟩,.string ⟨#[]⟩,.slice none 0 0] (0,0) _ rfl KZ.out Tryz.underlying25 rfl (by kernel_rfl)) rfl ?_
          exact ⟨_,_,rfl,by have q:=ROW.out;first|exact q|(rw [hP0];exact q),by have q:=sK.out;first|exact q|(rw [hP0];exact q),by have q:=yR.out;first|exact q|(rw [hP0];exact q)⟩
        rw [if_pos h5] at hH
        have g5:decide ((200:Int)≤(cs.length:Int))=false:=decide_eq_false (by omega)
        have g6:(200≤cs.length)=False:=eq_false (by omega)
        have kB:=G8.out
        have HH:=ae.mk hH
        have hl5:=Lib.hid h5
        have vV:=HX.out.cellV
        clear hH
        go_wp2_with (first|((with_reducible refine fF (N:=155) rfl ?_);refine wpList_load_row rfl 27 (.tmp 17) rfl b17 rfl 27 (#[.int .u8 x1,.int .u8 x2,.int .u8 x3,.int .u8 x4,.int .i64 x5]) (0,0) _ kB Tryz.underlying27 rfl (by kernel_rfl) ?_)|((with_reducible refine jm (b:=.append) (xs:=#[.tmp 154,.tmp 156]) rfl ?_);at_builtin;refine Kd.oz k27 (w0:=w1) R rfl (.tmp 154) (.tmp 156) 23 27 (.agg #[.int .u8 0,.int .u8 0,.int .u8 0,.int .u8 0,.int .i64 0]) 16 rfl Tryz.underlying23 JQ rfl (by decide) (by omega) (.slice Ac cs.length cc) cs (⟨x1,x2,x3,x4,x5⟩:jR) [.int .u8 x1,.int .u8 x2,.int .u8 x3,.int .u8 x4,.int .i64 x5] (fun _=>True) (fun _=>False) rfl (by first|rfl|(go_simp;done)|(go_simp;rfl)) (Gh _ _ _ (⟨x1,x2,x3,x4,x5⟩:jR)) (fun _ hk=>hk.elim) (fun _ _=>trivial) HX.out.cr HX.out.bel (by have:=fA HX.out.rd;omega) (by have:=hl5.out;omega) ?_;intro v1 w6 ho hb6 hg6 ZU;rw [SL.out] at ho;obtain ⟨A1,c1',rfl⟩:=Kd.gI ho;have HG:=Lib.hid (HX.out.Yw hb6 hg6);have Bj:=ae.mk (HG.out.1.put 3 (.slice A1 y.length c1') rfl HG.out.2 ho);have cQ6:w6.cell? ⟨Q,3,none⟩=some (.slice Ac cs.length cc):=(by simp [World.cell?,HG.out.1.pq]);have fQ6:w6.frozen? ⟨Q,3,none⟩=false:=(by simp [World.frozen?,HG.out.1.pq]);have vV6:=Bj.out.cellV;have kR1:=Bj.out.qQ 1;have fR1:=Bj.out.frR 1;clear ho hb6 hg6 ZU HG))
        go_roundg ng
        case measure=>omega
        case rel=>exact ⟨a+1,_,y,by rw [← SL.out];exact HH,⟨by rw [HQQ.out];exact Bj.out.Zc⟩,by omega,by have:=hl5.out;rw [← SL.out];simp;omega⟩
    ·
      obtain rfl:i=1:=by omega
      have hH:=HH.out
      rw [oN,if_neg (by decide)] at hH
      clear HH
      obtain ⟨⟨s1,Lj⟩,hnf,hH⟩:=Option.bind_eq_some_iff.1 hH
      have NJ:=Lib.hid hnf
      have HH:=ae.mk hH
      clear hnf hH
      obtain ⟨b14,zl⟩:∃ b,wr.heap.size=b:=⟨_,rfl⟩
      obtain ⟨Wa,hWa⟩:∃ W,wr.alloc (.cells #[.string ⟨#[]⟩,.pointer none] 66)=W:=⟨_,rfl⟩
      have hzb:Wa.heap[b14]? = some (.cells #[.string ⟨#[]⟩,.pointer none] 66 (0,0)):=by rw [← hWa,← zl];exact heap_alloc_new wr _
      have hrg:wr.rangeAt X5 2 [.string ⟨#[103,108,111,98,97,108,115]⟩,.pointer (some ⟨Q,2,none⟩)]:=World.rangeAt_of_block rY.out 2 2
      have Rf:Q < b14:=by rw [← zl];exact fA HX.out.pq
      have hbr:Below wr.heap.size wr (Wa.setRow b14 #[.string ⟨#[103,108,111,98,97,108,115]⟩,.pointer (some ⟨Q,2,none⟩)]):=eX (by rw [← hWa];exact (Below.refl _ wr).alloc (Nat.le_refl _) _) (by omega) _
      have HY:=ae.mk (HX.out.below hbr)
      have xY:=ae.mk (iF hzb #[.string ⟨#[103,108,111,98,97,108,115]⟩,.pointer (some ⟨Q,2,none⟩)])
      have J5:=ae.mk ((hbr.block X5 (fA rY.out)).trans rY.out)
      have HQB:=Lib.hid Rf
      clear HX rY hbr Rf
      go_upto_region 18 with (first|((with_reducible refine fF (N:=94) rfl ?_);refine wpList_load_mid rfl 66 (.tmp 93) rfl X5 2 rfl [.string ⟨#[103,108,111,98,97,108,115]⟩,.pointer (some ⟨Q,2,none⟩)] _ hrg Tryz.underlying66 rfl (by kernel_rfl) ?_)|(skip;refine wpList_store_row rfl 66 (.tmp 14) (.tmp 94) rfl b14 (#[.string ⟨#[103,108,111,98,97,108,115]⟩,.pointer (some ⟨Q,2,none⟩)]) rfl rfl 66 _ hzb (by kernel_rfl) rfl (by simp [Value.oneCell']) ?_))
      clear hzb hWa zl hrg
      change Code.wp _ _ _ _ (Wa.setRow b14 #[.string ⟨#[103,108,111,98,97,108,115]⟩,.pointer (some ⟨Q,2,none⟩)])
      generalize Wa.setRow b14 #[.string ⟨#[103,108,111,98,97,108,115]⟩,.pointer (some ⟨Q,2,none⟩)]=Wm at HY xY J5 ⊢
      have HX:=ae.mk HY.out
      have rY:=ae.mk J5.out
      clear HY J5
      have v0:=HX.out.cellV
      have n0:Wm.cell? ⟨b14,0,none⟩=some (.string ⟨#[103,108,111,98,97,108,115]⟩):=by simp [World.cell?,xY.out]
      go_upto_region 19 with (go_at_call 31;refine (rO R Al c l a ⟨#[103,108,111,98,97,108,115]⟩ s1 Lj _ HX.out.rd (by have:=EK.out;omega) (Kd.rZ (Kd.tY 9 Kd.rV) YT.out (by rw [hM];exact HX.out.bel) (show w1.heap.size≤R by rw [hM];exact HX.out.od.2.1)) NJ.out).mono ?_;rintro e w4 ⟨rfl,hk4,hb4,hr4⟩;replace xY:=ae.mk ((hk4.2 b14 (fA xY.out) (by have:=HQB.out;have:=HX.out.od;omega) (by simp)).trans xY.out);replace rY:=ae.mk ((hk4.2 X5 (fA rY.out) (by have:=XU.out;have:=HX.out.od;omega) (by simp)).trans rY.out);replace HX:=ae.mk (HX.out.moved hk4 hb4 hr4);clear hk4 hb4 hr4)
      clear v0 n0 NJ
      have hH:=HH.out
      clear HH
      cases Lj with
      | false =>
        rw [if_neg (by decide)] at hH
        replace HX:=ae.mk (show sN R P0 R V Q Al c l a vT (.slice none 0 0) ts lo gl [] w1 w4 from HX.out)
        clear xY rY
        have hq:=Option.some.inj hH
        simp only [kU,Prod.mk.injEq] at hq
        obtain ⟨rfl,rfl,rfl,rfl,rfl,rfl⟩:=hq
        clear hH
        go_upto_region 999 with (fail)
        refine (lN V R a (by have:=EK.out;omega) _ HX.out.cellV (HX.out.qQ 1)).mono ?_
        rintro e w5 ⟨rfl,hb5⟩
        replace HX:=ae.mk (HX.out.below hb5)
        clear hb5
        have kG:=HX.out.zp
        have KZ:=ae.mk (iF kG #[.slice none 0 0,.string ⟨#[]⟩,.string ⟨#[]⟩,.slice none 0 0])
        have yR:=ae.mk (eX (HB1.out.trans (HX.out.bel.mono (by have:=HB1.out.size;omega))) (Nat.le_refl P0) #[.slice none 0 0,.string ⟨#[]⟩,.string ⟨#[]⟩,.slice none 0 0])
        have ROW:=ae.mk (Kd.jh Kd.string 9 (w5.setRow P0 #[.slice none 0 0,.string ⟨#[]⟩,.string ⟨#[]⟩,.slice none 0 0]) P0 (fun _=>True))
        have sK:=ae.mk (Kd.jh k27 27 (w5.setRow P0 #[.slice none 0 0,.string ⟨#[]⟩,.string ⟨#[]⟩,.slice none 0 0]) P0 (fun _=>True))
        clear HX
        go_wp2_with (first|(skip;refine wpList_store_row rfl 25 (.tmp 2) (.tmp 106) rfl P0 (#[.slice none 0 0,.string ⟨#[]⟩,.string ⟨#[]⟩,.slice none 0 0]) rfl rfl 25 _ kG (by kernel_rfl) rfl (by simp [Value.oneCell']) ?_))
        (try simp only [Exit.inBlock,Exit.then])
        refine bodyPost_ret (iw rfl _ _ P0 25 #[.slice none 0 0,.string ⟨#[]⟩,.string ⟨#[]⟩,.slice none 0 0] (0,0) _ rfl KZ.out Tryz.underlying25 rfl (by kernel_rfl)) rfl ?_
        exact ⟨_,_,rfl,by have q:=ROW.out;first|exact q|(rw [hP0];exact q),by have q:=sK.out;first|exact q|(rw [hP0];exact q),by have q:=yR.out;first|exact q|(rw [hP0];exact q)⟩
      | true =>
        rw [if_pos rfl] at hH
        replace HX:=ae.mk (show sN R P0 R V Q Al c l (a+1) vT (.slice none 0 0) ts lo gl [] w1 w4 from HX.out)
        obtain ⟨s2,DT,hH⟩:=Option.bind_eq_some_iff.1 hH
        first|rw [if_neg (by decide)] at hH|rw [if_pos trivial] at hH
        have XV:=Lib.hid DT
        have HH:=ae.mk hH
        clear DT hH
        go_upto_region 21 with (fail)
        refine wp_region_noPanic ?_
        refine sD (n:=6) (S:=fun w'=>sN R P0 R V Q Al c l (a+1) vT (.slice none 0 0) ts lo gl [] w1 w'∧w'.heap[b14]? = some (.cells #[.string ⟨#[103,108,111,98,97,108,115]⟩,.pointer (some ⟨Q,2,none⟩)] 66 (0,0))∧w'.heap[X5]? = some (.cells #[.string ⟨#[108,111,99,97,108,115]⟩,.pointer (some ⟨Q,1,none⟩),.string ⟨#[103,108,111,98,97,108,115]⟩,.pointer (some ⟨Q,2,none⟩)] 66 (0,0))) (ds:=[5]) #[false,false,false,false,false,false] (by kernel_rfl) rfl rfl ⟨HX.out.below (aj (Below.refl _ _)),xY.out,rY.out⟩ (fun hHeld=>?_)
        refine l9 parse.KT parse.GU (fun dR oJ=>?_)
        clear HX xY rY
        generalize w4.drew=Wd at hHeld ⊢
        refine bJ (i:=0) (N:=(some 109)) (v:=?_) (a':=?_) #[true,false,false,false,false,false] rfl rfl (aW dR.out (by kernel_rfl)) (fun _ _ _ h=>h) (Or.inl ⟨by rfl,?_⟩) ?_ ?_
        rotate_left
        · intro w'
          go_simp
          with_reducible rfl
        rotate_left
        · simp only [Act.put,List.setIfInBounds_toArray,List.set_cons_zero,List.set_cons_succ,aN,aQ]
          rfl
        refine iK (i:=1) (N:=(some 110)) (v:=?_) (a':=?_) #[true,true,false,false,false,false] rfl rfl (dH dR.out oJ.out (by kernel_rfl)) (fun _ _ _ h=>h) (Or.inl ⟨by rfl,?_⟩) hHeld ?_ ?_
        rotate_left
        · intro w' kJ
          have c_:w'.cell? ⟨b14,1,none⟩=some (.pointer (some ⟨Q,2,none⟩)):=by simp [World.cell?,kJ.2.1]
          go_simp
          with_reducible rfl
        rotate_left
        · simp only [Act.put,List.setIfInBounds_toArray,List.set_cons_zero,List.set_cons_succ,aN,aQ]
          rfl
        refine bJ (i:=2) (N:=(some 111)) (v:=?_) (a':=?_) #[true,true,true,false,false,false] rfl rfl (aW dR.out (by kernel_rfl)) (fun _ _ _ h=>h) (Or.inl ⟨by rfl,?_⟩) ?_ ?_
        rotate_left
        · intro w'
          go_simp
          with_reducible rfl
        rotate_left
        · simp only [Act.put,List.setIfInBounds_toArray,List.set_cons_zero,List.set_cons_succ,aN,aQ]
          rfl
        refine sW (i:=3) (N:=(some 112)) #[true,true,true,true,false,false] rfl rfl (kC dR.out (by kernel_rfl)) (by decide) (fun K hK=>?_)
        refine sO Tryz.func32 (by kernel_rfl) rfl #[.string s1,.string ⟨#[45]⟩] (by rfl) rfl rfl (by (try simp only [List.map_toArray,List.map_cons,List.map_nil]);rfl) ?_
        refine (strings_TrimSuffix.calls s1 ⟨#[45]⟩ s2 _ XV.out).mono ?_
        rintro e w6 ⟨rfl,hb6⟩
        refine ⟨_,rfl,?_⟩
        refine hK.out _ _ ⟨hHeld.1.below hb6.below,(hb6.below.block b14 (fA hHeld.2.1)).trans hHeld.2.1,(hb6.below.block X5 (fA hHeld.2.2)).trans hHeld.2.2⟩ (fun hHeld=>?_)
        clear hK K hb6
        refine jB (a':=?_) ?_ ?_
        rotate_left
        · simp only [lK,Act.put,List.setIfInBounds_toArray,List.set_cons_zero,List.set_cons_succ,aN,aQ]
          rfl
        refine bJ (i:=4) (N:=(some 113)) (v:=?_) (a':=?_) #[true,true,true,true,true,false] rfl rfl (aW dR.out (by kernel_rfl)) (fun _ _ _ h=>h) (Or.inl ⟨by rfl,?_⟩) ?_ ?_
        rotate_left
        · intro w'
          go_simp
          with_reducible rfl
        rotate_left
        · simp only [Act.put,List.setIfInBounds_toArray,List.set_cons_zero,List.set_cons_succ,aN,aQ]
          rfl
        have c5:w6.cell? ⟨Q,2,none⟩=some (.string gl):=hHeld.1.D5 2
        have f5:=hHeld.1.frQ 2
        refine Le (i:=5) (N:=none) #[true,true,true,true,true,true] rfl rfl (kC dR.out (by kernel_rfl)) (by decide) (fun K hK=>?_)
        refine Dn (w1:=w6.setCell ⟨Q,2,none⟩ (.string s2)) (by rfl) rfl (by go_simp) ?_
        refine hK.out _ _ ?_
        clear hK K
        refine xm (qf dR.out (by kernel_rfl)) ?_
        refine NoPanic.normal ?_
        (try simp only [Exit.then,Exit.inBlock])
        have Bj:=ae.mk (hHeld.1.TE (lo':=lo) (gl':=s2) 2 (.string s2) rfl hHeld.1.tr hHeld.1.cr)
        have J6:=ae.mk (di hHeld.2.2 (p:=⟨Q,2,none⟩) (by show X5 ≠ Q;have:=XU.out;omega) (.string s2))
        clear hHeld c5 f5
        go_wp2
        go_roundg 0
        case measure=>decide
        case rel=>exact ⟨a+1,_,_,2,rfl,rfl,HH,Bj,J6,by omega⟩
    ·
      obtain rfl:i=0:=by omega
      have hH:=HH.out
      rw [oN,if_pos rfl] at hH
      clear HH
      obtain ⟨⟨s1,Lj⟩,hnf,hH⟩:=Option.bind_eq_some_iff.1 hH
      have NJ:=Lib.hid hnf
      have HH:=ae.mk hH
      clear hnf hH
      obtain ⟨b14,zl⟩:∃ b,wr.heap.size=b:=⟨_,rfl⟩
      obtain ⟨Wa,hWa⟩:∃ W,wr.alloc (.cells #[.string ⟨#[]⟩,.pointer none] 66)=W:=⟨_,rfl⟩
      have hzb:Wa.heap[b14]? = some (.cells #[.string ⟨#[]⟩,.pointer none] 66 (0,0)):=by rw [← hWa,← zl];exact heap_alloc_new wr _
      have hrg:wr.rangeAt X5 0 [.string ⟨#[108,111,99,97,108,115]⟩,.pointer (some ⟨Q,1,none⟩)]:=World.rangeAt_of_block rY.out 0 2
      have Rf:Q < b14:=by rw [← zl];exact fA HX.out.pq
      have hbr:Below wr.heap.size wr (Wa.setRow b14 #[.string ⟨#[108,111,99,97,108,115]⟩,.pointer (some ⟨Q,1,none⟩)]):=eX (by rw [← hWa];exact (Below.refl _ wr).alloc (Nat.le_refl _) _) (by omega) _
      have HY:=ae.mk (HX.out.below hbr)
      have xY:=ae.mk (iF hzb #[.string ⟨#[108,111,99,97,108,115]⟩,.pointer (some ⟨Q,1,none⟩)])
      have J5:=ae.mk ((hbr.block X5 (fA rY.out)).trans rY.out)
      have HQB:=Lib.hid Rf
      clear HX rY hbr Rf
      go_upto_region 18 with (first|((with_reducible refine fF (N:=94) rfl ?_);refine wpList_load_mid rfl 66 (.tmp 93) rfl X5 0 rfl [.string ⟨#[108,111,99,97,108,115]⟩,.pointer (some ⟨Q,1,none⟩)] _ hrg Tryz.underlying66 rfl (by kernel_rfl) ?_)|(skip;refine wpList_store_row rfl 66 (.tmp 14) (.tmp 94) rfl b14 (#[.string ⟨#[108,111,99,97,108,115]⟩,.pointer (some ⟨Q,1,none⟩)]) rfl rfl 66 _ hzb (by kernel_rfl) rfl (by simp [Value.oneCell']) ?_))
      clear hzb hWa zl hrg
      change Code.wp _ _ _ _ (Wa.setRow b14 #[.string ⟨#[108,111,99,97,108,115]⟩,.pointer (some ⟨Q,1,none⟩)])
      generalize Wa.setRow b14 #[.string ⟨#[108,111,99,97,108,115]⟩,.pointer (some ⟨Q,1,none⟩)]=Wm at HY xY J5 ⊢
      have HX:=ae.mk HY.out
      have rY:=ae.mk J5.out
      clear HY J5
      have v0:=HX.out.cellV
      have n0:Wm.cell? ⟨b14,0,none⟩=some (.string ⟨#[108,111,99,97,108,115]⟩):=by simp [World.cell?,xY.out]
      go_upto_region 19 with (go_at_call 31;refine (rO R Al c l a ⟨#[108,111,99,97,108,115]⟩ s1 Lj _ HX.out.rd (by have:=EK.out;omega) (Kd.rZ (Kd.tY 9 Kd.rV) YT.out (by rw [hM];exact HX.out.bel) (show w1.heap.size≤R by rw [hM];exact HX.out.od.2.1)) NJ.out).mono ?_;rintro e w4 ⟨rfl,hk4,hb4,hr4⟩;replace xY:=ae.mk ((hk4.2 b14 (fA xY.out) (by have:=HQB.out;have:=HX.out.od;omega) (by simp)).trans xY.out);replace rY:=ae.mk ((hk4.2 X5 (fA rY.out) (by have:=XU.out;have:=HX.out.od;omega) (by simp)).trans rY.out);replace HX:=ae.mk (HX.out.moved hk4 hb4 hr4);clear hk4 hb4 hr4)
      clear v0 n0 NJ
      have hH:=HH.out
      clear HH
      cases Lj with
      | false =>
        rw [if_neg (by decide)] at hH
        replace HX:=ae.mk (show sN R P0 R V Q Al c l a vT (.slice none 0 0) ts lo gl [] w1 w4 from HX.out)
        clear xY rY
        have hq:=Option.some.inj hH
        simp only [kU,Prod.mk.injEq] at hq
        obtain ⟨rfl,rfl,rfl,rfl,rfl,rfl⟩:=hq
        clear hH
        go_upto_region 999 with (fail)
        refine (lN V R a (by have:=EK.out;omega) _ HX.out.cellV (HX.out.qQ 1)).mono ?_
        rintro e w5 ⟨rfl,hb5⟩
        replace HX:=ae.mk (HX.out.below hb5)
        clear hb5
        have kG:=HX.out.zp
        have KZ:=ae.mk (iF kG #[.slice none 0 0,.string ⟨#[]⟩,.string ⟨#[]⟩,.slice none 0 0])
        have yR:=ae.mk (eX (HB1.out.trans (HX.out.bel.mono (by have:=HB1.out.size;omega))) (Nat.le_refl P0) #[.slice none 0 0,.string ⟨#[]⟩,.string ⟨#[]⟩,.slice none 0 0])
        have ROW:=ae.mk (Kd.jh Kd.string 9 (w5.setRow P0 #[.slice none 0 0,.string ⟨#[]⟩,.string ⟨#[]⟩,.slice none 0 0]) P0 (fun _=>True))
        have sK:=ae.mk (Kd.jh k27 27 (w5.setRow P0 #[.slice none 0 0,.string ⟨#[]⟩,.string ⟨#[]⟩,.slice none 0 0]) P0 (fun _=>True))
        clear HX
        go_wp2_with (first|(skip;refine wpList_store_row rfl 25 (.tmp 2) (.tmp 106) rfl P0 (#[.slice none 0 0,.string ⟨#[]⟩,.string ⟨#[]⟩,.slice none 0 0]) rfl rfl 25 _ kG (by kernel_rfl) rfl (by simp [Value.oneCell']) ?_))
        (try simp only [Exit.inBlock,Exit.then])
        refine bodyPost_ret (iw rfl _ _ P0 25 #[.slice none 0 0,.string ⟨#[]⟩,.string ⟨#[]⟩,.slice none 0 0] (0,0) _ rfl KZ.out Tryz.underlying25 rfl (by kernel_rfl)) rfl ?_
        exact ⟨_,_,rfl,by have q:=ROW.out;first|exact q|(rw [hP0];exact q),by have q:=sK.out;first|exact q|(rw [hP0];exact q),by have q:=yR.out;first|exact q|(rw [hP0];exact q)⟩
      | true =>
        rw [if_pos rfl] at hH
        replace HX:=ae.mk (show sN R P0 R V Q Al c l (a+1) vT (.slice none 0 0) ts lo gl [] w1 w4 from HX.out)
        obtain ⟨s2,DT,hH⟩:=Option.bind_eq_some_iff.1 hH
        first|rw [if_pos rfl] at hH|rw [if_pos trivial] at hH
        have XV:=Lib.hid DT
        have HH:=ae.mk hH
        clear DT hH
        go_upto_region 21 with (fail)
        refine wp_region_noPanic ?_
        refine sD (n:=6) (S:=fun w'=>sN R P0 R V Q Al c l (a+1) vT (.slice none 0 0) ts lo gl [] w1 w'∧w'.heap[b14]? = some (.cells #[.string ⟨#[108,111,99,97,108,115]⟩,.pointer (some ⟨Q,1,none⟩)] 66 (0,0))∧w'.heap[X5]? = some (.cells #[.string ⟨#[108,111,99,97,108,115]⟩,.pointer (some ⟨Q,1,none⟩),.string ⟨#[103,108,111,98,97,108,115]⟩,.pointer (some ⟨Q,2,none⟩)] 66 (0,0))) (ds:=[5]) #[false,false,false,false,false,false] (by kernel_rfl) rfl rfl ⟨HX.out.below (aj (Below.refl _ _)),xY.out,rY.out⟩ (fun hHeld=>?_)
        refine l9 parse.KT parse.GU (fun dR oJ=>?_)
        clear HX xY rY
        generalize w4.drew=Wd at hHeld ⊢
        refine bJ (i:=0) (N:=(some 109)) (v:=?_) (a':=?_) #[true,false,false,false,false,false] rfl rfl (aW dR.out (by kernel_rfl)) (fun _ _ _ h=>h) (Or.inl ⟨by rfl,?_⟩) ?_ ?_
        rotate_left
        · intro w'
          go_simp
          with_reducible rfl
        rotate_left
        · simp only [Act.put,List.setIfInBounds_toArray,List.set_cons_zero,List.set_cons_succ,aN,aQ]
          rfl
        refine iK (i:=1) (N:=(some 110)) (v:=?_) (a':=?_) #[true,true,false,false,false,false] rfl rfl (dH dR.out oJ.out (by kernel_rfl)) (fun _ _ _ h=>h) (Or.inl ⟨by rfl,?_⟩) hHeld ?_ ?_
        rotate_left
        · intro w' kJ
          have c_:w'.cell? ⟨b14,1,none⟩=some (.pointer (some ⟨Q,1,none⟩)):=by simp [World.cell?,kJ.2.1]
          go_simp
          with_reducible rfl
        rotate_left
        · simp only [Act.put,List.setIfInBounds_toArray,List.set_cons_zero,List.set_cons_succ,aN,aQ]
          rfl
        refine bJ (i:=2) (N:=(some 111)) (v:=?_) (a':=?_) #[true,true,true,false,false,false] rfl rfl (aW dR.out (by kernel_rfl)) (fun _ _ _ h=>h) (Or.inl ⟨by rfl,?_⟩) ?_ ?_
        rotate_left
        · intro w'
          go_simp
          with_reducible rfl
        rotate_left
        · simp only [Act.put,List.setIfInBounds_toArray,List.set_cons_zero,List.set_cons_succ,aN,aQ]
          rfl
        refine sW (i:=3) (N:=(some 112)) #[true,true,true,true,false,false] rfl rfl (kC dR.out (by kernel_rfl)) (by decide) (fun K hK=>?_)
        refine sO Tryz.func32 (by kernel_rfl) rfl #[.string s1,.string ⟨#[45]⟩] (by rfl) rfl rfl (by (try simp only [List.map_toArray,List.map_cons,List.map_nil]);rfl) ?_
        refine (strings_TrimSuffix.calls s1 ⟨#[45]⟩ s2 _ XV.out).mono ?_
        rintro e w6 ⟨rfl,hb6⟩
        refine ⟨_,rfl,?_⟩
        refine hK.out _ _ ⟨hHeld.1.below hb6.below,(hb6.below.block b14 (fA hHeld.2.1)).trans hHeld.2.1,(hb6.below.block X5 (fA hHeld.2.2)).trans hHeld.2.2⟩ (fun hHeld=>?_)
        clear hK K hb6
        refine jB (a':=?_) ?_ ?_
        rotate_left
        · simp only [lK,Act.put,List.setIfInBounds_toArray,List.set_cons_zero,List.set_cons_succ,aN,aQ]
          rfl
        refine bJ (i:=4) (N:=(some 113)) (v:=?_) (a':=?_) #[true,true,true,true,true,false] rfl rfl (aW dR.out (by kernel_rfl)) (fun _ _ _ h=>h) (Or.inl ⟨by rfl,?_⟩) ?_ ?_
        rotate_left
        · intro w'
          go_simp
          with_reducible rfl
        rotate_left
        · simp only [Act.put,List.setIfInBounds_toArray,List.set_cons_zero,List.set_cons_succ,aN,aQ]
          rfl
        have c5:w6.cell? ⟨Q,1,none⟩=some (.string lo):=hHeld.1.D5 1
        have f5:=hHeld.1.frQ 1
        refine Le (i:=5) (N:=none) #[true,true,true,true,true,true] rfl rfl (kC dR.out (by kernel_rfl)) (by decide) (fun K hK=>?_)
        refine Dn (w1:=w6.setCell ⟨Q,1,none⟩ (.string s2)) (by rfl) rfl (by go_simp) ?_
        refine hK.out _ _ ?_
        clear hK K
        refine xm (qf dR.out (by kernel_rfl)) ?_
        refine NoPanic.normal ?_
        (try simp only [Exit.then,Exit.inBlock])
        have Bj:=ae.mk (hHeld.1.TE (lo':=s2) (gl':=gl) 1 (.string s2) rfl hHeld.1.tr hHeld.1.cr)
        have J6:=ae.mk (di hHeld.2.2 (p:=⟨Q,1,none⟩) (by show X5 ≠ Q;have:=XU.out;omega) (.string s2))
        clear hHeld c5 f5
        go_wp2
        go_roundg 1
        case measure=>decide
        case rel=>exact ⟨a+1,_,_,1,rfl,rfl,HH,Bj,J6,by omega⟩
    · exact absurd hki (by omega)
  rw [if_pos h1] at hH
  obtain ⟨ad,A0,c0,e0,hx,hle,hC0⟩:=rX (Kd.gY YT.out (by rw [hM];exact HX.out.bel)) a (by omega) (by omega)
  subst e0
  rw [Int.toNat_natCast] at hx
  obtain ⟨row,hrow⟩:∃ row,dZ l a=row:=⟨_,rfl⟩
  rw [hrow] at hH hx hle hC0
  by_cases h2:0 < row.length
  case neg =>
    rw [if_neg h2] at hH
    cases hH
  rw [if_pos h2] at hH
  obtain ⟨ad0,e1,hx0⟩:=Kd.fO hC0 0 (by omega) (by omega)
  subst e1
  rw [show (0:Int).toNat=0 from rfl,Addr.add_zero'] at hx0
  obtain ⟨t0,ht0⟩:∃ x,eF ByteArray.empty row 0=x:=⟨_,rfl⟩
  rw [ht0] at hH hx0
  have g1:decide ((a:Int) < (l.length:Int))=true:=decide_eq_true (by omega)
  have g2:(a < l.length)=True:=eq_true h1
  have g3:((a:Int) < (l.length:Int))=True:=eq_true (by omega)
  have g4:(0 < row.length)=True:=eq_true h2
  clear h1 h2 hrow ht0 hle hC0
  by_cases h3:t0.toList=[116,121,112,101]
  case neg =>
    rw [if_neg h3] at hH
    have g5:(t0.toList == [116,121,112,101])=false:=beq_eq_false_iff_ne.2 h3
    clear h3
    obtain ⟨X5,ZW⟩:∃ X,wr.heap.size=X:=⟨_,rfl⟩
    obtain ⟨Wx,ZX⟩:∃ W,wr.alloc (.cells #[.string ⟨#[108,111,99,97,108,115]⟩,.pointer (some ⟨Q,1,none⟩),.string ⟨#[103,108,111,98,97,108,115]⟩,.pointer (some ⟨Q,2,none⟩)] 66)=W:=⟨_,rfl⟩
    have rY:=ae.mk (show Wx.heap[X5]? = some (.cells #[.string ⟨#[108,111,99,97,108,115]⟩,.pointer (some ⟨Q,1,none⟩),.string ⟨#[103,108,111,98,97,108,115]⟩,.pointer (some ⟨Q,2,none⟩)] 66 (0,0)) from by rw [← ZX,← ZW];exact heap_alloc_new wr _)
    have HX2:=ae.mk (show sN R P0 R V Q (some ad) c l a vT (.slice none 0 0) ts ⟨#[]⟩ ⟨#[]⟩ [] w1 Wx from by rw [← ZX];exact HX.out.below ((Below.refl _ wr).alloc (Nat.le_refl _) _))
    have XU:=Lib.hid (show Q < X5 from by rw [← ZW];exact fA HX.out.pq)
    have HH2:=ae.mk hH
    clear HX hH
    go_wp2
    clear ZW ZX v0 k0 k1 g1 g2 g3 g4 g5 hx hx0
    go_loopg [91] 2 (fun kq iv wr=>∃ (a:Nat) (lo gl:ByteArray) (i:Nat),kq+i=2∧iv=.int .i64 i∧ae (oN l ts kq a lo gl=some (r1,r2,r3,r4,r5,r6))∧ae (sN R P0 R V Q (some ad) c l a vT (.slice none 0 0) ts lo gl [] w1 wr)∧ae (wr.heap[X5]? = some (.cells #[.string ⟨#[108,111,99,97,108,115]⟩,.pointer (some ⟨Q,1,none⟩),.string ⟨#[103,108,111,98,97,108,115]⟩,.pointer (some ⟨Q,2,none⟩)] 66 (0,0)))∧a≤l.length+i)
    case atStart=>exact ⟨a,_,_,0,rfl,rfl,HH2,HX2,rY,by omega⟩
    case round =>
    clear HH2 HX2 rY
    obtain ⟨a,lo,gl,i,hki,rfl,HH,HX,rY,ha⟩:=hrel
    rcases gk with _ | _ | _|gk
    · obtain rfl:i=2:=by omega
      have hH:=HH.out
      rw [oN] at hH
      clear HH rY
      go_wp2
      have HX3:=ae.mk (show sN R P0 R V Q (some ad) c l a vT (.slice none 0 0) ts lo gl [] w1 wr from HX.out)
      have HH3:=ae.mk hH
      clear HX hH
      go_loopg [] (l.length+1) (fun kq wr=>∃ (a:Nat) (vC:Value) (cs:List jR),ae (tJ l ts lo gl kq a cs=some (r1,r2,r3,r4,r5,r6))∧ae (sN R P0 R V Q (some ad) c l a vT vC ts lo gl cs w1 wr)∧a+kq≤2 * l.length+8∧cs.length≤200)
      case atStart=>exact ⟨a,_,[],HH3,HX3,by omega,by simp⟩
      case round =>
      clear HX3 HH3
      obtain ⟨a,vC,cs,HH,HX,hab,hcs⟩:=hrel
      cases gk with
      | zero=>exact absurd HH.out (by simp [tJ])
      | succ ng =>
        have hH:=HH.out
        rw [tJ] at hH
        clear HH
        have v0:=HX.out.cellV
        have k0:wr.cell? ⟨R,0,none⟩=some (.slice (some ad) l.length c):=HX.out.qQ 0
        have k1:wr.cell? ⟨R,1,none⟩=some (.int .i64 a):=HX.out.qQ 1
        obtain ⟨Ac,cc,rfl⟩:=Kd.gI HX.out.cr
        by_cases h1:a < l.length
        case neg =>
          rw [if_neg h1] at hH
          have hq:=Option.some.inj hH
          simp only [Prod.mk.injEq] at hq
          obtain ⟨rfl,rfl,rfl,rfl,rfl,rfl⟩:=hq
          have g1:decide ((a:Int) < (l.length:Int))=false:=decide_eq_false (by omega)
          have g2:(a < l.length)=False:=eq_false h1
          have kQ:=HX.out.pq
          have kG:=HX.out.zp
          have hPM:=HX.out.od.1
          have hone:(#[vT,.string lo,.string gl,.slice Ac cs.length cc]:Array Value).all (·.oneCell')=true:=by
            obtain ⟨At,ct,hvT⟩:=Kd.gI HX.out.tr
            rw [hvT]
            simp [Value.oneCell']
          have KZ:=ae.mk (iF kG #[vT,.string lo,.string gl,.slice Ac cs.length cc])
          have yR:=ae.mk (eX (HB1.out.trans (HX.out.bel.mono (by have:=HB1.out.size;omega))) (Nat.le_refl P0) #[vT,.string lo,.string gl,.slice Ac cs.length cc])
          have ROW:=ae.mk (show Kd.R Kd.string 9 (wr.setRow P0 #[vT,.string lo,.string gl,.slice Ac cs.length cc]) P0 (fun _=>True) vT ts from Kd.dm (Kd.iW (Kd.uT (Kd.nM HX.out.tr) (fun k hk _=>ru _ k (by have:=hk.2.1;omega))) (by omega)) (fun _ _=>trivial))
          have sK:=ae.mk (show Kd.R k27 27 (wr.setRow P0 #[vT,.string lo,.string gl,.slice Ac cs.length cc]) P0 (fun _=>True) (.slice Ac cs.length cc) cs from Kd.dm (Kd.iW (Kd.uT (Kd.nM HX.out.cr) (fun k hk _=>ru _ k (by have:=hk.2.1;omega))) (by omega)) (fun _ _=>trivial))
          clear HX hH h1
          go_wp2_with (first|((with_reducible refine fF (N:=159) rfl ?_);refine wpList_load_row rfl 25 (.tmp 10) rfl Q rfl 25 (#[vT,.string lo,.string gl,.slice Ac cs.length cc]) (0,0) _ kQ Tryz.underlying25 rfl (by kernel_rfl) ?_)|(skip;refine wpList_store_row rfl 25 (.tmp 2) (.tmp 159) rfl P0 (#[vT,.string lo,.string gl,.slice Ac cs.length cc]) rfl rfl 25 _ kG (by kernel_rfl) rfl hone ?_))
          (try simp only [Exit.inBlock,Exit.then])
          refine bodyPost_ret (iw rfl _ _ P0 25 #[vT,.string lo,.string gl,.slice Ac cs.length cc] (0,0) _ rfl KZ.out Tryz.underlying25 rfl (by kernel_rfl)) rfl ?_
          exact ⟨_,_,rfl,by have q:=ROW.out;first|exact q|(rw [hP0];exact q),by have q:=sK.out;first|exact q|(rw [hP0];exact q),by have q:=yR.out;first|exact q|(rw [hP0];exact q)⟩
        rw [if_pos h1] at hH
        obtain ⟨⟨x1,x2,x3,x4,x5,x6⟩,hrd,hH⟩:=Option.bind_eq_some_iff.1 hH
        have g1:decide ((a:Int) < (l.length:Int))=true:=decide_eq_true (by omega)
        have g2:(a < l.length)=True:=eq_true h1
        have g3:((a:Int) < (l.length:Int))=True:=eq_true (by omega)
        obtain ⟨ad3,A0,c0,e0,hx,hle,hC0⟩:=rX (Kd.gY YT.out (by rw [hM];exact HX.out.bel)) a (by omega) (by omega)
        injection e0 with e0
        subst e0
        rw [Int.toNat_natCast] at hx
        obtain ⟨row,hrow⟩:∃ row,dZ l a=row:=⟨_,rfl⟩
        rw [hrow] at hx hle hC0 hrd
        have HRD:=Lib.hid hrd
        have HC0:=Lib.hid hC0
        have HH:=ae.mk hH
        obtain ⟨y,hy⟩:∃ y,cs++[(⟨x1,x2,x3,x4,x5⟩:jR)]=y:=⟨_,rfl⟩
        obtain ⟨q,hq⟩:∃ q:Int,q=((a+1:Nat):Int):=⟨_,rfl⟩
        have hw:IntKind.i64.wrap ((a:Int)+1)=q:=by rw [hq];exact IntWalk.i64_in _ (by have:=EK.out;omega)
        have SL:=Lib.hid hy
        have HQQ:=Lib.hid hq
        clear hrd hC0 hle hrow hH hy hq
        go_upto_region 26 with (first|(go_at_call 33;refine (mf.calls A0 c0 row x1 x2 x3 x4 x5 x6 _ HC0.out (Kd.gY ac3.out (by rw [hM];exact HX.out.bel)) HRD.out).mono ?_;rintro e w4 ⟨rfl,hb4⟩;obtain ⟨b17,QW⟩:∃ b,w4.heap.size=b:=⟨_,rfl⟩;obtain ⟨w5,hw5⟩:∃ W,w4.alloc (.cells #[.int .u8 0,.int .u8 0,.int .u8 0,.int .u8 0,.int .i64 0] 27)=W:=⟨_,rfl⟩;have hzb:w5.heap[b17]? = some (.cells #[.int .u8 0,.int .u8 0,.int .u8 0,.int .u8 0,.int .i64 0] 27 (0,0)):=(by rw [← hw5,← QW];exact heap_alloc_new w4 _);replace HX:=ae.mk (HX.out.below hb4);have HBR:=Lib.hid (show Below w4.heap.size w4 (w5.setRow b17 #[.int .u8 x1,.int .u8 x2,.int .u8 x3,.int .u8 x4,.int .i64 x5]) from eX (by rw [← hw5];exact (Below.refl _ w4).alloc (Nat.le_refl _) _) (by omega) _);have G8:=Lib.hid (iF hzb #[.int .u8 x1,.int .u8 x2,.int .u8 x3,.int .u8 x4,.int .i64 x5]);clear hb4)|(skip;refine wpList_store_row rfl 27 (.tmp 17) (.tmp 138) rfl b17 (#[.int .u8 x1,.int .u8 x2,.int .u8 x3,.int .u8 x4,.int .i64 x5]) rfl rfl 27 _ hzb (by kernel_rfl) rfl (by simp [Value.oneCell']) ?_))
        replace HX:=ae.mk (HX.out.below HBR.out)
        clear hzb hw5 QW HBR hx v0 k0 k1
        change Code.wp _ _ _ _ (w5.setRow b17 #[.int .u8 x1,.int .u8 x2,.int .u8 x3,.int .u8 x4,.int .i64 x5])
        generalize w5.setRow b17 #[.int .u8 x1,.int .u8 x2,.int .u8 x3,.int .u8 x4,.int .i64 x5]=Wm at HX G8 ⊢
        have kQ3:Wm.cell? ⟨Q,3,none⟩=some (.slice Ac cs.length cc):=HX.out.D5 3
        have hH:=HH.out
        clear HH HRD HC0
        cases x6 with
        | false =>
          rw [if_neg (by decide)] at hH
          clear G8
          have hq:=Option.some.inj hH
          simp only [kU,Prod.mk.injEq] at hq
          obtain ⟨rfl,rfl,rfl,rfl,rfl,rfl⟩:=hq
          clear hH
          go_upto_region 999 with (fail)
          refine (lN V R a (by have:=EK.out;omega) _ HX.out.cellV (HX.out.qQ 1)).mono ?_
          rintro e w5 ⟨rfl,hb5⟩
          replace HX:=ae.mk (HX.out.below hb5)
          clear hb5
          have kG:=HX.out.zp
          have KZ:=ae.mk (iF kG #[.slice none 0 0,.string ⟨#[]⟩,.string ⟨#[]⟩,.slice none 0 0])
          have yR:=ae.mk (eX (HB1.out.trans (HX.out.bel.mono (by have:=HB1.out.size;omega))) (Nat.le_refl P0) #[.slice none 0 0,.string ⟨#[]⟩,.string ⟨#[]⟩,.slice none 0 0])
          have ROW:=ae.mk (Kd.jh Kd.string 9 (w5.setRow P0 #[.slice none 0 0,.string ⟨#[]⟩,.string ⟨#[]⟩,.slice none 0 0]) P0 (fun _=>True))
          have sK:=ae.mk (Kd.jh k27 27 (w5.setRow P0 #[.slice none 0 0,.string ⟨#[]⟩,.string ⟨#[]⟩,.slice none 0 0]) P0 (fun _=>True))
          clear HX
          go_wp2_with (first|(skip;refine wpList_store_row rfl 25 (.tmp 2) (.tmp 150) rfl P0 (#[.slice none 0 0,.string ⟨#[]⟩,.string ⟨#[]⟩,.slice none 0 0]) rfl rfl 25 _ kG (by kernel_rfl) rfl (by simp [Value.oneCell']) ?_))
          (try simp only [Exit.inBlock,Exit.then])
          refine bodyPost_ret (iw rfl _ _ P0 25 #[.slice none 0 0,.string ⟨#[]⟩,.string ⟨#[]⟩,.slice none 0 0] (0,0) _ rfl KZ.out Tryz.underlying25 rfl (by kernel_rfl)) rfl ?_
          exact ⟨_,_,rfl,by have q:=ROW.out;first|exact q|(rw [hP0];exact q),by have q:=sK.out;first|exact q|(rw [hP0];exact q),by have q:=yR.out;first|exact q|(rw [hP0];exact q)⟩
        | true =>
        rw [if_pos rfl] at hH
        by_cases h5:cs.length < 200
        case neg =>
          rw [if_neg h5] at hH
          have g5:decide ((200:Int)≤(cs.length:Int))=true:=decide_eq_true (by omega)
          have g6:(200≤cs.length)=True:=eq_true (by omega)
          clear G8
          have hq:=Option.some.inj hH
          simp only [kU,Prod.mk.injEq] at hq
          obtain ⟨rfl,rfl,rfl,rfl,rfl,rfl⟩:=hq
          clear hH
          go_upto_region 999 with (fail)
          refine (lN V R a (by have:=EK.out;omega) _ HX.out.cellV (HX.out.qQ 1)).mono ?_
          rintro e w5 ⟨rfl,hb5⟩
          replace HX:=ae.mk (HX.out.below hb5)
          clear hb5
          have kG:=HX.out.zp
          have KZ:=ae.mk (iF kG #[.slice none 0 0,.string ⟨#[]⟩,.string ⟨#[]⟩,.slice none 0 0])
          have yR:=ae.mk (eX (HB1.out.trans (HX.out.bel.mono (by have:=HB1.out.size;omega))) (Nat.le_refl P0) #[.slice none 0 0,.string ⟨#[]⟩,.string ⟨#[]⟩,.slice none 0 0])
          have ROW:=ae.mk (Kd.jh Kd.string 9 (w5.setRow P0 #[.slice none 0 0,.string ⟨#[]⟩,.string ⟨#[]⟩,.slice none 0 0]) P0 (fun _=>True))
          have sK:=ae.mk (Kd.jh k27 27 (w5.setRow P0 #[.slice none 0 0,.string ⟨#[]⟩,.string ⟨#[]⟩,.slice none 0 0]) P0 (fun _=>True))
          clear HX
          go_wp2_with (first|(skip;refine wpList_store_row rfl 25 (.tmp 2) (.tmp 150) rfl P0 (#[.slice none 0 0,.string ⟨#[]⟩,.string ⟨#[]⟩,.slice none 0 0]) rfl rfl 25 _ kG (by kernel_rfl) rfl (by simp [Value.oneCell']) ?_))
          (try simp only [Exit.inBlock,Exit.then])
          refine bodyPost_ret (iw rfl _ _ P0 25 #[.slice none 0 0,.string ⟨#[]⟩,.string ⟨#[]⟩,.slice none 0 0] (0,0) _ rfl KZ.out Tryz.underlying25 rfl (by kernel_rfl)) rfl ?_
          exact ⟨_,_,rfl,by have q:=ROW.out;first|exact q|(rw [hP0];exact q),by have q:=sK.out;first|exact q|(rw [hP0];exact q),by have q:=yR.out;first|exact q|(rw [hP0];exact q)⟩
        rw [if_pos h5] at hH
        have g5:decide ((200:Int)≤(cs.length:Int))=false:=decide_eq_false (by omega)
        have g6:(200≤cs.length)=False:=eq_false (by omega)
        have kB:=G8.out
        have HH:=ae.mk hH
        have hl5:=Lib.hid h5
        have vV:=HX.out.cellV
        clear hH
        go_wp2_with (first|((with_reducible refine fF (N:=155) rfl ?_);refine wpList_load_row rfl 27 (.tmp 17) rfl b17 rfl 27 (#[.int .u8 x1,.int .u8 x2,.int .u8 x3,.int .u8 x4,.int .i64 x5]) (0,0) _ kB Tryz.underlying27 rfl (by kernel_rfl) ?_)|((with_reducible refine jm (b:=.append) (xs:=#[.tmp 154,.tmp 156]) rfl ?_);at_builtin;refine Kd.oz k27 (w0:=w1) R rfl (.tmp 154) (.tmp 156) 23 27 (.agg #[.int .u8 0,.int .u8 0,.int .u8 0,.int .u8 0,.int .i64 0]) 16 rfl Tryz.underlying23 JQ rfl (by decide) (by omega) (.slice Ac cs.length cc) cs (⟨x1,x2,x3,x4,x5⟩:jR) [.int .u8 x1,.int .u8 x2,.int .u8 x3,.int .u8 x4,.int .i64 x5] (fun _=>True) (fun _=>False) rfl (by first|rfl|(go_simp;done)|(go_simp;rfl)) (Gh _ _ _ (⟨x1,x2,x3,x4,x5⟩:jR)) (fun _ hk=>hk.elim) (fun _ _=>trivial) HX.out.cr HX.out.bel (by have:=fA HX.out.rd;omega) (by have:=hl5.out;omega) ?_;intro v1 w6 ho hb6 hg6 ZU;rw [SL.out] at ho;obtain ⟨A1,c1',rfl⟩:=Kd.gI ho;have HG:=Lib.hid (HX.out.Yw hb6 hg6);have Bj:=ae.mk (HG.out.1.put 3 (.slice A1 y.length c1') rfl HG.out.2 ho);have cQ6:w6.cell? ⟨Q,3,none⟩=some (.slice Ac cs.length cc):=(by simp [World.cell?,HG.out.1.pq]);have fQ6:w6.frozen? ⟨Q,3,none⟩=false:=(by simp [World.frozen?,HG.out.1.pq]);have vV6:=Bj.out.cellV;have kR1:=Bj.out.qQ 1;have fR1:=Bj.out.frR 1;clear ho hb6 hg6 ZU HG))
        go_roundg ng
        case measure=>omega
        case rel=>exact ⟨a+1,_,y,by rw [← SL.out];exact HH,⟨by rw [HQQ.out];exact Bj.out.Zc⟩,by omega,by have:=hl5.out;rw [← SL.out];simp;omega⟩
    ·
      obtain rfl:i=1:=by omega
      have hH:=HH.out
      rw [oN,if_neg (by decide)] at hH
      clear HH
      obtain ⟨⟨s1,Lj⟩,hnf,hH⟩:=Option.bind_eq_some_iff.1 hH
      have NJ:=Lib.hid hnf
      have HH:=ae.mk hH
      clear hnf hH
      obtain ⟨b14,zl⟩:∃ b,wr.heap.size=b:=⟨_,rfl⟩
      obtain ⟨Wa,hWa⟩:∃ W,wr.alloc (.cells #[.string ⟨#[]⟩,.pointer none] 66)=W:=⟨_,rfl⟩
      have hzb:Wa.heap[b14]? = some (.cells #[.string ⟨#[]⟩,.pointer none] 66 (0,0)):=by rw [← hWa,← zl];exact heap_alloc_new wr _
      have hrg:wr.rangeAt X5 2 [.string ⟨#[103,108,111,98,97,108,115]⟩,.pointer (some ⟨Q,2,none⟩)]:=World.rangeAt_of_block rY.out 2 2
      have Rf:Q < b14:=by rw [← zl];exact fA HX.out.pq
      have hbr:Below wr.heap.size wr (Wa.setRow b14 #[.string ⟨#[103,108,111,98,97,108,115]⟩,.pointer (some ⟨Q,2,none⟩)]):=eX (by rw [← hWa];exact (Below.refl _ wr).alloc (Nat.le_refl _) _) (by omega) _
      have HY:=ae.mk (HX.out.below hbr)
      have xY:=ae.mk (iF hzb #[.string ⟨#[103,108,111,98,97,108,115]⟩,.pointer (some ⟨Q,2,none⟩)])
      have J5:=ae.mk ((hbr.block X5 (fA rY.out)).trans rY.out)
      have HQB:=Lib.hid Rf
      clear HX rY hbr Rf
      go_upto_region 18 with (first|((with_reducible refine fF (N:=94) rfl ?_);refine wpList_load_mid rfl 66 (.tmp 93) rfl X5 2 rfl [.string ⟨#[103,108,111,98,97,108,115]⟩,.pointer (some ⟨Q,2,none⟩)] _ hrg Tryz.underlying66 rfl (by kernel_rfl) ?_)|(skip;refine wpList_store_row rfl 66 (.tmp 14) (.tmp 94) rfl b14 (#[.string ⟨#[103,108,111,98,97,108,115]⟩,.pointer (some ⟨Q,2,none⟩)]) rfl rfl 66 _ hzb (by kernel_rfl) rfl (by simp [Value.oneCell']) ?_))
      clear hzb hWa zl hrg
      change Code.wp _ _ _ _ (Wa.setRow b14 #[.string ⟨#[103,108,111,98,97,108,115]⟩,.pointer (some ⟨Q,2,none⟩)])
      generalize Wa.setRow b14 #[.string ⟨#[103,108,111,98,97,108,115]⟩,.pointer (some ⟨Q,2,none⟩)]=Wm at HY xY J5 ⊢
      have HX:=ae.mk HY.out
      have rY:=ae.mk J5.out
      clear HY J5
      have v0:=HX.out.cellV
      have n0:Wm.cell? ⟨b14,0,none⟩=some (.string ⟨#[103,108,111,98,97,108,115]⟩):=by simp [World.cell?,xY.out]
      go_upto_region 19 with (go_at_call 31;refine (rO R (some ad) c l a ⟨#[103,108,111,98,97,108,115]⟩ s1 Lj _ HX.out.rd (by have:=EK.out;omega) (Kd.rZ (Kd.tY 9 Kd.rV) YT.out (by rw [hM];exact HX.out.bel) (show w1.heap.size≤R by rw [hM];exact HX.out.od.2.1)) NJ.out).mono ?_;rintro e w4 ⟨rfl,hk4,hb4,hr4⟩;replace xY:=ae.mk ((hk4.2 b14 (fA xY.out) (by have:=HQB.out;have:=HX.out.od;omega) (by simp)).trans xY.out);replace rY:=ae.mk ((hk4.2 X5 (fA rY.out) (by have:=XU.out;have:=HX.out.od;omega) (by simp)).trans rY.out);replace HX:=ae.mk (HX.out.moved hk4 hb4 hr4);clear hk4 hb4 hr4)
      clear v0 n0 NJ
      have hH:=HH.out
      clear HH
      cases Lj with
      | false =>
        rw [if_neg (by decide)] at hH
        replace HX:=ae.mk (show sN R P0 R V Q (some ad) c l a vT (.slice none 0 0) ts lo gl [] w1 w4 from HX.out)
        clear xY rY
        have hq:=Option.some.inj hH
        simp only [kU,Prod.mk.injEq] at hq
        obtain ⟨rfl,rfl,rfl,rfl,rfl,rfl⟩:=hq
        clear hH
        go_upto_region 999 with (fail)
        refine (lN V R a (by have:=EK.out;omega) _ HX.out.cellV (HX.out.qQ 1)).mono ?_
        rintro e w5 ⟨rfl,hb5⟩
        replace HX:=ae.mk (HX.out.below hb5)
        clear hb5
        have kG:=HX.out.zp
        have KZ:=ae.mk (iF kG #[.slice none 0 0,.string ⟨#[]⟩,.string ⟨#[]⟩,.slice none 0 0])
        have yR:=ae.mk (eX (HB1.out.trans (HX.out.bel.mono (by have:=HB1.out.size;omega))) (Nat.le_refl P0) #[.slice none 0 0,.string ⟨#[]⟩,.string ⟨#[]⟩,.slice none 0 0])
        have ROW:=ae.mk (Kd.jh Kd.string 9 (w5.setRow P0 #[.slice none 0 0,.string ⟨#[]⟩,.string ⟨#[]⟩,.slice none 0 0]) P0 (fun _=>True))
        have sK:=ae.mk (Kd.jh k27 27 (w5.setRow P0 #[.slice none 0 0,.string ⟨#[]⟩,.string ⟨#[]⟩,.slice none 0 0]) P0 (fun _=>True))
        clear HX
        go_wp2_with (first|(skip;refine wpList_store_row rfl 25 (.tmp 2) (.tmp 106) rfl P0 (#[.slice none 0 0,.string ⟨#[]⟩,.string ⟨#[]⟩,.slice none 0 0]) rfl rfl 25 _ kG (by kernel_rfl) rfl (by simp [Value.oneCell']) ?_))
        (try simp only [Exit.inBlock,Exit.then])
        refine bodyPost_ret (iw rfl _ _ P0 25 #[.slice none 0 0,.string ⟨#[]⟩,.string ⟨#[]⟩,.slice none 0 0] (0,0) _ rfl KZ.out Tryz.underlying25 rfl (by kernel_rfl)) rfl ?_
        exact ⟨_,_,rfl,by have q:=ROW.out;first|exact q|(rw [hP0];exact q),by have q:=sK.out;first|exact q|(rw [hP0];exact q),by have q:=yR.out;first|exact q|(rw [hP0];exact q)⟩
      | true =>
        rw [if_pos rfl] at hH
        replace HX:=ae.mk (show sN R P0 R V Q (some ad) c l (a+1) vT (.slice none 0 0) ts lo gl [] w1 w4 from HX.out)
        obtain ⟨s2,DT,hH⟩:=Option.bind_eq_some_iff.1 hH
        first|rw [if_neg (by decide)] at hH|rw [if_pos trivial] at hH
        have XV:=Lib.hid DT
        have HH:=ae.mk hH
        clear DT hH
        go_upto_region 21 with (fail)
        refine wp_region_noPanic ?_
        refine sD (n:=6) (S:=fun w'=>sN R P0 R V Q (some ad) c l (a+1) vT (.slice none 0 0) ts lo gl [] w1 w'∧w'.heap[b14]? = some (.cells #[.string ⟨#[103,108,111,98,97,108,115]⟩,.pointer (some ⟨Q,2,none⟩)] 66 (0,0))∧w'.heap[X5]? = some (.cells #[.string ⟨#[108,111,99,97,108,115]⟩,.pointer (some ⟨Q,1,none⟩),.string ⟨#[103,108,111,98,97,108,115]⟩,.pointer (some ⟨Q,2,none⟩)] 66 (0,0))) (ds:=[5]) #[false,false,false,false,false,false] (by kernel_rfl) rfl rfl ⟨HX.out.below (aj (Below.refl _ _)),xY.out,rY.out⟩ (fun hHeld=>?_)
        refine l9 parse.KT parse.GU (fun dR oJ=>?_)
        clear HX xY rY
        generalize w4.drew=Wd at hHeld ⊢
        refine bJ (i:=0) (N:=(some 109)) (v:=?_) (a':=?_) #[true,false,false,false,false,false] rfl rfl (aW dR.out (by kernel_rfl)) (fun _ _ _ h=>h) (Or.inl ⟨by rfl,?_⟩) ?_ ?_
        rotate_left
        · intro w'
          go_simp
          with_reducible rfl
        rotate_left
        · simp only [Act.put,List.setIfInBounds_toArray,List.set_cons_zero,List.set_cons_succ,aN,aQ]
          rfl
        refine iK (i:=1) (N:=(some 110)) (v:=?_) (a':=?_) #[true,true,false,false,false,false] rfl rfl (dH dR.out oJ.out (by kernel_rfl)) (fun _ _ _ h=>h) (Or.inl ⟨by rfl,?_⟩) hHeld ?_ ?_
        rotate_left
        · intro w' kJ
          have c_:w'.cell? ⟨b14,1,none⟩=some (.pointer (some ⟨Q,2,none⟩)):=by simp [World.cell?,kJ.2.1]
          go_simp
          with_reducible rfl
        rotate_left
        · simp only [Act.put,List.setIfInBounds_toArray,List.set_cons_zero,List.set_cons_succ,aN,aQ]
          rfl
        refine bJ (i:=2) (N:=(some 111)) (v:=?_) (a':=?_) #[true,true,true,false,false,false] rfl rfl (aW dR.out (by kernel_rfl)) (fun _ _ _ h=>h) (Or.inl ⟨by rfl,?_⟩) ?_ ?_
        rotate_left
        · intro w'
          go_simp
          with_reducible rfl
        rotate_left
        · simp only [Act.put,List.setIfInBounds_toArray,List.set_cons_zero,List.set_cons_succ,aN,aQ]
          rfl
        refine sW (i:=3) (N:=(some 112)) #[true,true,true,true,false,false] rfl rfl (kC dR.out (by kernel_rfl)) (by decide) (fun K hK=>?_)
        refine sO Tryz.func32 (by kernel_rfl) rfl #[.string s1,.string ⟨#[45]⟩] (by rfl) rfl rfl (by (try simp only [List.map_toArray,List.map_cons,List.map_nil]);rfl) ?_
        refine (strings_TrimSuffix.calls s1 ⟨#[45]⟩ s2 _ XV.out).mono ?_
        rintro e w6 ⟨rfl,hb6⟩
        refine ⟨_,rfl,?_⟩
        refine hK.out _ _ ⟨hHeld.1.below hb6.below,(hb6.below.block b14 (fA hHeld.2.1)).trans hHeld.2.1,(hb6.below.block X5 (fA hHeld.2.2)).trans hHeld.2.2⟩ (fun hHeld=>?_)
        clear hK K hb6
        refine jB (a':=?_) ?_ ?_
        rotate_left
        · simp only [lK,Act.put,List.setIfInBounds_toArray,List.set_cons_zero,List.set_cons_succ,aN,aQ]
          rfl
        refine bJ (i:=4) (N:=(some 113)) (v:=?_) (a':=?_) #[true,true,true,true,true,false] rfl rfl (aW dR.out (by kernel_rfl)) (fun _ _ _ h=>h) (Or.inl ⟨by rfl,?_⟩) ?_ ?_
        rotate_left
        · intro w'
          go_simp
          with_reducible rfl
        rotate_left
        · simp only [Act.put,List.setIfInBounds_toArray,List.set_cons_zero,List.set_cons_succ,aN,aQ]
          rfl
        have c5:w6.cell? ⟨Q,2,none⟩=some (.string gl):=hHeld.1.D5 2
        have f5:=hHeld.1.frQ 2
        refine Le (i:=5) (N:=none) #[true,true,true,true,true,true] rfl rfl (kC dR.out (by kernel_rfl)) (by decide) (fun K hK=>?_)
        refine Dn (w1:=w6.setCell ⟨Q,2,none⟩ (.string s2)) (by rfl) rfl (by go_simp) ?_
        refine hK.out _ _ ?_
        clear hK K
        refine xm (qf dR.out (by kernel_rfl)) ?_
        refine NoPanic.normal ?_
        (try simp only [Exit.then,Exit.inBlock])
        have Bj:=ae.mk (hHeld.1.TE (lo':=lo) (gl':=s2) 2 (.string s2) rfl hHeld.1.tr hHeld.1.cr)
        have J6:=ae.mk (di hHeld.2.2 (p:=⟨Q,2,none⟩) (by show X5 ≠ Q;have:=XU.out;omega) (.string s2))
        clear hHeld c5 f5
        go_wp2
        go_roundg 0
        case measure=>decide
        case rel=>exact ⟨a+1,_,_,2,rfl,rfl,HH,Bj,J6,by omega⟩
    ·
      obtain rfl:i=0:=by omega
      have hH:=HH.out
      rw [oN,if_pos rfl] at hH
      clear HH
      obtain ⟨⟨s1,Lj⟩,hnf,hH⟩:=Option.bind_eq_some_iff.1 hH
      have NJ:=Lib.hid hnf
      have HH:=ae.mk hH
      clear hnf hH
      obtain ⟨b14,zl⟩:∃ b,wr.heap.size=b:=⟨_,rfl⟩
      obtain ⟨Wa,hWa⟩:∃ W,wr.alloc (.cells #[.string ⟨#[]⟩,.pointer none] 66)=W:=⟨_,rfl⟩
      have hzb:Wa.heap[b14]? = some (.cells #[.string ⟨#[]⟩,.pointer none] 66 (0,0)):=by rw [← hWa,← zl];exact heap_alloc_new wr _
      have hrg:wr.rangeAt X5 0 [.string ⟨#[108,111,99,97,108,115]⟩,.pointer (some ⟨Q,1,none⟩)]:=World.rangeAt_of_block rY.out 0 2
      have Rf:Q < b14:=by rw [← zl];exact fA HX.out.pq
      have hbr:Below wr.heap.size wr (Wa.setRow b14 #[.string ⟨#[108,111,99,97,108,115]⟩,.pointer (some ⟨Q,1,none⟩)]):=eX (by rw [← hWa];exact (Below.refl _ wr).alloc (Nat.le_refl _) _) (by omega) _
      have HY:=ae.mk (HX.out.below hbr)
      have xY:=ae.mk (iF hzb #[.string ⟨#[108,111,99,97,108,115]⟩,.pointer (some ⟨Q,1,none⟩)])
      have J5:=ae.mk ((hbr.block X5 (fA rY.out)).trans rY.out)
      have HQB:=Lib.hid Rf
      clear HX rY hbr Rf
      go_upto_region 18 with (first|((with_reducible refine fF (N:=94) rfl ?_);refine wpList_load_mid rfl 66 (.tmp 93) rfl X5 0 rfl [.string ⟨#[108,111,99,97,108,115]⟩,.pointer (some ⟨Q,1,none⟩)] _ hrg Tryz.underlying66 rfl (by kernel_rfl) ?_)|(skip;refine wpList_store_row rfl 66 (.tmp 14) (.tmp 94) rfl b14 (#[.string ⟨#[108,111,99,97,108,115]⟩,.pointer (some ⟨Q,1,none⟩)]) rfl rfl 66 _ hzb (by kernel_rfl) rfl (by simp [Value.oneCell']) ?_))
      clear hzb hWa zl hrg
      change Code.wp _ _ _ _ (Wa.setRow b14 #[.string ⟨#[108,111,99,97,108,115]⟩,.pointer (some ⟨Q,1,none⟩)])
      generalize Wa.setRow b14 #[.string ⟨#[108,111,99,97,108,115]⟩,.pointer (some ⟨Q,1,none⟩)]=Wm at HY xY J5 ⊢
      have HX:=ae.mk HY.out
      have rY:=ae.mk J5.out
      clear HY J5
      have v0:=HX.out.cellV
      have n0:Wm.cell? ⟨b14,0,none⟩=some (.string ⟨#[108,111,99,97,108,115]⟩):=by simp [World.cell?,xY.out]
      go_upto_region 19 with (go_at_call 31;refine (rO R (some ad) c l a ⟨#[108,111,99,97,108,115]⟩ s1 Lj _ HX.out.rd (by have:=EK.out;omega) (Kd.rZ (Kd.tY 9 Kd.rV) YT.out (by rw [hM];exact HX.out.bel) (show w1.heap.size≤R by rw [hM];exact HX.out.od.2.1)) NJ.out).mono ?_;rintro e w4 ⟨rfl,hk4,hb4,hr4⟩;replace xY:=ae.mk ((hk4.2 b14 (fA xY.out) (by have:=HQB.out;have:=HX.out.od;omega) (by simp)).trans xY.out);replace rY:=ae.mk ((hk4.2 X5 (fA rY.out) (by have:=XU.out;have:=HX.out.od;omega) (by simp)).trans rY.out);replace HX:=ae.mk (HX.out.moved hk4 hb4 hr4);clear hk4 hb4 hr4)
      clear v0 n0 NJ
      have hH:=HH.out
      clear HH
      cases Lj with
      | false =>
        rw [if_neg (by decide)] at hH
        replace HX:=ae.mk (show sN R P0 R V Q (some ad) c l a vT (.slice none 0 0) ts lo gl [] w1 w4 from HX.out)
        clear xY rY
        have hq:=Option.some.inj hH
        simp only [kU,Prod.mk.injEq] at hq
        obtain ⟨rfl,rfl,rfl,rfl,rfl,rfl⟩:=hq
        clear hH
        go_upto_region 999 with (fail)
        refine (lN V R a (by have:=EK.out;omega) _ HX.out.cellV (HX.out.qQ 1)).mono ?_
        rintro e w5 ⟨rfl,hb5⟩
        replace HX:=ae.mk (HX.out.below hb5)
        clear hb5
        have kG:=HX.out.zp
        have KZ:=ae.mk (iF kG #[.slice none 0 0,.string ⟨#[]⟩,.string ⟨#[]⟩,.slice none 0 0])
        have yR:=ae.mk (eX (HB1.out.trans (HX.out.bel.mono (by have:=HB1.out.size;omega))) (Nat.le_refl P0) #[.slice none 0 0,.string ⟨#[]⟩,.string ⟨#[]⟩,.slice none 0 0])
        have ROW:=ae.mk (Kd.jh Kd.string 9 (w5.setRow P0 #[.slice none 0 0,.string ⟨#[]⟩,.string ⟨#[]⟩,.slice none 0 0]) P0 (fun _=>True))
        have sK:=ae.mk (Kd.jh k27 27 (w5.setRow P0 #[.slice none 0 0,.string ⟨#[]⟩,.string ⟨#[]⟩,.slice none 0 0]) P0 (fun _=>True))
        clear HX
        go_wp2_with (first|(skip;refine wpList_store_row rfl 25 (.tmp 2) (.tmp 106) rfl P0 (#[.slice none 0 0,.string ⟨#[]⟩,.string ⟨#[]⟩,.slice none 0 0]) rfl rfl 25 _ kG (by kernel_rfl) rfl (by simp [Value.oneCell']) ?_))
        (try simp only [Exit.inBlock,Exit.then])
        refine bodyPost_ret (iw rfl _ _ P0 25 #[.slice none 0 0,.string ⟨#[]⟩,.string ⟨#[]⟩,.slice none 0 0] (0,0) _ rfl KZ.out Tryz.underlying25 rfl (by kernel_rfl)) rfl ?_
        exact ⟨_,_,rfl,by have q:=ROW.out;first|exact q|(rw [hP0];exact q),by have q:=sK.out;first|exact q|(rw [hP0];exact q),by have q:=yR.out;first|exact q|(rw [hP0];exact q)⟩
      | true =>
        rw [if_pos rfl] at hH
        replace HX:=ae.mk (show sN R P0 R V Q (some ad) c l (a+1) vT (.slice none 0 0) ts lo gl [] w1 w4 from HX.out)
        obtain ⟨s2,DT,hH⟩:=Option.bind_eq_some_iff.1 hH
        first|rw [if_pos rfl] at hH|rw [if_pos trivial] at hH
        have XV:=Lib.hid DT
        have HH:=ae.mk hH
        clear DT hH
        go_upto_region 21 with (fail)
        refine wp_region_noPanic ?_
        refine sD (n:=6) (S:=fun w'=>sN R P0 R V Q (some ad) c l (a+1) vT (.slice none 0 0) ts lo gl [] w1 w'∧w'.heap[b14]? = some (.cells #[.string ⟨#[108,111,99,97,108,115]⟩,.pointer (some ⟨Q,1,none⟩)] 66 (0,0))∧w'.heap[X5]? = some (.cells #[.string ⟨#[108,111,99,97,108,115]⟩,.pointer (some ⟨Q,1,none⟩),.string ⟨#[103,108,111,98,97,108,115]⟩,.pointer (some ⟨Q,2,none⟩)] 66 (0,0))) (ds:=[5]) #[false,false,false,false,false,false] (by kernel_rfl) rfl rfl ⟨HX.out.below (aj (Below.refl _ _)),xY.out,rY.out⟩ (fun hHeld=>?_)
        refine l9 parse.KT parse.GU (fun dR oJ=>?_)
        clear HX xY rY
        generalize w4.drew=Wd at hHeld ⊢
        refine bJ (i:=0) (N:=(some 109)) (v:=?_) (a':=?_) #[true,false,false,false,false,false] rfl rfl (aW dR.out (by kernel_rfl)) (fun _ _ _ h=>h) (Or.inl ⟨by rfl,?_⟩) ?_ ?_
        rotate_left
        · intro w'
          go_simp
          with_reducible rfl
        rotate_left
        · simp only [Act.put,List.setIfInBounds_toArray,List.set_cons_zero,List.set_cons_succ,aN,aQ]
          rfl
        refine iK (i:=1) (N:=(some 110)) (v:=?_) (a':=?_) #[true,true,false,false,false,false] rfl rfl (dH dR.out oJ.out (by kernel_rfl)) (fun _ _ _ h=>h) (Or.inl ⟨by rfl,?_⟩) hHeld ?_ ?_
        rotate_left
        · intro w' kJ
          have c_:w'.cell? ⟨b14,1,none⟩=some (.pointer (some ⟨Q,1,none⟩)):=by simp [World.cell?,kJ.2.1]
          go_simp
          with_reducible rfl
        rotate_left
        · simp only [Act.put,List.setIfInBounds_toArray,List.set_cons_zero,List.set_cons_succ,aN,aQ]
          rfl
        refine bJ (i:=2) (N:=(some 111)) (v:=?_) (a':=?_) #[true,true,true,false,false,false] rfl rfl (aW dR.out (by kernel_rfl)) (fun _ _ _ h=>h) (Or.inl ⟨by rfl,?_⟩) ?_ ?_
        rotate_left
        · intro w'
          go_simp
          with_reducible rfl
        rotate_left
        · simp only [Act.put,List.setIfInBounds_toArray,List.set_cons_zero,List.set_cons_succ,aN,aQ]
          rfl
        refine sW (i:=3) (N:=(some 112)) #[true,true,true,true,false,false] rfl rfl (kC dR.out (by kernel_rfl)) (by decide) (fun K hK=>?_)
        refine sO Tryz.func32 (by kernel_rfl) rfl #[.string s1,.string ⟨#[45]⟩] (by rfl) rfl rfl (by (try simp only [List.map_toArray,List.map_cons,List.map_nil]);rfl) ?_
        refine (strings_TrimSuffix.calls s1 ⟨#[45]⟩ s2 _ XV.out).mono ?_
        rintro e w6 ⟨rfl,hb6⟩
        refine ⟨_,rfl,?_⟩
        refine hK.out _ _ ⟨hHeld.1.below hb6.below,(hb6.below.block b14 (fA hHeld.2.1)).trans hHeld.2.1,(hb6.below.block X5 (fA hHeld.2.2)).trans hHeld.2.2⟩ (fun hHeld=>?_)
        clear hK K hb6
        refine jB (a':=?_) ?_ ?_
        rotate_left
        · simp only [lK,Act.put,List.setIfInBounds_toArray,List.set_cons_zero,List.set_cons_succ,aN,aQ]
          rfl
        refine bJ (i:=4) (N:=(some 113)) (v:=?_) (a':=?_) #[true,true,true,true,true,false] rfl rfl (aW dR.out (by kernel_rfl)) (fun _ _ _ h=>h) (Or.inl ⟨by rfl,?_⟩) ?_ ?_
        rotate_left
        · intro w'
          go_simp
          with_reducible rfl
        rotate_left
        · simp only [Act.put,List.setIfInBounds_toArray,List.set_cons_zero,List.set_cons_succ,aN,aQ]
          rfl
        have c5:w6.cell? ⟨Q,1,none⟩=some (.string lo):=hHeld.1.D5 1
        have f5:=hHeld.1.frQ 1
        refine Le (i:=5) (N:=none) #[true,true,true,true,true,true] rfl rfl (kC dR.out (by kernel_rfl)) (by decide) (fun K hK=>?_)
        refine Dn (w1:=w6.setCell ⟨Q,1,none⟩ (.string s2)) (by rfl) rfl (by go_simp) ?_
        refine hK.out _ _ ?_
        clear hK K
        refine xm (qf dR.out (by kernel_rfl)) ?_
        refine NoPanic.normal ?_
        (try simp only [Exit.then,Exit.inBlock])
        have Bj:=ae.mk (hHeld.1.TE (lo':=s2) (gl':=gl) 1 (.string s2) rfl hHeld.1.tr hHeld.1.cr)
        have J6:=ae.mk (di hHeld.2.2 (p:=⟨Q,1,none⟩) (by show X5 ≠ Q;have:=XU.out;omega) (.string s2))
        clear hHeld c5 f5
        go_wp2
        go_roundg 1
        case measure=>decide
        case rel=>exact ⟨a+1,_,_,1,rfl,rfl,HH,Bj,J6,by omega⟩
    · exact absurd hki (by omega)
  rw [if_pos h3] at hH
  have g5:(t0.toList == [116,121,112,101])=true:=beq_iff_eq.2 h3
  obtain ⟨⟨s1,Lj⟩,hnf,hH⟩:=Option.bind_eq_some_iff.1 hH
  have NJ:=Lib.hid hnf
  have HH:=ae.mk hH
  obtain ⟨y,hy⟩:∃ y,ts++[s1]=y:=⟨_,rfl⟩
  have SL:=Lib.hid hy
  clear hnf hH h3 hy
  go_upto_region 9 with (go_at_call 31;refine (rO R (some ad) c l a ⟨#[116,121,112,101]⟩ s1 Lj _ HX.out.rd (by have:=EK.out;omega) (Kd.rZ (Kd.tY 9 Kd.rV) YT.out (by rw [hM];exact HX.out.bel) (show w1.heap.size≤R by rw [hM];exact HX.out.od.2.1)) NJ.out).mono ?_;rintro e w4 ⟨rfl,hk4,hb4,hr4⟩;replace HX:=ae.mk (HX.out.moved hk4 hb4 hr4);clear hk4 hb4 hr4)
  clear v0 k0 k1 hx hx0 g1 g2 g3 g4 g5 NJ
  have hH:=HH.out
  clear HH
  cases Lj with
  | false =>
    rw [if_neg (by decide)] at hH
    replace HX:=ae.mk (show sN R P0 R V Q (some ad) c l a vT (.slice none 0 0) ts ⟨#[]⟩ ⟨#[]⟩ [] w1 w4 from HX.out)
    have hq:=Option.some.inj hH
    simp only [kU,Prod.mk.injEq] at hq
    obtain ⟨rfl,rfl,rfl,rfl,rfl,rfl⟩:=hq
    clear hH
    go_upto_region 999 with (fail)
    refine (lN V R a (by have:=EK.out;omega) _ HX.out.cellV (HX.out.qQ 1)).mono ?_
    rintro e w5 ⟨rfl,hb5⟩
    replace HX:=ae.mk (HX.out.below hb5)
    clear hb5
    have kG:=HX.out.zp
    have KZ:=ae.mk (iF kG #[.slice none 0 0,.string ⟨#[]⟩,.string ⟨#[]⟩,.slice none 0 0])
    have yR:=ae.mk (eX (HB1.out.trans (HX.out.bel.mono (by have:=HB1.out.size;omega))) (Nat.le_refl P0) #[.slice none 0 0,.string ⟨#[]⟩,.string ⟨#[]⟩,.slice none 0 0])
    have ROW:=ae.mk (Kd.jh Kd.string 9 (w5.setRow P0 #[.slice none 0 0,.string ⟨#[]⟩,.string ⟨#[]⟩,.slice none 0 0]) P0 (fun _=>True))
    have sK:=ae.mk (Kd.jh k27 27 (w5.setRow P0 #[.slice none 0 0,.string ⟨#[]⟩,.string ⟨#[]⟩,.slice none 0 0]) P0 (fun _=>True))
    clear HX
    go_wp2_with (first|(skip;refine wpList_store_row rfl 25 (.tmp 2) (.tmp 62) rfl P0 (#[.slice none 0 0,.string ⟨#[]⟩,.string ⟨#[]⟩,.slice none 0 0]) rfl rfl 25 _ kG (by kernel_rfl) rfl (by simp [Value.oneCell']) ?_))
    (try simp only [Exit.inBlock,Exit.then])
    refine bodyPost_ret (iw rfl _ _ P0 25 #[.slice none 0 0,.string ⟨#[]⟩,.string ⟨#[]⟩,.slice none 0 0] (0,0) _ rfl KZ.out Tryz.underlying25 rfl (by kernel_rfl)) rfl ?_
    exact ⟨_,_,rfl,by have q:=ROW.out;first|exact q|(rw [hP0];exact q),by have q:=sK.out;first|exact q|(rw [hP0];exact q),by have q:=yR.out;first|exact q|(rw [hP0];exact q)⟩
  | true =>
  rw [if_pos rfl] at hH
  replace HX:=ae.mk (show sN R P0 R V Q (some ad) c l (a+1) vT (.slice none 0 0) ts ⟨#[]⟩ ⟨#[]⟩ [] w1 w4 from HX.out)
  by_cases h4:s1.toList=[45]
  case pos =>
    rw [if_pos h4] at hH
    have g6:(s1.toList == [45])=true:=beq_iff_eq.2 h4
    obtain ⟨q,hq⟩:∃ q:Int,((a+1:Nat):Int)=q:=⟨_,rfl⟩
    have hw:IntKind.i64.wrap (q - 1)=(a:Int):=by rw [← hq,show ((a+1:Nat):Int) - 1=a by omega];exact IntWalk.i64_in _ (by have:=EK.out;omega)
    have v0:=HX.out.cellV
    have k1:w4.cell? ⟨R,1,none⟩=some (.int .i64 q):=by rw [← hq];exact HX.out.qQ 1
    have f1:=HX.out.frR 1
    replace HX:=ae.mk (HX.out.Zc (a':=a))
    clear hq h4
    go_upto_region 13 with (fail)
    clear v0 k1 f1 hw g6
    change Code.wp _ _ _ _ (w4.setCell ⟨R,1,none⟩ (.int .i64 a))
    generalize w4.setCell ⟨R,1,none⟩ (.int .i64 a)=w7 at HX ⊢
    have hq:=Option.some.inj hH
    simp only [kU,Prod.mk.injEq] at hq
    obtain ⟨rfl,rfl,rfl,rfl,rfl,rfl⟩:=hq
    clear hH
    go_upto_region 999 with (fail)
    refine (lN V R a (by have:=EK.out;omega) _ HX.out.cellV (HX.out.qQ 1)).mono ?_
    rintro e w5 ⟨rfl,hb5⟩
    replace HX:=ae.mk (HX.out.below hb5)
    clear hb5
    have kG:=HX.out.zp
    have KZ:=ae.mk (iF kG #[.slice none 0 0,.string ⟨#[]⟩,.string ⟨#[]⟩,.slice none 0 0])
    have yR:=ae.mk (eX (HB1.out.trans (HX.out.bel.mono (by have:=HB1.out.size;omega))) (Nat.le_refl P0) #[.slice none 0 0,.string ⟨#[]⟩,.string ⟨#[]⟩,.slice none 0 0])
    have ROW:=ae.mk (Kd.jh Kd.string 9 (w5.setRow P0 #[.slice none 0 0,.string ⟨#[]⟩,.string ⟨#[]⟩,.slice none 0 0]) P0 (fun _=>True))
    have sK:=ae.mk (Kd.jh k27 27 (w5.setRow P0 #[.slice none 0 0,.string ⟨#[]⟩,.string ⟨#[]⟩,.slice none 0 0]) P0 (fun _=>True))
    clear HX
    go_wp2_with (first|(skip;refine wpList_store_row rfl 25 (.tmp 2) (.tmp 76) rfl P0 (#[.slice none 0 0,.string ⟨#[]⟩,.string ⟨#[]⟩,.slice none 0 0]) rfl rfl 25 _ kG (by kernel_rfl) rfl (by simp [Value.oneCell']) ?_))
    (try simp only [Exit.inBlock,Exit.then])
    refine bodyPost_ret (iw rfl _ _ P0 25 #[.slice none 0 0,.string ⟨#[]⟩,.string ⟨#[]⟩,.slice none 0 0] (0,0) _ rfl KZ.out Tryz.underlying25 rfl (by kernel_rfl)) rfl ?_
    exact ⟨_,_,rfl,by have q:=ROW.out;first|exact q|(rw [hP0];exact q),by have q:=sK.out;first|exact q|(rw [hP0];exact q),by have q:=yR.out;first|exact q|(rw [hP0];exact q)⟩
  rw [if_neg h4] at hH
  have g6:(s1.toList == [45])=false:=beq_eq_false_iff_ne.2 h4
  have cQ4:w4.cell? ⟨Q,0,none⟩=some vT:=HX.out.D5 0
  have HH:=ae.mk hH
  have XV:=Lib.hid (show ts.length≤1000000 by have:=EK.out;omega)
  clear hH h4
  go_wp2_with (first|((with_reducible refine jm (b:=.append) (xs:=#[.tmp 80,.tmp 82]) rfl ?_);at_builtin;refine Kd.oz Kd.string (w0:=w1) R rfl (.tmp 80) (.tmp 82) 22 9 (.string ⟨#[]⟩) 16 rfl Tryz.underlying22 info9 rfl (by decide) (by omega) vT ts s1 [.string s1] (fun _=>True) (fun _=>False) rfl rfl rfl (fun _ hk=>hk.elim) (fun _ _=>trivial) HX.out.tr HX.out.bel (by have:=fA HX.out.rd;omega) (by have:=XV.out;omega) ?_;intro v1 w5 ho hb5 hg5 ZV;rw [SL.out] at ho;obtain ⟨A1,c1',rfl⟩:=Kd.gI ho;have HG:=Lib.hid (HX.out.abW hb5 hg5);have Bj:=ae.mk (HG.out.1.put 0 (.slice A1 y.length c1') rfl ho HG.out.2);have cQ5:w5.cell? ⟨Q,0,none⟩=some vT:=(by simp [World.cell?,HG.out.1.pq]);have fQ5:w5.frozen? ⟨Q,0,none⟩=false:=(by simp [World.frozen?,HG.out.1.pq]);clear ho hb5 hg5 ZV HG))
  go_roundg ng
  case measure=>omega
  case rel=>exact ⟨a+1,_,y,by rw [← SL.out];exact HH,Bj,by omega,by rw [← SL.out];simp;omega⟩
end Go.Proofs.YtkclndkbccbhaaaGreatDoor.P
end
