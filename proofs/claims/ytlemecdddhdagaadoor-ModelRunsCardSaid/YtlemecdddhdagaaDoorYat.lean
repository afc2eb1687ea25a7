/- Parts of the proof of ModelRuns: what the functions that it reaches compute, and plain facts about that. -/
import Derived.Deep.MidRow
import Derived.Test.YtlemecdddhdagaaDoorYal
set_option linter.unusedVariables false
set_option linter.unusedSimpArgs false
section
namespace Go.Proofs.YtlemecdddhdagaaDoor.P
open Go.RowKit Go.Proofs.af.bD Go.Proofs.af.dB Go.Proofs.af.dM
def Bk (w:World) (g:Nat) (cs:Array Value) (t:TypeId):Prop:=w.heap[g]? = some (.cells cs t (0,0))
section
variable {w w1:World} {g h t:Nat} {cs:Array Value}
theorem Bk.cell (k:Bk w g cs t) (j:Nat):w.cell? ⟨g,j,none⟩=cs[j]?:=cell_of_row w g j cs t (0,0) k
theorem Bk.fr (k:Bk w g cs t) (j:Nat):w.frozen? ⟨g,j,none⟩=false:=frozen_of_row w g j cs t k
theorem Bk.lt (k:Bk w g cs t):g < w.heap.size:=(Array.getElem?_eq_some_iff.1 k).1
theorem Bk.of (k:Bk w g cs t) (e:w1.heap[g]? = w.heap[g]?):Bk w1 g cs t:=e.trans k
theorem Bk.below (k:Bk w g cs t) (hb:Below w.heap.size w w1):Bk w1 g cs t:=k.of (hb.block g k.lt)
theorem Bk.set (k:Bk w g cs t) (j:Nat) (v:Value):Bk (w.setCell ⟨g,j,none⟩ v) g (cs.setIfInBounds j v) t:=by
  unfold Bk at k ⊢
  simp [World.setCell,Array.getElem?_modify,k]
theorem Bk.far (k:Bk w g cs t) (j:Nat) (v:Value) (hn:g ≠ h):Bk (w.setCell ⟨h,j,none⟩ v) g cs t:=k.of (Below.heap_setCell w ⟨h,j,none⟩ v g hn)
theorem Bk.setRow (k:Bk w g cs t) (ds:Array Value):Bk (w.setRow g ds) g ds t:=NI k ds
theorem Bk.gJ (k:Bk w g cs t) (ds:Array Value) (hn:g ≠ h):Bk (w.setRow h ds) g cs t:=k.of (jV ds g hn)
theorem Bk.alloc (k:Bk w g cs t) (o:Obj):Bk (w.alloc o) g cs t:=k.of (Below.heap_alloc w o g k.lt)
theorem Bk.new (w:World) (cs:Array Value) (t:TypeId):Bk (w.alloc (.cells cs t)) w.heap.size cs t:=heap_alloc_new w _
theorem mi (ds:List Value):∀ (w:World) (o:Nat),g ≠ h→(w.setCells h o ds).heap[g]? = w.heap[g]?:=by
  induction ds with
  | nil=>intro w o _;rfl
  | cons v ds ih=>intro w o hn;exact (ih _ _ hn).trans (Below.heap_setCell w ⟨h,o,none⟩ v g hn)
theorem Bk.jr (k:Bk w g cs t) (o:Nat) (ds:List Value) (hn:g ≠ h):Bk (w.setCells h o ds) g cs t:=k.of (mi ds w o hn)
theorem setCells_size (ds:List Value):∀ (w:World) (h o:Nat),(w.setCells h o ds).heap.size=w.heap.size:=by
  induction ds with
  | nil=>intro w h o;rfl
  | cons v ds ih=>intro w h o;exact (ih _ _ _).trans (by simp [World.setCell])
theorem iC {B:Nat} {w0:World} (ds:List Value):∀ (w:World) (h o:Nat),Below B w0 w→B≤h→Below B w0 (w.setCells h o ds):=by
  induction ds with
  | nil=>intro w h o hb _;exact hb
  | cons v ds ih=>intro w h o hb hB;exact ih _ _ _ (hb.setCell (p:=⟨h,o,none⟩) hB v) hB
theorem Bk.range (k:Bk w g cs t) (o:Nat) (vs:List Value) (hv:∀ j,j < vs.length→cs[o+j]? = vs[j]?):w.rangeAt g o vs:=fun j v hj=>by
  rw [k.cell (o+j),hv j (List.getElem?_eq_some_iff.1 hj).1,hj]
theorem Bk.there (k:Bk w g cs t) (o n:Nat) (hn:o+n≤cs.size):w.there g o n:=fun j hj=>⟨by rw [k.cell (o+j),Array.getElem?_eq_getElem (by omega)];rfl,k.fr (o+j)⟩
end
def eu (f:Nat→Int):Array Value:=#[.int .i64 (f 0),.int .i64 (f 1),.int .i64 (f 2),.int .i64 (f 3),.int .i64 (f 4),.int .i64 (f 5),.int .i64 (f 6),.int .i64 (f 7)]
def row4 (f:Nat→Int):Array Value:=#[.int .i64 (f 0),.int .i64 (f 1),.int .i64 (f 2),.int .i64 (f 3)]
theorem jq (f:Nat→Int):(eu f).all (·.oneCell')=true:=by simp [eu,Value.oneCell']
theorem su (f:Nat→Int):(row4 f).all (·.oneCell')=true:=by simp [row4,Value.oneCell']
theorem oK (f:Nat→Int) (j:Nat) (hj:j < 8):(eu f)[j]? = some (.int .i64 (f j)):=by
  match j,hj with
  | 0,_ | 1,_ | 2,_ | 3,_ | 4,_ | 5,_ | 6,_ | 7,_=>rfl
theorem TE (f:Nat→Int) (j:Nat) (hj:j < 4):(row4 f)[j]? = some (.int .i64 (f j)):=by
  match j,hj with
  | 0,_ | 1,_ | 2,_ | 3,_=>rfl
theorem qp (f:Nat→Int) (j:Nat) (hj:j < 8) (v:Int):(eu f).setIfInBounds j (.int .i64 v)=eu (upd f j v):=by
  match j,hj with
  | 0,_ | 1,_ | 2,_ | 3,_ | 4,_ | 5,_ | 6,_ | 7,_=>rfl
theorem Po (f:Nat→Int) (j:Nat) (hj:j < 4) (v:Int):(row4 f).setIfInBounds j (.int .i64 v)=row4 (upd f j v):=by
  match j,hj with
  | 0,_ | 1,_ | 2,_ | 3,_=>rfl
section
variable {w:World} {g t:Nat} {s:St} {vO vU:Value}
theorem Bk.wE (k:Bk w g (cellsS s vO vU) t) (j:Nat) (hj:j < 8):w.cell? ⟨g,j,none⟩=some (.int .i64 (s.x j)):=by
  rw [k.cell j]
  match j,hj with
  | 0,_ | 1,_ | 2,_ | 3,_ | 4,_ | 5,_ | 6,_ | 7,_=>rfl
theorem Bk.mD (k:Bk w g (cellsS s vO vU) t) (j:Nat) (hj:j < 8):w.cell? ⟨g,8+j,none⟩=some (.int .i64 (s.p j)):=by
  rw [k.cell (8+j)]
  match j,hj with
  | 0,_ | 1,_ | 2,_ | 3,_ | 4,_ | 5,_ | 6,_ | 7,_=>rfl
theorem Bk.xs (k:Bk w g (cellsS s vO vU) t):w.rangeAt g 0 (eu s.x).toList:=k.range 0 _ fun j hj=>by
  match j,hj with
  | 0,_ | 1,_ | 2,_ | 3,_ | 4,_ | 5,_ | 6,_ | 7,_=>rfl
theorem Bk.ps (k:Bk w g (cellsS s vO vU) t):w.rangeAt g 8 (eu s.p).toList:=k.range 8 _ fun j hj=>by
  match j,hj with
  | 0,_ | 1,_ | 2,_ | 3,_ | 4,_ | 5,_ | 6,_ | 7,_=>rfl
theorem Bk.gs (k:Bk w g (cellsS s vO vU) t):w.rangeAt g 16 (row4 s.g).toList:=k.range 16 _ fun j hj=>by
  match j,hj with
  | 0,_ | 1,_ | 2,_ | 3,_=>rfl
theorem Bk.yg (k:Bk w g (cellsS s vO vU) t) (f:Nat→Int):Bk (w.setCells g 0 (eu f).toList) g (cellsS { s with x:=f } vO vU) t:=by
  have h:=(((((((k.set 0 (.int .i64 (f 0))).set 1 (.int .i64 (f 1))).set 2 (.int .i64 (f 2))).set 3 (.int .i64 (f 3))).set 4 (.int .i64 (f 4))).set 5 (.int .i64 (f 5))).set 6 (.int .i64 (f 6))).set 7 (.int .i64 (f 7))
  simp only [cellsS,List.setIfInBounds_toArray,List.set_cons_zero,List.set_cons_succ] at h
  exact h
theorem Bk.yh (k:Bk w g (cellsS s vO vU) t) (f:Nat→Int):Bk (w.setCells g 8 (eu f).toList) g (cellsS { s with p:=f } vO vU) t:=by
  have h:=(((((((k.set 8 (.int .i64 (f 0))).set 9 (.int .i64 (f 1))).set 10 (.int .i64 (f 2))).set 11 (.int .i64 (f 3))).set 12 (.int .i64 (f 4))).set 13 (.int .i64 (f 5))).set 14 (.int .i64 (f 6))).set 15 (.int .i64 (f 7))
  simp only [cellsS,List.setIfInBounds_toArray,List.set_cons_zero,List.set_cons_succ] at h
  exact h
theorem Bk.Ah (k:Bk w g (cellsS s vO vU) t) (f:Nat→Int):Bk (w.setCells g 16 (row4 f).toList) g (cellsS { s with g:=f } vO vU) t:=by
  have h:=(((k.set 16 (.int .i64 (f 0))).set 17 (.int .i64 (f 1))).set 18 (.int .i64 (f 2))).set 19 (.int .i64 (f 3))
  simp only [cellsS,List.setIfInBounds_toArray,List.set_cons_zero,List.set_cons_succ] at h
  exact h
end
section
variable {P:Program} {ops:Array Oper} {rest:List Oper} {o:Oper} {a:Act} {w:World} {Q:Exit→Act→World→Prop}
theorem qx (hgd:o.guard=none) (ty:TypeId) (x:Operand) (ho:o.op=.load ty x) (g off:Nat) (hx:a.eval x=.pointer (some ⟨g,off,none⟩)) (cs:Array Value) (d:TypeDesc) (hc:w.rangeAt g off cs.toList)
    (hu:P.underlying ty=some d) (hd:d.isRow=true) (hi:(P.info? ty).map (·.size)=some cs.toList.length) (h:wpList P ops Q rest (a.put o.dst (.agg cs)) w):wpList P ops Q (o :: rest) a w :=
  wpList_load_mid hgd ty x ho g off hx cs.toList d hc hu hd hi (by rw [Array.toArray_toList];exact h)
end
structure X5 (s:St) (vO vU:Value) (w:World):Prop where
  aW:∃ A c,vO=.slice A s.aW.length c∧s.aW.length≤c∧Kd.C uJ w A s.aW.length s.aW
  out:∃ A c,vU=.slice A s.out.length c∧s.out.length≤c∧Kd.C (Kd.int .i64) w A s.out.length s.out
section
variable {s s':St} {vO vU:Value} {w w':World}
theorem X5.below (h:X5 s vO vU w) (hb:Below w.heap.size w w'):X5 s vO vU w':=by
  obtain ⟨⟨A,c,e,hc,hO⟩,⟨B,d,e',hd,hU⟩⟩:=h
  exact ⟨⟨A,c,e,hc,Kd.bJ hO hb⟩,⟨B,d,e',hd,Kd.bJ hU hb⟩⟩
theorem X5.as (h:X5 s vO vU w) (e1:s'.aW=s.aW) (e2:s'.out=s.out):X5 s' vO vU w:=by
  obtain ⟨h1,h2⟩:=h
  exact ⟨by rw [e1];exact h1,by rw [e2];exact h2⟩
theorem X5.one (h:X5 s vO vU w) (s':St):(cellsS s' vO vU).all (·.oneCell')=true:=by
  obtain ⟨⟨A,c,rfl,_⟩,⟨B,d,rfl,_⟩⟩:=h
  simp [cellsS,Value.oneCell']
end
def NB (w:World) (k:Nat):Prop:=∃ cells t fr,w.heap[k]? = some (.cells cells t fr)∧t ≠ 44∧t ≠ 39
def Keep (w wF:World):Prop:=∀ k,NB w k→wF.heap[k]? = w.heap[k]?
theorem NB.lt {w:World} {k:Nat} (h:NB w k):k < w.heap.size:=by
  obtain ⟨_,_,_,h,_⟩:=h
  exact (Array.getElem?_eq_some_iff.1 h).1
theorem Keep.after {w w' wF:World} (hb:Below w.heap.size w w') (h:Keep w' wF):Keep w wF:=fun k hk=>by
  have e:=hb.block k hk.lt
  obtain ⟨c,t,fr,h1,h2⟩:=hk
  rw [h k ⟨c,t,fr,e.trans h1,h2⟩,e]
theorem Keep.trans {w w' wF:World} (hb:Keep w w') (h:Keep w' wF):Keep w wF:=fun k hk=>by
  have e:=hb k hk
  obtain ⟨c,t,fr,h1,h2⟩:=hk
  rw [h k ⟨c,t,fr,e.trans h1,h2⟩,e]
theorem Zx {w:World} {A:Option Addr} {n:Nat} {hs:List Hd} {xs:List (List Int)} (h:Kd.C kH w A n hs) (hl:hs.length=xs.length)
    (each:∀ j (hj:j < xs.length),∃ q,hs[j]? = some q∧q.2.1=(xs[j]).length∧(xs[j]).length≤q.2.2∧Kd.C (Kd.int .i64) w q.1 (xs[j]).length xs[j]):Kd.C uJ w A n xs:=by
  obtain ⟨h1,hn,hc⟩:=h
  refine ⟨hl ▸ h1,hn,fun h0=>?_⟩
  obtain ⟨ad,e,hc⟩:=hc h0
  refine ⟨ad,e,fun j x hj=>?_⟩
  obtain ⟨hj',rfl⟩:=List.getElem?_eq_some_iff.1 hj
  obtain ⟨q,hq,hq1,hq2,hq3⟩:=each j hj'
  obtain ⟨c,hlen,hK,hcell⟩:=hc j q hq
  obtain rfl:c=[Oy q]:=hK
  refine ⟨[Oy q],rfl,⟨q.1,q.2.2,?_,hq2,hq3⟩,hcell⟩
  rw [← hq1]
  rfl
theorem uY {α:Type} {d:Kd α} {e base:Nat} {ok:Nat→Prop} {w wF:World} {v:Value} {xs:List α} (h:d.R e w base ok v xs) (hE:d.E=[]) (he:e ≠ 44∧e ≠ 39) (hk:∀ k,base≤k→NB w k→wF.heap[k]? = w.heap[k]?):d.R e wF base ok v xs :=
  Kd.kS (Kd.kL (w1:=wF) (Kd.lJ h) (fun k hk' _=>by
    obtain ⟨_,h2,_,q,hq,cells,hc⟩:=hk'
    rw [hE] at hq
    obtain rfl:q=e:=List.mem_singleton.1 hq
    exact hk k h2 ⟨cells,q,(0,0),hc,he.1,he.2⟩)) (fun k hk'=>hk'.1)
structure qM (s:St) (vO vU:Value) (w:World):Prop where
  aW:∃ A c hs,vO=.slice A s.aW.length c∧s.aW.length≤c∧hs.length=s.aW.length∧(∀ wF,Keep w wF→Kd.C kH wF A s.aW.length hs)∧∀ j (hj:j < s.aW.length),∃ q,hs[j]? = some q∧q.2.1=(s.aW[j]).length∧(s.aW[j]).length≤q.2.2∧∀ wF,Keep w wF→Kd.C (Kd.int .i64) wF q.1 (s.aW[j]).length s.aW[j]
  out:∃ A c,vU=.slice A s.out.length c∧s.out.length≤c∧∀ wF,Keep w wF→Kd.C (Kd.int .i64) wF A s.out.length s.out
section
variable {s s':St} {vO vU:Value} {w w' wF:World}
theorem qM.rd (h:qM s vO vU w):X5 s vO vU w:=by
  obtain ⟨⟨A,c,hs,e,hc,hl,hH,hE⟩,B,b,e',hb,hU⟩:=h
  have hw:Keep w w:=fun _ _=>rfl
  exact ⟨⟨A,c,e,hc,Zx (hH w hw) hl (fun j hj=>by obtain ⟨q,q1,q2,q3,q4⟩:=hE j hj;exact ⟨q,q1,q2,q3,q4 w hw⟩)⟩,B,b,e',hb,hU w hw⟩
theorem qM.keep (h:qM s vO vU w) (hk:Keep w w'):qM s vO vU w':=by
  obtain ⟨⟨A,c,hs,e,hc,hl,hH,hE⟩,B,b,e',hb,hU⟩:=h
  exact ⟨⟨A,c,hs,e,hc,hl,fun wF hF=>hH wF (hk.trans hF),fun j hj=>by obtain ⟨q,q1,q2,q3,q4⟩:=hE j hj;exact ⟨q,q1,q2,q3,fun wF hF=>q4 wF (hk.trans hF)⟩⟩,B,b,e',hb,fun wF hF=>hU wF (hk.trans hF)⟩
theorem qM.below (h:qM s vO vU w) (hb:Below w.heap.size w w'):qM s vO vU w':=h.keep (fun k hk=>hb.block k hk.lt)
theorem qM.as (h:qM s vO vU w) (e1:s'.aW=s.aW) (e2:s'.out=s.out):qM s' vO vU w:=by
  obtain ⟨h1,h2⟩:=h
  exact ⟨by rw [e1];exact h1,by rw [e2];exact h2⟩
end
theorem fE {P:Program} {fn:Func} {p u:Tmp} {ty:TypeId} (h:fn.results=#[.cell p ty,.tmp u]) (tmps:Array Value) (w:World) (g:Nat) (t:TypeId) (cs:Array Value) (fr:Nat × Nat) (d:TypeDesc)
    (hp:tmps.getD p undef=.pointer (some ⟨g,0,none⟩)) (hg:w.heap[g]? = some (.cells cs t fr))
    (hu:P.underlying ty=some d) (hd:(match d with | .struct _ | .array _ _=>true | _=>false)=true) (hi:(P.info? ty).map (·.size)=some cs.size) :
    (results fn tmps).run P w=.ok (.tuple #[.agg cs,tmps.getD u undef]) w:=by
  have hp':tmps[p]?.getD undef=.pointer (some ⟨g,0,none⟩):=by simpa using hp
  simp [results,h,hp',asAddr,run_loadVar_row w g t ty cs fr d hg hu hd hi]
end Go.Proofs.YtlemecdddhdagaaDoor.P
end
section
namespace Go.Proofs.YtlemecdddhdagaaDoor.P
open Go.RowKit Go.Proofs.af.bD Go.Proofs.af.dB Go.Proofs.af.dM
attribute [local go_sem ↓] Go.wp_at_zero Go.wp_at_succ
theorem Tm (f:Nat→Int) (j:Nat) (u v:Int):upd (upd f j u) j v=upd f j v:=by
  funext i
  unfold upd
  split <;> rfl
theorem Dc (cs I zs zx:Array Value) (w:World):let wa:=((w.alloc (.cells cs 44)).alloc (.cells I 55)).alloc (.cells zs 44);let wb:=wa.alloc (.cells zx 34)
    Bk wa w.heap.size cs 44∧Bk wb w.heap.size cs 44∧Bk wb (w.heap.size+1) I 55∧Bk wb (w.heap.size+2) zs 44∧Bk wb (w.heap.size+3) zx 34∧Below w.heap.size w wb∧wa.heap.size=w.heap.size+3∧wb.heap.size=w.heap.size+4:=by
  have h1:=Bk.new w cs 44
  have h2:=Bk.new (w.alloc (.cells cs 44)) I 55
  have h3:=Bk.new ((w.alloc (.cells cs 44)).alloc (.cells I 55)) zs 44
  have h4:=Bk.new (((w.alloc (.cells cs 44)).alloc (.cells I 55)).alloc (.cells zs 44)) zx 34
  rw [show (w.alloc (.cells cs 44)).heap.size=w.heap.size+1 by simp] at h2
  rw [show ((w.alloc (.cells cs 44)).alloc (.cells I 55)).heap.size=w.heap.size+2 by simp] at h3
  rw [show (((w.alloc (.cells cs 44)).alloc (.cells I 55)).alloc (.cells zs 44)).heap.size=w.heap.size+3 by simp] at h4
  exact ⟨(h1.alloc _).alloc _,((h1.alloc _).alloc _).alloc _,(h2.alloc _).alloc _,h3.alloc _,h4,((((Below.refl _ w).alloc (Nat.le_refl _) _).alloc (by simp) _).alloc (by simp;omega) _).alloc (by simp;omega) _,by simp,by simp⟩
set_option maxRecDepth 100000 in
set_option maxHeartbeats 3200000 in
theorem NV (s:St) (vO vU:Value) (a bb cc:Nat) (n:Int) (ha:a < 8) (w:World) (hv:qM s vO vU w) :
    Calls Tryd.prog 24 #[.agg (cellsS s vO vU),.agg #[.int .u8 1,.int .u8 a,.int .u8 bb,.int .u8 cc,.int .i64 n]] w fun e w'=>∃ o8 o7,e=.returned (.tuple #[.agg (cellsS { s with x:=upd s.x a n } o8 o7),.bool true])∧qM { s with x:=upd s.x a n } o8 o7 w'∧Below w.heap.size w w':=by
  obtain ⟨G,hG⟩:∃ G,w.heap.size=G:=⟨_,rfl⟩
  obtain ⟨wa,Dq⟩:∃ wa,((w.alloc (.cells (cellsS s vO vU) 44)).alloc (.cells #[.int .u8 1,.int .u8 a,.int .u8 bb,.int .u8 cc,.int .i64 n] 55)).alloc (.cells #[.int .i64 0,.int .i64 0,.int .i64 0,.int .i64 0,.int .i64 0,.int .i64 0,.int .i64 0,.int .i64 0,.int .i64 0,.int .i64 0,.int .i64 0,.int .i64 0,.int .i64 0,.int .i64 0,.int .i64 0,.int .i64 0,.int .i64 0,.int .i64 0,.int .i64 0,.int .i64 0,.slice none 0 0,.slice none 0 0,.int .i64 0,.int .i64 0] 44)=wa:=⟨_,rfl⟩
  obtain ⟨wb,hwb⟩:∃ wb,wa.alloc (.cells #[.int .i64 0,.int .i64 0,.int .i64 0,.int .i64 0,.int .i64 0,.int .i64 0,.int .i64 0,.int .i64 0] 34)=wb:=⟨_,rfl⟩
  obtain ⟨k,k0,k1,k2,k3,hB,hsa,hsz⟩:=Dc (cellsS s vO vU) #[.int .u8 1,.int .u8 a,.int .u8 bb,.int .u8 cc,.int .i64 n] #[.int .i64 0,.int .i64 0,.int .i64 0,.int .i64 0,.int .i64 0,.int .i64 0,.int .i64 0,.int .i64 0,.int .i64 0,.int .i64 0,.int .i64 0,.int .i64 0,.int .i64 0,.int .i64 0,.int .i64 0,.int .i64 0,.int .i64 0,.int .i64 0,.int .i64 0,.int .i64 0,.slice none 0 0,.slice none 0 0,.int .i64 0,.int .i64 0] #[.int .i64 0,.int .i64 0,.int .i64 0,.int .i64 0,.int .i64 0,.int .i64 0,.int .i64 0,.int .i64 0] w
  rw [Dq] at k k0 k1 k2 k3 hB hsa hsz
  rw [hwb] at k0 k1 k2 k3 hB hsz
  have HV:=ae.mk hv
  rw [hG] at k k0 k1 k2 k3 hB hsa hsz
  have K0:=ae.mk k0
  have K1:=ae.mk k1
  have K2:=ae.mk k2
  have K3:=ae.mk k3
  have HB:=ae.mk hB
  have hx:=k.xs
  clear k k0 k1 k2 hB hv
  go_enter Tryd.func24,Tryd.ntmps24
  go_upto_region 2 with (first|((with_reducible refine bI (N:=9) rfl ?_);refine qx rfl 34 (.tmp 8) rfl G 0 rfl (eu s.x) _ hx Tryd.underlying34 rfl (by kernel_rfl) ?_)|(skip;refine wpList_store_row rfl 34 (.tmp 6) (.tmp 9) rfl (G+3) (eu s.x) rfl rfl 34 _ k3 (by kernel_rfl) rfl (jq _) ?_))
  clear hx hwb Dq hsa
  have M0:=ae.mk (K0.out.gJ (h:=G+3) (eu s.x) (by omega))
  have M1:=ae.mk (K1.out.gJ (h:=G+3) (eu s.x) (by omega))
  have M2:=ae.mk (K2.out.gJ (h:=G+3) (eu s.x) (by omega))
  have M3:=ae.mk (K3.out.setRow (eu s.x))
  have MB:=ae.mk (dF (g:=G+3) HB.out (by omega) (eu s.x))
  have hWs:G+4≤(wb.setRow (G+3) (eu s.x)).heap.size:=by rw [size_setRow];omega
  clear K0 K1 K2 K3 HB k3 hsz
  change Code.wp _ _ _ _ (wb.setRow (G+3) (eu s.x))
  generalize wb.setRow (G+3) (eu s.x)=W at M0 M1 M2 M3 MB hWs ⊢
  have i0:W.cell? ⟨G+1,0,none⟩=some (.int .u8 1):=M1.out.cell 0
  have i1:W.cell? ⟨G+1,1,none⟩=some (.int .u8 a):=M1.out.cell 1
  have i2:W.cell? ⟨G+1,2,none⟩=some (.int .u8 bb):=M1.out.cell 2
  have i3:W.cell? ⟨G+1,3,none⟩=some (.int .u8 cc):=M1.out.cell 3
  have i4:W.cell? ⟨G+1,4,none⟩=some (.int .i64 n):=M1.out.cell 4
  have hai:(a:Int) < 8:=by omega
  have c3:W.cell? ⟨G+3,a,none⟩=some (.int .i64 (s.x a)):=(M3.out.cell a).trans (oK s.x a ha)
  have f3:=M3.out.fr a
  go_upto_region 15 with (fail)
  clear c3 f3 i0 i1 i2 i3 i4
  have T0:=ae.mk (M0.out.far (h:=G+3) a (.int .i64 (n)) (by omega))
  have T1:=ae.mk (M1.out.far (h:=G+3) a (.int .i64 (n)) (by omega))
  have T2:=ae.mk (M2.out.far (h:=G+3) a (.int .i64 (n)) (by omega))
  have T3:=ae.mk (show Bk (W.setCell ⟨G+3,a,none⟩ (.int .i64 (n))) (G+3) (eu (upd s.x a (n))) 34 from qp s.x a ha (n) ▸ M3.out.set a (.int .i64 (n)))
  have TB:=ae.mk (MB.out.setCell (p:=⟨G+3,a,none⟩) (by show G≤G+3;omega) (.int .i64 (n)))
  change Code.wp _ _ _ _ (W.setCell ⟨G+3,a,none⟩ (.int .i64 (n)))
  generalize W.setCell ⟨G+3,a,none⟩ (.int .i64 (n))=W2 at T0 T1 T2 T3 TB ⊢
  have hl3:=T3.out
  have hth:W2.there G 0 8:=T0.out.there 0 8 (show 0+8≤24 by omega)
  go_upto_region 16 with (first|((with_reducible refine bI (N:=67) rfl ?_);refine wpList_load_row rfl 34 (.tmp 6) rfl (G+3) rfl 34 (eu (upd s.x a n)) (0,0) _ hl3 Tryd.underlying34 rfl (by kernel_rfl) ?_)|(skip;refine wpList_store_mid rfl 34 (.tmp 68) (.tmp 67) rfl G 0 (eu (upd s.x a n)) rfl rfl hth (by kernel_rfl) (jq _) ?_))
  have hs:=T0.out.yg (upd s.x a n)
  have hr:=T2.out.jr (h:=G) 0 (eu (upd s.x a n)).toList (by omega)
  have hb2:=Lib.hid (iC (eu (upd s.x a n)).toList _ G 0 TB.out (Nat.le_refl _))
  clear hl3 hth T0 T1 T2 T3 TB
  change Code.wp _ _ _ _ (W2.setCells G 0 (eu (upd s.x a n)).toList)
  generalize W2.setCells G 0 (eu (upd s.x a n)).toList=W3 at hs hr hb2 ⊢
  have hone:=HV.out.rd.one { s with x:=upd s.x a n }
  go_wp2_with (first|((with_reducible refine bI (N:=69) rfl ?_);refine wpList_load_row rfl 44 (.tmp 2) rfl G rfl 44 (cellsS { s with x:=upd s.x a n } vO vU) (0,0) _ hs Tryd.underlying44 rfl (by kernel_rfl) ?_)|(skip;refine wpList_store_row rfl 44 (.tmp 4) (.tmp 69) rfl (G+1+1) (cellsS { s with x:=upd s.x a n } vO vU) rfl rfl 44 _ hr (by kernel_rfl) rfl hone ?_))
  (try simp only [Exit.inBlock,Exit.then])
  refine bodyPost_ret (fE rfl _ _ (G+1+1) 44 _ (0,0) _ rfl (hr.setRow (cellsS { s with x:=upd s.x a n } vO vU)) Tryd.underlying44 rfl (by kernel_rfl)) rfl ?_
  have hb3:=dF (g:=G+2) hb2.out (by omega) (cellsS { s with x:=upd s.x a n } vO vU)
  exact ⟨_,_,rfl,(HV.out.below (by rw [hG];exact hb3)).as rfl rfl,by rw [hG];exact hb3⟩
set_option maxRecDepth 100000 in
set_option maxHeartbeats 3200000 in
theorem NU (s:St) (vO vU:Value) (a bb cc:Nat) (n:Int) (ha:a < 8) (hbb:bb < 8) (hcc:cc < 8) (w:World) (hv:qM s vO vU w) :
    Calls Tryd.prog 24 #[.agg (cellsS s vO vU),.agg #[.int .u8 2,.int .u8 a,.int .u8 bb,.int .u8 cc,.int .i64 n]] w fun e w'=>∃ o8 o7,e=.returned (.tuple #[.agg (cellsS { s with x:=upd s.x a (wrap64 (s.x bb+s.x cc)) } o8 o7),.bool true])∧qM { s with x:=upd s.x a (wrap64 (s.x bb+s.x cc)) } o8 o7 w'∧Below w.heap.size w w':=by
  obtain ⟨G,hG⟩:∃ G,w.heap.size=G:=⟨_,rfl⟩
  obtain ⟨wa,Dq⟩:∃ wa,((w.alloc (.cells (cellsS s vO vU) 44)).alloc (.cells #[.int .u8 2,.int .u8 a,.int .u8 bb,.int .u8 cc,.int .i64 n] 55)).alloc (.cells #[.int .i64 0,.int .i64 0,.int .i64 0,.int .i64 0,.int .i64 0,.int .i64 0,.int .i64 0,.int .i64 0,.int .i64 0,.int .i64 0,.int .i64 0,.int .i64 0,.int .i64 0,.int .i64 0,.int .i64 0,.int .i64 0,.int .i64 0,.int .i64 0,.int .i64 0,.int .i64 0,.slice none 0 0,.slice none 0 0,.int .i64 0,.int .i64 0] 44)=wa:=⟨_,rfl⟩
  obtain ⟨wb,hwb⟩:∃ wb,wa.alloc (.cells #[.int .i64 0,.int .i64 0,.int .i64 0,.int .i64 0,.int .i64 0,.int .i64 0,.int .i64 0,.int .i64 0] 34)=wb:=⟨_,rfl⟩
  obtain ⟨k,k0,k1,k2,k3,hB,hsa,hsz⟩:=Dc (cellsS s vO vU) #[.int .u8 2,.int .u8 a,.int .u8 bb,.int .u8 cc,.int .i64 n] #[.int .i64 0,.int .i64 0,.int .i64 0,.int .i64 0,.int .i64 0,.int .i64 0,.int .i64 0,.int .i64 0,.int .i64 0,.int .i64 0,.int .i64 0,.int .i64 0,.int .i64 0,.int .i64 0,.int .i64 0,.int .i64 0,.int .i64 0,.int .i64 0,.int .i64 0,.int .i64 0,.slice none 0 0,.slice none 0 0,.int .i64 0,.int .i64 0] #[.int .i64 0,.int .i64 0,.int .i64 0,.int .i64 0,.int .i64 0,.int .i64 0,.int .i64 0,.int .i64 0] w
  rw [Dq] at k k0 k1 k2 k3 hB hsa hsz
  rw [hwb] at k0 k1 k2 k3 hB hsz
  have HV:=ae.mk hv
  rw [hG] at k k0 k1 k2 k3 hB hsa hsz
  have K0:=ae.mk k0
  have K1:=ae.mk k1
  have K2:=ae.mk k2
  have K3:=ae.mk k3
  have HB:=ae.mk hB
  have hx:=k.xs
  clear k k0 k1 k2 hB hv
  go_enter Tryd.func24,Tryd.ntmps24
  go_upto_region 2 with (first|((with_reducible refine bI (N:=9) rfl ?_);refine qx rfl 34 (.tmp 8) rfl G 0 rfl (eu s.x) _ hx Tryd.underlying34 rfl (by kernel_rfl) ?_)|(skip;refine wpList_store_row rfl 34 (.tmp 6) (.tmp 9) rfl (G+3) (eu s.x) rfl rfl 34 _ k3 (by kernel_rfl) rfl (jq _) ?_))
  clear hx hwb Dq hsa
  have M0:=ae.mk (K0.out.gJ (h:=G+3) (eu s.x) (by omega))
  have M1:=ae.mk (K1.out.gJ (h:=G+3) (eu s.x) (by omega))
  have M2:=ae.mk (K2.out.gJ (h:=G+3) (eu s.x) (by omega))
  have M3:=ae.mk (K3.out.setRow (eu s.x))
  have MB:=ae.mk (dF (g:=G+3) HB.out (by omega) (eu s.x))
  have hWs:G+4≤(wb.setRow (G+3) (eu s.x)).heap.size:=by rw [size_setRow];omega
  clear K0 K1 K2 K3 HB k3 hsz
  change Code.wp _ _ _ _ (wb.setRow (G+3) (eu s.x))
  generalize wb.setRow (G+3) (eu s.x)=W at M0 M1 M2 M3 MB hWs ⊢
  have i0:W.cell? ⟨G+1,0,none⟩=some (.int .u8 2):=M1.out.cell 0
  have i1:W.cell? ⟨G+1,1,none⟩=some (.int .u8 a):=M1.out.cell 1
  have i2:W.cell? ⟨G+1,2,none⟩=some (.int .u8 bb):=M1.out.cell 2
  have i3:W.cell? ⟨G+1,3,none⟩=some (.int .u8 cc):=M1.out.cell 3
  have i4:W.cell? ⟨G+1,4,none⟩=some (.int .i64 n):=M1.out.cell 4
  have hai:(a:Int) < 8:=by omega
  have uM:(bb:Int) < 8:=by omega
  have QC:(cc:Int) < 8:=by omega
  have cbb:W.cell? ⟨G+3,bb,none⟩=some (.int .i64 (s.x bb)):=(M3.out.cell bb).trans (oK (s.x) bb hbb)
  have ccc:W.cell? ⟨G+3,cc,none⟩=some (.int .i64 (s.x cc)):=(M3.out.cell cc).trans (oK (s.x) cc hcc)
  go_wp2
  go_still_tail 12,(by kernel_rfl)
  clear cbb ccc i0 i1 i2 i3 i4
  change wpList _ _ _ _ _ W.drew
  replace M0:=ae.mk (show Bk W.drew _ _ _ from M0.out)
  replace M1:=ae.mk (show Bk W.drew _ _ _ from M1.out)
  replace M2:=ae.mk (show Bk W.drew _ _ _ from M2.out)
  replace M3:=ae.mk (show Bk W.drew _ _ _ from M3.out)
  replace MB:=ae.mk (show Below G w W.drew from ⟨MB.out.os,MB.out.tape,MB.out.output,MB.out.size,MB.out.block⟩)
  replace hWs:G+4≤W.drew.heap.size:=hWs
  generalize W.drew=W1 at M0 M1 M2 M3 MB hWs ⊢
  have ca:W1.cell? ⟨G+3,a,none⟩=some (.int .i64 (s.x a)):=(M3.out.cell a).trans (oK (s.x) a ha)
  have f3:=M3.out.fr a
  go_upto_region 15 with (fail)
  clear ca f3
  have T0:=ae.mk (M0.out.far (h:=G+3) a (.int .i64 (wrap64 (s.x bb+s.x cc))) (by omega))
  have T1:=ae.mk (M1.out.far (h:=G+3) a (.int .i64 (wrap64 (s.x bb+s.x cc))) (by omega))
  have T2:=ae.mk (M2.out.far (h:=G+3) a (.int .i64 (wrap64 (s.x bb+s.x cc))) (by omega))
  have T3:=ae.mk (show Bk (W1.setCell ⟨G+3,a,none⟩ (.int .i64 (wrap64 (s.x bb+s.x cc)))) (G+3) (eu (upd s.x a (wrap64 (s.x bb+s.x cc)))) 34 from qp s.x a ha (wrap64 (s.x bb+s.x cc)) ▸ M3.out.set a (.int .i64 (wrap64 (s.x bb+s.x cc))))
  have TB:=ae.mk (MB.out.setCell (p:=⟨G+3,a,none⟩) (by show G≤G+3;omega) (.int .i64 (wrap64 (s.x bb+s.x cc))))
  change Code.wp _ _ _ _ (W1.setCell ⟨G+3,a,none⟩ (.int .i64 (wrap64 (s.x bb+s.x cc))))
  generalize W1.setCell ⟨G+3,a,none⟩ (.int .i64 (wrap64 (s.x bb+s.x cc)))=W2 at T0 T1 T2 T3 TB ⊢
  have hl3:=T3.out
  have hth:W2.there G 0 8:=T0.out.there 0 8 (show 0+8≤24 by omega)
  go_upto_region 16 with (first|((with_reducible refine bI (N:=67) rfl ?_);refine wpList_load_row rfl 34 (.tmp 6) rfl (G+3) rfl 34 (eu (upd s.x a (wrap64 (s.x bb+s.x cc)))) (0,0) _ hl3 Tryd.underlying34 rfl (by kernel_rfl) ?_)|(skip;refine wpList_store_mid rfl 34 (.tmp 68) (.tmp 67) rfl G 0 (eu (upd s.x a (wrap64 (s.x bb+s.x cc)))) rfl rfl hth (by kernel_rfl) (jq _) ?_))
  have hs:=T0.out.yg (upd s.x a (wrap64 (s.x bb+s.x cc)))
  have hr:=T2.out.jr (h:=G) 0 (eu (upd s.x a (wrap64 (s.x bb+s.x cc)))).toList (by omega)
  have hb2:=Lib.hid (iC (eu (upd s.x a (wrap64 (s.x bb+s.x cc)))).toList _ G 0 TB.out (Nat.le_refl _))
  clear hl3 hth T0 T1 T2 T3 TB
  change Code.wp _ _ _ _ (W2.setCells G 0 (eu (upd s.x a (wrap64 (s.x bb+s.x cc)))).toList)
  generalize W2.setCells G 0 (eu (upd s.x a (wrap64 (s.x bb+s.x cc)))).toList=W3 at hs hr hb2 ⊢
  have hone:=HV.out.rd.one { s with x:=upd s.x a (wrap64 (s.x bb+s.x cc)) }
  go_wp2_with (first|((with_reducible refine bI (N:=69) rfl ?_);refine wpList_load_row rfl 44 (.tmp 2) rfl G rfl 44 (cellsS { s with x:=upd s.x a (wrap64 (s.x bb+s.x cc)) } vO vU) (0,0) _ hs Tryd.underlying44 rfl (by kernel_rfl) ?_)|(skip;refine wpList_store_row rfl 44 (.tmp 4) (.tmp 69) rfl (G+1+1) (cellsS { s with x:=upd s.x a (wrap64 (s.x bb+s.x cc)) } vO vU) rfl rfl 44 _ hr (by kernel_rfl) rfl hone ?_))
  (try simp only [Exit.inBlock,Exit.then])
  refine bodyPost_ret (fE rfl _ _ (G+1+1) 44 _ (0,0) _ rfl (hr.setRow (cellsS { s with x:=upd s.x a (wrap64 (s.x bb+s.x cc)) } vO vU)) Tryd.underlying44 rfl (by kernel_rfl)) rfl ?_
  have hb3:=dF (g:=G+2) hb2.out (by omega) (cellsS { s with x:=upd s.x a (wrap64 (s.x bb+s.x cc)) } vO vU)
  exact ⟨_,_,rfl,(HV.out.below (by rw [hG];exact hb3)).as rfl rfl,by rw [hG];exact hb3⟩
set_option maxRecDepth 100000 in
set_option maxHeartbeats 3200000 in
theorem Aw (s:St) (vO vU:Value) (a bb cc:Nat) (n:Int) (ha:a < 8) (hbb:bb < 8) (hcc:cc < 8) (hz:s.p bb=s.p cc) (w:World) (hv:qM s vO vU w) :
    Calls Tryd.prog 24 #[.agg (cellsS s vO vU),.agg #[.int .u8 15,.int .u8 a,.int .u8 bb,.int .u8 cc,.int .i64 n]] w fun e w'=>∃ o8 o7,e=.returned (.tuple #[.agg (cellsS { s with x:=upd s.x a 1 } o8 o7),.bool true])∧qM { s with x:=upd s.x a 1 } o8 o7 w'∧Below w.heap.size w w':=by
  obtain ⟨G,hG⟩:∃ G,w.heap.size=G:=⟨_,rfl⟩
  obtain ⟨wa,Dq⟩:∃ wa,((w.alloc (.cells (cellsS s vO vU) 44)).alloc (.cells #[.int .u8 15,.int .u8 a,.int .u8 bb,.int .u8 cc,.int .i64 n] 55)).alloc (.cells #[.int .i64 0,.int .i64 0,.int .i64 0,.int .i64 0,.int .i64 0,.int .i64 0,.int .i64 0,.int .i64 0,.int .i64 0,.int .i64 0,.int .i64 0,.int .i64 0,.int .i64 0,.int .i64 0,.int .i64 0,.int .i64 0,.int .i64 0,.int .i64 0,.int .i64 0,.int .i64 0,.slice none 0 0,.slice none 0 0,.int .i64 0,.int .i64 0] 44)=wa:=⟨_,rfl⟩
  obtain ⟨wb,hwb⟩:∃ wb,wa.alloc (.cells #[.int .i64 0,.int .i64 0,.int .i64 0,.int .i64 0,.int .i64 0,.int .i64 0,.int .i64 0,.int .i64 0] 34)=wb:=⟨_,rfl⟩
  obtain ⟨k,k0,k1,k2,k3,hB,hsa,hsz⟩:=Dc (cellsS s vO vU) #[.int .u8 15,.int .u8 a,.int .u8 bb,.int .u8 cc,.int .i64 n] #[.int .i64 0,.int .i64 0,.int .i64 0,.int .i64 0,.int .i64 0,.int .i64 0,.int .i64 0,.int .i64 0,.int .i64 0,.int .i64 0,.int .i64 0,.int .i64 0,.int .i64 0,.int .i64 0,.int .i64 0,.int .i64 0,.int .i64 0,.int .i64 0,.int .i64 0,.int .i64 0,.slice none 0 0,.slice none 0 0,.int .i64 0,.int .i64 0] #[.int .i64 0,.int .i64 0,.int .i64 0,.int .i64 0,.int .i64 0,.int .i64 0,.int .i64 0,.int .i64 0] w
  rw [Dq] at k k0 k1 k2 k3 hB hsa hsz
  rw [hwb] at k0 k1 k2 k3 hB hsz
  have HV:=ae.mk hv
  rw [hG] at k k0 k1 k2 k3 hB hsa hsz
  have K0:=ae.mk k0
  have K1:=ae.mk k1
  have K2:=ae.mk k2
  have K3:=ae.mk k3
  have HB:=ae.mk hB
  have hx:=k.xs
  clear k k0 k1 k2 hB hv
  go_enter Tryd.func24,Tryd.ntmps24
  go_upto_region 2 with (first|((with_reducible refine bI (N:=9) rfl ?_);refine qx rfl 34 (.tmp 8) rfl G 0 rfl (eu s.x) _ hx Tryd.underlying34 rfl (by kernel_rfl) ?_)|(skip;refine wpList_store_row rfl 34 (.tmp 6) (.tmp 9) rfl (G+3) (eu s.x) rfl rfl 34 _ k3 (by kernel_rfl) rfl (jq _) ?_))
  clear hx hwb Dq hsa
  have M0:=ae.mk (K0.out.gJ (h:=G+3) (eu s.x) (by omega))
  have M1:=ae.mk (K1.out.gJ (h:=G+3) (eu s.x) (by omega))
  have M2:=ae.mk (K2.out.gJ (h:=G+3) (eu s.x) (by omega))
  have M3:=ae.mk (K3.out.setRow (eu s.x))
  have MB:=ae.mk (dF (g:=G+3) HB.out (by omega) (eu s.x))
  have hWs:G+4≤(wb.setRow (G+3) (eu s.x)).heap.size:=by rw [size_setRow];omega
  clear K0 K1 K2 K3 HB k3 hsz
  change Code.wp _ _ _ _ (wb.setRow (G+3) (eu s.x))
  generalize wb.setRow (G+3) (eu s.x)=W at M0 M1 M2 M3 MB hWs ⊢
  have i0:W.cell? ⟨G+1,0,none⟩=some (.int .u8 15):=M1.out.cell 0
  have i1:W.cell? ⟨G+1,1,none⟩=some (.int .u8 a):=M1.out.cell 1
  have i2:W.cell? ⟨G+1,2,none⟩=some (.int .u8 bb):=M1.out.cell 2
  have i3:W.cell? ⟨G+1,3,none⟩=some (.int .u8 cc):=M1.out.cell 3
  have i4:W.cell? ⟨G+1,4,none⟩=some (.int .i64 n):=M1.out.cell 4
  have hai:(a:Int) < 8:=by omega
  have uM:(bb:Int) < 8:=by omega
  have QC:(cc:Int) < 8:=by omega
  have ca:W.cell? ⟨G+3,a,none⟩=some (.int .i64 (s.x a)):=(M3.out.cell a).trans (oK (s.x) a ha)
  have f3:=M3.out.fr a
  go_upto_region 10 with (fail)
  clear ca f3 i0 i1 i2 i3 i4
  have T0:=ae.mk (M0.out.far (h:=G+3) a (.int .i64 (0)) (by omega))
  have T1:=ae.mk (M1.out.far (h:=G+3) a (.int .i64 (0)) (by omega))
  have T2:=ae.mk (M2.out.far (h:=G+3) a (.int .i64 (0)) (by omega))
  have T3:=ae.mk (show Bk (W.setCell ⟨G+3,a,none⟩ (.int .i64 (0))) (G+3) (eu (upd s.x a (0))) 34 from qp s.x a ha (0) ▸ M3.out.set a (.int .i64 (0)))
  have TB:=ae.mk (MB.out.setCell (p:=⟨G+3,a,none⟩) (by show G≤G+3;omega) (.int .i64 (0)))
  change Code.wp _ _ _ _ (W.setCell ⟨G+3,a,none⟩ (.int .i64 (0)))
  generalize W.setCell ⟨G+3,a,none⟩ (.int .i64 (0))=W2 at T0 T1 T2 T3 TB ⊢
  have i1:W2.cell? ⟨G+1,1,none⟩=some (.int .u8 a):=T1.out.cell 1
  have i2:W2.cell? ⟨G+1,2,none⟩=some (.int .u8 bb):=T1.out.cell 2
  have i3:W2.cell? ⟨G+1,3,none⟩=some (.int .u8 cc):=T1.out.cell 3
  have p2:=T0.out.mD bb hbb
  have p3:=T0.out.mD cc hcc
  have hq:(s.p bb == s.p cc)=true:=beq_iff_eq.2 hz
  clear hz
  go_quiet (fail)
  clear p2 p3
  have M0:=ae.mk (show Bk (W2.drewN nq) _ _ _ from T0.out)
  have M1:=ae.mk (show Bk (W2.drewN nq) _ _ _ from T1.out)
  have M2:=ae.mk (show Bk (W2.drewN nq) _ _ _ from T2.out)
  have M3:=ae.mk (show Bk (W2.drewN nq) _ _ _ from T3.out)
  have MB:=ae.mk (show Below G w (W2.drewN nq) from ⟨TB.out.os,TB.out.tape,TB.out.output,TB.out.size,TB.out.block⟩)
  clear T0 T1 T2 T3 TB i1 i2 i3
  generalize W2.drewN nq=W1 at M0 M1 M2 M3 MB ⊢
  have i1:W1.cell? ⟨G+1,1,none⟩=some (.int .u8 a):=M1.out.cell 1
  have ca:W1.cell? ⟨G+3,a,none⟩=some (.int .i64 ((upd s.x a 0) a)):=(M3.out.cell a).trans (oK (upd s.x a 0) a ha)
  have f3:=M3.out.fr a
  go_upto_region 15 with (fail)
  clear ca f3 i1
  have T0:=ae.mk (M0.out.far (h:=G+3) a (.int .i64 (1)) (by omega))
  have T1:=ae.mk (M1.out.far (h:=G+3) a (.int .i64 (1)) (by omega))
  have T2:=ae.mk (M2.out.far (h:=G+3) a (.int .i64 (1)) (by omega))
  have T3:=ae.mk (show Bk (W1.setCell ⟨G+3,a,none⟩ (.int .i64 (1))) (G+3) (eu (upd (upd s.x a 0) a (1))) 34 from qp (upd s.x a 0) a ha (1) ▸ M3.out.set a (.int .i64 (1)))
  have TB:=ae.mk (MB.out.setCell (p:=⟨G+3,a,none⟩) (by show G≤G+3;omega) (.int .i64 (1)))
  change Code.wp _ _ _ _ (W1.setCell ⟨G+3,a,none⟩ (.int .i64 (1)))
  generalize W1.setCell ⟨G+3,a,none⟩ (.int .i64 (1))=W4 at T0 T1 T2 T3 TB ⊢
  replace T3:=ae.mk (show Bk W4 (G+3) (eu (upd s.x a 1)) 34 from Tm s.x a 0 1 ▸ T3.out)
  have hl3:=T3.out
  have hth:W4.there G 0 8:=T0.out.there 0 8 (show 0+8≤24 by omega)
  go_upto_region 16 with (first|((with_reducible refine bI (N:=67) rfl ?_);refine wpList_load_row rfl 34 (.tmp 6) rfl (G+3) rfl 34 (eu (upd s.x a 1)) (0,0) _ hl3 Tryd.underlying34 rfl (by kernel_rfl) ?_)|(skip;refine wpList_store_mid rfl 34 (.tmp 68) (.tmp 67) rfl G 0 (eu (upd s.x a 1)) rfl rfl hth (by kernel_rfl) (jq _) ?_))
  have hs:=T0.out.yg (upd s.x a 1)
  have hr:=T2.out.jr (h:=G) 0 (eu (upd s.x a 1)).toList (by omega)
  have hb2:=Lib.hid (iC (eu (upd s.x a 1)).toList _ G 0 TB.out (Nat.le_refl _))
  clear hl3 hth T0 T1 T2 T3 TB
  change Code.wp _ _ _ _ (W4.setCells G 0 (eu (upd s.x a 1)).toList)
  generalize W4.setCells G 0 (eu (upd s.x a 1)).toList=W3 at hs hr hb2 ⊢
  have hone:=HV.out.rd.one { s with x:=upd s.x a 1 }
  go_wp2_with (first|((with_reducible refine bI (N:=69) rfl ?_);refine wpList_load_row rfl 44 (.tmp 2) rfl G rfl 44 (cellsS { s with x:=upd s.x a 1 } vO vU) (0,0) _ hs Tryd.underlying44 rfl (by kernel_rfl) ?_)|(skip;refine wpList_store_row rfl 44 (.tmp 4) (.tmp 69) rfl (G+1+1) (cellsS { s with x:=upd s.x a 1 } vO vU) rfl rfl 44 _ hr (by kernel_rfl) rfl hone ?_))
  (try simp only [Exit.inBlock,Exit.then])
  refine bodyPost_ret (fE rfl _ _ (G+1+1) 44 _ (0,0) _ rfl (hr.setRow (cellsS { s with x:=upd s.x a 1 } vO vU)) Tryd.underlying44 rfl (by kernel_rfl)) rfl ?_
  have hb3:=dF (g:=G+2) hb2.out (by omega) (cellsS { s with x:=upd s.x a 1 } vO vU)
  exact ⟨_,_,rfl,(HV.out.below (by rw [hG];exact hb3)).as rfl rfl,by rw [hG];exact hb3⟩
set_option maxRecDepth 100000 in
set_option maxHeartbeats 3200000 in
theorem BU (s:St) (vO vU:Value) (a bb cc:Nat) (n:Int) (ha:a < 8) (hbb:bb < 8) (hcc:cc < 8) (hz:s.p bb ≠ s.p cc) (w:World) (hv:qM s vO vU w) :
    Calls Tryd.prog 24 #[.agg (cellsS s vO vU),.agg #[.int .u8 15,.int .u8 a,.int .u8 bb,.int .u8 cc,.int .i64 n]] w fun e w'=>∃ o8 o7,e=.returned (.tuple #[.agg (cellsS { s with x:=upd s.x a 0 } o8 o7),.bool true])∧qM { s with x:=upd s.x a 0 } o8 o7 w'∧Below w.heap.size w w':=by
  obtain ⟨G,hG⟩:∃ G,w.heap.size=G:=⟨_,rfl⟩
  obtain ⟨wa,Dq⟩:∃ wa,((w.alloc (.cells (cellsS s vO vU) 44)).alloc (.cells #[.int .u8 15,.int .u8 a,.int .u8 bb,.int .u8 cc,.int .i64 n] 55)).alloc (.cells #[.int .i64 0,.int .i64 0,.int .i64 0,.int .i64 0,.int .i64 0,.int .i64 0,.int .i64 0,.int .i64 0,.int .i64 0,.int .i64 0,.int .i64 0,.int .i64 0,.int .i64 0,.int .i64 0,.int .i64 0,.int .i64 0,.int .i64 0,.int .i64 0,.int .i64 0,.int .i64 0,.slice none 0 0,.slice none 0 0,.int .i64 0,.int .i64 0] 44)=wa:=⟨_,rfl⟩
  obtain ⟨wb,hwb⟩:∃ wb,wa.alloc (.cells #[.int .i64 0,.int .i64 0,.int .i64 0,.int .i64 0,.int .i64 0,.int .i64 0,.int .i64 0,.int .i64 0] 34)=wb:=⟨_,rfl⟩
  obtain ⟨k,k0,k1,k2,k3,hB,hsa,hsz⟩:=Dc (cellsS s vO vU) #[.int .u8 15,.int .u8 a,.int .u8 bb,.int .u8 cc,.int .i64 n] #[.int .i64 0,.int .i64 0,.int .i64 0,.int .i64 0,.int .i64 0,.int .i64 0,.int .i64 0,.int .i64 0,.int .i64 0,.int .i64 0,.int .i64 0,.int .i64 0,.int .i64 0,.int .i64 0,.int .i64 0,.int .i64 0,.int .i64 0,.int .i64 0,.int .i64 0,.int .i64 0,.slice none 0 0,.slice none 0 0,.int .i64 0,.int .i64 0] #[.int .i64 0,.int .i64 0,.int .i64 0,.int .i64 0,.int .i64 0,.int .i64 0,.int .i64 0,.int .i64 0] w
  rw [Dq] at k k0 k1 k2 k3 hB hsa hsz
  rw [hwb] at k0 k1 k2 k3 hB hsz
  have HV:=ae.mk hv
  rw [hG] at k k0 k1 k2 k3 hB hsa hsz
  have K0:=ae.mk k0
  have K1:=ae.mk k1
  have K2:=ae.mk k2
  have K3:=ae.mk k3
  have HB:=ae.mk hB
  have hx:=k.xs
  clear k k0 k1 k2 hB hv
  go_enter Tryd.func24,Tryd.ntmps24
  go_upto_region 2 with (first|((with_reducible refine bI (N:=9) rfl ?_);refine qx rfl 34 (.tmp 8) rfl G 0 rfl (eu s.x) _ hx Tryd.underlying34 rfl (by kernel_rfl) ?_)|(skip;refine wpList_store_row rfl 34 (.tmp 6) (.tmp 9) rfl (G+3) (eu s.x) rfl rfl 34 _ k3 (by kernel_rfl) rfl (jq _) ?_))
  clear hx hwb Dq hsa
  have M0:=ae.mk (K0.out.gJ (h:=G+3) (eu s.x) (by omega))
  have M1:=ae.mk (K1.out.gJ (h:=G+3) (eu s.x) (by omega))
  have M2:=ae.mk (K2.out.gJ (h:=G+3) (eu s.x) (by omega))
  have M3:=ae.mk (K3.out.setRow (eu s.x))
  have MB:=ae.mk (dF (g:=G+3) HB.out (by omega) (eu s.x))
  have hWs:G+4≤(wb.setRow (G+3) (eu s.x)).heap.size:=by rw [size_setRow];omega
  clear K0 K1 K2 K3 HB k3 hsz
  change Code.wp _ _ _ _ (wb.setRow (G+3) (eu s.x))
  generalize wb.setRow (G+3) (eu s.x)=W at M0 M1 M2 M3 MB hWs ⊢
  have i0:W.cell? ⟨G+1,0,none⟩=some (.int .u8 15):=M1.out.cell 0
  have i1:W.cell? ⟨G+1,1,none⟩=some (.int .u8 a):=M1.out.cell 1
  have i2:W.cell? ⟨G+1,2,none⟩=some (.int .u8 bb):=M1.out.cell 2
  have i3:W.cell? ⟨G+1,3,none⟩=some (.int .u8 cc):=M1.out.cell 3
  have i4:W.cell? ⟨G+1,4,none⟩=some (.int .i64 n):=M1.out.cell 4
  have hai:(a:Int) < 8:=by omega
  have uM:(bb:Int) < 8:=by omega
  have QC:(cc:Int) < 8:=by omega
  have ca:W.cell? ⟨G+3,a,none⟩=some (.int .i64 (s.x a)):=(M3.out.cell a).trans (oK (s.x) a ha)
  have f3:=M3.out.fr a
  go_upto_region 10 with (fail)
  clear ca f3 i0 i1 i2 i3 i4
  have T0:=ae.mk (M0.out.far (h:=G+3) a (.int .i64 (0)) (by omega))
  have T1:=ae.mk (M1.out.far (h:=G+3) a (.int .i64 (0)) (by omega))
  have T2:=ae.mk (M2.out.far (h:=G+3) a (.int .i64 (0)) (by omega))
  have T3:=ae.mk (show Bk (W.setCell ⟨G+3,a,none⟩ (.int .i64 (0))) (G+3) (eu (upd s.x a (0))) 34 from qp s.x a ha (0) ▸ M3.out.set a (.int .i64 (0)))
  have TB:=ae.mk (MB.out.setCell (p:=⟨G+3,a,none⟩) (by show G≤G+3;omega) (.int .i64 (0)))
  change Code.wp _ _ _ _ (W.setCell ⟨G+3,a,none⟩ (.int .i64 (0)))
  generalize W.setCell ⟨G+3,a,none⟩ (.int .i64 (0))=W2 at T0 T1 T2 T3 TB ⊢
  have i1:W2.cell? ⟨G+1,1,none⟩=some (.int .u8 a):=T1.out.cell 1
  have i2:W2.cell? ⟨G+1,2,none⟩=some (.int .u8 bb):=T1.out.cell 2
  have i3:W2.cell? ⟨G+1,3,none⟩=some (.int .u8 cc):=T1.out.cell 3
  have p2:=T0.out.mD bb hbb
  have p3:=T0.out.mD cc hcc
  have hq:(s.p bb == s.p cc)=false:=beq_eq_false_iff_ne.2 hz
  clear hz
  go_quiet (fail)
  clear p2 p3
  have M0:=ae.mk (show Bk (W2.drewN nq) _ _ _ from T0.out)
  have M1:=ae.mk (show Bk (W2.drewN nq) _ _ _ from T1.out)
  have M2:=ae.mk (show Bk (W2.drewN nq) _ _ _ from T2.out)
  have M3:=ae.mk (show Bk (W2.drewN nq) _ _ _ from T3.out)
  have MB:=ae.mk (show Below G w (W2.drewN nq) from ⟨TB.out.os,TB.out.tape,TB.out.output,TB.out.size,TB.out.block⟩)
  clear T0 T1 T2 T3 TB i1 i2 i3
  generalize W2.drewN nq=W1 at M0 M1 M2 M3 MB ⊢
  go_upto_region 15 with (fail)
  have T0:=M0
  have T1:=M1
  have T2:=M2
  have T3:=M3
  have TB:=MB
  clear M0 M1 M2 M3 MB
  have hl3:=T3.out
  have hth:W1.there G 0 8:=T0.out.there 0 8 (show 0+8≤24 by omega)
  go_upto_region 16 with (first|((with_reducible refine bI (N:=67) rfl ?_);refine wpList_load_row rfl 34 (.tmp 6) rfl (G+3) rfl 34 (eu (upd s.x a 0)) (0,0) _ hl3 Tryd.underlying34 rfl (by kernel_rfl) ?_)|(skip;refine wpList_store_mid rfl 34 (.tmp 68) (.tmp 67) rfl G 0 (eu (upd s.x a 0)) rfl rfl hth (by kernel_rfl) (jq _) ?_))
  have hs:=T0.out.yg (upd s.x a 0)
  have hr:=T2.out.jr (h:=G) 0 (eu (upd s.x a 0)).toList (by omega)
  have hb2:=Lib.hid (iC (eu (upd s.x a 0)).toList _ G 0 TB.out (Nat.le_refl _))
  clear hl3 hth T0 T1 T2 T3 TB
  change Code.wp _ _ _ _ (W1.setCells G 0 (eu (upd s.x a 0)).toList)
  generalize W1.setCells G 0 (eu (upd s.x a 0)).toList=W3 at hs hr hb2 ⊢
  have hone:=HV.out.rd.one { s with x:=upd s.x a 0 }
  go_wp2_with (first|((with_reducible refine bI (N:=69) rfl ?_);refine wpList_load_row rfl 44 (.tmp 2) rfl G rfl 44 (cellsS { s with x:=upd s.x a 0 } vO vU) (0,0) _ hs Tryd.underlying44 rfl (by kernel_rfl) ?_)|(skip;refine wpList_store_row rfl 44 (.tmp 4) (.tmp 69) rfl (G+1+1) (cellsS { s with x:=upd s.x a 0 } vO vU) rfl rfl 44 _ hr (by kernel_rfl) rfl hone ?_))
  (try simp only [Exit.inBlock,Exit.then])
  refine bodyPost_ret (fE rfl _ _ (G+1+1) 44 _ (0,0) _ rfl (hr.setRow (cellsS { s with x:=upd s.x a 0 } vO vU)) Tryd.underlying44 rfl (by kernel_rfl)) rfl ?_
  have hb3:=dF (g:=G+2) hb2.out (by omega) (cellsS { s with x:=upd s.x a 0 } vO vU)
  exact ⟨_,_,rfl,(HV.out.below (by rw [hG];exact hb3)).as rfl rfl,by rw [hG];exact hb3⟩
set_option maxRecDepth 100000 in
set_option maxHeartbeats 3200000 in
theorem IC (s:St) (vO vU:Value) (a bb cc:Nat) (n:Int) (ha:a < 8) (hl:s.out.length≤1000000) (w:World) (hv:qM s vO vU w) :
    Calls Tryd.prog 24 #[.agg (cellsS s vO vU),.agg #[.int .u8 14,.int .u8 a,.int .u8 bb,.int .u8 cc,.int .i64 n]] w fun e w'=>∃ o8 o7,e=.returned (.tuple #[.agg (cellsS { s with out:=s.out++[s.x a] } o8 o7),.bool true])∧qM { s with out:=s.out++[s.x a] } o8 o7 w'∧Below w.heap.size w w':=by
  obtain ⟨AU,cU,rfl,XD,hU0⟩:=hv.out
  have hU:=hU0 w (fun _ _=>rfl)
  obtain ⟨AO,cO,hsO,rfl,Ob,hlO,hHO,hEO⟩:=hv.aW
  obtain ⟨m,hm⟩:∃ m,m=(s.out++[s.x a]).length:=⟨_,rfl⟩
  have HM:=Lib.hid hm
  clear hm
  obtain ⟨G,hG⟩:∃ G,w.heap.size=G:=⟨_,rfl⟩
  obtain ⟨wa,Dq⟩:∃ wa,((w.alloc (.cells (cellsS s (.slice AO s.aW.length cO) (.slice AU s.out.length cU)) 44)).alloc (.cells #[.int .u8 14,.int .u8 a,.int .u8 bb,.int .u8 cc,.int .i64 n] 55)).alloc (.cells #[.int .i64 0,.int .i64 0,.int .i64 0,.int .i64 0,.int .i64 0,.int .i64 0,.int .i64 0,.int .i64 0,.int .i64 0,.int .i64 0,.int .i64 0,.int .i64 0,.int .i64 0,.int .i64 0,.int .i64 0,.int .i64 0,.int .i64 0,.int .i64 0,.int .i64 0,.int .i64 0,.slice none 0 0,.slice none 0 0,.int .i64 0,.int .i64 0] 44)=wa:=⟨_,rfl⟩
  obtain ⟨wb,hwb⟩:∃ wb,wa.alloc (.cells #[.int .i64 0,.int .i64 0,.int .i64 0,.int .i64 0,.int .i64 0,.int .i64 0,.int .i64 0,.int .i64 0] 34)=wb:=⟨_,rfl⟩
  obtain ⟨k,k0,k1,k2,k3,hB,hsa,hsz⟩:=Dc (cellsS s (.slice AO s.aW.length cO) (.slice AU s.out.length cU)) #[.int .u8 14,.int .u8 a,.int .u8 bb,.int .u8 cc,.int .i64 n] #[.int .i64 0,.int .i64 0,.int .i64 0,.int .i64 0,.int .i64 0,.int .i64 0,.int .i64 0,.int .i64 0,.int .i64 0,.int .i64 0,.int .i64 0,.int .i64 0,.int .i64 0,.int .i64 0,.int .i64 0,.int .i64 0,.int .i64 0,.int .i64 0,.int .i64 0,.int .i64 0,.slice none 0 0,.slice none 0 0,.int .i64 0,.int .i64 0] #[.int .i64 0,.int .i64 0,.int .i64 0,.int .i64 0,.int .i64 0,.int .i64 0,.int .i64 0,.int .i64 0] w
  rw [Dq] at k k0 k1 k2 k3 hB hsa hsz
  rw [hwb] at k0 k1 k2 k3 hB hsz
  have HV:=ae.mk hv
  rw [hG] at k k0 k1 k2 k3 hB hsa hsz
  have K0:=ae.mk k0
  have K1:=ae.mk k1
  have K2:=ae.mk k2
  have K3:=ae.mk k3
  have HB:=ae.mk hB
  have hx:=k.xs
  clear k k0 k1 k2 hB hv
  go_enter Tryd.func24,Tryd.ntmps24
  go_upto_region 2 with (first|((with_reducible refine bI (N:=9) rfl ?_);refine qx rfl 34 (.tmp 8) rfl G 0 rfl (eu s.x) _ hx Tryd.underlying34 rfl (by kernel_rfl) ?_)|(skip;refine wpList_store_row rfl 34 (.tmp 6) (.tmp 9) rfl (G+3) (eu s.x) rfl rfl 34 _ k3 (by kernel_rfl) rfl (jq _) ?_))
  clear hx hwb Dq hsa
  have M0:=ae.mk (K0.out.gJ (h:=G+3) (eu s.x) (by omega))
  have M1:=ae.mk (K1.out.gJ (h:=G+3) (eu s.x) (by omega))
  have M2:=ae.mk (K2.out.gJ (h:=G+3) (eu s.x) (by omega))
  have M3:=ae.mk (K3.out.setRow (eu s.x))
  have MB:=ae.mk (dF (g:=G+3) HB.out (by omega) (eu s.x))
  have hWs:G+4≤(wb.setRow (G+3) (eu s.x)).heap.size:=by rw [size_setRow];omega
  clear K0 K1 K2 K3 HB k3 hsz
  change Code.wp _ _ _ _ (wb.setRow (G+3) (eu s.x))
  generalize wb.setRow (G+3) (eu s.x)=W at M0 M1 M2 M3 MB hWs ⊢
  have i0:W.cell? ⟨G+1,0,none⟩=some (.int .u8 14):=M1.out.cell 0
  have i1:W.cell? ⟨G+1,1,none⟩=some (.int .u8 a):=M1.out.cell 1
  have i2:W.cell? ⟨G+1,2,none⟩=some (.int .u8 bb):=M1.out.cell 2
  have i3:W.cell? ⟨G+1,3,none⟩=some (.int .u8 cc):=M1.out.cell 3
  have i4:W.cell? ⟨G+1,4,none⟩=some (.int .i64 n):=M1.out.cell 4
  have hai:(a:Int) < 8:=by omega
  have ca:W.cell? ⟨G+3,a,none⟩=some (.int .i64 (s.x a)):=(M3.out.cell a).trans (oK (s.x) a ha)
  have c21:(W.alloc (.cells #[] 2)).cell? ⟨G,21,none⟩=some (.slice AU s.out.length cU):=(M0.out.alloc _).cell 21
  have HO:=ae.mk (zX (Kd.int .i64) 2 W G (fun _=>True) (by omega) trivial)
  have HBe:=ae.mk (MB.out.alloc (show G≤W.heap.size by omega) (.cells #[] 2))
  have HC:=ae.mk (Kd.bP (Kd.bJ hU (by rw [hG];exact MB.out)) (.cells #[] 2))
  clear hU hU0 hHO hEO
  go_upto_region 14 with ((with_reducible refine nV (b:=.append) (xs:=#[.tmp 55,.tmp 57]) rfl ?_);at_builtin;refine Kd.qo (Kd.int .i64) (w0:=w) G rfl (.tmp 55) (.tmp 57) 28 2 (.int .i64 0) 8 rfl Tryd.underlying28 Dp rfl (by decide) (by omega) _ [] s.out _ _ _ (fun _=>True) (fun _=>False) rfl rfl HO.out HC.out (fun _ _ h=>h) (fun _ h=>h.elim) (fun _ _=>trivial) HBe.out (by simp;omega) (by simp;omega) ?_;intro v1 w1 hR1 hB1 hg1 xN;have HR1:=Lib.hid hR1;have HB1:=Lib.hid hB1;have HG1:=Lib.hid hg1;have HT1:=Lib.hid xN;clear hR1 hB1 hg1 xN)
  have hown:∀ k,k < W.heap.size→some k ≠ v1.ownBlock:=fun k hk he=>by
    rcases HT1.out with q|⟨q,q1,q2⟩
    · rw [q] at he
      have h1:k=W.heap.size:=Option.some.inj he
      omega
    · rw [q1] at he
      simp at he q2
      omega
  have kp:∀ k,k < W.heap.size→w1.heap[k]? = W.heap[k]?:=fun k hk=>(HG1.out.block k (by simp;omega) (fun he=>by have h1:k=W.heap.size:=Option.some.inj he;omega)).trans (Below.heap_alloc _ _ _ hk)
  have hsz1:W.heap.size≤w1.heap.size:=by
    have:=HG1.out.size
    simp at this
    omega
  replace M0:=ae.mk (M0.out.of (kp _ M0.out.lt))
  replace M1:=ae.mk (M1.out.of (kp _ M1.out.lt))
  replace M2:=ae.mk (M2.out.of (kp _ M2.out.lt))
  replace M3:=ae.mk (M3.out.of (kp _ M3.out.lt))
  have HOWN:=Lib.hid hown
  have aqY:G+4≤w1.heap.size:=by omega
  have adr:(Kd.int .i64).R 2 w1 G (fun _=>True) v1 s.out:=by have q:=HR1.out;simpa using q
  have RJ:=Lib.hid adr
  clear adr HR1 hown kp HO HBe HC c21 ca i0 i1 i2 i3 i4
  have i1:w1.cell? ⟨G+1,1,none⟩=some (.int .u8 a):=M1.out.cell 1
  have ca:w1.cell? ⟨G+3,a,none⟩=some (.int .i64 (s.x a)):=(M3.out.cell a).trans (oK (s.x) a ha)
  have hlim:(s.out.length+1) * 8≤140737488355328:=by omega
  go_upto_region 15 with ((with_reducible refine nV (b:=.append) (xs:=#[.tmp 59,.tmp 64]) rfl ?_);at_builtin;refine Kd.Ha (Kd.int .i64) (w0:=w) G rfl (.tmp 59) (.tmp 64) 28 2 (.int .i64 0) 8 rfl Tryd.underlying28 Dp rfl (by decide) (by omega) v1 s.out (s.x a) [.int .i64 (s.x a)] (fun _=>True) (fun _=>False) rfl rfl rfl (fun _ h=>h.elim) (fun _ _=>trivial) RJ.out HB1.out (by omega) hlim ?_;intro v2 w2 hR2 hB2 hg2 aal;obtain ⟨A2,c2,e2⟩:=Kd.jR hR2;rw [← HM.out] at e2;subst e2;have HR2:=Lib.hid hR2;have HB2:=Lib.hid hB2;have HG2:=Lib.hid hg2;have d21:w2.cell? ⟨G,21,none⟩=some (.slice AU s.out.length cU):=(M0.out.of (hg2.block G M0.out.lt (HOWN.out G (by omega)))).cell 21;have f21:w2.frozen? ⟨G,21,none⟩=false:=(M0.out.of (hg2.block G M0.out.lt (HOWN.out G (by omega)))).fr 21;clear hR2 hB2 hg2 aal)
  have kp:∀ k,k < W.heap.size→w2.heap[k]? = w1.heap[k]?:=fun k hk=>HG2.out.block k (by omega) (HOWN.out k hk)
  have T0:=ae.mk (show Bk _ G (cellsS { s with out:=s.out++[s.x a] } (.slice AO s.aW.length cO) (.slice A2 m c2)) 44 from (M0.out.of (kp G (by omega))).set 21 (.slice A2 m c2))
  have T1:=ae.mk ((M1.out.of (kp (G+1) (by omega))).far (h:=G) 21 (.slice A2 m c2) (by omega))
  have T2:=ae.mk ((M2.out.of (kp (G+2) (by omega))).far (h:=G) 21 (.slice A2 m c2) (by omega))
  have T3:=ae.mk ((M3.out.of (kp (G+3) (by omega))).far (h:=G) 21 (.slice A2 m c2) (by omega))
  have TB:=ae.mk (HB2.out.setCell (p:=⟨G,21,none⟩) (Nat.le_refl G) (.slice A2 m c2))
  have TR:=ae.mk (Kd.kL (w1:=w2.setCell ⟨G,21,none⟩ (.slice A2 m c2)) (Kd.kS (Kd.rU (Kd.rU HR2.out (M0.out.of (kp G (by omega))) (by intro q hq;simp [Kd.int,Kd.scalar] at hq;omega)) (M2.out.of (kp (G+2) (by omega))) (by intro q hq;simp [Kd.int,Kd.scalar] at hq;omega)) (ok':=fun k=>k ≠ G∧k ≠ G+2) (fun k hk=>⟨hk.1.2,hk.2⟩)) (fun k hk _=>Below.heap_setCell w2 ⟨G,21,none⟩ _ k hk.1))
  clear M0 M1 M2 M3 kp d21 f21 i1 ca HR2 RJ
  change Code.wp _ _ _ _ (w2.setCell ⟨G,21,none⟩ (.slice A2 m c2))
  generalize w2.setCell ⟨G,21,none⟩ (.slice A2 m c2)=W2 at T0 T1 T2 T3 TB TR ⊢
  have hl3:=T3.out
  have hth:W2.there G 0 8:=T0.out.there 0 8 (show 0+8≤24 by omega)
  go_upto_region 16 with (first|((with_reducible refine bI (N:=67) rfl ?_);refine wpList_load_row rfl 34 (.tmp 6) rfl (G+3) rfl 34 (eu (s.x)) (0,0) _ hl3 Tryd.underlying34 rfl (by kernel_rfl) ?_)|(skip;refine wpList_store_mid rfl 34 (.tmp 68) (.tmp 67) rfl G 0 (eu (s.x)) rfl rfl hth (by kernel_rfl) (jq _) ?_))
  have hs:=T0.out.yg (s.x)
  have hr:=T2.out.jr (h:=G) 0 (eu (s.x)).toList (by omega)
  have hb2:=Lib.hid (iC (eu (s.x)).toList _ G 0 TB.out (Nat.le_refl _))
  have aa6:=Kd.kL (w1:=W2.setCells G 0 (eu (s.x)).toList) TR.out (fun k hk _=>mi _ W2 0 hk.1)
  clear hl3 hth TR T0 T1 T2 T3 TB
  change Code.wp _ _ _ _ (W2.setCells G 0 (eu (s.x)).toList)
  generalize W2.setCells G 0 (eu (s.x)).toList=W3 at hs hr hb2 aa6 ⊢
  have HR3:=Lib.hid aa6
  clear aa6
  have hone:(cellsS { s with out:=s.out++[s.x a] } (.slice AO s.aW.length cO) (.slice A2 m c2)).all (·.oneCell')=true:=by simp [cellsS,Value.oneCell']
  go_wp2_with (first|((with_reducible refine bI (N:=69) rfl ?_);refine wpList_load_row rfl 44 (.tmp 2) rfl G rfl 44 (cellsS { s with out:=s.out++[s.x a] } (.slice AO s.aW.length cO) (.slice A2 m c2)) (0,0) _ hs Tryd.underlying44 rfl (by kernel_rfl) ?_)|(skip;refine wpList_store_row rfl 44 (.tmp 4) (.tmp 69) rfl (G+1+1) (cellsS { s with out:=s.out++[s.x a] } (.slice AO s.aW.length cO) (.slice A2 m c2)) rfl rfl 44 _ hr (by kernel_rfl) rfl hone ?_))
  (try simp only [Exit.inBlock,Exit.then])
  refine bodyPost_ret (fE rfl _ _ (G+1+1) 44 _ (0,0) _ rfl (hr.setRow (cellsS { s with out:=s.out++[s.x a] } (.slice AO s.aW.length cO) (.slice A2 m c2))) Tryd.underlying44 rfl (by kernel_rfl)) rfl ?_
  have hb3:=dF (g:=G+2) hb2.out (by omega) (cellsS { s with out:=s.out++[s.x a] } (.slice AO s.aW.length cO) (.slice A2 m c2))
  have Gq:Below w.heap.size w (W3.setRow (G+1+1) (cellsS { s with out:=s.out++[s.x a] } (.slice AO s.aW.length cO) (.slice A2 m c2))):=by rw [hG];exact hb3
  refine ⟨_,_,rfl,⟨(HV.out.below Gq).aW,A2,c2,by show Value.slice A2 m c2=.slice A2 (s.out++[s.x a]).length c2;rw [← HM.out],?_,fun wF hF=>?_⟩,by first|exact hb3|(rw [hG];exact hb3)⟩
  · show (s.out++[s.x a]).length≤c2
    rw [← HM.out]
    exact (Kd.dW HR3.out).2.1
  · have hR4:=Kd.kS (Kd.kL (w1:=W3.setRow (G+1+1) (cellsS { s with out:=s.out++[s.x a] } (.slice AO s.aW.length cO) (.slice A2 m c2))) HR3.out (fun k hk _=>jV _ k hk.2)) (ok':=fun _=>True) (fun _ _=>trivial)
    exact (Kd.dW (uY (wF:=wF) hR4 rfl (by decide) (fun k _ hn=>hF k hn))).2.2
set_option maxRecDepth 100000 in
set_option maxHeartbeats 3200000 in
theorem Eb (s:St) (vO vU:Value) (op a bb cc:Nat) (n:Int) (h1:op ≠ 1) (h2:op ≠ 2) (h15:op ≠ 15) (h14:op ≠ 14) (w:World) (hv:qM s vO vU w) :
    Calls Tryd.prog 24 #[.agg (cellsS s vO vU),.agg #[.int .u8 op,.int .u8 a,.int .u8 bb,.int .u8 cc,.int .i64 n]] w fun e w'=>∃ o8 o7,e=.returned (.tuple #[.agg (cellsS s o8 o7),.bool false])∧qM s o8 o7 w'∧Below w.heap.size w w':=by
  obtain ⟨G,hG⟩:∃ G,w.heap.size=G:=⟨_,rfl⟩
  obtain ⟨wa,Dq⟩:∃ wa,((w.alloc (.cells (cellsS s vO vU) 44)).alloc (.cells #[.int .u8 op,.int .u8 a,.int .u8 bb,.int .u8 cc,.int .i64 n] 55)).alloc (.cells #[.int .i64 0,.int .i64 0,.int .i64 0,.int .i64 0,.int .i64 0,.int .i64 0,.int .i64 0,.int .i64 0,.int .i64 0,.int .i64 0,.int .i64 0,.int .i64 0,.int .i64 0,.int .i64 0,.int .i64 0,.int .i64 0,.int .i64 0,.int .i64 0,.int .i64 0,.int .i64 0,.slice none 0 0,.slice none 0 0,.int .i64 0,.int .i64 0] 44)=wa:=⟨_,rfl⟩
  obtain ⟨wb,hwb⟩:∃ wb,wa.alloc (.cells #[.int .i64 0,.int .i64 0,.int .i64 0,.int .i64 0,.int .i64 0,.int .i64 0,.int .i64 0,.int .i64 0] 34)=wb:=⟨_,rfl⟩
  obtain ⟨k,k0,k1,k2,k3,hB,hsa,hsz⟩:=Dc (cellsS s vO vU) #[.int .u8 op,.int .u8 a,.int .u8 bb,.int .u8 cc,.int .i64 n] #[.int .i64 0,.int .i64 0,.int .i64 0,.int .i64 0,.int .i64 0,.int .i64 0,.int .i64 0,.int .i64 0,.int .i64 0,.int .i64 0,.int .i64 0,.int .i64 0,.int .i64 0,.int .i64 0,.int .i64 0,.int .i64 0,.int .i64 0,.int .i64 0,.int .i64 0,.int .i64 0,.slice none 0 0,.slice none 0 0,.int .i64 0,.int .i64 0] #[.int .i64 0,.int .i64 0,.int .i64 0,.int .i64 0,.int .i64 0,.int .i64 0,.int .i64 0,.int .i64 0] w
  rw [Dq] at k k0 k1 k2 k3 hB hsa hsz
  rw [hwb] at k0 k1 k2 k3 hB hsz
  have HV:=ae.mk hv
  rw [hG] at k k0 k1 k2 k3 hB hsa hsz
  have K0:=ae.mk k0
  have K1:=ae.mk k1
  have K2:=ae.mk k2
  have K3:=ae.mk k3
  have HB:=ae.mk hB
  have hx:=k.xs
  clear k k0 k1 k2 hB hv
  go_enter Tryd.func24,Tryd.ntmps24
  go_upto_region 2 with (first|((with_reducible refine bI (N:=9) rfl ?_);refine qx rfl 34 (.tmp 8) rfl G 0 rfl (eu s.x) _ hx Tryd.underlying34 rfl (by kernel_rfl) ?_)|(skip;refine wpList_store_row rfl 34 (.tmp 6) (.tmp 9) rfl (G+3) (eu s.x) rfl rfl 34 _ k3 (by kernel_rfl) rfl (jq _) ?_))
  clear hx hwb Dq hsa
  have M0:=ae.mk (K0.out.gJ (h:=G+3) (eu s.x) (by omega))
  have M1:=ae.mk (K1.out.gJ (h:=G+3) (eu s.x) (by omega))
  have M2:=ae.mk (K2.out.gJ (h:=G+3) (eu s.x) (by omega))
  have M3:=ae.mk (K3.out.setRow (eu s.x))
  have MB:=ae.mk (dF (g:=G+3) HB.out (by omega) (eu s.x))
  have hWs:G+4≤(wb.setRow (G+3) (eu s.x)).heap.size:=by rw [size_setRow];omega
  clear K0 K1 K2 K3 HB k3 hsz
  change Code.wp _ _ _ _ (wb.setRow (G+3) (eu s.x))
  generalize wb.setRow (G+3) (eu s.x)=W at M0 M1 M2 M3 MB hWs ⊢
  have i0:W.cell? ⟨G+1,0,none⟩=some (.int .u8 op):=M1.out.cell 0
  have i1:W.cell? ⟨G+1,1,none⟩=some (.int .u8 a):=M1.out.cell 1
  have i2:W.cell? ⟨G+1,2,none⟩=some (.int .u8 bb):=M1.out.cell 2
  have i3:W.cell? ⟨G+1,3,none⟩=some (.int .u8 cc):=M1.out.cell 3
  have i4:W.cell? ⟨G+1,4,none⟩=some (.int .i64 n):=M1.out.cell 4
  have d1:((op:Int) == 1)=false:=beq_eq_false_iff_ne.2 (by omega)
  have d2:((op:Int) == 2)=false:=beq_eq_false_iff_ne.2 (by omega)
  have d3:((op:Int) == 15)=false:=beq_eq_false_iff_ne.2 (by omega)
  have d4:((op:Int) == 14)=false:=beq_eq_false_iff_ne.2 (by omega)
  clear h1 h2 h15 h14
  go_upto_region 3 with (fail)
  clear i0 i1 i2 i3 i4
  have hs:=M0.out
  have hr:=M2.out
  have hone:=HV.out.rd.one s
  go_wp2_with (first|((with_reducible refine bI (N:=12) rfl ?_);refine wpList_load_row rfl 44 (.tmp 2) rfl G rfl 44 (cellsS s vO vU) (0,0) _ hs Tryd.underlying44 rfl (by kernel_rfl) ?_)|(skip;refine wpList_store_row rfl 44 (.tmp 4) (.tmp 12) rfl (G+1+1) (cellsS s vO vU) rfl rfl 44 _ hr (by kernel_rfl) rfl hone ?_))
  (try simp only [Exit.inBlock,Exit.then])
  refine bodyPost_ret (fE rfl _ _ (G+1+1) 44 _ (0,0) _ rfl (hr.setRow (cellsS s vO vU)) Tryd.underlying44 rfl (by kernel_rfl)) rfl ?_
  have hb3:=dF (g:=G+2) MB.out (by omega) (cellsS s vO vU)
  exact ⟨_,_,rfl,(HV.out.below (by rw [hG];exact hb3)).as rfl rfl,by rw [hG];exact hb3⟩
end Go.Proofs.YtlemecdddhdagaaDoor.P
end
