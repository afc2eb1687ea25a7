/- Parts of the proof of ModelRight: what the functions that it reaches compute, and plain facts about that. -/
import Derived.ChangeKeysEq
import Derived.Test.YtlemecdddhdagaaDoorVak
import Derived.Test.YtlemecdddhdagaaDoorVal
import Derived.Deep.MidRow
import Derived.Test.YtlemecdddhdagaaDoorVap
import Derived.Test.YtlemecdddhdagaaDoorVaq
set_option linter.unusedVariables false
set_option linter.unusedSimpArgs false
section
namespace Go.Proofs.YtlemecdddhdagaaDoor.P
open Go.RowKit Go.Proofs.ag.bI Go.Proofs.ag.dM Go.Proofs.ag.dZ
attribute [local go_sem ↓] Go.wp_at_zero Go.wp_at_succ
theorem GU (w:World) (d:Nat) (e:TypeId) (xs:Array Value) (he:Tryd.prog.underlying e=some (.int .i64)) (hsz:Tryd.prog.cellsOf e=1) (hp:Tryd.prog.plainKey e=true):∀ is:List Nat,(∀ j ∈ is,∃ n,xs[j]? = some (.int .i64 n))→(Op.eqItems (d+1) e (Tryd.prog.cellsOf e) xs xs is).run Tryd.prog w=.ok true w:=by
  intro is
  induction is with
  | nil=>intro _;simp [Op.eqItems]
  | cons j is ih =>
    intro h
    obtain ⟨n,hn⟩:=h j (by simp)
    have hq:(part e xs (j * Tryd.prog.cellsOf e)).run Tryd.prog w=.ok (.int .i64 n) w:=run_part_plain w hp (by rw [hsz,Nat.mul_one];exact hn)
    have he1:(Op.equalIn (d+1) e (.int .i64 n) (.int .i64 n)).run Tryd.prog w=.ok true w:=by
      simp [Op.equalIn,run_underlying he]
    simp only [Op.eqItems,Sem.run_bind,hq,he1,Result.andThen_ok]
    simpa using ih (fun j hj=>h j (by simp [hj]))
theorem zK (t:TypeId) (n:Nat) (e:TypeId) (i:TypeInfo) (hu:Tryd.prog.underlying t=some (.array n e)) (hi:Tryd.prog.info? e=some i) (he:Tryd.prog.underlying e=some (.int .i64)) (hsz:Tryd.prog.cellsOf e=1) (hp:Tryd.prog.plainKey e=true) (xs:Array Value) (h:∀ j,j < n→∃ m,xs[j]? = some (.int .i64 m)) (w:World) :
    (binOp .neq t (.agg xs) (.agg xs)).run Tryd.prog w=.ok (.bool false) w:=by
  rw [run_neq_struct,run_equalIn_array w 9999 xs xs hu hi,GU w 9998 e xs he hsz hp _ (fun j hj=>h j (List.mem_range.1 hj))]
  rfl
theorem IX (l:List Int) (hl:l.length≤1000000):∃ k,dh.f k l l=some true:=by
  have loop:∀ d i:Nat,i+d=l.length→dh.l0 (d+1) l l i=some true:=fun d=>by
    induction d with
    | zero =>
      intro i hi
      simp only [dh.l0]
      rw [if_neg (by omega)]
    | succ d ih =>
      intro i hi
      rw [dh.l0,if_pos (by omega),if_pos (by omega),if_pos (by omega),if_pos rfl,show wrap64 ((i:Int)+1)=((i+1:Nat):Int) by unfold wrap64;omega]
      exact ih (i+1) (by omega)
  exact ⟨l.length+1,by unfold dh.f;rw [if_pos rfl];exact loop l.length 0 (by omega)⟩
set_option maxRecDepth 100000 in
set_option maxHeartbeats 6400000 in
theorem zI (s:St) (AO AU AP AV:Option Addr) (cO cU cP cV:Nat) (w:World) (hO:Kd.C wG w AO s.bM.length s.bM) (hU:Kd.C (Kd.int .i64) w AU s.out.length s.out) (hcU:s.out.length≤cU) (hP:Kd.C wG w AP s.bM.length s.bM) (hV:Kd.C (Kd.int .i64) w AV s.out.length s.out) (hcV:s.out.length≤cV) (hsm:Small s) :
    Calls Tryd.prog 15 #[.agg (cellsS s (.slice AO s.bM.length cO) (.slice AU s.out.length cU)),.agg (cellsS s (.slice AP s.bM.length cP) (.slice AV s.out.length cV))] w fun e w'=>e=.returned (.bool true)∧Below w.heap.size w w':=by
  obtain ⟨kn,hkn⟩:=IX s.out hsm.out
  obtain ⟨G,hG⟩:∃ G,w.heap.size=G:=⟨_,rfl⟩
  obtain ⟨wb,hwb⟩:∃ wb,(w.alloc (.cells (cellsS s (.slice AO s.bM.length cO) (.slice AU s.out.length cU)) 44)).alloc (.cells (cellsS s (.slice AP s.bM.length cP) (.slice AV s.out.length cV)) 44)=wb:=⟨_,rfl⟩
  have hB:Below w.heap.size w wb:=by rw [← hwb];exact ((Below.refl _ w).alloc (Nat.le_refl _) _).alloc (by simp) _
  have hb0:wb.heap[G]? = some (.cells (cellsS s (.slice AO s.bM.length cO) (.slice AU s.out.length cU)) 44 (0,0)):=by
    rw [← hwb,← hG,Below.heap_alloc _ _ _ (by simp)]
    exact heap_alloc_new w _
  have hb1:wb.heap[G+1]? = some (.cells (cellsS s (.slice AP s.bM.length cP) (.slice AV s.out.length cV)) 44 (0,0)):=by
    have:=heap_alloc_new (w.alloc (.cells (cellsS s (.slice AO s.bM.length cO) (.slice AU s.out.length cU)) 44)) (.cells (cellsS s (.slice AP s.bM.length cP) (.slice AV s.out.length cV)) 44)
    rw [← hwb,← hG]
    simpa using this
  have a0:wb.cell? ⟨G,0,none⟩=some (.int .i64 (s.x 0)):=by simp [World.cell?,hb0,cellsS]
  have a1:wb.cell? ⟨G,1,none⟩=some (.int .i64 (s.x 1)):=by simp [World.cell?,hb0,cellsS]
  have a2:wb.cell? ⟨G,2,none⟩=some (.int .i64 (s.x 2)):=by simp [World.cell?,hb0,cellsS]
  have a3:wb.cell? ⟨G,3,none⟩=some (.int .i64 (s.x 3)):=by simp [World.cell?,hb0,cellsS]
  have a4:wb.cell? ⟨G,4,none⟩=some (.int .i64 (s.x 4)):=by simp [World.cell?,hb0,cellsS]
  have a5:wb.cell? ⟨G,5,none⟩=some (.int .i64 (s.x 5)):=by simp [World.cell?,hb0,cellsS]
  have a6:wb.cell? ⟨G,6,none⟩=some (.int .i64 (s.x 6)):=by simp [World.cell?,hb0,cellsS]
  have a7:wb.cell? ⟨G,7,none⟩=some (.int .i64 (s.x 7)):=by simp [World.cell?,hb0,cellsS]
  have a8:wb.cell? ⟨G,8,none⟩=some (.int .i64 (s.p 0)):=by simp [World.cell?,hb0,cellsS]
  have a9:wb.cell? ⟨G,9,none⟩=some (.int .i64 (s.p 1)):=by simp [World.cell?,hb0,cellsS]
  have a10:wb.cell? ⟨G,10,none⟩=some (.int .i64 (s.p 2)):=by simp [World.cell?,hb0,cellsS]
  have a11:wb.cell? ⟨G,11,none⟩=some (.int .i64 (s.p 3)):=by simp [World.cell?,hb0,cellsS]
  have a12:wb.cell? ⟨G,12,none⟩=some (.int .i64 (s.p 4)):=by simp [World.cell?,hb0,cellsS]
  have a13:wb.cell? ⟨G,13,none⟩=some (.int .i64 (s.p 5)):=by simp [World.cell?,hb0,cellsS]
  have a14:wb.cell? ⟨G,14,none⟩=some (.int .i64 (s.p 6)):=by simp [World.cell?,hb0,cellsS]
  have a15:wb.cell? ⟨G,15,none⟩=some (.int .i64 (s.p 7)):=by simp [World.cell?,hb0,cellsS]
  have a16:wb.cell? ⟨G,16,none⟩=some (.int .i64 (s.g 0)):=by simp [World.cell?,hb0,cellsS]
  have a17:wb.cell? ⟨G,17,none⟩=some (.int .i64 (s.g 1)):=by simp [World.cell?,hb0,cellsS]
  have a18:wb.cell? ⟨G,18,none⟩=some (.int .i64 (s.g 2)):=by simp [World.cell?,hb0,cellsS]
  have a19:wb.cell? ⟨G,19,none⟩=some (.int .i64 (s.g 3)):=by simp [World.cell?,hb0,cellsS]
  have a20:wb.cell? ⟨G,20,none⟩=some (.slice AO s.bM.length cO):=by simp [World.cell?,hb0,cellsS]
  have a21:wb.cell? ⟨G,21,none⟩=some (.slice AU s.out.length cU):=by simp [World.cell?,hb0,cellsS]
  have a22:wb.cell? ⟨G,22,none⟩=some (.int .i64 s.pc):=by simp [World.cell?,hb0,cellsS]
  have a23:wb.cell? ⟨G,23,none⟩=some (.int .i64 s.steps):=by simp [World.cell?,hb0,cellsS]
  have b0:wb.cell? ⟨G+1,0,none⟩=some (.int .i64 (s.x 0)):=by simp [World.cell?,hb1,cellsS]
  have b1:wb.cell? ⟨G+1,1,none⟩=some (.int .i64 (s.x 1)):=by simp [World.cell?,hb1,cellsS]
  have b2:wb.cell? ⟨G+1,2,none⟩=some (.int .i64 (s.x 2)):=by simp [World.cell?,hb1,cellsS]
  have b3:wb.cell? ⟨G+1,3,none⟩=some (.int .i64 (s.x 3)):=by simp [World.cell?,hb1,cellsS]
  have b4:wb.cell? ⟨G+1,4,none⟩=some (.int .i64 (s.x 4)):=by simp [World.cell?,hb1,cellsS]
  have b5:wb.cell? ⟨G+1,5,none⟩=some (.int .i64 (s.x 5)):=by simp [World.cell?,hb1,cellsS]
  have b6:wb.cell? ⟨G+1,6,none⟩=some (.int .i64 (s.x 6)):=by simp [World.cell?,hb1,cellsS]
  have b7:wb.cell? ⟨G+1,7,none⟩=some (.int .i64 (s.x 7)):=by simp [World.cell?,hb1,cellsS]
  have b8:wb.cell? ⟨G+1,8,none⟩=some (.int .i64 (s.p 0)):=by simp [World.cell?,hb1,cellsS]
  have b9:wb.cell? ⟨G+1,9,none⟩=some (.int .i64 (s.p 1)):=by simp [World.cell?,hb1,cellsS]
  have b10:wb.cell? ⟨G+1,10,none⟩=some (.int .i64 (s.p 2)):=by simp [World.cell?,hb1,cellsS]
  have b11:wb.cell? ⟨G+1,11,none⟩=some (.int .i64 (s.p 3)):=by simp [World.cell?,hb1,cellsS]
  have b12:wb.cell? ⟨G+1,12,none⟩=some (.int .i64 (s.p 4)):=by simp [World.cell?,hb1,cellsS]
  have b13:wb.cell? ⟨G+1,13,none⟩=some (.int .i64 (s.p 5)):=by simp [World.cell?,hb1,cellsS]
  have b14:wb.cell? ⟨G+1,14,none⟩=some (.int .i64 (s.p 6)):=by simp [World.cell?,hb1,cellsS]
  have b15:wb.cell? ⟨G+1,15,none⟩=some (.int .i64 (s.p 7)):=by simp [World.cell?,hb1,cellsS]
  have b16:wb.cell? ⟨G+1,16,none⟩=some (.int .i64 (s.g 0)):=by simp [World.cell?,hb1,cellsS]
  have b17:wb.cell? ⟨G+1,17,none⟩=some (.int .i64 (s.g 1)):=by simp [World.cell?,hb1,cellsS]
  have b18:wb.cell? ⟨G+1,18,none⟩=some (.int .i64 (s.g 2)):=by simp [World.cell?,hb1,cellsS]
  have b19:wb.cell? ⟨G+1,19,none⟩=some (.int .i64 (s.g 3)):=by simp [World.cell?,hb1,cellsS]
  have b20:wb.cell? ⟨G+1,20,none⟩=some (.slice AP s.bM.length cP):=by simp [World.cell?,hb1,cellsS]
  have b21:wb.cell? ⟨G+1,21,none⟩=some (.slice AV s.out.length cV):=by simp [World.cell?,hb1,cellsS]
  have b22:wb.cell? ⟨G+1,22,none⟩=some (.int .i64 s.pc):=by simp [World.cell?,hb1,cellsS]
  have b23:wb.cell? ⟨G+1,23,none⟩=some (.int .i64 s.steps):=by simp [World.cell?,hb1,cellsS]
  have HO:=ae.mk (Kd.bK hO hB)
  have HU:=ae.mk (Kd.bK hU hB)
  have HP:=ae.mk (Kd.bK hP hB)
  have HV:=ae.mk (Kd.bK hV hB)
  have HB:=ae.mk hB
  have HKN:=ae.mk hkn
  clear hO hU hP hV hB hb0 hb1 hkn
  have q34:=zK 34 8 2 _ Tryd.underlying34 rfl Tryd.underlying2 (by kernel_rfl) (by kernel_rfl) #[.int .i64 (s.x 0),.int .i64 (s.x 1),.int .i64 (s.x 2),.int .i64 (s.x 3),.int .i64 (s.x 4),.int .i64 (s.x 5),.int .i64 (s.x 6),.int .i64 (s.x 7)] (fun j hj=>by match j,hj with | 0,_ | 1,_ | 2,_ | 3,_ | 4,_ | 5,_ | 6,_ | 7,_=>exact ⟨_,rfl⟩)
  have q35:=zK 35 8 3 _ Tryd.underlying35 rfl Tryd.underlying3 (by kernel_rfl) (by kernel_rfl) #[.int .i64 (s.p 0),.int .i64 (s.p 1),.int .i64 (s.p 2),.int .i64 (s.p 3),.int .i64 (s.p 4),.int .i64 (s.p 5),.int .i64 (s.p 6),.int .i64 (s.p 7)] (fun j hj=>by match j,hj with | 0,_ | 1,_ | 2,_ | 3,_ | 4,_ | 5,_ | 6,_ | 7,_=>exact ⟨_,rfl⟩)
  have q36:=zK 36 4 3 _ Tryd.underlying36 rfl Tryd.underlying3 (by kernel_rfl) (by kernel_rfl) #[.int .i64 (s.g 0),.int .i64 (s.g 1),.int .i64 (s.g 2),.int .i64 (s.g 3)] (fun j hj=>by match j,hj with | 0,_ | 1,_ | 2,_ | 3,_=>exact ⟨_,rfl⟩)
  have g34:Tryd.prog.eqGuardType Tryd.prog.depth 34=false:=by kernel_rfl
  have g35:Tryd.prog.eqGuardType Tryd.prog.depth 35=false:=by kernel_rfl
  have g36:Tryd.prog.eqGuardType Tryd.prog.depth 36=false:=by kernel_rfl
  go_enter Tryd.func15,Tryd.ntmps15
  go_upto_region 999 with (fail)
  refine (dh.calls kn AU cU s.out AV cV s.out true wb HU.out hcU HV.out hcV HKN.out).mono ?_
  rintro e w1 ⟨rfl,hd⟩
  obtain ⟨nw,rfl⟩:=hd.out
  clear hd HU HV HKN hwb q34 q35 q36 g34 g35 g36 a0 a1 a2 a3 a4 a5 a6 a7 a8 a9 a10 a11 a12 a13 a14 a15 a16 a17 a18 a19 a21 a22 a23 b0 b1 b2 b3 b4 b5 b6 b7 b8 b9 b10 b11 b12 b13 b14 b15 b16 b17 b18 b19 b21 b22 b23
  go_upto_region 4 with (fail)
  go_loopg [5] s.bM.length (fun kq iv wr=>∃ (i nq:Nat),kq+i=s.bM.length∧iv=.int .i64 i∧wr=wb.drewN nq)
  case atStart=>exact ⟨0,nw,Nat.add_zero _,rfl,rfl⟩
  case round =>
  obtain ⟨i,n0,hki,rfl,rfl⟩:=hrel
  cases gk with
  | zero =>
    obtain rfl:i=s.bM.length:=by omega
    have hlt:decide ((s.bM.length:Int) < (s.bM.length:Int))=false:=decide_eq_false (by omega)
    go_wp2
    go_ret
    exact ⟨rfl,by have q:=HB.out.trans ((show aT wb (wb.drewN n0) from ⟨⟨n0,rfl⟩⟩).below.mono HB.out.size);first|exact q|(rw [hG] at q;exact q)⟩
  | succ gk =>
    have hi:i < s.bM.length:=by omega
    have hlt:decide ((i:Int) < (s.bM.length:Int))=true:=decide_eq_true (by omega)
    obtain ⟨ad,A1,c1,e0,hx,hl1,hi1⟩:=CJ HO.out (i:Int) (by omega) (by omega)
    obtain ⟨ad',A2,c2,e0',hx',hl2,hi2⟩:=CJ HP.out (i:Int) (by omega) (by omega)
    subst e0
    subst e0'
    obtain ⟨row,hrow⟩:∃ row,qY s.bM (i:Int)=row:=⟨_,rfl⟩
    rw [hrow] at hx hl1 hi1 hx' hl2 hi2
    rw [Int.toNat_natCast] at hx hx'
    obtain ⟨kr,hkr⟩:=IX row (by
      rw [← hrow]
      show (s.bM.getD (i:Int).toNat []).length≤_
      rw [Int.toNat_natCast,List.getD_eq_getElem?_getD,List.getElem?_eq_getElem hi]
      exact hsm.each i hi)
    have HI1:=ae.mk (Kd.bQ hi1 n0)
    have HI2:=ae.mk (Kd.bQ hi2 n0)
    have HKR:=ae.mk hkr
    have HL1:=Lib.hid hl1
    have HL2:=Lib.hid hl2
    have j0:(0≤(i:Int))=True:=eq_true (by omega)
    have j1:((i:Int) < (s.bM.length:Int))=True:=eq_true (by omega)
    have e2:=Lib.hid (show wrap64 ((i:Int)+1)=((i+1:Nat):Int) from II (by have:=hsm.bM;omega))
    obtain ⟨wr,hwr⟩:∃ wr,wb.drewN n0=wr:=⟨_,rfl⟩
    replace a20:wr.cell? ⟨G,20,none⟩=some (.slice (some ad) s.bM.length cO):=by rw [← hwr];exact a20
    replace b20:wr.cell? ⟨G+1,20,none⟩=some (.slice (some ad') s.bM.length cP):=by rw [← hwr];exact b20
    replace hx:wr.cell? (ad.add i)=some (.slice A1 row.length c1):=by rw [← hwr];exact hx
    replace hx':wr.cell? (ad'.add i)=some (.slice A2 row.length c2):=by rw [← hwr];exact hx'
    rw [hwr] at HI1 HI2 ⊢
    have HWR:=Lib.hid hwr
    clear hi1 hi2 hkr hrow hl1 hl2 hwr
    go_wp2
    go_quiet ((go_at_call 13;exact Calls.quiet_of ((dh.calls kr A1 c1 row A2 c2 row true _ (Kd.bQ HI1.out _) HL1.out (Kd.bQ HI2.out _) HL2.out HKR.out).mono fun _ _ h=>⟨h.1,h.2.out⟩)))
    clear hx hx'
    go_wp2
    go_roundg gk
    case measure=>omega
    case rel=>exact ⟨i+1,n0+nq,by omega,by first|rfl|rw [e2.out]|(simp;omega),by rw [← HWR.out,World.drewN_drewN]⟩
end Go.Proofs.YtlemecdddhdagaaDoor.P
end
section
namespace Go.Proofs.YtlemecdddhdagaaDoor.P
open Go.RowKit Go.Proofs.ag.bI Go.Proofs.ag.dM Go.Proofs.ag.dZ
def Bk (w:World) (g:Nat) (cs:Array Value) (t:TypeId):Prop:=w.heap[g]? = some (.cells cs t (0,0))
section
variable {w w1:World} {g h t:Nat} {cs:Array Value}
theorem Bk.cell (k:Bk w g cs t) (j:Nat):w.cell? ⟨g,j,none⟩=cs[j]?:=cell_of_row w g j cs t (0,0) k
theorem Bk.fr (k:Bk w g cs t) (j:Nat):w.frozen? ⟨g,j,none⟩=false:=frozen_of_row w g j cs t k
theorem Bk.lt (k:Bk w g cs t):g < w.heap.size:=(Array.getElem?_eq_some_iff.1 k).1
theorem Bk.of (k:Bk w g cs t) (e:w1.heap[g]? = w.heap[g]?):Bk w1 g cs t:=e.trans k
theorem Bk.below (k:Bk w g cs t) (hb:Below w.heap.size w w1):Bk w1 g cs t:=k.of (hb.block g k.lt)
theorem Bk.set (k:Bk w g cs t) (j:Nat) (v:Value):Bk (w.setCell ⟨g,j,none⟩ v) g (cs.setIfInBounds j v) t:=by
  unfold Bk at k ⊢
  simp [World.setCell,Array.getElem?_modify,k]
theorem Bk.far (k:Bk w g cs t) (j:Nat) (v:Value) (hn:g ≠ h):Bk (w.setCell ⟨h,j,none⟩ v) g cs t:=k.of (Below.heap_setCell w ⟨h,j,none⟩ v g hn)
theorem Bk.setRow (k:Bk w g cs t) (ds:Array Value):Bk (w.setRow g ds) g ds t:=kX k ds
theorem Bk.D8 (k:Bk w g cs t) (ds:Array Value) (hn:g ≠ h):Bk (w.setRow h ds) g cs t:=k.of (sN ds g hn)
theorem Bk.alloc (k:Bk w g cs t) (o:Obj):Bk (w.alloc o) g cs t:=k.of (Below.heap_alloc w o g k.lt)
theorem Bk.new (w:World) (cs:Array Value) (t:TypeId):Bk (w.alloc (.cells cs t)) w.heap.size cs t:=heap_alloc_new w _
theorem sO (ds:List Value):∀ (w:World) (o:Nat),g ≠ h→(w.setCells h o ds).heap[g]? = w.heap[g]?:=by
  induction ds with
  | nil=>intro w o _;rfl
  | cons v ds ih=>intro w o hn;exact (ih _ _ hn).trans (Below.heap_setCell w ⟨h,o,none⟩ v g hn)
theorem Bk.range (k:Bk w g cs t) (o:Nat) (vs:List Value) (hv:∀ j,j < vs.length→cs[o+j]? = vs[j]?):w.rangeAt g o vs:=fun j v hj=>by
  rw [k.cell (o+j),hv j (List.getElem?_eq_some_iff.1 hj).1,hj]
end
def Yl (f:Nat→Int):Array Value:=#[.int .i64 (f 0),.int .i64 (f 1),.int .i64 (f 2),.int .i64 (f 3),.int .i64 (f 4),.int .i64 (f 5),.int .i64 (f 6),.int .i64 (f 7)]
def row4 (f:Nat→Int):Array Value:=#[.int .i64 (f 0),.int .i64 (f 1),.int .i64 (f 2),.int .i64 (f 3)]
theorem Q8 (f:Nat→Int) (j:Nat) (hj:j < 8):(Yl f)[j]? = some (.int .i64 (f j)):=by
  match j,hj with
  | 0,_ | 1,_ | 2,_ | 3,_ | 4,_ | 5,_ | 6,_ | 7,_=>rfl
theorem Q9 (f:Nat→Int) (j:Nat) (hj:j < 4):(row4 f)[j]? = some (.int .i64 (f j)):=by
  match j,hj with
  | 0,_ | 1,_ | 2,_ | 3,_=>rfl
section
variable {w:World} {g t:Nat} {s:St} {vO vU:Value}
theorem Bk.xE (k:Bk w g (cellsS s vO vU) t) (j:Nat) (hj:j < 8):w.cell? ⟨g,j,none⟩=some (.int .i64 (s.x j)):=by
  rw [k.cell j]
  match j,hj with
  | 0,_ | 1,_ | 2,_ | 3,_ | 4,_ | 5,_ | 6,_ | 7,_=>rfl
theorem Bk.rq (k:Bk w g (cellsS s vO vU) t) (j:Nat) (hj:j < 8):w.cell? ⟨g,8+j,none⟩=some (.int .i64 (s.p j)):=by
  rw [k.cell (8+j)]
  match j,hj with
  | 0,_ | 1,_ | 2,_ | 3,_ | 4,_ | 5,_ | 6,_ | 7,_=>rfl
theorem Bk.ps (k:Bk w g (cellsS s vO vU) t):w.rangeAt g 8 (Yl s.p).toList:=k.range 8 _ fun j hj=>by
  match j,hj with
  | 0,_ | 1,_ | 2,_ | 3,_ | 4,_ | 5,_ | 6,_ | 7,_=>rfl
theorem Bk.gs (k:Bk w g (cellsS s vO vU) t):w.rangeAt g 16 (row4 s.g).toList:=k.range 16 _ fun j hj=>by
  match j,hj with
  | 0,_ | 1,_ | 2,_ | 3,_=>rfl
end
section
variable {P:Program} {ops:Array Oper} {rest:List Oper} {o:Oper} {a:Act} {w:World} {Q:Exit→Act→World→Prop}
end
structure XM (s:St) (vO vU:Value) (w:World):Prop where
  bM:∃ A c,vO=.slice A s.bM.length c∧s.bM.length≤c∧Kd.C wG w A s.bM.length s.bM
  out:∃ A c,vU=.slice A s.out.length c∧s.out.length≤c∧Kd.C (Kd.int .i64) w A s.out.length s.out
section
variable {s s':St} {vO vU:Value} {w w':World}
theorem XM.below (h:XM s vO vU w) (hb:Below w.heap.size w w'):XM s vO vU w':=by
  obtain ⟨⟨A,c,e,hc,hO⟩,⟨B,d,e',hd,hU⟩⟩:=h
  exact ⟨⟨A,c,e,hc,Kd.bK hO hb⟩,⟨B,d,e',hd,Kd.bK hU hb⟩⟩
theorem XM.as (h:XM s vO vU w) (e1:s'.bM=s.bM) (e2:s'.out=s.out):XM s' vO vU w:=by
  obtain ⟨h1,h2⟩:=h
  exact ⟨by rw [e1];exact h1,by rw [e2];exact h2⟩
theorem XM.one (h:XM s vO vU w) (s':St):(cellsS s' vO vU).all (·.oneCell')=true:=by
  obtain ⟨⟨A,c,rfl,_⟩,⟨B,d,rfl,_⟩⟩:=h
  simp [cellsS,Value.oneCell']
end
def NB (w:World) (k:Nat):Prop:=∃ cells t fr,w.heap[k]? = some (.cells cells t fr)∧t ≠ 44∧t ≠ 39
def Keep (w wF:World):Prop:=∀ k,NB w k→wF.heap[k]? = w.heap[k]?
theorem NB.lt {w:World} {k:Nat} (h:NB w k):k < w.heap.size:=by
  obtain ⟨_,_,_,h,_⟩:=h
  exact (Array.getElem?_eq_some_iff.1 h).1
theorem Keep.after {w w' wF:World} (hb:Below w.heap.size w w') (h:Keep w' wF):Keep w wF:=fun k hk=>by
  have e:=hb.block k hk.lt
  obtain ⟨c,t,fr,h1,h2⟩:=hk
  rw [h k ⟨c,t,fr,e.trans h1,h2⟩,e]
theorem Keep.trans {w w' wF:World} (hb:Keep w w') (h:Keep w' wF):Keep w wF:=fun k hk=>by
  have e:=hb k hk
  obtain ⟨c,t,fr,h1,h2⟩:=hk
  rw [h k ⟨c,t,fr,e.trans h1,h2⟩,e]
structure WL (s:St) (vO vU:Value) (w:World):Prop where
  bM:∃ A c hs,vO=.slice A s.bM.length c∧s.bM.length≤c∧hs.length=s.bM.length∧(∀ wF,Keep w wF→Kd.C kH wF A s.bM.length hs)∧∀ j (hj:j < s.bM.length),∃ q,hs[j]? = some q∧q.2.1=(s.bM[j]).length∧(s.bM[j]).length≤q.2.2∧∀ wF,Keep w wF→Kd.C (Kd.int .i64) wF q.1 (s.bM[j]).length s.bM[j]
  out:∃ A c,vU=.slice A s.out.length c∧s.out.length≤c∧∀ wF,Keep w wF→Kd.C (Kd.int .i64) wF A s.out.length s.out
section
variable {s s':St} {vO vU:Value} {w w' wF:World}
theorem WL.keep (h:WL s vO vU w) (hk:Keep w w'):WL s vO vU w':=by
  obtain ⟨⟨A,c,hs,e,hc,hl,hH,hE⟩,B,b,e',hb,hU⟩:=h
  exact ⟨⟨A,c,hs,e,hc,hl,fun wF hF=>hH wF (hk.trans hF),fun j hj=>by obtain ⟨q,q1,q2,q3,q4⟩:=hE j hj;exact ⟨q,q1,q2,q3,fun wF hF=>q4 wF (hk.trans hF)⟩⟩,B,b,e',hb,fun wF hF=>hU wF (hk.trans hF)⟩
theorem WL.below (h:WL s vO vU w) (hb:Below w.heap.size w w'):WL s vO vU w':=h.keep (fun k hk=>hb.block k hk.lt)
theorem WL.as (h:WL s vO vU w) (e1:s'.bM=s.bM) (e2:s'.out=s.out):WL s' vO vU w:=by
  obtain ⟨h1,h2⟩:=h
  exact ⟨by rw [e1];exact h1,by rw [e2];exact h2⟩
end
end Go.Proofs.YtlemecdddhdagaaDoor.P
end
section
namespace Go.Proofs.YtlemecdddhdagaaDoor.P
open Go.RowKit Go.Proofs.ag.bI Go.Proofs.ag.dM Go.Proofs.ag.dZ
attribute [local go_sem ↓] Go.wp_at_zero Go.wp_at_succ
structure oN (G:Nat) (P S I Z:Array Value) (w W:World):Prop where
  m0:Bk W G P 25
  m1:Bk W (G+1) S 44
  m2:Bk W (G+2) I 55
  m3:Bk W (G+3) Z 44
  mb:Below G w W
  sz:G+4≤W.heap.size
section
variable {G:Nat} {P S I Z:Array Value} {w W W1:World}
theorem oN.below (h:oN G P S I Z w W) (hb:Below W.heap.size W W1):oN G P S I Z w W1 :=
  ⟨h.m0.below hb,h.m1.below hb,h.m2.below hb,h.m3.below hb,h.mb.trans (hb.mono (by have:=h.sz;omega)),Nat.le_trans h.sz hb.size⟩
theorem oN.alloc (h:oN G P S I Z w W) (o:Obj):oN G P S I Z w (W.alloc o):=h.below ((Below.refl _ W).alloc (Nat.le_refl _) o)
theorem oN.drew (h:oN G P S I Z w W):oN G P S I Z w W.drew:=⟨h.m0,h.m1,h.m2,h.m3,⟨h.mb.os,h.mb.tape,h.mb.output,h.mb.size,h.mb.block⟩,h.sz⟩
theorem oN.drewN (h:oN G P S I Z w W) (k:Nat):oN G P S I Z w (W.drewN k):=⟨h.m0,h.m1,h.m2,h.m3,⟨h.mb.os,h.mb.tape,h.mb.output,h.mb.size,h.mb.block⟩,h.sz⟩
theorem oN.setRow (h:oN G P S I Z w W) (g:Nat) (cs:Array Value) (hg:G+4≤g):oN G P S I Z w (W.setRow g cs) :=
  ⟨h.m0.D8 cs (by omega),h.m1.D8 cs (by omega),h.m2.D8 cs (by omega),h.m3.D8 cs (by omega),jq h.mb (by omega) cs,by rw [size_setRow];exact h.sz⟩
theorem oN.set (h:oN G P S I Z w W) (g j:Nat) (v:Value) (hg:G+4≤g):oN G P S I Z w (W.setCell ⟨g,j,none⟩ v) :=
  ⟨h.m0.far j v (by omega),h.m1.far j v (by omega),h.m2.far j v (by omega),h.m3.far j v (by omega),h.mb.setCell (p:=⟨g,j,none⟩) (by show G≤g;omega) v,by simp [World.setCell];exact h.sz⟩
end
structure Two (G:Nat) (P S I Z:Array Value) (p g:Nat→Int) (g8 g9:Nat) (w W:World):Prop where
  base:oN G P S I Z w W
  ps:Bk W g8 (Yl p) 35
  gs:Bk W g9 (row4 g) 36
  lo8:G+4≤g8
  lo9:G+4≤g9
  ne:g8 ≠ g9
section
variable {G g8 g9:Nat} {P S I Z:Array Value} {p g:Nat→Int} {w W W1:World}
theorem Two.below (h:Two G P S I Z p g g8 g9 w W) (hb:Below W.heap.size W W1):Two G P S I Z p g g8 g9 w W1:=⟨h.base.below hb,h.ps.below hb,h.gs.below hb,h.lo8,h.lo9,h.ne⟩
theorem Two.drew (h:Two G P S I Z p g g8 g9 w W):Two G P S I Z p g g8 g9 w W.drew:=⟨h.base.drew,h.ps,h.gs,h.lo8,h.lo9,h.ne⟩
theorem Two.drewN (h:Two G P S I Z p g g8 g9 w W) (k:Nat):Two G P S I Z p g g8 g9 w (W.drewN k):=⟨h.base.drewN k,h.ps,h.gs,h.lo8,h.lo9,h.ne⟩
theorem Two.rq (h:Two G P S I Z p g g8 g9 w W) (j:Nat) (hj:j < 8):W.cell? ⟨g8,j,none⟩=some (.int .i64 (p j)):=(h.ps.cell j).trans (Q8 p j hj)
theorem Two.Wl (h:Two G P S I Z p g g8 g9 w W) (j:Nat) (hj:j < 4):W.cell? ⟨g9,j,none⟩=some (.int .i64 (g j)):=(h.gs.cell j).trans (Q9 g j hj)
end
theorem IP {P:Program} {w:World} {op:Oper} {a:Act} (ty:TypeId) (x:Operand) (ho:op.op=.load ty x)
    (b o:Nat) (hx:a.eval x=.pointer (some ⟨b,o,none⟩)) (cs:Array Value) (d:TypeDesc) (hS:w.rangeAt b o cs.toList) (hu:P.underlying ty=some d) (hd:d.isRow=true) (hi:(P.info? ty).map (·.size)=some cs.toList.length):(execOp a.eval op).run P w=.ok (.value (.agg cs)) w:=by
  unfold execOp
  simp only [ho,hx,Instr.loadAt,Instr.sureAddr,Sem.run_bind,Sem.run_pure,Result.andThen_ok,run_loadVar_mid w b o ty cs.toList d hS hu hd hi,Array.toArray_toList]
theorem Two.grown {G g8 g9:Nat} {P S I Z:Array Value} {p g:Nat→Int} {w W W1:World} (h:Two G P S I Z p g g8 g9 w W) (hb:Below W.heap.size W W1):Two G P S I Z p g g8 g9 w W1:=h.below hb
end Go.Proofs.YtlemecdddhdagaaDoor.P
end
