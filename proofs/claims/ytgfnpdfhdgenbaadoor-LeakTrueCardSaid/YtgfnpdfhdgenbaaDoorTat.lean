/- Parts of the proof of LeakTrue: what the functions that it reaches compute, and plain facts about that. -/
import Derived.Test.YtgfnpdfhdgenbaaDoorTar
import Derived.Test.YtgfnpdfhdgenbaaDoorTas
set_option linter.unusedVariables false
set_option linter.unusedSimpArgs false
section
namespace Go.Proofs.YtgfnpdfhdgenbaaDoor.P
open Go.RowKit Go.Proofs.ae.bf Go.Proofs.ae.bY Go.Proofs.ae.cZ
attribute [local go_sem ↓] Go.wp_at_zero Go.wp_at_succ
theorem Hy {P:Program} {ops:Array Oper} {Q:Exit→Act→World→Prop} {oi:Oper} {N:Option Tmp} {a:Act} {w:World} {K:Act→World→Prop} {f:FuncId} {fn:Func} {x:Operand} {cap:Array Value} {xs:Array Operand} {ts:Array TypeId} (hf:P.funcs[f]? = some fn) (hname:(fn.name == "runtime.NumGoroutine")=false) (hb:fn.body.isSome=true) (args:Array Value)
    (hw:Region.wanted oi (yielded ops a.tmps)=true) (hN:oi.dst=N) (hop:oi.op=.call { callee:=.value x,args:=xs,argTypes:=ts }) (hx:a.eval x=.func (.func f) #[] cap) (hargs:xs.map a.eval++cap=args)
    (h:Calls P f args w fun e w'=>∃ v,e=.returned v∧K (a.put N v) w'):if Region.wanted oi (yielded ops a.tmps)=true then Oper.wp P oi a w K Q else K (a.put N undef) w:=by
  refine call_ f args hw hN ?_ h
  have he:=DN hf hname hb args w
  unfold execOp
  simp [hop,resolve,Deferred.ofValue,invoke,hx,hargs,he]
theorem VQ {q n:Nat} (h:q < n) (hn:n≤1000):wrap64 (q:Int)=(q:Int):=by unfold wrap64;omega
theorem nK.YI {s:St} {AO:Option Addr} {n cO:Nat} {vV:Value} {w:World} (h:nK s (.slice AO n cO) vV w):Kd.C wR w AO s.aK.length s.aK:=by
  obtain ⟨A,c,e,_,hC⟩:=h.rd.aK
  injection e with e1 _ _
  rw [e1]
  exact hC
theorem info3:(Tryd.prog.info? 3).map (fun i=>(i.zero,i.size,i.bytes))=some (some (.int .i64 0),1,8):=by kernel_rfl
theorem LH {w w2:World} {base mb:Nat} {ok:Nat→Prop} {vM:Value} {made:List Int} {cs:Array Value} (hr:Kd.R (Kd.int .i64) 3 w base ok vM made) (hg:w.grownBy w2 vM.ownBlock) (hb:Bk w2 mb cs 37) (v:Value):Keep w (w2.setCell ⟨mb,0,none⟩ v):=fun k hk=>by
  have hlt:=hk.lt
  obtain ⟨cc,t,fr,h1,h2,h3,h4,h5⟩:=hk
  have hne:some k ≠ vM.ownBlock:=fun e=>by
    obtain ⟨cells,hc⟩:=Kd.KH hr k e.symm
    rw [hc] at h1
    injection h1 with h1
    injection h1 with _ h1 _
    exact h5 h1.symm
  have e1:=hg.block k hlt hne
  have hkm:k ≠ mb:=fun e=>by
    subst e
    have q:w2.heap[k]? = some (.cells cs 37 (0,0)):=hb
    rw [e1,h1] at q
    injection q with q
    injection q with _ q _
    exact h4 q
  rw [Below.heap_setCell w2 ⟨mb,0,none⟩ v k hkm]
  exact e1
theorem ND {w w2:World} {base:Nat} {ok:Nat→Prop} {vM:Value} {made:List Int} (hr:Kd.R (Kd.int .i64) 3 w base ok vM made) (hg:w.grownBy w2 vM.ownBlock):Keep w w2:=fun k hk=>by
  have hlt:=hk.lt
  obtain ⟨cc,t,fr,h1,h2,h3,h4,h5⟩:=hk
  refine hg.block k hlt (fun e=>?_)
  obtain ⟨cells,hc⟩:=Kd.KH hr k e.symm
  rw [hc] at h1
  injection h1 with h1
  injection h1 with _ h1 _
  exact h5 h1.symm
theorem MR {n m:Nat} {X Y:Tb} (h:qN n m X=qN n m Y):∀ a j,a < n→j < m→X a j=Y a j:=fun a j ha hj=>by
  have e1:eQ (qN n m X) (a:Nat)=uK m (X a):=yM X ha
  rw [h,yM Y ha] at e1
  have e2:eG false (uK m (X a)) (j:Nat)=X a j:=xR (X a) hj
  rw [← e1,xR (Y a) hj] at e2
  exact e2.symm
theorem WL (f:Nat→Int) (j:Nat) (hj:j < 4) (w:World):(Instr.index 32 (.agg (row4 f)) (.int .i64 (j:Int))).run Tryd.prog w=.ok (.int .i64 (f j)) w:=by
  have hu:Tryd.prog.underlying 32=some (.array 4 3):=by kernel_rfl
  have hs:(sizeOf 3).run Tryd.prog w=.ok 1 w:=by simp [go_sem]
  have ha:(isAgg 3).run Tryd.prog w=.ok false w:=by simp [go_sem]
  obtain rfl|rfl|rfl|rfl:j=0 ∨ j=1 ∨ j=2 ∨ j=3:=by omega
  all_goals simp [Instr.index,run_underlying hu,asIntOf,Result.andThen,part,hs,ha,row4]
def uT.T15:Bool × List (List Nat × List Nat):=(true,[([],[]),([],[]),([],[]),([2,1],[1,2]),([3],[3]),([0,4],[0,4]),([5,5],[5]),([6],[6]),([6],[6]),([6],[6]),([9,8,6],[6,8,9]),([10,6],[6,10]),([11,6],[6,11]),([7,12,6],[6,7,12]),([13,6],[6,13]),([6],[6]),([6],[6]),([15,16,6],[6,15,16]),([17,6],[6,17]),([18,6],[6,18]),([14,19,6],[6,14,19]),([20,6,6],[6,20]),([21],[21]),([21],[21]),([22,23,21],[21,22,23]),([24,21],[21,24]),([21],[21]),([21],[21]),([21],[21]),([28,27,21],[21,27,28]),([29,21],[21,29]),([30,21],[21,30]),([26,31,21],[21,26,31]),([32,21],[21,32]),([25,33,21],[21,25,33]),([34,21],[21,34]),([35,21],[21,35]),([21,36,6],[6,21,36]),([6,37],[6,37])])
def uT.B15:List Nat:=[0,0,0,6,14,31,63,127,127,127,895,1919,3967,8191,16383,127,127,98431,229503,491647,1048575,2097151,4194303,4194303,16777215,33554431,4194303,4194303,4194303,406847487,943718399,2017460223,4232052735,8527020031,17179869183,34359738367,68719476735,137438953471,274877906943]
theorem uT.UE:oz .any (opsOf Tryd.f3 15)=uT.T15:=by kernel_rfl
theorem uT.OJ:nM uT.T15.2 uT.B15=true:=by kernel_rfl
def uT.T30:Bool × List (List Nat × List Nat):=(true,[([],[]),([],[]),([1],[1]),([0,2],[0,2]),([3],[3]),([4],[4]),([5,4],[4,5]),([4],[4]),([4],[4]),([7,8,4],[4,7,8]),([9,4],[4,9]),([4],[4]),([6,10,11,4,4],[4,6,10,11]),([12,4],[4,12]),([4,13],[4,13]),([14,12],[14]),([15],[15]),([15],[15]),([16,17,15,15],[15,16,17]),([15,18],[15,18])])
def uT.B30:List Nat:=[0,0,2,7,15,31,63,31,31,415,927,31,4095,8191,16383,32767,65535,65535,262143,524287]
theorem uT.UD:oz .any (opsOf Tryd.f3 30)=uT.T30:=by kernel_rfl
theorem uT.OI:nM uT.T30.2 uT.B30=true:=by kernel_rfl
def uT.T39:Bool × List (List Nat × List Nat):=(true,[([],[]),([],[]),([1],[1]),([],[]),([3],[3]),([],[]),([5],[5]),([4,6],[4,6]),([7],[7]),([8],[8]),([2,9],[2,9]),([10],[10]),([11],[11]),([12],[12]),([0,13],[0,13]),([14,14,0,1,2,3,4,5,6,7,8,9,10,11,12,13,14],[0,14])])
def uT.B39:List Nat:=[0,0,2,0,8,0,32,120,248,504,1022,2046,4094,8190,16383,32767]
theorem uT.Yx:oz .any (opsOf Tryd.f3 39)=uT.T39:=by kernel_rfl
theorem uT.XI:nM uT.T39.2 uT.B39=true:=by kernel_rfl
set_option maxRecDepth 100000 in
set_option maxHeartbeats 12800000 in
theorem leakTrue.calls (k:Nat) (A0:Option Addr) (c0:Nat) (l0:List ByteArray) (a1 a2:ByteArray) (A3:Option Addr) (c3:Nat) (l3:List gY) (many:Nat) (w:World) (hr0:Kd.C Kd.string w A0 l0.length l0) (hc0:l0.length≤c0) (hr3:Kd.C uU w A3 l3.length l3) (hc3:l3.length≤c3) (EG:Kd.C zV w zW qJ.length qJ)
    (hf:many≤255) (h:leakTrue.ok k l0 a1 a2 l3 many) :
    Calls Tryd.prog 3 #[.agg #[.slice A0 l0.length c0,.string a1,.string a2,.slice A3 l3.length c3],.int .u8 many] w fun e w'=>e=.returned (.bool true)∧Below w.heap.size w w':=by
  obtain ⟨hal,so,hso,h1⟩:=h
  obtain ⟨G,hG⟩:∃ G,w.heap.size=G:=⟨_,rfl⟩
  obtain ⟨wb,hwb⟩:∃ wb,w.alloc (.cells #[.slice A0 l0.length c0,.string a1,.string a2,.slice A3 l3.length c3] 25)=wb:=⟨_,rfl⟩
  have hB1:Below w.heap.size w wb:=by rw [← hwb];exact (Below.refl _ w).alloc (Nat.le_refl _) _
  have hb0:Bk wb G #[.slice A0 l0.length c0,.string a1,.string a2,.slice A3 l3.length c3] 25:=by rw [← hwb,← hG];exact Bk.new w _ _
  have HH:=af.mk h1
  have HR0:=af.mk (Kd.bQ hr0 hB1)
  have HR3:=af.mk (Kd.bQ hr3 hB1)
  have Eb:=af.mk (Kd.bQ EG hB1)
  have HAL:=af.mk hal
  have HSO:=af.mk hso
  have HB1:=af.mk hB1
  have K0:=af.mk hb0
  have e1:IntKind.i64.wrap (many:Int)=many:=IntWalk.i64_in _ (by omega)
  have p0:wb.cell? ⟨G,0,none⟩=some (.slice A0 l0.length c0):=hb0.cell 0
  have p1:wb.cell? ⟨G,1,none⟩=some (.string a1):=hb0.cell 1
  have p2:wb.cell? ⟨G,2,none⟩=some (.string a2):=hb0.cell 2
  have p3:wb.cell? ⟨G,3,none⟩=some (.slice A3 l3.length c3):=hb0.cell 3
  clear h1 hr0 hr3 EG hal hB1 hb0 hso
  go_enter Tryd.func3,Tryd.ntmps3
  go_upto_region 999 with (fail)
  refine (gq.calls k A0 c0 l0 a1 a2 A3 c3 l3 so wb HR0.out hc0 HR3.out hc3 Eb.out HSO.out).mono ?_
  rintro e w1 ⟨rfl,hbb⟩
  replace HR0:=af.mk (Kd.bQ HR0.out hbb)
  replace HR3:=af.mk (Kd.bQ HR3.out hbb)
  replace Eb:=af.mk (Kd.bQ Eb.out hbb)
  replace K0:=af.mk (K0.out.below hbb)
  replace HB1:=af.mk (show Below w.heap.size w w1 from HB1.out.trans (hbb.mono HB1.out.size))
  clear hbb HSO p0 p1 p2 p3 hwb
  cases so with
  | false =>
    go_upto_region 999 with (fail)
    refine (fQ.calls k true w1 HAL.out).mono ?_
    rintro e w2 ⟨rfl,hbb⟩
    have HBB:=Lib.hid (HB1.out.trans (hbb.mono HB1.out.size))
    clear hbb
    go_wp2
    go_ret
    exact ⟨rfl,by have q:=HBB.out;first|exact q|(rw [hG] at q;exact q)⟩
  | true =>
  obtain ⟨h8,h60,Y,hmay,lk,hlk⟩:=HH.out rfl
  have HMY:=af.mk hmay
  replace HH:=af.mk hlk
  clear hmay hlk
  go_upto_region 999 with (fail)
  refine (fQ.calls k true w1 HAL.out).mono ?_
  rintro e w2 ⟨rfl,hbb⟩
  replace HR0:=af.mk (Kd.bQ HR0.out hbb)
  replace HR3:=af.mk (Kd.bQ HR3.out hbb)
  replace Eb:=af.mk (Kd.bQ Eb.out hbb)
  replace K0:=af.mk (K0.out.below hbb)
  replace HB1:=af.mk (show Below w.heap.size w w2 from HB1.out.trans (hbb.mono HB1.out.size))
  clear hbb HAL
  have p0:w2.cell? ⟨G,0,none⟩=some (.slice A0 l0.length c0):=K0.out.cell 0
  have p1:w2.cell? ⟨G,1,none⟩=some (.string a1):=K0.out.cell 1
  have p2:w2.cell? ⟨G,2,none⟩=some (.string a2):=K0.out.cell 2
  have p3:w2.cell? ⟨G,3,none⟩=some (.slice A3 l3.length c3):=K0.out.cell 3
  go_upto_region 999 with (fail)
  refine (gJ.raw k A0 c0 l0 a1 a2 A3 c3 l3 _ w2 HR0.out hc0 HR3.out hc3 HMY.out).mono ?_
  rintro e W1 ⟨Om,r0,X,rfl,hXY,hM,hOm,hbb⟩
  have HM:=af.mk (hM.congr (fun a j ha hj=>(MR hXY a j ha hj).symm))
  replace HR0:=af.mk (Kd.bQ HR0.out hbb)
  replace HR3:=af.mk (Kd.bQ HR3.out hbb)
  replace Eb:=af.mk (Kd.bQ Eb.out hbb)
  replace K0:=af.mk (K0.out.below hbb)
  replace HB1:=af.mk (show Below w.heap.size w W1 from HB1.out.trans (hbb.mono HB1.out.size))
  clear hbb HMY hM hXY hOm p0 p1 p2 p3
  have p1:W1.cell? ⟨G,1,none⟩=some (.string a1):=K0.out.cell 1
  obtain ⟨c,hc⟩:∃ c,W1.heap.size=c:=⟨_,rfl⟩
  obtain ⟨Wz,hWz⟩:∃ Wz,W1.alloc (.cells #[.int .i64 0,.int .i64 0,.int .i64 0,.int .i64 0,.int .i64 0,.int .i64 0,.int .i64 0,.int .i64 0,.int .i64 0,.int .i64 0,.int .i64 0,.int .i64 0,.int .i64 0,.int .i64 0,.int .i64 0,.int .i64 0,.int .i64 0,.int .i64 0,.int .i64 0,.int .i64 0,.slice none 0 0,.slice none 0 0,.int .i64 0,.int .i64 0] 36)=Wz:=⟨_,rfl⟩
  have hzc:Bk Wz c #[.int .i64 0,.int .i64 0,.int .i64 0,.int .i64 0,.int .i64 0,.int .i64 0,.int .i64 0,.int .i64 0,.int .i64 0,.int .i64 0,.int .i64 0,.int .i64 0,.int .i64 0,.int .i64 0,.int .i64 0,.int .i64 0,.int .i64 0,.int .i64 0,.int .i64 0,.int .i64 0,.slice none 0 0,.slice none 0 0,.int .i64 0,.int .i64 0] 36:=by rw [← hWz,← hc];exact Bk.new W1 _ _
  obtain ⟨mb,hmb⟩:∃ b,Wz.heap.size=b:=⟨_,rfl⟩
  obtain ⟨Wm,hWm⟩:∃ Wm,Wz.alloc (.cells #[.slice none 0 0] 37)=Wm:=⟨_,rfl⟩
  have hzm:Bk Wm mb #[.slice none 0 0] 37:=by rw [← hWm,← hmb];exact Bk.new Wz _ _
  have hbz:Below W1.heap.size W1 Wz:=by rw [← hWz];exact (Below.refl _ W1).alloc (Nat.le_refl _) _
  have hbm:Below Wz.heap.size Wz Wm:=by rw [← hWm];exact (Below.refl _ Wz).alloc (Nat.le_refl _) _
  have HE0:af (wB G c mb #[.slice A0 l0.length c0,.string a1,.string a2,.slice A3 l3.length c3] (cellsS Vw (.slice none 0 0) (.slice none 0 0)) (.slice none 0 0) (.slice none 0 0) [] [] W1 Wm) :=
    ⟨⟨K0.out,hzc.below hbm,hzm,Kd.Vy _ _ _ _ _,Kd.Vy _ _ _ _ _,hbz.trans (hbm.mono hbz.size),Nat.le_of_eq hc,by rw [← hmb,← hc,← hWz];simp⟩⟩
  have HT0:af (nK Vw (.slice none 0 0) (.slice none 0 0) Wm):=⟨agO Wm⟩
  clear hzc hzm hbz hbm K0
  go_upto_region 10 with (fail)
  clear hWm hWz hmb p1
  have HH2:=af.mk HH.out
  clear HH
  go_loopg [8,38] many (fun kq v8 iv wr=>∃ (s:St) (vP vV vM vT:Value) (made types:List Int) (i:Nat),kq+i=many∧vT=v8∧iv=.int .i64 i∧made.length≤i∧types.length≤i∧af (Fz k l0 a1 a2 l3 lk Y (xe k l0 a1 a2 l3) kq s made types)∧af (wB G c mb #[.slice A0 l0.length c0,.string a1,.string a2,.slice A3 l3.length c3] (cellsS s vP vV) vM vT made types W1 wr)∧af (nK s vP vV wr))
  case atStart=>exact ⟨_,_,_,_,_,[],[],0,Nat.add_zero _,rfl,rfl,Nat.le_refl _,Nat.le_refl _,HH2,HE0,HT0⟩
  case round =>
  clear HH2 HE0 HT0
  obtain ⟨s,vP,vV,vM,vT,made,types,i,hki,rfl,rfl,hml,htl,HPC,HX,HT⟩:=hrel
  cases gk with
  | zero =>
    have hd0:decide ((i:Int) < (many:Int))=false:=decide_eq_false (by omega)
    clear HPC
    go_wp2
    go_ret
    exact ⟨rfl,by have q:=HB1.out.trans (HX.out.bel.mono HB1.out.size);first|exact q|(rw [hG] at q;exact q)⟩
  | succ gA =>
  have hd0:decide ((i:Int) < (many:Int))=true:=decide_eq_true (by omega)
  obtain ⟨hrow,s',d,e,hst,hnx⟩:=HPC.out
  have HRW:=af.mk hrow
  have HST:=af.mk hst
  have VF:=af.mk hnx
  have zn:made.length≤1000:=by omega
  clear HPC hrow hst hnx
  obtain ⟨m,hm⟩:∃ m,l3.length+1=m:=⟨_,rfl⟩
  have HMm:=af.mk (show sD W1 Om r0 a1.size m Y by rw [← hm];exact HM.out)
  have HMN:=Lib.hid hm
  clear HM hm
  go_upto_region 13 with (fail)
  go_loopg [43] a1.size (fun kq iv wq=>∃ (j:Nat),kq+j=a1.size∧iv=.int .i64 j∧af (wB G c mb #[.slice A0 l0.length c0,.string a1,.string a2,.slice A3 l3.length c3] (cellsS s vP vV) vM vT made types W1 wq)∧af (nK s vP vV wq))
  case atStart=>exact ⟨0,Nat.add_zero _,rfl,HX,HT⟩
  case round =>
  clear HX HT
  obtain ⟨j,hkj,rfl,HX,HT⟩:=hrel
  by_cases hjn:j < a1.size
  case pos =>
    obtain ⟨g1,rfl⟩:∃ g,gk=g+1:=⟨gk - 1,by omega⟩
    have hdj:decide ((j:Int) < (a1.size:Int))=true:=decide_eq_true (by omega)
    have Y5:j < 8:=by omega
    have jb:((j:Int) < 8)=True:=eq_true (by omega)
    have jc:((j:Int) < (a1.size:Int))=True:=eq_true (by omega)
    have jd:(j < a1.size)=True:=eq_true hjn
    have je:(j < 8)=True:=eq_true Y5
    have ew:wrap64 ((j:Int)+1)=((j+1:Nat):Int):=by unfold wrap64;omega
    have EW:=Lib.hid ew
    clear ew VF HST
    go_upto_region 15 with (fail)
    cases hk:jV made lk (s.p j)
    case false =>
      refine wp_region_noPanic ?_
      refine oJ (n:=39) (S:=fun w'=>wB G c mb #[.slice A0 l0.length c0,.string a1,.string a2,.slice A3 l3.length c3] (cellsS s vP vV) vM vT made types W1 w'∧nK s vP vV w') (ds:=[]) #[false,false,false,false,false,false,false,false,false,false,false,false,false,false,false,false,false,false,false,false,false,false,false,false,false,false,false,false,false,false,false,false,false,false,false,false,false,false,false] (by kernel_rfl) rfl rfl ⟨HX.out.drew,HT.out.below (ak (Below.refl _ _))⟩ (fun hHeld=>?_)
      refine kP uT.UE uT.OJ (fun fH qy=>?_)
      clear HX HT
      generalize World.drew _=Wd at hHeld ⊢
      refine bW (i:=0) (N:=(some 46)) (v:=?_) (a':=?_) #[true,false,false,false,false,false,false,false,false,false,false,false,false,false,false,false,false,false,false,false,false,false,false,false,false,false,false,false,false,false,false,false,false,false,false,false,false,false,false] rfl rfl (bG fH.out (by kernel_rfl)) (fun _ _ _ h=>h) (Or.inl ⟨by rfl,?_⟩) ?_ ?_
      rotate_left
      · intro w'
        go_simp
        with_reducible rfl
      rotate_left
      · simp only [Act.put,List.setIfInBounds_toArray,List.set_cons_zero,List.set_cons_succ,aX,aY]
        rfl
      refine bW (i:=1) (N:=(some 47)) (v:=?_) (a':=?_) #[true,true,false,false,false,false,false,false,false,false,false,false,false,false,false,false,false,false,false,false,false,false,false,false,false,false,false,false,false,false,false,false,false,false,false,false,false,false,false] rfl rfl (bG fH.out (by kernel_rfl)) (fun _ _ _ h=>h) (Or.inl ⟨by rfl,?_⟩) ?_ ?_
      rotate_left
      · intro w'
        go_simp
        with_reducible rfl
      rotate_left
      · simp only [Act.put,List.setIfInBounds_toArray,List.set_cons_zero,List.set_cons_succ,aX,aY]
        rfl
      refine bW (i:=2) (N:=(some 48)) (v:=?_) (a':=?_) #[true,true,true,false,false,false,false,false,false,false,false,false,false,false,false,false,false,false,false,false,false,false,false,false,false,false,false,false,false,false,false,false,false,false,false,false,false,false,false] rfl rfl (bG fH.out (by kernel_rfl)) (fun _ _ _ h=>h) (Or.inl ⟨by rfl,?_⟩) ?_ ?_
      rotate_left
      · intro w'
        go_simp
        with_reducible rfl
      rotate_left
      · simp only [Act.put,List.setIfInBounds_toArray,List.set_cons_zero,List.set_cons_succ,aX,aY]
        rfl
      refine bW (i:=3) (N:=(some 49)) (v:=?_) (a':=?_) #[true,true,true,true,false,false,false,false,false,false,false,false,false,false,false,false,false,false,false,false,false,false,false,false,false,false,false,false,false,false,false,false,false,false,false,false,false,false,false] rfl rfl (bG fH.out (by kernel_rfl)) (fun _ _ _ h=>h) (Or.inl ⟨by rfl,?_⟩) ?_ ?_
      rotate_left
      · intro w'
        go_simp
        with_reducible rfl
      rotate_left
      · simp only [Act.put,List.setIfInBounds_toArray,List.set_cons_zero,List.set_cons_succ,aX,aY]
        rfl
      refine jf (i:=4) (N:=(some 50)) (v:=?_) (a':=?_) #[true,true,true,true,true,false,false,false,false,false,false,false,false,false,false,false,false,false,false,false,false,false,false,false,false,false,false,false,false,false,false,false,false,false,false,false,false,false,false] rfl rfl (gm fH.out qy.out (by kernel_rfl)) (fun _ _ _ h=>h) (Or.inl ⟨by rfl,?_⟩) hHeld ?_ ?_
      rotate_left
      · intro w' pg
        have c_:w'.cell? ⟨c,8+j,none⟩=some (.int .i64 (s.p j)):=by exact pg.1.bs.qg j Y5
        go_simp
        with_reducible rfl
      rotate_left
      · simp only [Act.put,List.setIfInBounds_toArray,List.set_cons_zero,List.set_cons_succ,aX,aY]
        rfl
      refine nN (i:=5) (N:=(some 51)) #[true,true,true,true,true,true,false,false,false,false,false,false,false,false,false,false,false,false,false,false,false,false,false,false,false,false,false,false,false,false,false,false,false,false,false,false,false,false,false] rfl rfl (jU fH.out (by kernel_rfl)) (by decide) (fun K hK=>?_)
      refine Hy Tryd.func9 (by kernel_rfl) rfl #[.int .i64 (s.p j),.pointer (some ⟨mb,0,none⟩),.pointer (some ⟨G,0,none⟩)] (by rfl) rfl rfl (by rfl) (by (try simp only [List.map_toArray,List.map_cons,List.map_nil]);rfl) ?_
      refine (rP G c mb (cellsS s vP vV) _ _ made types k A0 c0 l0 a1 a2 A3 c3 l3 lk (s.p j) W1 _ hHeld.1 HR0.out hc0 HR3.out hc3 zn HRW.out.lks).mono ?_
      rintro e_ w4 ⟨rfl,hb4⟩
      refine ⟨_,rfl,?_⟩
      refine hK.out _ _ ⟨hHeld.1.below hb4,hHeld.2.below hb4⟩ (fun hHeld=>?_)
      clear hK K hb4
      refine iT (a':=?_) ?_ ?_
      rotate_left
      · simp only [jm,Act.put,List.setIfInBounds_toArray,List.set_cons_zero,List.set_cons_succ,aX,aY]
        rfl
      rw [hk]
      refine bW (i:=6) (N:=(some 52)) (v:=?_) (a':=?_) #[true,true,true,true,true,true,true,false,false,false,false,false,false,false,false,false,false,false,false,false,false,false,false,false,false,false,false,false,false,false,false,false,false,false,false,false,false,false,false] rfl rfl (bG fH.out (by kernel_rfl)) (fun _ _ _ h=>h) (Or.inl ⟨by rfl,?_⟩) ?_ ?_
      rotate_left
      · intro w'
        go_simp
        with_reducible rfl
      rotate_left
      · simp only [Act.put,List.setIfInBounds_toArray,List.set_cons_zero,List.set_cons_succ,aX,aY]
        rfl
      refine bW (i:=7) (N:=(some 53)) (v:=undef) (a':=?_) #[true,true,true,true,true,true,true,true,false,false,false,false,false,false,false,false,false,false,false,false,false,false,false,false,false,false,false,false,false,false,false,false,false,false,false,false,false,false,false] rfl rfl (bG fH.out (by kernel_rfl)) (fun _ _ _ h=>h) (Or.inr ⟨by rfl,rfl⟩) ?_ ?_
      rotate_left
      · simp only [Act.put,List.setIfInBounds_toArray,List.set_cons_zero,List.set_cons_succ,aX,aY]
        rfl
      refine bW (i:=8) (N:=(some 54)) (v:=undef) (a':=?_) #[true,true,true,true,true,true,true,true,true,false,false,false,false,false,false,false,false,false,false,false,false,false,false,false,false,false,false,false,false,false,false,false,false,false,false,false,false,false,false] rfl rfl (bG fH.out (by kernel_rfl)) (fun _ _ _ h=>h) (Or.inr ⟨by rfl,rfl⟩) ?_ ?_
      rotate_left
      · simp only [Act.put,List.setIfInBounds_toArray,List.set_cons_zero,List.set_cons_succ,aX,aY]
        rfl
      refine bW (i:=9) (N:=(some 55)) (v:=undef) (a':=?_) #[true,true,true,true,true,true,true,true,true,true,false,false,false,false,false,false,false,false,false,false,false,false,false,false,false,false,false,false,false,false,false,false,false,false,false,false,false,false,false] rfl rfl (bG fH.out (by kernel_rfl)) (fun _ _ _ h=>h) (Or.inr ⟨by rfl,rfl⟩) ?_ ?_
      rotate_left
      · simp only [Act.put,List.setIfInBounds_toArray,List.set_cons_zero,List.set_cons_succ,aX,aY]
        rfl
      refine bW (i:=10) (N:=(some 56)) (v:=undef) (a':=?_) #[true,true,true,true,true,true,true,true,true,true,true,false,false,false,false,false,false,false,false,false,false,false,false,false,false,false,false,false,false,false,false,false,false,false,false,false,false,false,false] rfl rfl (bG fH.out (by kernel_rfl)) (fun _ _ _ h=>h) (Or.inr ⟨by rfl,rfl⟩) ?_ ?_
      rotate_left
      · simp only [Act.put,List.setIfInBounds_toArray,List.set_cons_zero,List.set_cons_succ,aX,aY]
        rfl
      refine bW (i:=11) (N:=(some 57)) (v:=undef) (a':=?_) #[true,true,true,true,true,true,true,true,true,true,true,true,false,false,false,false,false,false,false,false,false,false,false,false,false,false,false,false,false,false,false,false,false,false,false,false,false,false,false] rfl rfl (bG fH.out (by kernel_rfl)) (fun _ _ _ h=>h) (Or.inr ⟨by rfl,rfl⟩) ?_ ?_
      rotate_left
      · simp only [Act.put,List.setIfInBounds_toArray,List.set_cons_zero,List.set_cons_succ,aX,aY]
        rfl
      refine bW (i:=12) (N:=(some 58)) (v:=undef) (a':=?_) #[true,true,true,true,true,true,true,true,true,true,true,true,true,false,false,false,false,false,false,false,false,false,false,false,false,false,false,false,false,false,false,false,false,false,false,false,false,false,false] rfl rfl (bG fH.out (by kernel_rfl)) (fun _ _ _ h=>h) (Or.inr ⟨by rfl,rfl⟩) ?_ ?_
      rotate_left
      · simp only [Act.put,List.setIfInBounds_toArray,List.set_cons_zero,List.set_cons_succ,aX,aY]
        rfl
      refine bW (i:=13) (N:=(some 59)) (v:=undef) (a':=?_) #[true,true,true,true,true,true,true,true,true,true,true,true,true,true,false,false,false,false,false,false,false,false,false,false,false,false,false,false,false,false,false,false,false,false,false,false,false,false,false] rfl rfl (bG fH.out (by kernel_rfl)) (fun _ _ _ h=>h) (Or.inr ⟨by rfl,rfl⟩) ?_ ?_
      rotate_left
      · simp only [Act.put,List.setIfInBounds_toArray,List.set_cons_zero,List.set_cons_succ,aX,aY]
        rfl
      refine bW (i:=14) (N:=(some 60)) (v:=undef) (a':=?_) #[true,true,true,true,true,true,true,true,true,true,true,true,true,true,true,false,false,false,false,false,false,false,false,false,false,false,false,false,false,false,false,false,false,false,false,false,false,false,false] rfl rfl (bG fH.out (by kernel_rfl)) (fun _ _ _ h=>h) (Or.inr ⟨by rfl,rfl⟩) ?_ ?_
      rotate_left
      · simp only [Act.put,List.setIfInBounds_toArray,List.set_cons_zero,List.set_cons_succ,aX,aY]
        rfl
      refine bW (i:=15) (N:=(some 61)) (v:=undef) (a':=?_) #[true,true,true,true,true,true,true,true,true,true,true,true,true,true,true,true,false,false,false,false,false,false,false,false,false,false,false,false,false,false,false,false,false,false,false,false,false,false,false] rfl rfl (bG fH.out (by kernel_rfl)) (fun _ _ _ h=>h) (Or.inr ⟨by rfl,rfl⟩) ?_ ?_
      rotate_left
      · simp only [Act.put,List.setIfInBounds_toArray,List.set_cons_zero,List.set_cons_succ,aX,aY]
        rfl
      refine bW (i:=16) (N:=(some 62)) (v:=undef) (a':=?_) #[true,true,true,true,true,true,true,true,true,true,true,true,true,true,true,true,true,false,false,false,false,false,false,false,false,false,false,false,false,false,false,false,false,false,false,false,false,false,false] rfl rfl (bG fH.out (by kernel_rfl)) (fun _ _ _ h=>h) (Or.inr ⟨by rfl,rfl⟩) ?_ ?_
      rotate_left
      · simp only [Act.put,List.setIfInBounds_toArray,List.set_cons_zero,List.set_cons_succ,aX,aY]
        rfl
      refine bW (i:=17) (N:=(some 63)) (v:=undef) (a':=?_) #[true,true,true,true,true,true,true,true,true,true,true,true,true,true,true,true,true,true,false,false,false,false,false,false,false,false,false,false,false,false,false,false,false,false,false,false,false,false,false] rfl rfl (bG fH.out (by kernel_rfl)) (fun _ _ _ h=>h) (Or.inr ⟨by rfl,rfl⟩) ?_ ?_
      rotate_left
      · simp only [Act.put,List.setIfInBounds_toArray,List.set_cons_zero,List.set_cons_succ,aX,aY]
        rfl
      refine bW (i:=18) (N:=(some 64)) (v:=undef) (a':=?_) #[true,true,true,true,true,true,true,true,true,true,true,true,true,true,true,true,true,true,true,false,false,false,false,false,false,false,false,false,false,false,false,false,false,false,false,false,false,false,false] rfl rfl (bG fH.out (by kernel_rfl)) (fun _ _ _ h=>h) (Or.inr ⟨by rfl,rfl⟩) ?_ ?_
      rotate_left
      · simp only [Act.put,List.setIfInBounds_toArray,List.set_cons_zero,List.set_cons_succ,aX,aY]
        rfl
      refine bW (i:=19) (N:=(some 65)) (v:=undef) (a':=?_) #[true,true,true,true,true,true,true,true,true,true,true,true,true,true,true,true,true,true,true,true,false,false,false,false,false,false,false,false,false,false,false,false,false,false,false,false,false,false,false] rfl rfl (bG fH.out (by kernel_rfl)) (fun _ _ _ h=>h) (Or.inr ⟨by rfl,rfl⟩) ?_ ?_
      rotate_left
      · simp only [Act.put,List.setIfInBounds_toArray,List.set_cons_zero,List.set_cons_succ,aX,aY]
        rfl
      refine bW (i:=20) (N:=(some 66)) (v:=undef) (a':=?_) #[true,true,true,true,true,true,true,true,true,true,true,true,true,true,true,true,true,true,true,true,true,false,false,false,false,false,false,false,false,false,false,false,false,false,false,false,false,false,false] rfl rfl (bG fH.out (by kernel_rfl)) (fun _ _ _ h=>h) (Or.inr ⟨by rfl,rfl⟩) ?_ ?_
      rotate_left
      · simp only [Act.put,List.setIfInBounds_toArray,List.set_cons_zero,List.set_cons_succ,aX,aY]
        rfl
      refine bW (i:=21) (N:=(some 67)) (v:=undef) (a':=?_) #[true,true,true,true,true,true,true,true,true,true,true,true,true,true,true,true,true,true,true,true,true,true,false,false,false,false,false,false,false,false,false,false,false,false,false,false,false,false,false] rfl rfl (bG fH.out (by kernel_rfl)) (fun _ _ _ h=>h) (Or.inr ⟨by rfl,rfl⟩) ?_ ?_
      rotate_left
      · simp only [Act.put,List.setIfInBounds_toArray,List.set_cons_zero,List.set_cons_succ,aX,aY]
        rfl
      refine bW (i:=22) (N:=(some 68)) (v:=undef) (a':=?_) #[true,true,true,true,true,true,true,true,true,true,true,true,true,true,true,true,true,true,true,true,true,true,true,false,false,false,false,false,false,false,false,false,false,false,false,false,false,false,false] rfl rfl (bG fH.out (by kernel_rfl)) (fun _ _ _ h=>h) (Or.inr ⟨by rfl,rfl⟩) ?_ ?_
      rotate_left
      · simp only [Act.put,List.setIfInBounds_toArray,List.set_cons_zero,List.set_cons_succ,aX,aY]
        rfl
      refine bW (i:=23) (N:=(some 69)) (v:=undef) (a':=?_) #[true,true,true,true,true,true,true,true,true,true,true,true,true,true,true,true,true,true,true,true,true,true,true,true,false,false,false,false,false,false,false,false,false,false,false,false,false,false,false] rfl rfl (bG fH.out (by kernel_rfl)) (fun _ _ _ h=>h) (Or.inr ⟨by rfl,rfl⟩) ?_ ?_
      rotate_left
      · simp only [Act.put,List.setIfInBounds_toArray,List.set_cons_zero,List.set_cons_succ,aX,aY]
        rfl
      refine bW (i:=24) (N:=(some 70)) (v:=undef) (a':=?_) #[true,true,true,true,true,true,true,true,true,true,true,true,true,true,true,true,true,true,true,true,true,true,true,true,true,false,false,false,false,false,false,false,false,false,false,false,false,false,false] rfl rfl (bG fH.out (by kernel_rfl)) (fun _ _ _ h=>h) (Or.inr ⟨by rfl,rfl⟩) ?_ ?_
      rotate_left
      · simp only [Act.put,List.setIfInBounds_toArray,List.set_cons_zero,List.set_cons_succ,aX,aY]
        rfl
      refine bW (i:=25) (N:=(some 71)) (v:=undef) (a':=?_) #[true,true,true,true,true,true,true,true,true,true,true,true,true,true,true,true,true,true,true,true,true,true,true,true,true,true,false,false,false,false,false,false,false,false,false,false,false,false,false] rfl rfl (bG fH.out (by kernel_rfl)) (fun _ _ _ h=>h) (Or.inr ⟨by rfl,rfl⟩) ?_ ?_
      rotate_left
      · simp only [Act.put,List.setIfInBounds_toArray,List.set_cons_zero,List.set_cons_succ,aX,aY]
        rfl
      refine bW (i:=26) (N:=(some 72)) (v:=undef) (a':=?_) #[true,true,true,true,true,true,true,true,true,true,true,true,true,true,true,true,true,true,true,true,true,true,true,true,true,true,true,false,false,false,false,false,false,false,false,false,false,false,false] rfl rfl (bG fH.out (by kernel_rfl)) (fun _ _ _ h=>h) (Or.inr ⟨by rfl,rfl⟩) ?_ ?_
      rotate_left
      · simp only [Act.put,List.setIfInBounds_toArray,List.set_cons_zero,List.set_cons_succ,aX,aY]
        rfl
      refine bW (i:=27) (N:=(some 73)) (v:=undef) (a':=?_) #[true,true,true,true,true,true,true,true,true,true,true,true,true,true,true,true,true,true,true,true,true,true,true,true,true,true,true,true,false,false,false,false,false,false,false,false,false,false,false] rfl rfl (bG fH.out (by kernel_rfl)) (fun _ _ _ h=>h) (Or.inr ⟨by rfl,rfl⟩) ?_ ?_
      rotate_left
      · simp only [Act.put,List.setIfInBounds_toArray,List.set_cons_zero,List.set_cons_succ,aX,aY]
        rfl
      refine bW (i:=28) (N:=(some 74)) (v:=undef) (a':=?_) #[true,true,true,true,true,true,true,true,true,true,true,true,true,true,true,true,true,true,true,true,true,true,true,true,true,true,true,true,true,false,false,false,false,false,false,false,false,false,false] rfl rfl (bG fH.out (by kernel_rfl)) (fun _ _ _ h=>h) (Or.inr ⟨by rfl,rfl⟩) ?_ ?_
      rotate_left
      · simp only [Act.put,List.setIfInBounds_toArray,List.set_cons_zero,List.set_cons_succ,aX,aY]
        rfl
      refine bW (i:=29) (N:=(some 75)) (v:=undef) (a':=?_) #[true,true,true,true,true,true,true,true,true,true,true,true,true,true,true,true,true,true,true,true,true,true,true,true,true,true,true,true,true,true,false,false,false,false,false,false,false,false,false] rfl rfl (bG fH.out (by kernel_rfl)) (fun _ _ _ h=>h) (Or.inr ⟨by rfl,rfl⟩) ?_ ?_
      rotate_left
      · simp only [Act.put,List.setIfInBounds_toArray,List.set_cons_zero,List.set_cons_succ,aX,aY]
        rfl
      refine bW (i:=30) (N:=(some 76)) (v:=undef) (a':=?_) #[true,true,true,true,true,true,true,true,true,true,true,true,true,true,true,true,true,true,true,true,true,true,true,true,true,true,true,true,true,true,true,false,false,false,false,false,false,false,false] rfl rfl (bG fH.out (by kernel_rfl)) (fun _ _ _ h=>h) (Or.inr ⟨by rfl,rfl⟩) ?_ ?_
      rotate_left
      · simp only [Act.put,List.setIfInBounds_toArray,List.set_cons_zero,List.set_cons_succ,aX,aY]
        rfl
      refine bW (i:=31) (N:=(some 77)) (v:=undef) (a':=?_) #[true,true,true,true,true,true,true,true,true,true,true,true,true,true,true,true,true,true,true,true,true,true,true,true,true,true,true,true,true,true,true,true,false,false,false,false,false,false,false] rfl rfl (bG fH.out (by kernel_rfl)) (fun _ _ _ h=>h) (Or.inr ⟨by rfl,rfl⟩) ?_ ?_
      rotate_left
      · simp only [Act.put,List.setIfInBounds_toArray,List.set_cons_zero,List.set_cons_succ,aX,aY]
        rfl
      refine bW (i:=32) (N:=(some 78)) (v:=undef) (a':=?_) #[true,true,true,true,true,true,true,true,true,true,true,true,true,true,true,true,true,true,true,true,true,true,true,true,true,true,true,true,true,true,true,true,true,false,false,false,false,false,false] rfl rfl (bG fH.out (by kernel_rfl)) (fun _ _ _ h=>h) (Or.inr ⟨by rfl,rfl⟩) ?_ ?_
      rotate_left
      · simp only [Act.put,List.setIfInBounds_toArray,List.set_cons_zero,List.set_cons_succ,aX,aY]
        rfl
      refine bW (i:=33) (N:=(some 79)) (v:=undef) (a':=?_) #[true,true,true,true,true,true,true,true,true,true,true,true,true,true,true,true,true,true,true,true,true,true,true,true,true,true,true,true,true,true,true,true,true,true,false,false,false,false,false] rfl rfl (bG fH.out (by kernel_rfl)) (fun _ _ _ h=>h) (Or.inr ⟨by rfl,rfl⟩) ?_ ?_
      rotate_left
      · simp only [Act.put,List.setIfInBounds_toArray,List.set_cons_zero,List.set_cons_succ,aX,aY]
        rfl
      refine bW (i:=34) (N:=(some 80)) (v:=undef) (a':=?_) #[true,true,true,true,true,true,true,true,true,true,true,true,true,true,true,true,true,true,true,true,true,true,true,true,true,true,true,true,true,true,true,true,true,true,true,false,false,false,false] rfl rfl (bG fH.out (by kernel_rfl)) (fun _ _ _ h=>h) (Or.inr ⟨by rfl,rfl⟩) ?_ ?_
      rotate_left
      · simp only [Act.put,List.setIfInBounds_toArray,List.set_cons_zero,List.set_cons_succ,aX,aY]
        rfl
      refine bW (i:=35) (N:=(some 81)) (v:=undef) (a':=?_) #[true,true,true,true,true,true,true,true,true,true,true,true,true,true,true,true,true,true,true,true,true,true,true,true,true,true,true,true,true,true,true,true,true,true,true,true,false,false,false] rfl rfl (bG fH.out (by kernel_rfl)) (fun _ _ _ h=>h) (Or.inr ⟨by rfl,rfl⟩) ?_ ?_
      rotate_left
      · simp only [Act.put,List.setIfInBounds_toArray,List.set_cons_zero,List.set_cons_succ,aX,aY]
        rfl
      refine bW (i:=36) (N:=(some 82)) (v:=undef) (a':=?_) #[true,true,true,true,true,true,true,true,true,true,true,true,true,true,true,true,true,true,true,true,true,true,true,true,true,true,true,true,true,true,true,true,true,true,true,true,true,false,false] rfl rfl (bG fH.out (by kernel_rfl)) (fun _ _ _ h=>h) (Or.inr ⟨by rfl,rfl⟩) ?_ ?_
      rotate_left
      · simp only [Act.put,List.setIfInBounds_toArray,List.set_cons_zero,List.set_cons_succ,aX,aY]
        rfl
      refine bW (i:=37) (N:=(some 83)) (v:=undef) (a':=?_) #[true,true,true,true,true,true,true,true,true,true,true,true,true,true,true,true,true,true,true,true,true,true,true,true,true,true,true,true,true,true,true,true,true,true,true,true,true,true,false] rfl rfl (bG fH.out (by kernel_rfl)) (fun _ _ _ h=>h) (Or.inr ⟨by rfl,rfl⟩) ?_ ?_
      rotate_left
      · simp only [Act.put,List.setIfInBounds_toArray,List.set_cons_zero,List.set_cons_succ,aX,aY]
        rfl
      refine bW (i:=38) (N:=(some 84)) (v:=?_) (a':=?_) #[true,true,true,true,true,true,true,true,true,true,true,true,true,true,true,true,true,true,true,true,true,true,true,true,true,true,true,true,true,true,true,true,true,true,true,true,true,true,true] rfl rfl (bG fH.out (by kernel_rfl)) (fun _ _ _ h=>h) (Or.inl ⟨by rfl,?_⟩) ?_ ?_
      rotate_left
      · intro w'
        go_simp
        with_reducible rfl
      rotate_left
      · simp only [Act.put,List.setIfInBounds_toArray,List.set_cons_zero,List.set_cons_succ,aX,aY]
        rfl
      refine qW (nV fH.out (by kernel_rfl)) ?_
      refine NoPanic.normal ?_
      (try simp only [Exit.then,Exit.inBlock])
      have HX:=af.mk hHeld.1
      have HT:=af.mk hHeld.2
      clear hHeld
      go_wp2
      go_roundg g1
      case measure=>omega
      case rel=>exact ⟨j+1,by omega,by first|rfl|rw [EW.out]|(simp;omega),HX,HT⟩
    case true =>
      have hl:=HRW.out.loc j hjn hk
      have hk2:=hk
      unfold jV at hk2
      simp only [Bool.and_eq_true,decide_eq_true_eq] at hk2
      obtain ⟨⟨k1,k2⟩,_⟩:=hk2
      obtain ⟨q,hq⟩:=Int.eq_ofNat_of_zero_le (show 0≤s.p j - 1 by omega)
      have hpq:s.p j=(q:Int)+1:=by omega
      rw [hq] at hl
      obtain ⟨l1,l2,l3'⟩:=hl
      obtain ⟨mk,hmk⟩:=Int.eq_ofNat_of_zero_le l1
      rw [hmk] at l2 l3'
      have HYK:=Lib.hid (show Y j mk=true from l3')
      have HQL:=Lib.hid (show q < made.length by omega)
      have Yo:=Lib.hid (show mk < m by have:=HMN.out;omega)
      obtain ⟨g,cap,ev,_,_,_⟩:=Kd.zL HX.out.md (by omega)
      rw [ev] at HX
      rw [hpq] at hk
      have e2:wrap64 (q:Int)=(q:Int):=VQ HQL.out zn
      have b1:(q < made.length)=True:=eq_true HQL.out
      have b2:((q:Int) < (made.length:Int))=True:=eq_true (Int.ofNat_lt.2 HQL.out)
      have b3:(mk < m)=True:=eq_true Yo.out
      have b4:((mk:Int) < (m:Int))=True:=eq_true (Int.ofNat_lt.2 Yo.out)
      have b5:decide ((m:Int)≤(mk:Int))=false:=decide_eq_false (Int.not_le.2 (Int.ofNat_lt.2 Yo.out))
      have b6:decide (m≤mk)=false:=decide_eq_false (Nat.not_le.2 Yo.out)
      have b7:(m≤mk)=False:=eq_false (Nat.not_le.2 Yo.out)
      clear k1 k2 hq l1 l2 l3'
      refine wp_region_noPanic ?_
      refine oJ (n:=39) (S:=fun w'=>wB G c mb #[.slice A0 l0.length c0,.string a1,.string a2,.slice A3 l3.length c3] (cellsS s vP vV) (.slice (some ⟨g,0,none⟩) made.length cap) vT made types W1 w'∧nK s vP vV w') (ds:=[]) #[false,false,false,false,false,false,false,false,false,false,false,false,false,false,false,false,false,false,false,false,false,false,false,false,false,false,false,false,false,false,false,false,false,false,false,false,false,false,false] (by kernel_rfl) rfl rfl ⟨HX.out.drew,HT.out.below (ak (Below.refl _ _))⟩ (fun hHeld=>?_)
      refine kP uT.UE uT.OJ (fun fH qy=>?_)
      clear HX HT
      generalize World.drew _=Wd at hHeld ⊢
      refine bW (i:=0) (N:=(some 46)) (v:=?_) (a':=?_) #[true,false,false,false,false,false,false,false,false,false,false,false,false,false,false,false,false,false,false,false,false,false,false,false,false,false,false,false,false,false,false,false,false,false,false,false,false,false,false] rfl rfl (bG fH.out (by kernel_rfl)) (fun _ _ _ h=>h) (Or.inl ⟨by rfl,?_⟩) ?_ ?_
      rotate_left
      · intro w'
        go_simp
        with_reducible rfl
      rotate_left
      · simp only [Act.put,List.setIfInBounds_toArray,List.set_cons_zero,List.set_cons_succ,aX,aY]
        rfl
      refine bW (i:=1) (N:=(some 47)) (v:=?_) (a':=?_) #[true,true,false,false,false,false,false,false,false,false,false,false,false,false,false,false,false,false,false,false,false,false,false,false,false,false,false,false,false,false,false,false,false,false,false,false,false,false,false] rfl rfl (bG fH.out (by kernel_rfl)) (fun _ _ _ h=>h) (Or.inl ⟨by rfl,?_⟩) ?_ ?_
      rotate_left
      · intro w'
        go_simp
        with_reducible rfl
      rotate_left
      · simp only [Act.put,List.setIfInBounds_toArray,List.set_cons_zero,List.set_cons_succ,aX,aY]
        rfl
      refine bW (i:=2) (N:=(some 48)) (v:=?_) (a':=?_) #[true,true,true,false,false,false,false,false,false,false,false,false,false,false,false,false,false,false,false,false,false,false,false,false,false,false,false,false,false,false,false,false,false,false,false,false,false,false,false] rfl rfl (bG fH.out (by kernel_rfl)) (fun _ _ _ h=>h) (Or.inl ⟨by rfl,?_⟩) ?_ ?_
      rotate_left
      · intro w'
        go_simp
        with_reducible rfl
      rotate_left
      · simp only [Act.put,List.setIfInBounds_toArray,List.set_cons_zero,List.set_cons_succ,aX,aY]
        rfl
      refine bW (i:=3) (N:=(some 49)) (v:=?_) (a':=?_) #[true,true,true,true,false,false,false,false,false,false,false,false,false,false,false,false,false,false,false,false,false,false,false,false,false,false,false,false,false,false,false,false,false,false,false,false,false,false,false] rfl rfl (bG fH.out (by kernel_rfl)) (fun _ _ _ h=>h) (Or.inl ⟨by rfl,?_⟩) ?_ ?_
      rotate_left
      · intro w'
        go_simp
        with_reducible rfl
      rotate_left
      · simp only [Act.put,List.setIfInBounds_toArray,List.set_cons_zero,List.set_cons_succ,aX,aY]
        rfl
      refine jf (i:=4) (N:=(some 50)) (v:=?_) (a':=?_) #[true,true,true,true,true,false,false,false,false,false,false,false,false,false,false,false,false,false,false,false,false,false,false,false,false,false,false,false,false,false,false,false,false,false,false,false,false,false,false] rfl rfl (gm fH.out qy.out (by kernel_rfl)) (fun _ _ _ h=>h) (Or.inl ⟨by rfl,?_⟩) hHeld ?_ ?_
      rotate_left
      · intro w' pg
        have c_:w'.cell? ⟨c,8+j,none⟩=some (.int .i64 ((q:Int)+1)):=by rw [← hpq];exact pg.1.bs.qg j Y5
        go_simp
        with_reducible rfl
      rotate_left
      · simp only [Act.put,List.setIfInBounds_toArray,List.set_cons_zero,List.set_cons_succ,aX,aY]
        rfl
      refine nN (i:=5) (N:=(some 51)) #[true,true,true,true,true,true,false,false,false,false,false,false,false,false,false,false,false,false,false,false,false,false,false,false,false,false,false,false,false,false,false,false,false,false,false,false,false,false,false] rfl rfl (jU fH.out (by kernel_rfl)) (by decide) (fun K hK=>?_)
      refine Hy Tryd.func9 (by kernel_rfl) rfl #[.int .i64 ((q:Int)+1),.pointer (some ⟨mb,0,none⟩),.pointer (some ⟨G,0,none⟩)] (by rfl) rfl rfl (by rfl) (by (try simp only [List.map_toArray,List.map_cons,List.map_nil]);rfl) ?_
      refine (rP G c mb (cellsS s vP vV) _ _ made types k A0 c0 l0 a1 a2 A3 c3 l3 lk ((q:Int)+1) W1 _ hHeld.1 HR0.out hc0 HR3.out hc3 zn HRW.out.lks).mono ?_
      rintro e_ w4 ⟨rfl,hb4⟩
      refine ⟨_,rfl,?_⟩
      refine hK.out _ _ ⟨hHeld.1.below hb4,hHeld.2.below hb4⟩ (fun hHeld=>?_)
      clear hK K hb4
      refine iT (a':=?_) ?_ ?_
      rotate_left
      · simp only [jm,Act.put,List.setIfInBounds_toArray,List.set_cons_zero,List.set_cons_succ,aX,aY]
        rfl
      rw [hk]
      refine bW (i:=6) (N:=(some 52)) (v:=?_) (a':=?_) #[true,true,true,true,true,true,true,false,false,false,false,false,false,false,false,false,false,false,false,false,false,false,false,false,false,false,false,false,false,false,false,false,false,false,false,false,false,false,false] rfl rfl (bG fH.out (by kernel_rfl)) (fun _ _ _ h=>h) (Or.inl ⟨by rfl,?_⟩) ?_ ?_
      rotate_left
      · intro w'
        go_simp
        with_reducible rfl
      rotate_left
      · simp only [Act.put,List.setIfInBounds_toArray,List.set_cons_zero,List.set_cons_succ,aX,aY]
        rfl
      refine jf (i:=7) (N:=(some 53)) (v:=?_) (a':=?_) #[true,true,true,true,true,true,true,true,false,false,false,false,false,false,false,false,false,false,false,false,false,false,false,false,false,false,false,false,false,false,false,false,false,false,false,false,false,false,false] rfl rfl (gm fH.out qy.out (by kernel_rfl)) (fun _ _ _ h=>h) (Or.inl ⟨by rfl,?_⟩) hHeld ?_ ?_
      rotate_left
      · intro w' pg
        have c_:w'.cell? ⟨mb,0,none⟩=some (.slice (some ⟨g,0,none⟩) made.length cap):=pg.1.bm.cell 0
        go_simp
        with_reducible rfl
      rotate_left
      · simp only [Act.put,List.setIfInBounds_toArray,List.set_cons_zero,List.set_cons_succ,aX,aY]
        rfl
      refine bW (i:=8) (N:=(some 54)) (v:=?_) (a':=?_) #[true,true,true,true,true,true,true,true,true,false,false,false,false,false,false,false,false,false,false,false,false,false,false,false,false,false,false,false,false,false,false,false,false,false,false,false,false,false,false] rfl rfl (bG fH.out (by kernel_rfl)) (fun _ _ _ h=>h) (Or.inl ⟨by rfl,?_⟩) ?_ ?_
      rotate_left
      · intro w'
        go_simp
        with_reducible rfl
      rotate_left
      · simp only [Act.put,List.setIfInBounds_toArray,List.set_cons_zero,List.set_cons_succ,aX,aY]
        rfl
      refine bW (i:=9) (N:=(some 55)) (v:=?_) (a':=?_) #[true,true,true,true,true,true,true,true,true,true,false,false,false,false,false,false,false,false,false,false,false,false,false,false,false,false,false,false,false,false,false,false,false,false,false,false,false,false,false] rfl rfl (bG fH.out (by kernel_rfl)) (fun _ _ _ h=>h) (Or.inl ⟨by rfl,?_⟩) ?_ ?_
      rotate_left
      · intro w'
        go_simp
        with_reducible rfl
      rotate_left
      · simp only [Act.put,List.setIfInBounds_toArray,List.set_cons_zero,List.set_cons_succ,aX,aY]
        rfl
      refine bW (i:=10) (N:=(some 56)) (v:=?_) (a':=?_) #[true,true,true,true,true,true,true,true,true,true,true,false,false,false,false,false,false,false,false,false,false,false,false,false,false,false,false,false,false,false,false,false,false,false,false,false,false,false,false] rfl rfl (bG fH.out (by kernel_rfl)) (fun _ _ _ h=>h) (Or.inl ⟨by rfl,?_⟩) ?_ ?_
      rotate_left
      · intro w'
        go_simp
        with_reducible rfl
      rotate_left
      · simp only [Act.put,List.setIfInBounds_toArray,List.set_cons_zero,List.set_cons_succ,aX,aY]
        rfl
      refine jf (i:=11) (N:=(some 57)) (v:=?_) (a':=?_) #[true,true,true,true,true,true,true,true,true,true,true,true,false,false,false,false,false,false,false,false,false,false,false,false,false,false,false,false,false,false,false,false,false,false,false,false,false,false,false] rfl rfl (gm fH.out qy.out (by kernel_rfl)) (fun _ _ _ h=>h) (Or.inl ⟨by rfl,?_⟩) hHeld ?_ ?_
      rotate_left
      · intro w' pg
        have c_:w'.cell? ⟨c,8+j,none⟩=some (.int .i64 ((q:Int)+1)):=by rw [← hpq];exact pg.1.bs.qg j Y5
        go_simp
        with_reducible rfl
      rotate_left
      · simp only [Act.put,List.setIfInBounds_toArray,List.set_cons_zero,List.set_cons_succ,aX,aY]
        rfl
      refine bW (i:=12) (N:=(some 58)) (v:=?_) (a':=?_) #[true,true,true,true,true,true,true,true,true,true,true,true,true,false,false,false,false,false,false,false,false,false,false,false,false,false,false,false,false,false,false,false,false,false,false,false,false,false,false] rfl rfl (bG fH.out (by kernel_rfl)) (fun _ _ _ h=>h) (Or.inl ⟨by rfl,?_⟩) ?_ ?_
      rotate_left
      · intro w'
        go_simp
        with_reducible rfl
      rotate_left
      · simp only [Act.put,List.setIfInBounds_toArray,List.set_cons_zero,List.set_cons_succ,aX,aY]
        rfl
      refine bW (i:=13) (N:=(some 59)) (v:=?_) (a':=?_) #[true,true,true,true,true,true,true,true,true,true,true,true,true,true,false,false,false,false,false,false,false,false,false,false,false,false,false,false,false,false,false,false,false,false,false,false,false,false,false] rfl rfl (bG fH.out (by kernel_rfl)) (fun _ _ _ h=>h) (Or.inl ⟨by rfl,?_⟩) ?_ ?_
      rotate_left
      · intro w'
        go_simp
        with_reducible rfl
      rotate_left
      · simp only [Act.put,List.setIfInBounds_toArray,List.set_cons_zero,List.set_cons_succ,aX,aY]
        rfl
      refine jf (i:=14) (N:=(some 60)) (v:=?_) (a':=?_) #[true,true,true,true,true,true,true,true,true,true,true,true,true,true,true,false,false,false,false,false,false,false,false,false,false,false,false,false,false,false,false,false,false,false,false,false,false,false,false] rfl rfl (gm fH.out qy.out (by kernel_rfl)) (fun _ _ _ h=>h) (Or.inl ⟨by rfl,?_⟩) hHeld ?_ ?_
      rotate_left
      · intro w' pg
        have c_:w'.cell? ⟨g,q,none⟩=some (.int .i64 (mk:Int)):=by rw [← hmk];exact (Kd.rZ 0 pg.1.md (q:Int) (Int.natCast_nonneg q) (Int.ofNat_lt.2 HQL.out)).1
        go_simp
        with_reducible rfl
      rotate_left
      · simp only [Act.put,List.setIfInBounds_toArray,List.set_cons_zero,List.set_cons_succ,aX,aY]
        rfl
      refine bW (i:=15) (N:=(some 61)) (v:=?_) (a':=?_) #[true,true,true,true,true,true,true,true,true,true,true,true,true,true,true,true,false,false,false,false,false,false,false,false,false,false,false,false,false,false,false,false,false,false,false,false,false,false,false] rfl rfl (bG fH.out (by kernel_rfl)) (fun _ _ _ h=>h) (Or.inl ⟨by rfl,?_⟩) ?_ ?_
      rotate_left
      · intro w'
        go_simp
        with_reducible rfl
      rotate_left
      · simp only [Act.put,List.setIfInBounds_toArray,List.set_cons_zero,List.set_cons_succ,aX,aY]
        rfl
      refine bW (i:=16) (N:=(some 62)) (v:=?_) (a':=?_) #[true,true,true,true,true,true,true,true,true,true,true,true,true,true,true,true,true,false,false,false,false,false,false,false,false,false,false,false,false,false,false,false,false,false,false,false,false,false,false] rfl rfl (bG fH.out (by kernel_rfl)) (fun _ _ _ h=>h) (Or.inl ⟨by rfl,?_⟩) ?_ ?_
      rotate_left
      · intro w'
        go_simp
        with_reducible rfl
      rotate_left
      · simp only [Act.put,List.setIfInBounds_toArray,List.set_cons_zero,List.set_cons_succ,aX,aY]
        rfl
      refine bW (i:=17) (N:=(some 63)) (v:=?_) (a':=?_) #[true,true,true,true,true,true,true,true,true,true,true,true,true,true,true,true,true,true,false,false,false,false,false,false,false,false,false,false,false,false,false,false,false,false,false,false,false,false,false] rfl rfl (bG fH.out (by kernel_rfl)) (fun _ _ _ h=>h) (Or.inl ⟨by rfl,?_⟩) ?_ ?_
      rotate_left
      · intro w'
        go_simp
        with_reducible rfl
      rotate_left
      · simp only [Act.put,List.setIfInBounds_toArray,List.set_cons_zero,List.set_cons_succ,aX,aY]
        rfl
      refine jf (i:=18) (N:=(some 64)) (v:=?_) (a':=?_) #[true,true,true,true,true,true,true,true,true,true,true,true,true,true,true,true,true,true,true,false,false,false,false,false,false,false,false,false,false,false,false,false,false,false,false,false,false,false,false] rfl rfl (gm fH.out qy.out (by kernel_rfl)) (fun _ _ _ h=>h) (Or.inl ⟨by rfl,?_⟩) hHeld ?_ ?_
      rotate_left
      · intro w' pg
        have c_:w'.cell? ⟨Om,j,none⟩=some (.slice (some ⟨r0+j,0,none⟩) m m):=(HMm.out.of (fun i hi=>pg.1.bel.block i hi)).out.cell hjn
        go_simp
        with_reducible rfl
      rotate_left
      · simp only [Act.put,List.setIfInBounds_toArray,List.set_cons_zero,List.set_cons_succ,aX,aY]
        rfl
      refine bW (i:=19) (N:=(some 65)) (v:=?_) (a':=?_) #[true,true,true,true,true,true,true,true,true,true,true,true,true,true,true,true,true,true,true,true,false,false,false,false,false,false,false,false,false,false,false,false,false,false,false,false,false,false,false] rfl rfl (bG fH.out (by kernel_rfl)) (fun _ _ _ h=>h) (Or.inl ⟨by rfl,?_⟩) ?_ ?_
      rotate_left
      · intro w'
        go_simp
        with_reducible rfl
      rotate_left
      · simp only [Act.put,List.setIfInBounds_toArray,List.set_cons_zero,List.set_cons_succ,aX,aY]
        rfl
      refine bW (i:=20) (N:=(some 66)) (v:=?_) (a':=?_) #[true,true,true,true,true,true,true,true,true,true,true,true,true,true,true,true,true,true,true,true,true,false,false,false,false,false,false,false,false,false,false,false,false,false,false,false,false,false,false] rfl rfl (bG fH.out (by kernel_rfl)) (fun _ _ _ h=>h) (Or.inl ⟨by rfl,?_⟩) ?_ ?_
      rotate_left
      · intro w'
        go_simp
        with_reducible rfl
      rotate_left
      · simp only [Act.put,List.setIfInBounds_toArray,List.set_cons_zero,List.set_cons_succ,aX,aY]
        rfl
      refine bW (i:=21) (N:=(some 67)) (v:=?_) (a':=?_) #[true,true,true,true,true,true,true,true,true,true,true,true,true,true,true,true,true,true,true,true,true,true,false,false,false,false,false,false,false,false,false,false,false,false,false,false,false,false,false] rfl rfl (bG fH.out (by kernel_rfl)) (fun _ _ _ h=>h) (Or.inl ⟨by rfl,?_⟩) ?_ ?_
      rotate_left
      · intro w'
        go_simp
        with_reducible rfl
      rotate_left
      · simp only [Act.put,List.setIfInBounds_toArray,List.set_cons_zero,List.set_cons_succ,aX,aY]
        rfl
      refine bW (i:=22) (N:=(some 68)) (v:=?_) (a':=?_) #[true,true,true,true,true,true,true,true,true,true,true,true,true,true,true,true,true,true,true,true,true,true,true,false,false,false,false,false,false,false,false,false,false,false,false,false,false,false,false] rfl rfl (bG fH.out (by kernel_rfl)) (fun _ _ _ h=>h) (Or.inl ⟨by rfl,?_⟩) ?_ ?_
      rotate_left
      · intro w'
        go_simp
        with_reducible rfl
      rotate_left
      · simp only [Act.put,List.setIfInBounds_toArray,List.set_cons_zero,List.set_cons_succ,aX,aY]
        rfl
      refine bW (i:=23) (N:=(some 69)) (v:=?_) (a':=?_) #[true,true,true,true,true,true,true,true,true,true,true,true,true,true,true,true,true,true,true,true,true,true,true,true,false,false,false,false,false,false,false,false,false,false,false,false,false,false,false] rfl rfl (bG fH.out (by kernel_rfl)) (fun _ _ _ h=>h) (Or.inl ⟨by rfl,?_⟩) ?_ ?_
      rotate_left
      · intro w'
        go_simp
        with_reducible rfl
      rotate_left
      · simp only [Act.put,List.setIfInBounds_toArray,List.set_cons_zero,List.set_cons_succ,aX,aY]
        rfl
      refine bW (i:=24) (N:=(some 70)) (v:=?_) (a':=?_) #[true,true,true,true,true,true,true,true,true,true,true,true,true,true,true,true,true,true,true,true,true,true,true,true,true,false,false,false,false,false,false,false,false,false,false,false,false,false,false] rfl rfl (bG fH.out (by kernel_rfl)) (fun _ _ _ h=>h) (Or.inl ⟨by rfl,?_⟩) ?_ ?_
      rotate_left
      · intro w'
        go_simp
        with_reducible rfl
      rotate_left
      · simp only [Act.put,List.setIfInBounds_toArray,List.set_cons_zero,List.set_cons_succ,aX,aY]
        rfl
      refine jf (i:=25) (N:=(some 71)) (v:=?_) (a':=?_) #[true,true,true,true,true,true,true,true,true,true,true,true,true,true,true,true,true,true,true,true,true,true,true,true,true,true,false,false,false,false,false,false,false,false,false,false,false,false,false] rfl rfl (gm fH.out qy.out (by kernel_rfl)) (fun _ _ _ h=>h) (Or.inl ⟨by rfl,?_⟩) hHeld ?_ ?_
      rotate_left
      · intro w' pg
        have c_:w'.cell? ⟨Om,j,none⟩=some (.slice (some ⟨r0+j,0,none⟩) m m):=(HMm.out.of (fun i hi=>pg.1.bel.block i hi)).out.cell hjn
        go_simp
        with_reducible rfl
      rotate_left
      · simp only [Act.put,List.setIfInBounds_toArray,List.set_cons_zero,List.set_cons_succ,aX,aY]
        rfl
      refine jf (i:=26) (N:=(some 72)) (v:=?_) (a':=?_) #[true,true,true,true,true,true,true,true,true,true,true,true,true,true,true,true,true,true,true,true,true,true,true,true,true,true,true,false,false,false,false,false,false,false,false,false,false,false,false] rfl rfl (gm fH.out qy.out (by kernel_rfl)) (fun _ _ _ h=>h) (Or.inl ⟨by rfl,?_⟩) hHeld ?_ ?_
      rotate_left
      · intro w' pg
        have c_:w'.cell? ⟨mb,0,none⟩=some (.slice (some ⟨g,0,none⟩) made.length cap):=pg.1.bm.cell 0
        go_simp
        with_reducible rfl
      rotate_left
      · simp only [Act.put,List.setIfInBounds_toArray,List.set_cons_zero,List.set_cons_succ,aX,aY]
        rfl
      refine bW (i:=27) (N:=(some 73)) (v:=?_) (a':=?_) #[true,true,true,true,true,true,true,true,true,true,true,true,true,true,true,true,true,true,true,true,true,true,true,true,true,true,true,true,false,false,false,false,false,false,false,false,false,false,false] rfl rfl (bG fH.out (by kernel_rfl)) (fun _ _ _ h=>h) (Or.inl ⟨by rfl,?_⟩) ?_ ?_
      rotate_left
      · intro w'
        go_simp
        with_reducible rfl
      rotate_left
      · simp only [Act.put,List.setIfInBounds_toArray,List.set_cons_zero,List.set_cons_succ,aX,aY]
        rfl
      refine bW (i:=28) (N:=(some 74)) (v:=?_) (a':=?_) #[true,true,true,true,true,true,true,true,true,true,true,true,true,true,true,true,true,true,true,true,true,true,true,true,true,true,true,true,true,false,false,false,false,false,false,false,false,false,false] rfl rfl (bG fH.out (by kernel_rfl)) (fun _ _ _ h=>h) (Or.inl ⟨by rfl,?_⟩) ?_ ?_
      rotate_left
      · intro w'
        go_simp
        with_reducible rfl
      rotate_left
      · simp only [Act.put,List.setIfInBounds_toArray,List.set_cons_zero,List.set_cons_succ,aX,aY]
        rfl
      refine bW (i:=29) (N:=(some 75)) (v:=?_) (a':=?_) #[true,true,true,true,true,true,true,true,true,true,true,true,true,true,true,true,true,true,true,true,true,true,true,true,true,true,true,true,true,true,false,false,false,false,false,false,false,false,false] rfl rfl (bG fH.out (by kernel_rfl)) (fun _ _ _ h=>h) (Or.inl ⟨by rfl,?_⟩) ?_ ?_
      rotate_left
      · intro w'
        go_simp
        with_reducible rfl
      rotate_left
      · simp only [Act.put,List.setIfInBounds_toArray,List.set_cons_zero,List.set_cons_succ,aX,aY]
        rfl
      refine jf (i:=30) (N:=(some 76)) (v:=?_) (a':=?_) #[true,true,true,true,true,true,true,true,true,true,true,true,true,true,true,true,true,true,true,true,true,true,true,true,true,true,true,true,true,true,true,false,false,false,false,false,false,false,false] rfl rfl (gm fH.out qy.out (by kernel_rfl)) (fun _ _ _ h=>h) (Or.inl ⟨by rfl,?_⟩) hHeld ?_ ?_
      rotate_left
      · intro w' pg
        have c_:w'.cell? ⟨c,8+j,none⟩=some (.int .i64 ((q:Int)+1)):=by rw [← hpq];exact pg.1.bs.qg j Y5
        go_simp
        with_reducible rfl
      rotate_left
      · simp only [Act.put,List.setIfInBounds_toArray,List.set_cons_zero,List.set_cons_succ,aX,aY]
        rfl
      refine bW (i:=31) (N:=(some 77)) (v:=?_) (a':=?_) #[true,true,true,true,true,true,true,true,true,true,true,true,true,true,true,true,true,true,true,true,true,true,true,true,true,true,true,true,true,true,true,true,false,false,false,false,false,false,false] rfl rfl (bG fH.out (by kernel_rfl)) (fun _ _ _ h=>h) (Or.inl ⟨by rfl,?_⟩) ?_ ?_
      rotate_left
      · intro w'
        go_simp
        with_reducible rfl
      rotate_left
      · simp only [Act.put,List.setIfInBounds_toArray,List.set_cons_zero,List.set_cons_succ,aX,aY]
        rfl
      refine bW (i:=32) (N:=(some 78)) (v:=?_) (a':=?_) #[true,true,true,true,true,true,true,true,true,true,true,true,true,true,true,true,true,true,true,true,true,true,true,true,true,true,true,true,true,true,true,true,true,false,false,false,false,false,false] rfl rfl (bG fH.out (by kernel_rfl)) (fun _ _ _ h=>h) (Or.inl ⟨by rfl,?_⟩) ?_ ?_
      rotate_left
      · intro w'
        go_simp
        with_reducible rfl
      rotate_left
      · simp only [Act.put,List.setIfInBounds_toArray,List.set_cons_zero,List.set_cons_succ,aX,aY]
        rfl
      refine jf (i:=33) (N:=(some 79)) (v:=?_) (a':=?_) #[true,true,true,true,true,true,true,true,true,true,true,true,true,true,true,true,true,true,true,true,true,true,true,true,true,true,true,true,true,true,true,true,true,true,false,false,false,false,false] rfl rfl (gm fH.out qy.out (by kernel_rfl)) (fun _ _ _ h=>h) (Or.inl ⟨by rfl,?_⟩) hHeld ?_ ?_
      rotate_left
      · intro w' pg
        have c_:w'.cell? ⟨g,q,none⟩=some (.int .i64 (mk:Int)):=by rw [← hmk];exact (Kd.rZ 0 pg.1.md (q:Int) (Int.natCast_nonneg q) (Int.ofNat_lt.2 HQL.out)).1
        go_simp
        with_reducible rfl
      rotate_left
      · simp only [Act.put,List.setIfInBounds_toArray,List.set_cons_zero,List.set_cons_succ,aX,aY]
        rfl
      refine bW (i:=34) (N:=(some 80)) (v:=?_) (a':=?_) #[true,true,true,true,true,true,true,true,true,true,true,true,true,true,true,true,true,true,true,true,true,true,true,true,true,true,true,true,true,true,true,true,true,true,true,false,false,false,false] rfl rfl (bG fH.out (by kernel_rfl)) (fun _ _ _ h=>h) (Or.inl ⟨by rfl,?_⟩) ?_ ?_
      rotate_left
      · intro w'
        go_simp
        with_reducible rfl
      rotate_left
      · simp only [Act.put,List.setIfInBounds_toArray,List.set_cons_zero,List.set_cons_succ,aX,aY]
        rfl
      refine jf (i:=35) (N:=(some 81)) (v:=?_) (a':=?_) #[true,true,true,true,true,true,true,true,true,true,true,true,true,true,true,true,true,true,true,true,true,true,true,true,true,true,true,true,true,true,true,true,true,true,true,true,false,false,false] rfl rfl (gm fH.out qy.out (by kernel_rfl)) (fun _ _ _ h=>h) (Or.inl ⟨by rfl,?_⟩) hHeld ?_ ?_
      rotate_left
      · intro w' pg
        have c_:w'.cell? ⟨r0+j,mk,none⟩=some (.bool true):=by rw [← HYK.out];exact ((HMm.out.of (fun i hi=>pg.1.bel.block i hi)).row j hjn).cell Yo.out
        go_simp
        with_reducible rfl
      rotate_left
      · simp only [Act.put,List.setIfInBounds_toArray,List.set_cons_zero,List.set_cons_succ,aX,aY]
        rfl
      refine bW (i:=36) (N:=(some 82)) (v:=?_) (a':=?_) #[true,true,true,true,true,true,true,true,true,true,true,true,true,true,true,true,true,true,true,true,true,true,true,true,true,true,true,true,true,true,true,true,true,true,true,true,true,false,false] rfl rfl (bG fH.out (by kernel_rfl)) (fun _ _ _ h=>h) (Or.inl ⟨by rfl,?_⟩) ?_ ?_
      rotate_left
      · intro w'
        go_simp
        with_reducible rfl
      rotate_left
      · simp only [Act.put,List.setIfInBounds_toArray,List.set_cons_zero,List.set_cons_succ,aX,aY]
        rfl
      refine bW (i:=37) (N:=(some 83)) (v:=?_) (a':=?_) #[true,true,true,true,true,true,true,true,true,true,true,true,true,true,true,true,true,true,true,true,true,true,true,true,true,true,true,true,true,true,true,true,true,true,true,true,true,true,false] rfl rfl (bG fH.out (by kernel_rfl)) (fun _ _ _ h=>h) (Or.inl ⟨by rfl,?_⟩) ?_ ?_
      rotate_left
      · intro w'
        go_simp
        with_reducible rfl
      rotate_left
      · simp only [Act.put,List.setIfInBounds_toArray,List.set_cons_zero,List.set_cons_succ,aX,aY]
        rfl
      refine bW (i:=38) (N:=(some 84)) (v:=?_) (a':=?_) #[true,true,true,true,true,true,true,true,true,true,true,true,true,true,true,true,true,true,true,true,true,true,true,true,true,true,true,true,true,true,true,true,true,true,true,true,true,true,true] rfl rfl (bG fH.out (by kernel_rfl)) (fun _ _ _ h=>h) (Or.inl ⟨by rfl,?_⟩) ?_ ?_
      rotate_left
      · intro w'
        go_simp
        with_reducible rfl
      rotate_left
      · simp only [Act.put,List.setIfInBounds_toArray,List.set_cons_zero,List.set_cons_succ,aX,aY]
        rfl
      refine qW (nV fH.out (by kernel_rfl)) ?_
      refine NoPanic.normal ?_
      (try simp only [Exit.then,Exit.inBlock])
      have HX:=af.mk hHeld.1
      have HT:=af.mk hHeld.2
      clear hHeld
      rw [← ev] at HX
      go_wp2
      go_roundg g1
      case measure=>omega
      case rel=>exact ⟨j+1,by omega,by first|rfl|rw [EW.out]|(simp;omega),HX,HT⟩
  have hdj:decide ((j:Int) < (a1.size:Int))=false:=decide_eq_false (by omega)
  have hdn:decide (j < a1.size)=false:=decide_eq_false hjn
  have hdp:(j < a1.size)=False:=eq_false hjn
  clear hjn hkj
  have hg4:=HX.out.bs.gs
  go_upto_region 19 with (((with_reducible refine bD (N:=87) rfl ?_);refine nO rfl 32 (.tmp 86) rfl c 16 rfl (row4 s.g) _ hg4 Tryd.underlying32 rfl (by kernel_rfl) ?_))
  clear hg4 hdj hdn hdp
  go_loopg [88] 4 (fun kq iv wq=>∃ (j:Nat),kq+j=4∧iv=.int .i64 j∧af (wB G c mb #[.slice A0 l0.length c0,.string a1,.string a2,.slice A3 l3.length c3] (cellsS s vP vV) vM vT made types W1 wq)∧af (nK s vP vV wq))
  case atStart=>exact ⟨0,Nat.add_zero _,rfl,HX,HT⟩
  case round =>
  clear HX HT
  obtain ⟨j,hkj,rfl,HX,HT⟩:=hrel
  by_cases hjn:j < 4
  case pos =>
    obtain ⟨g1,rfl⟩:∃ g,gk=g+1:=⟨gk - 1,by omega⟩
    have hdj:decide ((j:Int) < 4)=true:=decide_eq_true (by omega)
    have hdn:decide (j < 4)=true:=decide_eq_true hjn
    have hix:=fun w=>WL s.g j hjn w
    have ew:wrap64 ((j:Int)+1)=((j+1:Nat):Int):=by unfold wrap64;omega
    have EW:=Lib.hid ew
    clear ew VF HST
    go_upto_region 999 with (fail)
    refine (rP G c mb (cellsS s vP vV) _ _ made types k A0 c0 l0 a1 a2 A3 c3 l3 lk (s.g j) W1 _ HX.out HR0.out hc0 HR3.out hc3 zn HRW.out.lks).mono ?_
    rintro e_ w4 ⟨rfl,hb4⟩
    have hkf:=HRW.out.TP j hjn
    replace HX:=af.mk (HX.out.below hb4)
    replace HT:=af.mk (HT.out.below hb4)
    rw [hkf]
    clear hb4 hkf hix
    go_wp2
    go_roundg g1
    case measure=>omega
    case rel=>exact ⟨j+1,by omega,by first|rfl|rw [EW.out]|(simp;omega),HX,HT⟩
  have hdj:decide ((j:Int) < 4)=false:=decide_eq_false (by omega)
  have hdn:decide (j < 4)=false:=decide_eq_false hjn
  have hdp:(j < 4)=False:=eq_false hjn
  clear hjn hkj
  obtain ⟨AO,cO,rfl,MF,_⟩:=HT.out.rd.aK
  have c20:World.cell? _ ⟨c,20,none⟩=some (.slice AO s.aK.length cO):=HX.out.bs.cell 20
  go_upto_region 25 with (fail)
  clear c20 hdj hdn hdp
  go_loopg [98] s.aK.length (fun kq iv wq=>∃ (z:Nat),kq+z=s.aK.length∧iv=.int .i64 z∧af (wB G c mb #[.slice A0 l0.length c0,.string a1,.string a2,.slice A3 l3.length c3] (cellsS s (.slice AO s.aK.length cO) vV) vM vT made types W1 wq)∧af (nK s (.slice AO s.aK.length cO) vV wq))
  case atStart=>exact ⟨0,Nat.add_zero _,rfl,HX,HT⟩
  case round =>
  clear HX HT
  obtain ⟨z,hkz,rfl,HX,HT⟩:=hrel
  by_cases hzn:z < s.aK.length
  case pos =>
    obtain ⟨g1,rfl⟩:∃ g,gk=g+1:=⟨gk - 1,by omega⟩
    have hdz:decide ((z:Int) < (s.aK.length:Int))=true:=decide_eq_true (by omega)
    have hdn:decide (z < s.aK.length)=true:=decide_eq_true hzn
    have aiX:s.aK.length≤300:=HRW.out.few.1
    have VC:=Lib.hid (show z < types.length by have:=HRW.out.agK;omega)
    obtain ⟨ad,A1,cr,hA,hcell,hcr,hC1⟩:=wW (nK.YI HT.out) (z:Int) (Int.natCast_nonneg z) (by omega)
    subst hA
    obtain ⟨gt,ct,evT,_,_,_⟩:=Kd.zL HX.out.ty (by have:=VC.out;omega)
    subst evT
    have hl6:(jl s.aK z).length≤6:=HRW.out.few.2 z hzn
    have hfl:=HRW.out.Pz z hzn VC.out
    have HFL:=Lib.hid hfl
    have yI:=af.mk hC1
    have ewz:wrap64 ((z:Int)+1)=((z+1:Nat):Int):=by unfold wrap64;omega
    have EWZ:=Lib.hid ewz
    have jz1:(z < s.aK.length)=True:=eq_true hzn
    have jz2:((z:Int) < (s.aK.length:Int))=True:=eq_true (by omega)
    have jz3:(z < types.length)=True:=eq_true VC.out
    have jz4:((z:Int) < (types.length:Int))=True:=eq_true (Int.ofNat_lt.2 VC.out)
    have hdt:decide (z < types.length)=true:=decide_eq_true VC.out
    have ami:decide ((z:Int) < (types.length:Int))=true:=decide_eq_true (Int.ofNat_lt.2 VC.out)
    rw [Int.toNat_natCast] at hcell
    clear ewz hfl hC1 VF HST
    go_upto_region 28 with (fail)
    clear hcell
    go_loopg [105] (jl s.aK z).length (fun kq iv wq=>∃ (f:Nat),kq+f=(jl s.aK z).length∧iv=.int .i64 f∧af (wB G c mb #[.slice A0 l0.length c0,.string a1,.string a2,.slice A3 l3.length c3] (cellsS s (.slice (some ad) s.aK.length cO) vV) vM (.slice (some ⟨gt,0,none⟩) types.length ct) made types W1 wq)∧af (nK s (.slice (some ad) s.aK.length cO) vV wq)∧af ((Kd.int .i64).C wq A1 (jl s.aK z).length (jl s.aK z)))
    case atStart=>exact ⟨0,Nat.add_zero _,rfl,HX,HT,yI⟩
    case round =>
    clear HX HT yI
    obtain ⟨f,amg,rfl,HX,HT,yI⟩:=hrel
    by_cases hfn:f < (jl s.aK z).length
    case pos =>
      obtain ⟨g2,rfl⟩:∃ g,gk=g+1:=⟨gk - 1,by omega⟩
      have hdf:decide ((f:Int) < ((jl s.aK z).length:Int))=true:=decide_eq_true (by omega)
      have amj:decide (f < (jl s.aK z).length)=true:=decide_eq_true hfn
      obtain ⟨PH,hA2,hy⟩:=Kd.Ih yI.out (f:Int) (Int.natCast_nonneg f) (by omega)
      subst hA2
      have jf1:(f < (jl s.aK z).length)=True:=eq_true hfn
      have jf2:((f:Int) < ((jl s.aK z).length:Int))=True:=eq_true (by omega)
      have ewf:wrap64 ((f:Int)+1)=((f+1:Nat):Int):=by unfold wrap64;omega
      have EWF:=Lib.hid ewf
      obtain ⟨rt,hto,hkr⟩:=HFL.out f hfn
      have HTO:=Lib.hid hto
      rw [Int.toNat_natCast] at hy
      clear ewf hto
      go_upto_region 30 with (fail)
      clear hy
      by_cases hr0:0≤rt
      case pos =>
        have hr1:decide ((0:Int)≤rt)=true:=decide_eq_true hr0
        have hkf:jV made lk (rd (jl s.aK z) f)=false:=hkr hr0
        clear hr0 hkr
        refine wp_region_noPanic ?_
        refine oJ (n:=20) (S:=fun w'=>wB G c mb #[.slice A0 l0.length c0,.string a1,.string a2,.slice A3 l3.length c3] (cellsS s (.slice (some ad) s.aK.length cO) vV) vM (.slice (some ⟨gt,0,none⟩) types.length ct) made types W1 w'∧nK s (.slice (some ad) s.aK.length cO) vV w'∧(Kd.int .i64).C w' (some PH) (jl s.aK z).length (jl s.aK z)) (ds:=[]) #[false,false,false,false,false,false,false,false,false,false,false,false,false,false,false,false,false,false,false,false] (by kernel_rfl) rfl rfl ⟨HX.out.drew,HT.out.below (ak (Below.refl _ _)),Kd.bQ yI.out (ak (Below.refl _ _))⟩ (fun hHeld=>?_)
        refine kP uT.UD uT.OI (fun fH qy=>?_)
        clear HX HT yI
        generalize World.drew _=Wd at hHeld ⊢
        refine bW (i:=0) (N:=(some 110)) (v:=?_) (a':=?_) #[true,false,false,false,false,false,false,false,false,false,false,false,false,false,false,false,false,false,false,false] rfl rfl (bG fH.out (by kernel_rfl)) (fun _ _ _ h=>h) (Or.inl ⟨by rfl,?_⟩) ?_ ?_
        rotate_left
        · intro w'
          go_simp
          with_reducible rfl
        rotate_left
        · simp only [Act.put,List.setIfInBounds_toArray,List.set_cons_zero,List.set_cons_succ,aX,aY]
          rfl
        refine bW (i:=1) (N:=(some 111)) (v:=?_) (a':=?_) #[true,true,false,false,false,false,false,false,false,false,false,false,false,false,false,false,false,false,false,false] rfl rfl (bG fH.out (by kernel_rfl)) (fun _ _ _ h=>h) (Or.inl ⟨by rfl,?_⟩) ?_ ?_
        rotate_left
        · intro w'
          go_simp
          with_reducible rfl
        rotate_left
        · simp only [Act.put,List.setIfInBounds_toArray,List.set_cons_zero,List.set_cons_succ,aX,aY]
          rfl
        refine bW (i:=2) (N:=(some 112)) (v:=?_) (a':=?_) #[true,true,true,false,false,false,false,false,false,false,false,false,false,false,false,false,false,false,false,false] rfl rfl (bG fH.out (by kernel_rfl)) (fun _ _ _ h=>h) (Or.inl ⟨by rfl,?_⟩) ?_ ?_
        rotate_left
        · intro w'
          go_simp
          with_reducible rfl
        rotate_left
        · simp only [Act.put,List.setIfInBounds_toArray,List.set_cons_zero,List.set_cons_succ,aX,aY]
          rfl
        refine bW (i:=3) (N:=(some 113)) (v:=?_) (a':=?_) #[true,true,true,true,false,false,false,false,false,false,false,false,false,false,false,false,false,false,false,false] rfl rfl (bG fH.out (by kernel_rfl)) (fun _ _ _ h=>h) (Or.inl ⟨by rfl,?_⟩) ?_ ?_
        rotate_left
        · intro w'
          go_simp
          with_reducible rfl
        rotate_left
        · simp only [Act.put,List.setIfInBounds_toArray,List.set_cons_zero,List.set_cons_succ,aX,aY]
          rfl
        refine bW (i:=4) (N:=(some 114)) (v:=?_) (a':=?_) #[true,true,true,true,true,false,false,false,false,false,false,false,false,false,false,false,false,false,false,false] rfl rfl (bG fH.out (by kernel_rfl)) (fun _ _ _ h=>h) (Or.inl ⟨by rfl,?_⟩) ?_ ?_
        rotate_left
        · intro w'
          go_simp
          with_reducible rfl
        rotate_left
        · simp only [Act.put,List.setIfInBounds_toArray,List.set_cons_zero,List.set_cons_succ,aX,aY]
          rfl
        refine bW (i:=5) (N:=(some 115)) (v:=?_) (a':=?_) #[true,true,true,true,true,true,false,false,false,false,false,false,false,false,false,false,false,false,false,false] rfl rfl (bG fH.out (by kernel_rfl)) (fun _ _ _ h=>h) (Or.inl ⟨by rfl,?_⟩) ?_ ?_
        rotate_left
        · intro w'
          go_simp
          with_reducible rfl
        rotate_left
        · simp only [Act.put,List.setIfInBounds_toArray,List.set_cons_zero,List.set_cons_succ,aX,aY]
          rfl
        refine jf (i:=6) (N:=(some 116)) (v:=?_) (a':=?_) #[true,true,true,true,true,true,true,false,false,false,false,false,false,false,false,false,false,false,false,false] rfl rfl (gm fH.out qy.out (by kernel_rfl)) (fun _ _ _ h=>h) (Or.inl ⟨by rfl,?_⟩) hHeld ?_ ?_
        rotate_left
        · intro w' pg
          have c_:w'.cell? ⟨G,0,none⟩=some (.slice A0 l0.length c0):=pg.1.bp.cell 0
          go_simp
          with_reducible rfl
        rotate_left
        · simp only [Act.put,List.setIfInBounds_toArray,List.set_cons_zero,List.set_cons_succ,aX,aY]
          rfl
        refine bW (i:=7) (N:=(some 117)) (v:=?_) (a':=?_) #[true,true,true,true,true,true,true,true,false,false,false,false,false,false,false,false,false,false,false,false] rfl rfl (bG fH.out (by kernel_rfl)) (fun _ _ _ h=>h) (Or.inl ⟨by rfl,?_⟩) ?_ ?_
        rotate_left
        · intro w'
          go_simp
          with_reducible rfl
        rotate_left
        · simp only [Act.put,List.setIfInBounds_toArray,List.set_cons_zero,List.set_cons_succ,aX,aY]
          rfl
        refine bW (i:=8) (N:=(some 118)) (v:=?_) (a':=?_) #[true,true,true,true,true,true,true,true,true,false,false,false,false,false,false,false,false,false,false,false] rfl rfl (bG fH.out (by kernel_rfl)) (fun _ _ _ h=>h) (Or.inl ⟨by rfl,?_⟩) ?_ ?_
        rotate_left
        · intro w'
          go_simp
          with_reducible rfl
        rotate_left
        · simp only [Act.put,List.setIfInBounds_toArray,List.set_cons_zero,List.set_cons_succ,aX,aY]
          rfl
        refine bW (i:=9) (N:=(some 119)) (v:=?_) (a':=?_) #[true,true,true,true,true,true,true,true,true,true,false,false,false,false,false,false,false,false,false,false] rfl rfl (bG fH.out (by kernel_rfl)) (fun _ _ _ h=>h) (Or.inl ⟨by rfl,?_⟩) ?_ ?_
        rotate_left
        · intro w'
          go_simp
          with_reducible rfl
        rotate_left
        · simp only [Act.put,List.setIfInBounds_toArray,List.set_cons_zero,List.set_cons_succ,aX,aY]
          rfl
        refine jf (i:=10) (N:=(some 120)) (v:=?_) (a':=?_) #[true,true,true,true,true,true,true,true,true,true,true,false,false,false,false,false,false,false,false,false] rfl rfl (gm fH.out qy.out (by kernel_rfl)) (fun _ _ _ h=>h) (Or.inl ⟨by rfl,?_⟩) hHeld ?_ ?_
        rotate_left
        · intro w' pg
          have c_:w'.cell? ⟨gt,z,none⟩=some (.int .i64 (rd types z)):=(Kd.rZ 0 pg.1.ty (z:Int) (Int.natCast_nonneg z) (Int.ofNat_lt.2 VC.out)).1
          go_simp
          with_reducible rfl
        rotate_left
        · simp only [Act.put,List.setIfInBounds_toArray,List.set_cons_zero,List.set_cons_succ,aX,aY]
          rfl
        refine bW (i:=11) (N:=(some 121)) (v:=?_) (a':=?_) #[true,true,true,true,true,true,true,true,true,true,true,true,false,false,false,false,false,false,false,false] rfl rfl (bG fH.out (by kernel_rfl)) (fun _ _ _ h=>h) (Or.inl ⟨by rfl,?_⟩) ?_ ?_
        rotate_left
        · intro w'
          go_simp
          with_reducible rfl
        rotate_left
        · simp only [Act.put,List.setIfInBounds_toArray,List.set_cons_zero,List.set_cons_succ,aX,aY]
          rfl
        refine nN (i:=12) (N:=(some 122)) #[true,true,true,true,true,true,true,true,true,true,true,true,true,false,false,false,false,false,false,false] rfl rfl (jU fH.out (by kernel_rfl)) (by decide) (fun K hK=>?_)
        refine qm Tryd.func11 (by kernel_rfl) rfl #[.slice A0 l0.length c0,.int .i64 (rd types z),.int .i64 (f:Int)] (by rfl) rfl rfl (by (try simp only [List.map_toArray,List.map_cons,List.map_nil]);rfl) ?_
        refine (dJ.calls k A0 c0 l0 (rd types z) (f:Int) rt _ (Kd.bQ HR0.out hHeld.1.bel) hc0 HTO.out).mono ?_
        rintro e_ w4 ⟨rfl,hb4⟩
        refine ⟨_,rfl,?_⟩
        refine hK.out _ _ ⟨hHeld.1.below (by first|exact hb4|exact hb4.below),hHeld.2.1.below (by first|exact hb4|exact hb4.below),Kd.bQ hHeld.2.2 (by first|exact hb4|exact hb4.below)⟩ (fun hHeld=>?_)
        clear hK K hb4
        refine iT (a':=?_) ?_ ?_
        rotate_left
        · simp only [jm,Act.put,List.setIfInBounds_toArray,List.set_cons_zero,List.set_cons_succ,aX,aY]
          rfl
        refine bW (i:=13) (N:=(some 123)) (v:=?_) (a':=?_) #[true,true,true,true,true,true,true,true,true,true,true,true,true,true,false,false,false,false,false,false] rfl rfl (bG fH.out (by kernel_rfl)) (fun _ _ _ h=>h) (Or.inl ⟨by rfl,?_⟩) ?_ ?_
        rotate_left
        · intro w'
          go_simp
          with_reducible rfl
        rotate_left
        · simp only [Act.put,List.setIfInBounds_toArray,List.set_cons_zero,List.set_cons_succ,aX,aY]
          rfl
        refine bW (i:=14) (N:=(some 124)) (v:=?_) (a':=?_) #[true,true,true,true,true,true,true,true,true,true,true,true,true,true,true,false,false,false,false,false] rfl rfl (bG fH.out (by kernel_rfl)) (fun _ _ _ h=>h) (Or.inl ⟨by rfl,?_⟩) ?_ ?_
        rotate_left
        · intro w'
          go_simp
          with_reducible rfl
        rotate_left
        · simp only [Act.put,List.setIfInBounds_toArray,List.set_cons_zero,List.set_cons_succ,aX,aY]
          rfl
        refine bW (i:=15) (N:=(some 125)) (v:=?_) (a':=?_) #[true,true,true,true,true,true,true,true,true,true,true,true,true,true,true,true,false,false,false,false] rfl rfl (bG fH.out (by kernel_rfl)) (fun _ _ _ h=>h) (Or.inl ⟨by rfl,?_⟩) ?_ ?_
        rotate_left
        · intro w'
          go_simp
          with_reducible rfl
        rotate_left
        · simp only [Act.put,List.setIfInBounds_toArray,List.set_cons_zero,List.set_cons_succ,aX,aY]
          rfl
        refine bW (i:=16) (N:=(some 126)) (v:=?_) (a':=?_) #[true,true,true,true,true,true,true,true,true,true,true,true,true,true,true,true,true,false,false,false] rfl rfl (bG fH.out (by kernel_rfl)) (fun _ _ _ h=>h) (Or.inl ⟨by rfl,?_⟩) ?_ ?_
        rotate_left
        · intro w'
          go_simp
          with_reducible rfl
        rotate_left
        · simp only [Act.put,List.setIfInBounds_toArray,List.set_cons_zero,List.set_cons_succ,aX,aY]
          rfl
        refine bW (i:=17) (N:=(some 127)) (v:=?_) (a':=?_) #[true,true,true,true,true,true,true,true,true,true,true,true,true,true,true,true,true,true,false,false] rfl rfl (bG fH.out (by kernel_rfl)) (fun _ _ _ h=>h) (Or.inl ⟨by rfl,?_⟩) ?_ ?_
        rotate_left
        · intro w'
          go_simp
          with_reducible rfl
        rotate_left
        · simp only [Act.put,List.setIfInBounds_toArray,List.set_cons_zero,List.set_cons_succ,aX,aY]
          rfl
        refine nN (i:=18) (N:=(some 128)) #[true,true,true,true,true,true,true,true,true,true,true,true,true,true,true,true,true,true,true,false] rfl rfl (jU fH.out (by kernel_rfl)) (by decide) (fun K hK=>?_)
        refine Hy Tryd.func9 (by kernel_rfl) rfl #[.int .i64 (rd (jl s.aK z) f),.pointer (some ⟨mb,0,none⟩),.pointer (some ⟨G,0,none⟩)] (by rfl) rfl rfl (by rfl) (by (try simp only [List.map_toArray,List.map_cons,List.map_nil]);rfl) ?_
        refine (rP G c mb _ _ _ made types k A0 c0 l0 a1 a2 A3 c3 l3 lk _ W1 _ hHeld.1 HR0.out hc0 HR3.out hc3 zn HRW.out.lks).mono ?_
        rintro e_ w5 ⟨rfl,hb4⟩
        refine ⟨_,rfl,?_⟩
        refine hK.out _ _ ⟨hHeld.1.below hb4,hHeld.2.1.below hb4,Kd.bQ hHeld.2.2 hb4⟩ (fun hHeld=>?_)
        clear hK K hb4
        refine iT (a':=?_) ?_ ?_
        rotate_left
        · simp only [jm,Act.put,List.setIfInBounds_toArray,List.set_cons_zero,List.set_cons_succ,aX,aY]
          rfl
        rw [hkf]
        refine bW (i:=19) (N:=(some 129)) (v:=?_) (a':=?_) #[true,true,true,true,true,true,true,true,true,true,true,true,true,true,true,true,true,true,true,true] rfl rfl (bG fH.out (by kernel_rfl)) (fun _ _ _ h=>h) (Or.inl ⟨by rfl,?_⟩) ?_ ?_
        rotate_left
        · intro w'
          go_simp
          with_reducible rfl
        rotate_left
        · simp only [Act.put,List.setIfInBounds_toArray,List.set_cons_zero,List.set_cons_succ,aX,aY]
          rfl
        refine qW (nV fH.out (by kernel_rfl)) ?_
        refine NoPanic.normal ?_
        (try simp only [Exit.then,Exit.inBlock])
        have HX:=af.mk hHeld.1
        have HT:=af.mk hHeld.2.1
        have yI:=af.mk hHeld.2.2
        clear hHeld
        go_wp2
        go_roundg g2
        case measure=>omega
        case rel=>exact ⟨f+1,by omega,by first|rfl|rw [EWF.out]|(simp;omega),HX,HT,yI⟩
      case neg =>
        have hr1:decide ((0:Int)≤rt)=false:=decide_eq_false hr0
        clear hr0 hkr
        refine wp_region_noPanic ?_
        refine oJ (n:=20) (S:=fun w'=>wB G c mb #[.slice A0 l0.length c0,.string a1,.string a2,.slice A3 l3.length c3] (cellsS s (.slice (some ad) s.aK.length cO) vV) vM (.slice (some ⟨gt,0,none⟩) types.length ct) made types W1 w'∧nK s (.slice (some ad) s.aK.length cO) vV w'∧(Kd.int .i64).C w' (some PH) (jl s.aK z).length (jl s.aK z)) (ds:=[]) #[false,false,false,false,false,false,false,false,false,false,false,false,false,false,false,false,false,false,false,false] (by kernel_rfl) rfl rfl ⟨HX.out.drew,HT.out.below (ak (Below.refl _ _)),Kd.bQ yI.out (ak (Below.refl _ _))⟩ (fun hHeld=>?_)
        refine kP uT.UD uT.OI (fun fH qy=>?_)
        clear HX HT yI
        generalize World.drew _=Wd at hHeld ⊢
        refine bW (i:=0) (N:=(some 110)) (v:=?_) (a':=?_) #[true,false,false,false,false,false,false,false,false,false,false,false,false,false,false,false,false,false,false,false] rfl rfl (bG fH.out (by kernel_rfl)) (fun _ _ _ h=>h) (Or.inl ⟨by rfl,?_⟩) ?_ ?_
        rotate_left
        · intro w'
          go_simp
          with_reducible rfl
        rotate_left
        · simp only [Act.put,List.setIfInBounds_toArray,List.set_cons_zero,List.set_cons_succ,aX,aY]
          rfl
        refine bW (i:=1) (N:=(some 111)) (v:=?_) (a':=?_) #[true,true,false,false,false,false,false,false,false,false,false,false,false,false,false,false,false,false,false,false] rfl rfl (bG fH.out (by kernel_rfl)) (fun _ _ _ h=>h) (Or.inl ⟨by rfl,?_⟩) ?_ ?_
        rotate_left
        · intro w'
          go_simp
          with_reducible rfl
        rotate_left
        · simp only [Act.put,List.setIfInBounds_toArray,List.set_cons_zero,List.set_cons_succ,aX,aY]
          rfl
        refine bW (i:=2) (N:=(some 112)) (v:=?_) (a':=?_) #[true,true,true,false,false,false,false,false,false,false,false,false,false,false,false,false,false,false,false,false] rfl rfl (bG fH.out (by kernel_rfl)) (fun _ _ _ h=>h) (Or.inl ⟨by rfl,?_⟩) ?_ ?_
        rotate_left
        · intro w'
          go_simp
          with_reducible rfl
        rotate_left
        · simp only [Act.put,List.setIfInBounds_toArray,List.set_cons_zero,List.set_cons_succ,aX,aY]
          rfl
        refine bW (i:=3) (N:=(some 113)) (v:=?_) (a':=?_) #[true,true,true,true,false,false,false,false,false,false,false,false,false,false,false,false,false,false,false,false] rfl rfl (bG fH.out (by kernel_rfl)) (fun _ _ _ h=>h) (Or.inl ⟨by rfl,?_⟩) ?_ ?_
        rotate_left
        · intro w'
          go_simp
          with_reducible rfl
        rotate_left
        · simp only [Act.put,List.setIfInBounds_toArray,List.set_cons_zero,List.set_cons_succ,aX,aY]
          rfl
        refine bW (i:=4) (N:=(some 114)) (v:=?_) (a':=?_) #[true,true,true,true,true,false,false,false,false,false,false,false,false,false,false,false,false,false,false,false] rfl rfl (bG fH.out (by kernel_rfl)) (fun _ _ _ h=>h) (Or.inl ⟨by rfl,?_⟩) ?_ ?_
        rotate_left
        · intro w'
          go_simp
          with_reducible rfl
        rotate_left
        · simp only [Act.put,List.setIfInBounds_toArray,List.set_cons_zero,List.set_cons_succ,aX,aY]
          rfl
        refine bW (i:=5) (N:=(some 115)) (v:=?_) (a':=?_) #[true,true,true,true,true,true,false,false,false,false,false,false,false,false,false,false,false,false,false,false] rfl rfl (bG fH.out (by kernel_rfl)) (fun _ _ _ h=>h) (Or.inl ⟨by rfl,?_⟩) ?_ ?_
        rotate_left
        · intro w'
          go_simp
          with_reducible rfl
        rotate_left
        · simp only [Act.put,List.setIfInBounds_toArray,List.set_cons_zero,List.set_cons_succ,aX,aY]
          rfl
        refine jf (i:=6) (N:=(some 116)) (v:=?_) (a':=?_) #[true,true,true,true,true,true,true,false,false,false,false,false,false,false,false,false,false,false,false,false] rfl rfl (gm fH.out qy.out (by kernel_rfl)) (fun _ _ _ h=>h) (Or.inl ⟨by rfl,?_⟩) hHeld ?_ ?_
        rotate_left
        · intro w' pg
          have c_:w'.cell? ⟨G,0,none⟩=some (.slice A0 l0.length c0):=pg.1.bp.cell 0
          go_simp
          with_reducible rfl
        rotate_left
        · simp only [Act.put,List.setIfInBounds_toArray,List.set_cons_zero,List.set_cons_succ,aX,aY]
          rfl
        refine bW (i:=7) (N:=(some 117)) (v:=?_) (a':=?_) #[true,true,true,true,true,true,true,true,false,false,false,false,false,false,false,false,false,false,false,false] rfl rfl (bG fH.out (by kernel_rfl)) (fun _ _ _ h=>h) (Or.inl ⟨by rfl,?_⟩) ?_ ?_
        rotate_left
        · intro w'
          go_simp
          with_reducible rfl
        rotate_left
        · simp only [Act.put,List.setIfInBounds_toArray,List.set_cons_zero,List.set_cons_succ,aX,aY]
          rfl
        refine bW (i:=8) (N:=(some 118)) (v:=?_) (a':=?_) #[true,true,true,true,true,true,true,true,true,false,false,false,false,false,false,false,false,false,false,false] rfl rfl (bG fH.out (by kernel_rfl)) (fun _ _ _ h=>h) (Or.inl ⟨by rfl,?_⟩) ?_ ?_
        rotate_left
        · intro w'
          go_simp
          with_reducible rfl
        rotate_left
        · simp only [Act.put,List.setIfInBounds_toArray,List.set_cons_zero,List.set_cons_succ,aX,aY]
          rfl
        refine bW (i:=9) (N:=(some 119)) (v:=?_) (a':=?_) #[true,true,true,true,true,true,true,true,true,true,false,false,false,false,false,false,false,false,false,false] rfl rfl (bG fH.out (by kernel_rfl)) (fun _ _ _ h=>h) (Or.inl ⟨by rfl,?_⟩) ?_ ?_
        rotate_left
        · intro w'
          go_simp
          with_reducible rfl
        rotate_left
        · simp only [Act.put,List.setIfInBounds_toArray,List.set_cons_zero,List.set_cons_succ,aX,aY]
          rfl
        refine jf (i:=10) (N:=(some 120)) (v:=?_) (a':=?_) #[true,true,true,true,true,true,true,true,true,true,true,false,false,false,false,false,false,false,false,false] rfl rfl (gm fH.out qy.out (by kernel_rfl)) (fun _ _ _ h=>h) (Or.inl ⟨by rfl,?_⟩) hHeld ?_ ?_
        rotate_left
        · intro w' pg
          have c_:w'.cell? ⟨gt,z,none⟩=some (.int .i64 (rd types z)):=(Kd.rZ 0 pg.1.ty (z:Int) (Int.natCast_nonneg z) (Int.ofNat_lt.2 VC.out)).1
          go_simp
          with_reducible rfl
        rotate_left
        · simp only [Act.put,List.setIfInBounds_toArray,List.set_cons_zero,List.set_cons_succ,aX,aY]
          rfl
        refine bW (i:=11) (N:=(some 121)) (v:=?_) (a':=?_) #[true,true,true,true,true,true,true,true,true,true,true,true,false,false,false,false,false,false,false,false] rfl rfl (bG fH.out (by kernel_rfl)) (fun _ _ _ h=>h) (Or.inl ⟨by rfl,?_⟩) ?_ ?_
        rotate_left
        · intro w'
          go_simp
          with_reducible rfl
        rotate_left
        · simp only [Act.put,List.setIfInBounds_toArray,List.set_cons_zero,List.set_cons_succ,aX,aY]
          rfl
        refine nN (i:=12) (N:=(some 122)) #[true,true,true,true,true,true,true,true,true,true,true,true,true,false,false,false,false,false,false,false] rfl rfl (jU fH.out (by kernel_rfl)) (by decide) (fun K hK=>?_)
        refine qm Tryd.func11 (by kernel_rfl) rfl #[.slice A0 l0.length c0,.int .i64 (rd types z),.int .i64 (f:Int)] (by rfl) rfl rfl (by (try simp only [List.map_toArray,List.map_cons,List.map_nil]);rfl) ?_
        refine (dJ.calls k A0 c0 l0 (rd types z) (f:Int) rt _ (Kd.bQ HR0.out hHeld.1.bel) hc0 HTO.out).mono ?_
        rintro e_ w4 ⟨rfl,hb4⟩
        refine ⟨_,rfl,?_⟩
        refine hK.out _ _ ⟨hHeld.1.below (by first|exact hb4|exact hb4.below),hHeld.2.1.below (by first|exact hb4|exact hb4.below),Kd.bQ hHeld.2.2 (by first|exact hb4|exact hb4.below)⟩ (fun hHeld=>?_)
        clear hK K hb4
        refine iT (a':=?_) ?_ ?_
        rotate_left
        · simp only [jm,Act.put,List.setIfInBounds_toArray,List.set_cons_zero,List.set_cons_succ,aX,aY]
          rfl
        refine bW (i:=13) (N:=(some 123)) (v:=?_) (a':=?_) #[true,true,true,true,true,true,true,true,true,true,true,true,true,true,false,false,false,false,false,false] rfl rfl (bG fH.out (by kernel_rfl)) (fun _ _ _ h=>h) (Or.inl ⟨by rfl,?_⟩) ?_ ?_
        rotate_left
        · intro w'
          go_simp
          with_reducible rfl
        rotate_left
        · simp only [Act.put,List.setIfInBounds_toArray,List.set_cons_zero,List.set_cons_succ,aX,aY]
          rfl
        refine bW (i:=14) (N:=(some 124)) (v:=?_) (a':=?_) #[true,true,true,true,true,true,true,true,true,true,true,true,true,true,true,false,false,false,false,false] rfl rfl (bG fH.out (by kernel_rfl)) (fun _ _ _ h=>h) (Or.inl ⟨by rfl,?_⟩) ?_ ?_
        rotate_left
        · intro w'
          go_simp
          with_reducible rfl
        rotate_left
        · simp only [Act.put,List.setIfInBounds_toArray,List.set_cons_zero,List.set_cons_succ,aX,aY]
          rfl
        refine bW (i:=15) (N:=(some 125)) (v:=?_) (a':=?_) #[true,true,true,true,true,true,true,true,true,true,true,true,true,true,true,true,false,false,false,false] rfl rfl (bG fH.out (by kernel_rfl)) (fun _ _ _ h=>h) (Or.inl ⟨by rfl,?_⟩) ?_ ?_
        rotate_left
        · intro w'
          go_simp
          with_reducible rfl
        rotate_left
        · simp only [Act.put,List.setIfInBounds_toArray,List.set_cons_zero,List.set_cons_succ,aX,aY]
          rfl
        refine bW (i:=16) (N:=(some 126)) (v:=undef) (a':=?_) #[true,true,true,true,true,true,true,true,true,true,true,true,true,true,true,true,true,false,false,false] rfl rfl (bG fH.out (by kernel_rfl)) (fun _ _ _ h=>h) (Or.inr ⟨by rfl,rfl⟩) ?_ ?_
        rotate_left
        · simp only [Act.put,List.setIfInBounds_toArray,List.set_cons_zero,List.set_cons_succ,aX,aY]
          rfl
        refine bW (i:=17) (N:=(some 127)) (v:=undef) (a':=?_) #[true,true,true,true,true,true,true,true,true,true,true,true,true,true,true,true,true,true,false,false] rfl rfl (bG fH.out (by kernel_rfl)) (fun _ _ _ h=>h) (Or.inr ⟨by rfl,rfl⟩) ?_ ?_
        rotate_left
        · simp only [Act.put,List.setIfInBounds_toArray,List.set_cons_zero,List.set_cons_succ,aX,aY]
          rfl
        refine bW (i:=18) (N:=(some 128)) (v:=undef) (a':=?_) #[true,true,true,true,true,true,true,true,true,true,true,true,true,true,true,true,true,true,true,false] rfl rfl (bG fH.out (by kernel_rfl)) (fun _ _ _ h=>h) (Or.inr ⟨by rfl,rfl⟩) ?_ ?_
        rotate_left
        · simp only [Act.put,List.setIfInBounds_toArray,List.set_cons_zero,List.set_cons_succ,aX,aY]
          rfl
        refine bW (i:=19) (N:=(some 129)) (v:=?_) (a':=?_) #[true,true,true,true,true,true,true,true,true,true,true,true,true,true,true,true,true,true,true,true] rfl rfl (bG fH.out (by kernel_rfl)) (fun _ _ _ h=>h) (Or.inl ⟨by rfl,?_⟩) ?_ ?_
        rotate_left
        · intro w'
          go_simp
          with_reducible rfl
        rotate_left
        · simp only [Act.put,List.setIfInBounds_toArray,List.set_cons_zero,List.set_cons_succ,aX,aY]
          rfl
        refine qW (nV fH.out (by kernel_rfl)) ?_
        refine NoPanic.normal ?_
        (try simp only [Exit.then,Exit.inBlock])
        have HX:=af.mk hHeld.1
        have HT:=af.mk hHeld.2.1
        have yI:=af.mk hHeld.2.2
        clear hHeld
        go_wp2
        go_roundg g2
        case measure=>omega
        case rel=>exact ⟨f+1,by omega,by first|rfl|rw [EWF.out]|(simp;omega),HX,HT,yI⟩
    have hdf:decide ((f:Int) < ((jl s.aK z).length:Int))=false:=decide_eq_false (by omega)
    have hdn:decide (f < (jl s.aK z).length)=false:=decide_eq_false hfn
    have hdp:(f < (jl s.aK z).length)=False:=eq_false hfn
    go_wp2
    go_roundg g1
    case measure=>omega
    case rel=>exact ⟨z+1,by omega,by first|rfl|rw [EWZ.out]|(simp;omega),HX,HT⟩
  have hdz:decide ((z:Int) < (s.aK.length:Int))=false:=decide_eq_false (by omega)
  have hdn:decide (z < s.aK.length)=false:=decide_eq_false hzn
  have hdp:(z < s.aK.length)=False:=eq_false hzn
  clear hzn hkz
  have p0:World.cell? _ ⟨G,0,none⟩=some (.slice A0 l0.length c0):=HX.out.bp.cell 0
  have p1:World.cell? _ ⟨G,1,none⟩=some (.string a1):=HX.out.bp.cell 1
  have p2:World.cell? _ ⟨G,2,none⟩=some (.string a2):=HX.out.bp.cell 2
  have p3:World.cell? _ ⟨G,3,none⟩=some (.slice A3 l3.length c3):=HX.out.bp.cell 3
  have kk:=HX.out.bs
  obtain ⟨hsm,f1,f2,hck,hsx⟩:=MV HST.out
  have HCK:=Lib.hid hck
  have HSX:=Lib.hid hsx
  have HSM:=Lib.hid hsm
  clear hck hsx hsm
  go_upto_region 999 with (((with_reducible refine bD (N:=134) rfl ?_);refine wpList_load_row rfl 36 (.tmp 6) rfl c rfl 36 (cellsS s (.slice AO s.aK.length cO) vV) (0,0) _ kk Tryd.underlying36 rfl (by kernel_rfl) ?_))
  refine (zX k A0 c0 l0 a1 a2 A3 c3 l3 s s' d e _ vV _ (Kd.bQ HR0.out HX.out.bel) hc0 (Kd.bQ HR3.out HX.out.bel) hc3 (Kd.bQ Eb.out HX.out.bel) HT.out HSM.out f1 f2 HCK.out HSX.out).mono ?_
  rintro e_ wq ⟨Yf,IX,rfl,hT1,hB1⟩
  obtain ⟨y,hy⟩:∃ y,wq.heap.size=y:=⟨_,rfl⟩
  obtain ⟨wx,hwx⟩:∃ wx,wq.alloc (.cells #[.int .i64 0,.int .i64 0,.int .i64 0,.int .i64 0,.int .i64 0,.int .i64 0,.int .i64 0,.int .i64 0,.int .i64 0,.int .i64 0,.int .i64 0,.int .i64 0,.int .i64 0,.int .i64 0,.int .i64 0,.int .i64 0,.int .i64 0,.int .i64 0,.int .i64 0,.int .i64 0,.slice none 0 0,.slice none 0 0,.int .i64 0,.int .i64 0] 36)=wx:=⟨_,rfl⟩
  have hzy:Bk wx y #[.int .i64 0,.int .i64 0,.int .i64 0,.int .i64 0,.int .i64 0,.int .i64 0,.int .i64 0,.int .i64 0,.int .i64 0,.int .i64 0,.int .i64 0,.int .i64 0,.int .i64 0,.int .i64 0,.int .i64 0,.int .i64 0,.int .i64 0,.int .i64 0,.int .i64 0,.int .i64 0,.slice none 0 0,.slice none 0 0,.int .i64 0,.int .i64 0] 36:=by rw [← hwx,← hy];exact Bk.new wq _ _
  have hbx:Below wq.heap.size wq wx:=by rw [← hwx];exact (Below.refl _ wq).alloc (Nat.le_refl _) _
  have hone:=hT1.rd.one s'
  have hBq:=HX.out.below (w1:=wx.setRow y (cellsS s' Yf IX)) (dm (hB1.trans (hbx.mono hB1.size)) (by rw [← hy];exact hB1.size) _)
  have HYL:=Lib.hid (show mb < y by have:=HX.out.bm.lt;have:=hB1.size;omega)
  have yI:=af.mk (hzy.setRow (cellsS s' Yf IX))
  have HT1:=af.mk ((hT1.below hbx).keep (Keep.setRow hzy (cellsS s' Yf IX)))
  clear HX HT
  have HX:=af.mk hBq
  clear hT1 hB1 hBq hbx kk p0 p1 p2 p3 HCK HSX HSM hdz hdn hdp
  go_upto_region 35 with (skip;refine wpList_store_row rfl 36 (.tmp 17) (.tmp 136) rfl y (cellsS s' Yf IX) rfl rfl 36 _ hzy (by kernel_rfl) rfl hone ?_)
  clear hone hzy hwx hy
  change Code.wp _ _ _ _ (wx.setRow y (cellsS s' Yf IX))
  generalize wx.setRow y (cellsS s' Yf IX)=wt at HX yI HT1 ⊢
  cases d with
  | true =>
    clear VF HST
    go_wp2
    go_ret
    exact ⟨rfl,by have q:=HB1.out.trans (HX.out.bel.mono HB1.out.size);first|exact q|(rw [hG] at q;exact q)⟩
  | false =>
  by_cases he:e=0
  case neg =>
    have nb:(e == 0)=false:=beq_eq_false_iff_ne.2 he
    have nb':(e != 0)=true:=by simp [he]
    clear VF HST he
    go_wp2
    go_ret
    exact ⟨rfl,by have q:=HB1.out.trans (HX.out.bel.mono HB1.out.size);first|exact q|(rw [hG] at q;exact q)⟩
  subst he
  obtain ⟨aiZ,hnx⟩:=VF.out ⟨rfl,rfl⟩
  have e2:=Lib.hid (show wrap64 ((i:Int)+1)=((i+1:Nat):Int) by unfold wrap64;omega)
  obtain ⟨Uz,TZ,rfl,_,_⟩:=HT1.out.rd.aK
  have t20:wt.cell? ⟨y,20,none⟩=some (.slice Uz s'.aK.length TZ):=yI.out.cell 20
  have c20:wt.cell? ⟨c,20,none⟩=some (.slice AO s.aK.length cO):=HX.out.bs.cell 20
  by_cases hg:s.aK.length < s'.aK.length
  case neg =>
    have hg1:decide ((s.aK.length:Int) < (s'.aK.length:Int))=false:=decide_eq_false (by omega)
    have hg2:decide (s.aK.length < s'.aK.length)=false:=decide_eq_false hg
    rw [if_neg hg] at hnx
    have Um:=af.mk hnx
    clear hnx VF HST hg
    go_upto_region 40 with (fail)
    clear t20 c20 hg1 hg2
    have ky:=yI.out
    have kc:=HX.out.bs
    have NI:=HT1.out.rd.one s'
    have HXn:=af.mk (HX.out.write (cellsS s' (.slice Uz s'.aK.length TZ) IX))
    have HTn:=af.mk (HT1.out.keep (Keep.setRow kc (cellsS s' (.slice Uz s'.aK.length TZ) IX)))
    clear HX yI HT1
    go_wp2_with (first|((with_reducible refine bD (N:=171) rfl ?_);refine wpList_load_row rfl 36 (.tmp 17) rfl y rfl 36 (cellsS s' (.slice Uz s'.aK.length TZ) IX) (0,0) _ ky Tryd.underlying36 rfl (by kernel_rfl) ?_)|(skip;refine wpList_store_row rfl 36 (.tmp 6) (.tmp 171) rfl c (cellsS s' (.slice Uz s'.aK.length TZ) IX) rfl rfl 36 _ kc (by kernel_rfl) rfl NI ?_))
    go_roundg gA
    case measure=>omega
    case rel=>exact ⟨s',_,_,_,_,_,_,i+1,by omega,rfl,by first|rfl|rw [e2.out]|(simp;omega),by first|omega|(simp;omega),by first|omega|(simp;omega),Um,HXn,HTn⟩
  have hg1:decide ((s.aK.length:Int) < (s'.aK.length:Int))=true:=decide_eq_true (by omega)
  have hg2:decide (s.aK.length < s'.aK.length)=true:=decide_eq_true hg
  rw [if_pos hg] at hnx
  obtain ⟨hgo,hnx⟩:=hnx
  have Um:=af.mk hnx
  have HGO:=Lib.hid hgo
  clear hnx hgo VF HST hg
  go_upto_region 38 with (fail)
  clear t20 c20 hg1 hg2
  have m0:wt.cell? ⟨mb,0,none⟩=some vM:=HX.out.bm.cell 0
  have Vh:wt.cell? ⟨c,22,none⟩=some (.int .i64 s.pc):=HX.out.bs.cell 22
  have Za:W1.heap.size≤wt.heap.size:=HX.out.bel.size
  have hlm:(made.length+1) * 8≤140737488355328:=by omega
  obtain ⟨mm,hmm⟩:∃ mm,mm=(made++[s.pc]).length:=⟨_,rfl⟩
  have HMM:=Lib.hid hmm
  clear hmm
  go_upto_region 39 with ((with_reducible refine lu (b:=.append) (xs:=#[.tmp 151,.tmp 154]) rfl ?_);at_builtin;refine Kd.zN (Kd.int .i64) (w0:=W1) W1.heap.size rfl (.tmp 151) (.tmp 154) 37 3 (.int .i64 0) 8 rfl Tryd.underlying37 info3 rfl (by decide) (by omega) vM made s.pc [.int .i64 s.pc] (fun _=>True) (fun _=>False) rfl rfl rfl (fun _ h=>h.elim) (fun _ _=>trivial) HX.out.md HX.out.bel Za hlm ?_;intro vM2 w2 hR2 hB2 hg2 LP;obtain ⟨A2,Yk,e2m⟩:=Kd.oV hR2;rw [← HMM.out] at e2m;subst e2m;have q2:=HX.out.WA hR2 hB2 hg2 LP;have VD:=af.mk q2.2;have d0:w2.cell? ⟨mb,0,none⟩=some vM:=q2.1.cell 0;have fz:w2.frozen? ⟨mb,0,none⟩=false:=q2.1.fr 0;have HC2:=af.mk (show Bk (w2.setCell ⟨mb,0,none⟩ (.slice A2 mm Yk)) y _ 36 from (yI.out.of (hg2.block y yI.out.lt (Kd.OV HX.out.md yI.out (by decide)))).far 0 _ (by have:=HYL.out;omega));have HT2:=af.mk (HT1.out.keep (LH HX.out.md hg2 q2.1 (.slice A2 mm Yk)));clear q2 hR2 hB2 hg2 LP)
  clear m0 Vh Za hlm HX yI HT1 d0 fz
  change Code.wp _ _ _ _ (w2.setCell ⟨mb,0,none⟩ (.slice A2 mm Yk))
  generalize w2.setCell ⟨mb,0,none⟩ (.slice A2 mm Yk)=wv at VD HC2 HT2 ⊢
  obtain ⟨⟨gp0,gp1⟩,⟨ga0,ga1⟩,gd⟩:=HGO.out
  obtain ⟨Yl,hA3,_,d1,_,_,_⟩:=oP (Kd.bQ HR3.out VD.out.bel) s.pc gp0 gp1
  obtain ⟨fa,efa⟩:∃ z,(aC l3 s.pc).f1=z:=⟨_,rfl⟩
  rw [efa] at d1 ga0 ga1 gd Um
  have p1:wv.cell? ⟨G,1,none⟩=some (.string a1):=VD.out.bp.cell 1
  have p3:wv.cell? ⟨G,3,none⟩=some (.slice (some Yl) l3.length c3):=by rw [← hA3];exact VD.out.bp.cell 3
  have Vh:wv.cell? ⟨c,22,none⟩=some (.int .i64 s.pc):=VD.out.bs.cell 22
  have j0:(0≤s.pc)=True:=eq_true gp0
  have j1:(s.pc < (l3.length:Int))=True:=eq_true gp1
  have ja0:(0≤fa)=True:=eq_true ga0
  have ja1:(fa < (a1.size:Int))=True:=eq_true ga1
  have hbt:=lI a1 fa
  have hbr:=zH a1 fa
  have hmod:(bt a1 fa - 48) % 256=bt a1 fa - 48:=by omega
  have hwr:wrap64 (bt a1 fa - 48)=bt a1 fa - 48:=by unfold wrap64;omega
  have hu8:IntKind.u8.wrap (bt a1 fa - 48)=bt a1 fa - 48:=by show (bt a1 fa - 48) % 256=_;exact hmod
  have HP0:=Lib.hid gp0
  have HP1:=Lib.hid gp1
  have HFA:=Lib.hid efa
  have HA3:=Lib.hid hA3
  have hCI:Kd.C uU wv (some Yl) l3.length l3:=by rw [← hA3];exact Kd.bQ HR3.out VD.out.bel
  clear gp0 gp1 ga0 ga1 gd hbr efa hA3 d1
  go_upto_region 39 with (fail)
  refine wp_region_noPanic ?_
  refine oJ (n:=16) (S:=fun w'=>w'.cell? ⟨G,1,none⟩=some (.string a1)∧w'.cell? ⟨G,3,none⟩=some (.slice (some Yl) l3.length c3)∧w'.cell? ⟨c,22,none⟩=some (.int .i64 s.pc)∧Kd.C uU w' (some Yl) l3.length l3) (ds:=[]) #[false,false,false,false,false,false,false,false,false,false,false,false,false,false,false,false] (by kernel_rfl) rfl rfl ⟨p1,p3,Vh,Kd.dS hCI⟩ (fun hHeld=>?_)
  refine kP uT.Yx uT.XI (fun fH qy=>?_)
  clear p1 p3 Vh hCI
  have MI:=af.mk VD.out.drew
  have HCd:=af.mk (show Bk wv.drew y _ 36 from HC2.out)
  have HTd:=af.mk (HT2.out.below (ak (Below.refl _ _)))
  clear VD HC2 HT2
  generalize wv.drew=wn at MI HCd HTd hHeld ⊢
  refine bW (i:=0) (N:=(some 156)) (v:=?_) (a':=?_) #[true,false,false,false,false,false,false,false,false,false,false,false,false,false,false,false] rfl rfl (bG fH.out (by kernel_rfl)) (fun _ _ _ h=>h) (Or.inl ⟨by rfl,?_⟩) ?_ ?_
  rotate_left
  · intro w'
    go_simp
    with_reducible rfl
  rotate_left
  · simp only [Act.put,List.setIfInBounds_toArray,List.set_cons_zero,List.set_cons_succ,aX,aY]
    rfl
  refine bW (i:=1) (N:=(some 157)) (v:=?_) (a':=?_) #[true,true,false,false,false,false,false,false,false,false,false,false,false,false,false,false] rfl rfl (bG fH.out (by kernel_rfl)) (fun _ _ _ h=>h) (Or.inl ⟨by rfl,?_⟩) ?_ ?_
  rotate_left
  · intro w'
    go_simp
    with_reducible rfl
  rotate_left
  · simp only [Act.put,List.setIfInBounds_toArray,List.set_cons_zero,List.set_cons_succ,aX,aY]
    rfl
  refine jf (i:=2) (N:=(some 158)) (v:=?_) (a':=?_) #[true,true,true,false,false,false,false,false,false,false,false,false,false,false,false,false] rfl rfl (gm fH.out qy.out (by kernel_rfl)) (fun _ _ _ h=>h) (Or.inl ⟨by rfl,?_⟩) hHeld ?_ ?_
  rotate_left
  · intro w' pg
    have c_:=pg.1
    go_simp
    with_reducible rfl
  rotate_left
  · simp only [Act.put,List.setIfInBounds_toArray,List.set_cons_zero,List.set_cons_succ,aX,aY]
    rfl
  refine bW (i:=3) (N:=(some 159)) (v:=?_) (a':=?_) #[true,true,true,true,false,false,false,false,false,false,false,false,false,false,false,false] rfl rfl (bG fH.out (by kernel_rfl)) (fun _ _ _ h=>h) (Or.inl ⟨by rfl,?_⟩) ?_ ?_
  rotate_left
  · intro w'
    go_simp
    with_reducible rfl
  rotate_left
  · simp only [Act.put,List.setIfInBounds_toArray,List.set_cons_zero,List.set_cons_succ,aX,aY]
    rfl
  refine jf (i:=4) (N:=(some 160)) (v:=?_) (a':=?_) #[true,true,true,true,true,false,false,false,false,false,false,false,false,false,false,false] rfl rfl (gm fH.out qy.out (by kernel_rfl)) (fun _ _ _ h=>h) (Or.inl ⟨by rfl,?_⟩) hHeld ?_ ?_
  rotate_left
  · intro w' pg
    have c_:=pg.2.1
    go_simp
    with_reducible rfl
  rotate_left
  · simp only [Act.put,List.setIfInBounds_toArray,List.set_cons_zero,List.set_cons_succ,aX,aY]
    rfl
  refine bW (i:=5) (N:=(some 161)) (v:=?_) (a':=?_) #[true,true,true,true,true,true,false,false,false,false,false,false,false,false,false,false] rfl rfl (bG fH.out (by kernel_rfl)) (fun _ _ _ h=>h) (Or.inl ⟨by rfl,?_⟩) ?_ ?_
  rotate_left
  · intro w'
    go_simp
    with_reducible rfl
  rotate_left
  · simp only [Act.put,List.setIfInBounds_toArray,List.set_cons_zero,List.set_cons_succ,aX,aY]
    rfl
  refine jf (i:=6) (N:=(some 162)) (v:=?_) (a':=?_) #[true,true,true,true,true,true,true,false,false,false,false,false,false,false,false,false] rfl rfl (gm fH.out qy.out (by kernel_rfl)) (fun _ _ _ h=>h) (Or.inl ⟨by rfl,?_⟩) hHeld ?_ ?_
  rotate_left
  · intro w' pg
    have c_:=pg.2.2.1
    go_simp
    with_reducible rfl
  rotate_left
  · simp only [Act.put,List.setIfInBounds_toArray,List.set_cons_zero,List.set_cons_succ,aX,aY]
    rfl
  refine bW (i:=7) (N:=(some 163)) (v:=?_) (a':=?_) #[true,true,true,true,true,true,true,true,false,false,false,false,false,false,false,false] rfl rfl (bG fH.out (by kernel_rfl)) (fun _ _ _ h=>h) (Or.inl ⟨by rfl,?_⟩) ?_ ?_
  rotate_left
  · intro w'
    go_simp
    with_reducible rfl
  rotate_left
  · simp only [Act.put,List.setIfInBounds_toArray,List.set_cons_zero,List.set_cons_succ,aX,aY]
    rfl
  refine bW (i:=8) (N:=(some 164)) (v:=?_) (a':=?_) #[true,true,true,true,true,true,true,true,true,false,false,false,false,false,false,false] rfl rfl (bG fH.out (by kernel_rfl)) (fun _ _ _ h=>h) (Or.inl ⟨by rfl,?_⟩) ?_ ?_
  rotate_left
  · intro w'
    go_simp
    with_reducible rfl
  rotate_left
  · simp only [Act.put,List.setIfInBounds_toArray,List.set_cons_zero,List.set_cons_succ,aX,aY]
    rfl
  refine jf (i:=9) (N:=(some 165)) (v:=?_) (a':=?_) #[true,true,true,true,true,true,true,true,true,true,false,false,false,false,false,false] rfl rfl (gm fH.out qy.out (by kernel_rfl)) (fun _ _ _ h=>h) (Or.inl ⟨by rfl,?_⟩) hHeld ?_ ?_
  rotate_left
  · intro w' pg
    obtain ⟨ad4,e4,_,c_,_,_,_⟩:=oP pg.2.2.2 s.pc HP0.out HP1.out
    obtain rfl:=Option.some.inj e4
    rw [HFA.out] at c_
    go_simp
    with_reducible rfl
  rotate_left
  · simp only [Act.put,List.setIfInBounds_toArray,List.set_cons_zero,List.set_cons_succ,aX,aY]
    rfl
  refine bW (i:=10) (N:=(some 166)) (v:=?_) (a':=?_) #[true,true,true,true,true,true,true,true,true,true,true,false,false,false,false,false] rfl rfl (bG fH.out (by kernel_rfl)) (fun _ _ _ h=>h) (Or.inl ⟨by rfl,?_⟩) ?_ ?_
  rotate_left
  · intro w'
    go_simp
    with_reducible rfl
  rotate_left
  · simp only [Act.put,List.setIfInBounds_toArray,List.set_cons_zero,List.set_cons_succ,aX,aY]
    rfl
  refine bW (i:=11) (N:=(some 167)) (v:=?_) (a':=?_) #[true,true,true,true,true,true,true,true,true,true,true,true,false,false,false,false] rfl rfl (bG fH.out (by kernel_rfl)) (fun _ _ _ h=>h) (Or.inl ⟨by rfl,?_⟩) ?_ ?_
  rotate_left
  · intro w'
    go_simp
    with_reducible rfl
  rotate_left
  · simp only [Act.put,List.setIfInBounds_toArray,List.set_cons_zero,List.set_cons_succ,aX,aY]
    rfl
  refine bW (i:=12) (N:=(some 168)) (v:=?_) (a':=?_) #[true,true,true,true,true,true,true,true,true,true,true,true,true,false,false,false] rfl rfl (bG fH.out (by kernel_rfl)) (fun _ _ _ h=>h) (Or.inl ⟨by rfl,?_⟩) ?_ ?_
  rotate_left
  · intro w'
    go_simp
    with_reducible rfl
  rotate_left
  · simp only [Act.put,List.setIfInBounds_toArray,List.set_cons_zero,List.set_cons_succ,aX,aY]
    rfl
  refine nN (i:=13) (N:=(some 169)) #[true,true,true,true,true,true,true,true,true,true,true,true,true,true,false,false] rfl rfl (jU fH.out (by kernel_rfl)) (by decide) (fun K hK=>?_)
  refine uJ (w1:=wn.alloc (.cells #[.int .i64 (bt a1 fa - 48)] 3)) (v:=.slice (some ⟨wn.heap.size,0,none⟩) 1 1) (by rfl) rfl ?_ ?_
  · go_simp
    try rw [hu8,hwr]
  refine hK.out _ _ ⟨(World.cell?_of_block (Below.heap_alloc _ _ _ MI.out.bp.lt)).trans hHeld.1,(World.cell?_of_block (Below.heap_alloc _ _ _ MI.out.bp.lt)).trans hHeld.2.1,(World.cell?_of_block (Below.heap_alloc _ _ _ MI.out.bs.lt)).trans hHeld.2.2.1,Kd.dG hHeld.2.2.2 _⟩ (fun hHeld=>?_)
  clear hK K
  refine iT (a':=?_) ?_ ?_
  rotate_left
  · simp only [jm,Act.put,List.setIfInBounds_toArray,List.set_cons_zero,List.set_cons_succ,aX,aY]
    rfl
  have Za:W1.heap.size≤wn.heap.size:=MI.out.bel.size
  have Y2:(types.length+1) * 8≤140737488355328:=by omega
  have HFR:=Lib.hid (show ∀ k,wn.heap.size≤k→True∧some k ≠ (Value.slice A2 mm Yk).ownBlock from fun k hk=>⟨trivial,fun e=>by have:=Kd.aab MI.out.md k e.symm;omega⟩)
  refine nN (i:=14) (N:=(some 170)) #[true,true,true,true,true,true,true,true,true,true,true,true,true,true,true,false] rfl rfl (jU fH.out (by kernel_rfl)) (by decide) (fun K hK=>?_)
  refine Kd.uF (Kd.int .i64) (w0:=W1) W1.heap.size (by rfl) (.tmp 156) (.tmp 169) 37 3 (.int .i64 0) 8 rfl Tryd.underlying37 info3 rfl (by decide) (by decide) vT types (bt a1 fa - 48) [.int .i64 (bt a1 fa - 48)] (fun k=>True∧some k ≠ (Value.slice A2 mm Yk).ownBlock) (fun _=>False) rfl rfl rfl (fun _ h=>h.elim) HFR.out MI.out.ty MI.out.bel Za Y2 ?_
  intro vT2 w3 Yi hB3 hg3 Xp
  have HX:=af.mk (MI.out.Wy Yi hB3 hg3)
  have yI:=af.mk (show Bk w3 y _ 36 from HCd.out.of (hg3.block y HCd.out.lt (Kd.OV MI.out.ty HCd.out (by decide))))
  have HT1:=af.mk (HTd.out.keep (ND MI.out.ty hg3))
  have Zg:Kd.C uU w3 (some Yl) l3.length l3:=by rw [← HA3.out];exact Kd.bQ HR3.out HX.out.bel
  have hp3:w3.cell? ⟨G,3,none⟩=some (.slice (some Yl) l3.length c3):=by rw [← HA3.out];exact HX.out.bp.cell 3
  clear Yi hB3 hg3 Xp hHeld Za Y2 MI HCd HTd
  refine hK.out _ _ ⟨HX.out.bp.cell 1,hp3,HX.out.bs.cell 22,Zg⟩ (fun hHeld=>?_)
  clear hK K Zg hp3
  refine iT (a':=?_) ?_ ?_
  rotate_left
  · simp only [jm,Act.put,List.setIfInBounds_toArray,List.set_cons_zero,List.set_cons_succ,aX,aY]
    rfl
  refine bW (i:=15) (N:=(some 8)) (v:=?_) (a':=?_) #[true,true,true,true,true,true,true,true,true,true,true,true,true,true,true,true] rfl rfl (bG fH.out (by kernel_rfl)) (fun _ _ _ h=>h) (Or.inl ⟨by rfl,?_⟩) ?_ ?_
  rotate_left
  · intro w'
    go_simp
    with_reducible rfl
  rotate_left
  · simp only [Act.put,List.setIfInBounds_toArray,List.set_cons_zero,List.set_cons_succ,aX,aY]
    rfl
  refine qW (nV fH.out (by kernel_rfl)) ?_
  refine NoPanic.normal ?_
  (try simp only [Exit.then,Exit.inBlock])
  clear hHeld j0 j1 ja0 ja1 hbt hmod hwr hu8
  have ky:=yI.out
  have kc:=HX.out.bs
  have NI:=HT1.out.rd.one s'
  have HXn:=af.mk (HX.out.write (cellsS s' (.slice Uz s'.aK.length TZ) IX))
  have HTn:=af.mk (HT1.out.keep (Keep.setRow kc (cellsS s' (.slice Uz s'.aK.length TZ) IX)))
  clear HX yI HT1
  go_wp2_with (first|((with_reducible refine bD (N:=171) rfl ?_);refine wpList_load_row rfl 36 (.tmp 17) rfl y rfl 36 (cellsS s' (.slice Uz s'.aK.length TZ) IX) (0,0) _ ky Tryd.underlying36 rfl (by kernel_rfl) ?_)|(skip;refine wpList_store_row rfl 36 (.tmp 6) (.tmp 171) rfl c (cellsS s' (.slice Uz s'.aK.length TZ) IX) rfl rfl 36 _ kc (by kernel_rfl) rfl NI ?_))
  go_roundg gA
  case measure=>omega
  case rel=>exact ⟨s',_,_,_,_,_,_,i+1,by omega,rfl,by first|rfl|rw [e2.out]|(simp;omega),by first|omega|(simp;omega),by first|omega|(simp;omega),Um,HXn,HTn⟩
end Go.Proofs.YtgfnpdfhdgenbaaDoor.P
end
