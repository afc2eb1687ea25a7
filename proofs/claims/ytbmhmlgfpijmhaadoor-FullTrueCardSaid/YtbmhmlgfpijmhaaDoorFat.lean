/- Parts of the proof of FullTrue: what the functions that it reaches compute, and plain facts about that. -/
import Derived.StillTailTactics
import Derived.Deep.LoopGhost
import Derived.Test.YtbmhmlgfpijmhaaDoorFad
import Derived.Test.YtbmhmlgfpijmhaaDoorFal
import Derived.Test.YtbmhmlgfpijmhaaDoorFas
set_option linter.unusedVariables false
set_option linter.unusedSimpArgs false
section
namespace Go.Proofs.YtbmhmlgfpijmhaaDoor.P
open Go.RowKit Go.MapKept Go.MapFrom Go.Proofs.af.bG Go.Proofs.af.dD Go.Proofs.af.dM
attribute [local go_sem ↓] Go.wp_at_zero Go.wp_at_succ
structure Ar (G c gI b:Nat) (P:Array Value) (s:St) (vP vV:Value) (I:Array Value) (W:List Int) (w0 w:World):Prop where
  bp:Bk w G P 25
  bs:Bk w c (cellsS s vP vV) 36
  bi:Bk w gI I 39
  mp:uy w b W
  rt:qC s vP vV w
  bel:Below w0.heap.size w0 w
  lo:w0.heap.size≤c∧w0.heap.size≤b
section
variable {G c gI b:Nat} {P:Array Value} {s:St} {vP vV:Value} {I:Array Value} {W:List Int} {w0 w w1:World}
theorem Ar.below (h:Ar G c gI b P s vP vV I W w0 w) (hb:Below w.heap.size w w1):Ar G c gI b P s vP vV I W w0 w1 :=
  ⟨h.bp.below hb,h.bs.below hb,h.bi.below hb,h.mp.below hb,h.rt.below hb,h.bel.trans (hb.mono h.bel.size),h.lo⟩
theorem Ar.drew (h:Ar G c gI b P s vP vV I W w0 w):Ar G c gI b P s vP vV I W w0 w.drew:=h.below (ax (Below.refl _ _))
theorem Ar.ins (h:Ar G c gI b P s vP vV I W w0 w) (n:Int):Ar G c gI b P s vP vV I (ql W n) w0 (nH w b (.map (oO 0 (ql W n)).toArray (ql W n).length)):=by
  have hm:w.heap[b]? = some (.map (oO 0 W).toArray W.length):=h.mp
  have far:∀ {g:Nat} {cs:Array Value} {t:TypeId},Bk w g cs t→Bk (nH w b (.map (oO 0 (ql W n)).toArray (ql W n).length)) g cs t:=fun hk=>hk.of (vw _ (fun e=>by
    subst e
    have q:=hm.symm.trans hk
    cases q))
  exact ⟨far h.bp,far h.bs,far h.bi,KZ hm,h.rt.keep (Keep.setObj h.mp _),BR h.bel h.lo.2,h.lo⟩
theorem Ar.WQ (h:Ar G c gI b P s vP vV I W w0 w):Ar G c gI w.heap.size P s vP vV I [] w0 (w.alloc (.map #[] 0)):=by
  have h':=h.below ((Below.refl _ w).alloc (Nat.le_refl _) (.map #[] 0))
  exact ⟨h'.bp,h'.bs,h'.bi,uy.new w,h'.rt,h'.bel,h.lo.1,h.bel.size⟩
end
structure Yt (G c b:Nat) (P:Array Value) (S:Array Value) (W:List Int) (w0 w:World):Prop where
  bp:Bk w G P 25
  bs:Bk w c S 36
  mp:uy w b W
  bel:Below w0.heap.size w0 w
  lo:w0.heap.size≤c∧w0.heap.size≤b∧G < c
section
variable {G c gI b:Nat} {P S:Array Value} {s:St} {vP vV:Value} {I:Array Value} {W:List Int} {w0 w w1:World}
theorem Ar.Nu (h:Ar G c gI b P s vP vV I W w0 w) (hG:G < c) (hb:Below w.heap.size w w1):Yt G c b P (cellsS s vP vV) W w0 w1 :=
  ⟨h.bp.below hb,h.bs.below hb,h.mp.below hb,h.bel.trans (hb.mono h.bel.size),h.lo.1,h.lo.2,hG⟩
theorem Yt.write (h:Yt G c b P S W w0 w) (cs:Array Value):Yt G c b P cs W w0 (w.setRow c cs):=by
  have hm:w.heap[b]? = some (.map (oO 0 W).toArray W.length):=h.mp
  have hbc:b ≠ c:=fun e=>by
    subst e
    have q:=hm.symm.trans h.bs
    cases q
  exact ⟨h.bp.gB cs (by have:=h.lo.2.2;omega),h.bs.setRow cs,h.mp.of (ku cs b hbc),dE h.bel h.lo.1 cs,h.lo⟩
end
def ft.T18:Bool × List (List Nat × List Nat):=(true,[([],[]),([0],[0]),([],[]),([2],[2]),([],[]),([],[]),([4,5,1],[4,5]),([3,6,6],[3,6]),([1,7],[1,7])])
def ft.B18:List Nat:=[0,1,0,4,0,0,51,127,255]
theorem ft.ML:pG .any (opsOf Tryd.f4 18)=ft.T18:=by kernel_rfl
theorem ft.G8:pW ft.T18.2 ft.B18=true:=by kernel_rfl
def ft.T25:Bool × List (List Nat × List Nat):=(true,[([],[]),([0],[0]),([],[]),([],[]),([3],[3]),([2,4],[2,4]),([],[]),([6],[6]),([1,5,0,1],[1]),([5,8,0,1,2,3,4,5,8],[5]),([7,9,0,1,2,3,4,5,6,7,8,9],[7])])
def ft.B25:List Nat:=[0,1,0,0,8,28,0,64,63,319,1023]
theorem ft.YA:pG .any (opsOf Tryd.f4 25)=ft.T25:=by kernel_rfl
theorem ft.XP:pW ft.T25.2 ft.B25=true:=by kernel_rfl
set_option maxRecDepth 100000 in
set_option maxHeartbeats 12800000 in
theorem fullTrue.calls (k:Nat) (A0:Option Addr) (c0:Nat) (l0:List ByteArray) (a1 a2:ByteArray) (A3:Option Addr) (c3:Nat) (l3:List iG) (many:Nat) (w:World) (hr0:Kd.C Kd.string w A0 l0.length l0) (hc0:l0.length≤c0) (hr3:Kd.C k39 w A3 l3.length l3) (hc3:l3.length≤c3) (EW:Kd.C Ad w Ae rF.length rF)
    (hf:many≤255) (h:fullTrue.ok k l0 a1 a2 l3 many) :
    Calls Tryd.prog 4 #[.agg #[.slice A0 l0.length c0,.string a1,.string a2,.slice A3 l3.length c3],.int .u8 many] w fun e w'=>e=.returned (.bool true)∧Below w.heap.size w w':=by
  obtain ⟨hal,so,hso,h1⟩:=h
  obtain ⟨G,hG⟩:∃ G,w.heap.size=G:=⟨_,rfl⟩
  obtain ⟨wb,hwb⟩:∃ wb,w.alloc (.cells #[.slice A0 l0.length c0,.string a1,.string a2,.slice A3 l3.length c3] 25)=wb:=⟨_,rfl⟩
  have hB1:Below w.heap.size w wb:=by rw [← hwb];exact (Below.refl _ w).alloc (Nat.le_refl _) _
  have hb0:Bk wb G #[.slice A0 l0.length c0,.string a1,.string a2,.slice A3 l3.length c3] 25:=by rw [← hwb,← hG];exact Bk.new w _ _
  have HH:=ae.mk h1
  have HR0:=ae.mk (Kd.bW hr0 hB1)
  have HR3:=ae.mk (Kd.bW hr3 hB1)
  have Gf:=ae.mk (Kd.bW EW hB1)
  have HAL:=ae.mk hal
  have HSO:=ae.mk hso
  have HB1:=ae.mk hB1
  have K0:=ae.mk hb0
  have e1:IntKind.i64.wrap (many:Int)=many:=IntWalk.i64_in _ (by omega)
  have p0:wb.cell? ⟨G,0,none⟩=some (.slice A0 l0.length c0):=hb0.cell 0
  have p1:wb.cell? ⟨G,1,none⟩=some (.string a1):=hb0.cell 1
  have p2:wb.cell? ⟨G,2,none⟩=some (.string a2):=hb0.cell 2
  have p3:wb.cell? ⟨G,3,none⟩=some (.slice A3 l3.length c3):=hb0.cell 3
  clear h1 hr0 hr3 EW hal hB1 hb0 hso
  go_enter Tryd.func4,Tryd.ntmps4
  go_upto_region 999 with (fail)
  refine (dF.calls k A0 c0 l0 a1 a2 A3 c3 l3 so wb HR0.out hc0 HR3.out hc3 Gf.out HSO.out).mono ?_
  rintro e w1 ⟨rfl,hbb⟩
  replace HR0:=ae.mk (Kd.bW HR0.out hbb)
  replace HR3:=ae.mk (Kd.bW HR3.out hbb)
  replace Gf:=ae.mk (Kd.bW Gf.out hbb)
  replace K0:=ae.mk (K0.out.below hbb)
  replace HB1:=ae.mk (show Below w.heap.size w w1 from HB1.out.trans (hbb.mono HB1.out.size))
  clear hbb HSO p0 p1 p2 p3 hwb
  cases so with
  | false =>
    go_upto_region 999 with (fail)
    refine (di.calls k true w1 HAL.out).mono ?_
    rintro e w2 ⟨rfl,hbb⟩
    have HBB:=Lib.hid (HB1.out.trans (hbb.mono HB1.out.size))
    clear hbb
    go_wp2
    go_ret
    exact ⟨rfl,by have q:=HBB.out;first|exact q|(rw [hG] at q;exact q)⟩
  | true =>
  replace HH:=ae.mk (HH.out rfl)
  go_upto_region 999 with (fail)
  refine (di.calls k true w1 HAL.out).mono ?_
  rintro e W1 ⟨rfl,hbb⟩
  replace HR0:=ae.mk (Kd.bW HR0.out hbb)
  replace HR3:=ae.mk (Kd.bW HR3.out hbb)
  replace Gf:=ae.mk (Kd.bW Gf.out hbb)
  replace K0:=ae.mk (K0.out.below hbb)
  replace HB1:=ae.mk (show Below w.heap.size w W1 from HB1.out.trans (hbb.mono HB1.out.size))
  clear hbb HAL
  obtain ⟨c,hc⟩:∃ c,W1.heap.size=c:=⟨_,rfl⟩
  obtain ⟨Wz,hWz⟩:∃ Wz,W1.alloc (.cells #[.int .i64 0,.int .i64 0,.int .i64 0,.int .i64 0,.int .i64 0,.int .i64 0,.int .i64 0,.int .i64 0,.int .i64 0,.int .i64 0,.int .i64 0,.int .i64 0,.int .i64 0,.int .i64 0,.int .i64 0,.int .i64 0,.int .i64 0,.int .i64 0,.int .i64 0,.int .i64 0,.slice none 0 0,.slice none 0 0,.int .i64 0,.int .i64 0] 36)=Wz:=⟨_,rfl⟩
  have hzc:Bk Wz c #[.int .i64 0,.int .i64 0,.int .i64 0,.int .i64 0,.int .i64 0,.int .i64 0,.int .i64 0,.int .i64 0,.int .i64 0,.int .i64 0,.int .i64 0,.int .i64 0,.int .i64 0,.int .i64 0,.int .i64 0,.int .i64 0,.int .i64 0,.int .i64 0,.int .i64 0,.int .i64 0,.slice none 0 0,.slice none 0 0,.int .i64 0,.int .i64 0] 36:=by rw [← hWz,← hc];exact Bk.new W1 _ _
  obtain ⟨b,hb⟩:∃ b,Wz.heap.size=b:=⟨_,rfl⟩
  obtain ⟨Wm,hWm⟩:∃ Wm,Wz.alloc (.map #[] 0)=Wm:=⟨_,rfl⟩
  have hbz:Below W1.heap.size W1 Wz:=by rw [← hWz];exact (Below.refl _ W1).alloc (Nat.le_refl _) _
  have hbm:Below Wz.heap.size Wz Wm:=by rw [← hWm];exact (Below.refl _ Wz).alloc (Nat.le_refl _) _
  have HGC:=Lib.hid (show G < c by rw [← hc];exact K0.out.lt)
  have HE0:ae (Yt G c b #[.slice A0 l0.length c0,.string a1,.string a2,.slice A3 l3.length c3] (cellsS Yn (.slice none 0 0) (.slice none 0 0)) [] W1 Wm) :=
    ⟨⟨(K0.out.below hbz).below hbm,hzc.below hbm,by rw [← hWm,← hb];exact uy.new Wz,hbz.trans (hbm.mono hbz.size),Nat.le_of_eq hc,by rw [← hb];exact hbz.size,HGC.out⟩⟩
  have HT0:ae (qC Yn (.slice none 0 0) (.slice none 0 0) Wm):=⟨agc Wm⟩
  have hmm:=@run_makeMap Tryd.prog
  clear hzc hbz hbm K0
  go_upto_region 8 with (fail)
  clear hmm hWm hWz hb
  have HH2:=ae.mk HH.out
  clear HH
  go_loopg [6,7,8,9,25] many (fun kq v6 v7 v8 v9 iv wr=>∃ (s:St) (vP vV:Value) (fr last a:Int) (W:List Int) (b i:Nat),kq+i=many∧v6=.int .i64 fr∧v7=.int .i64 last∧v8=.map (some b)∧v9=.int .u8 a∧iv=.int .i64 i∧ae (FV k l0 a1 a2 l3 (uO k l0 a1 a2 l3) kq s fr last a W)∧ae (Bk wr c (cellsS s vP vV) 36)∧ae (qC s vP vV wr)∧ae (Yt G c b #[.slice A0 l0.length c0,.string a1,.string a2,.slice A3 l3.length c3] (cellsS s vP vV) W W1 wr))
  case atStart=>exact ⟨_,_,_,_,_,_,_,b,0,Nat.add_zero _,rfl,rfl,rfl,rfl,rfl,HH2,⟨HE0.out.bs⟩,HT0,HE0⟩
  case round =>
  clear HH2 HE0 HT0
  obtain ⟨s,vP,vV,fr,last,a,W,b,i,hki,rfl,rfl,rfl,rfl,rfl,HPC,HC,HT,HX⟩:=hrel
  cases gk with
  | zero =>
    have hd0:decide ((i:Int) < (many:Int))=false:=decide_eq_false (by omega)
    clear HPC
    go_wp2
    go_ret
    exact ⟨rfl,by have q:=HB1.out.trans (HX.out.bel.mono HB1.out.size);first|exact q|(rw [hG] at q;exact q)⟩
  | succ gk =>
  have hd0:decide ((i:Int) < (many:Int))=true:=decide_eq_true (by omega)
  have p0:wr.cell? ⟨G,0,none⟩=some (.slice A0 l0.length c0):=HX.out.bp.cell 0
  have p1:wr.cell? ⟨G,1,none⟩=some (.string a1):=HX.out.bp.cell 1
  have p2:wr.cell? ⟨G,2,none⟩=some (.string a2):=HX.out.bp.cell 2
  have p3:wr.cell? ⟨G,3,none⟩=some (.slice A3 l3.length c3):=HX.out.bp.cell 3
  have Fj:wr.cell? ⟨c,22,none⟩=some (.int .i64 s.pc):=HC.out.cell 22
  rcases HPC.out with hend|⟨hp0,hp1,Oh,ry,Wa,Pz,last2,a2',W2,s',d,e,hpre,hnew,hst,hde,hnx⟩
  case inl =>
    have hd1:decide ((l3.length:Int)≤s.pc)=true:=decide_eq_true hend
    clear HPC hend
    go_wp2
    go_ret
    exact ⟨rfl,by have q:=HB1.out.trans (HX.out.bel.mono HB1.out.size);first|exact q|(rw [hG] at q;exact q)⟩
  have hd1:decide ((l3.length:Int)≤s.pc)=false:=decide_eq_false (by omega)
  have HST:=ae.mk hst
  have VB:=ae.mk hde
  have XZ:=ae.mk hnx
  obtain ⟨ad,hA,d0,d1,d2,d3,d4⟩:=vM (Kd.bW HR3.out HX.out.bel) s.pc hp0 hp1
  obtain ⟨op,eo⟩:∃ z,(aj l3 s.pc).f0=z:=⟨_,rfl⟩
  obtain ⟨x1,ea⟩:∃ z,(aj l3 s.pc).f1=z:=⟨_,rfl⟩
  obtain ⟨x2,eb⟩:∃ z,(aj l3 s.pc).f2=z:=⟨_,rfl⟩
  obtain ⟨x3,ec⟩:∃ z,(aj l3 s.pc).f3=z:=⟨_,rfl⟩
  obtain ⟨n,en⟩:∃ z,(aj l3 s.pc).f4=z:=⟨_,rfl⟩
  rw [eo] at d0
  rw [ea] at d1
  rw [eb] at d2
  rw [ec] at d3
  rw [en] at d4
  have HEO:=Lib.hid eo
  have HEA:=Lib.hid ea
  have HEN:=Lib.hid en
  have O1:=Lib.hid hpre
  have X0:=Lib.hid hnew
  have j0:(0≤s.pc)=True:=eq_true hp0
  have j1:(s.pc < (l3.length:Int))=True:=eq_true hp1
  clear p3 HPC hst hde hnx hpre hnew hp0 hp1 eo ea eb ec en
  have p3:wr.cell? ⟨G,3,none⟩=some (.slice (some ad) l3.length c3):=by rw [← hA];exact HX.out.bp.cell 3
  obtain ⟨gI,Xc⟩:∃ g,wr.heap.size=g:=⟨_,rfl⟩
  obtain ⟨wz,hwz⟩:∃ wz,wr.alloc (.cells #[.int .u8 0,.int .u8 0,.int .u8 0,.int .u8 0,.int .i64 0] 39)=wz:=⟨_,rfl⟩
  have W9:Bk wz gI #[.int .u8 0,.int .u8 0,.int .u8 0,.int .u8 0,.int .i64 0] 39:=by rw [← hwz,← Xc];exact Bk.new wr _ _
  have hbz:Below wr.heap.size wr (wz.setRow gI #[.int .u8 op,.int .u8 x1,.int .u8 x2,.int .u8 x3,.int .i64 n]):=dE (by rw [← hwz];exact (Below.refl _ wr).alloc (Nat.le_refl _) _) (by rw [Xc];exact Nat.le_refl _) _
  have hI1:(#[.int .u8 op,.int .u8 x1,.int .u8 x2,.int .u8 x3,.int .i64 n]:Array Value).all (·.oneCell')=true:=by simp [Value.oneCell']
  have PD:=ae.mk (show Ar G c gI b #[.slice A0 l0.length c0,.string a1,.string a2,.slice A3 l3.length c3] s vP vV #[.int .u8 op,.int .u8 x1,.int .u8 x2,.int .u8 x3,.int .i64 n] W W1 (wz.setRow gI #[.int .u8 op,.int .u8 x1,.int .u8 x2,.int .u8 x3,.int .i64 n]) from ⟨HX.out.bp.below hbz,HC.out.below hbz,W9.setRow _,HX.out.mp.below hbz,HT.out.below hbz,HX.out.bel.trans (hbz.mono HX.out.bel.size),HX.out.lo.1,HX.out.lo.2.1⟩)
  clear hbz HX HC HT
  go_upto_region 12 with (skip;refine wpList_store_row rfl 39 (.tmp 10) (.tmp 38) rfl gI (#[.int .u8 op,.int .u8 x1,.int .u8 x2,.int .u8 x3,.int .i64 n]) rfl rfl 39 _ W9 (by kernel_rfl) rfl hI1 ?_)
  clear d0 d1 d2 d3 d4 Fj p0 p1 p2 p3 j0 j1 W9 hwz hI1 Xc hA
  change Code.wp _ _ _ _ (wz.setRow gI #[.int .u8 op,.int .u8 x1,.int .u8 x2,.int .u8 x3,.int .i64 n])
  generalize wz.setRow gI #[.int .u8 op,.int .u8 x1,.int .u8 x2,.int .u8 x3,.int .i64 n]=wy at PD ⊢
  have HX:=ae.mk PD.out
  clear PD
  go_upto_if 40 with (fail)
  go_cut [6,7] (fun v6 v7 wc=>v6=.int .i64 Oh∧v7=.int .i64 ry∧ae (Ar G c gI b #[.slice A0 l0.length c0,.string a1,.string a2,.slice A3 l3.length c3] s vP vV #[.int .u8 op,.int .u8 x1,.int .u8 x2,.int .u8 x3,.int .i64 n] Wa W1 wc))
  case first =>
    by_cases hL:0≤last
    case neg =>
      have hd2:decide ((0:Int)≤last)=false:=decide_eq_false hL
      have q:=O1.out
      rw [if_neg hL] at q
      obtain ⟨rfl,rfl,rfl⟩:=q
      clear O1 hL X0
      rw [hd2]
      go_wp2
      go_meet
      case rel=>exact ⟨rfl,rfl,HX⟩
    case pos =>
      have hd2:decide ((0:Int)≤last)=true:=decide_eq_true hL
      have q:=O1.out
      rw [if_pos hL] at q
      obtain ⟨hsafe,h5,hops,hfp,NH,hwr,DR,hat,hon⟩:=q
      clear O1 hL X0 XZ VB HST
      rw [hd2]
      have p0:wy.cell? ⟨G,0,none⟩=some (.slice A0 l0.length c0):=HX.out.bp.cell 0
      have p1:wy.cell? ⟨G,1,none⟩=some (.string a1):=HX.out.bp.cell 1
      have p2:wy.cell? ⟨G,2,none⟩=some (.string a2):=HX.out.bp.cell 2
      have p3:wy.cell? ⟨G,3,none⟩=some (.slice A3 l3.length c3):=HX.out.bp.cell 3
      have Fj:wy.cell? ⟨c,22,none⟩=some (.int .i64 s.pc):=HX.out.bs.cell 22
      go_upto_region 999 with (fail)
      refine (iY.calls A0 c0 l0 a1 a2 A3 c3 l3 s.pc false wy (Kd.bW HR0.out HX.out.bel) hc0 (Kd.bW HR3.out HX.out.bel) hc3 hsafe).mono ?_
      rintro e_ wu ⟨rfl,hbu⟩
      replace HX:=ae.mk (HX.out.below (by first|exact hbu|exact hbu.below))
      clear hbu p0 p1 p2 p3 Fj hsafe
      rw [HEO.out] at h5 hops NH hwr
      rw [HEA.out] at NH hwr
      rw [HEN.out] at hwr
      have q8:(op == 8)=false:=beq_eq_false_iff_ne.2 hops.1
      have q10:(op == 10)=false:=beq_eq_false_iff_ne.2 hops.2.1
      have q12:(op == 12)=false:=beq_eq_false_iff_ne.2 hops.2.2.1
      have q13:(op == 13)=false:=beq_eq_false_iff_ne.2 hops.2.2.2
      have q6:decide (s.pc≤fr)=false:=decide_eq_false (by omega)
      have q7:decide (last < s.pc)=false:=decide_eq_false (by omega)
      clear hfp hops
      have i0:wu.cell? ⟨gI,0,none⟩=some (.int .u8 op):=HX.out.bi.cell 0
      have i1:wu.cell? ⟨gI,1,none⟩=some (.int .u8 x1):=HX.out.bi.cell 1
      have i4:wu.cell? ⟨gI,4,none⟩=some (.int .i64 n):=HX.out.bi.cell 4
      have Fj:wu.cell? ⟨c,22,none⟩=some (.int .i64 s.pc):=HX.out.bs.cell 22
      by_cases h9:op=9 ∨ op=11
      case neg =>
        rw [if_neg (fun q=>h9 q.1)] at hwr
        subst hwr
        have q9a:(op == 9)=false:=beq_eq_false_iff_ne.2 (fun q=>h9 (Or.inl q))
        have q11:(op == 11)=false:=beq_eq_false_iff_ne.2 (fun q=>h9 (Or.inr q))
        clear h9 NH
        go_upto_region 17 with (fail)
        clear q9a q11
        by_cases hla:s.pc=last
        case neg =>
          obtain ⟨rfl,hfe⟩:=hon hla
          have q9:(s.pc == ry)=false:=beq_eq_false_iff_ne.2 hla
          rw [DR] at hfe
          have qe:(wrap64 (fr+1) != s.pc)=false:=by rw [hfe];simp
          subst DR
          clear hat hon hla hfe
          go_wp2
          go_meet
          case rel=>exact ⟨rfl,rfl,HX⟩
        case pos =>
          obtain ⟨rfl,τ,hlo,hsi⟩:=hat hla
          have q9:(s.pc == last)=true:=by rw [hla];simp
          have VA:=Lib.hid hlo
          have Vz:=Lib.hid hsi
          subst DR
          clear hat hon hla hlo hsi
          go_upto_region 18 with (fail)
          clear i0 i1 i4 Fj q8 q10 q12 q13 q6 q7 q9 hd2
          refine wp_region_noPanic ?_
          refine qy (n:=9) (S:=fun w'=>Ar G c gI b #[.slice A0 l0.length c0,.string a1,.string a2,.slice A3 l3.length c3] s vP vV #[.int .u8 op,.int .u8 x1,.int .u8 x2,.int .u8 x3,.int .i64 n] Wa W1 w') (ds:=[]) #[false,false,false,false,false,false,false,false,false] (by kernel_rfl) rfl rfl HX.out.drew (fun hHeld=>?_)
          refine mF ft.ML ft.G8 (fun jh tN=>?_)
          clear HX
          generalize World.drew _=Wd at hHeld ⊢
          refine iC (i:=0) (N:=(some 98)) (v:=?_) (a':=?_) #[true,false,false,false,false,false,false,false,false] rfl rfl (gq jh.out (by kernel_rfl)) (fun _ _ _ h=>h) (Or.inl ⟨by rfl,?_⟩) ?_ ?_
          rotate_left
          · intro w'
            go_simp
            with_reducible rfl
          rotate_left
          · simp only [Act.put,List.setIfInBounds_toArray,List.set_cons_zero,List.set_cons_succ,bY,bZ]
            rfl
          refine kM (i:=1) (N:=(some 99)) (v:=?_) (a':=?_) #[true,true,false,false,false,false,false,false,false] rfl rfl (iO jh.out tN.out (by kernel_rfl)) (fun _ _ _ h=>h) (Or.inl ⟨by rfl,?_⟩) hHeld ?_ ?_
          rotate_left
          · intro w' xq
            have c_:=Cf w' b _ xq.mp
            go_simp
            with_reducible rfl
          rotate_left
          · simp only [Act.put,List.setIfInBounds_toArray,List.set_cons_zero,List.set_cons_succ,bY,bZ]
            rfl
          refine iC (i:=2) (N:=(some 100)) (v:=?_) (a':=?_) #[true,true,true,false,false,false,false,false,false] rfl rfl (gq jh.out (by kernel_rfl)) (fun _ _ _ h=>h) (Or.inl ⟨by rfl,?_⟩) ?_ ?_
          rotate_left
          · intro w'
            go_simp
            with_reducible rfl
          rotate_left
          · simp only [Act.put,List.setIfInBounds_toArray,List.set_cons_zero,List.set_cons_succ,bY,bZ]
            rfl
          refine kM (i:=3) (N:=(some 101)) (v:=?_) (a':=?_) #[true,true,true,true,false,false,false,false,false] rfl rfl (iO jh.out tN.out (by kernel_rfl)) (fun _ _ _ h=>h) (Or.inl ⟨by rfl,?_⟩) hHeld ?_ ?_
          rotate_left
          · intro w' xq
            have c_:w'.cell? ⟨G,0,none⟩=some (.slice A0 l0.length c0):=xq.bp.cell 0
            go_simp
            with_reducible rfl
          rotate_left
          · simp only [Act.put,List.setIfInBounds_toArray,List.set_cons_zero,List.set_cons_succ,bY,bZ]
            rfl
          refine kM (i:=4) (N:=(some 102)) (v:=.agg #[.slice A0 l0.length c0,.string a1,.string a2,.slice A3 l3.length c3]) (a':=?akT) #[true,true,true,true,true,false,false,false,false] rfl rfl (iO jh.out tN.out (by kernel_rfl)) (fun _ _ _ h=>h) (Or.inl ⟨by rfl,?afN⟩) hHeld ?agX ?_
          case afN=>exact fun w' hw=>sU 25 (.tmp 2) rfl G 0 rfl #[.slice A0 l0.length c0,.string a1,.string a2,.slice A3 l3.length c3] _ (hw.bp.range 0 _ (fun j hj=>by match j,hj with | 0,_ | 1,_ | 2,_ | 3,_=>rfl)) Tryd.underlying25 rfl (by kernel_rfl)
          case agX =>
            simp only [Act.put,List.setIfInBounds_toArray,List.set_cons_zero,List.set_cons_succ,bY,bZ]
            rfl
          refine iC (i:=5) (N:=(some 103)) (v:=?_) (a':=?_) #[true,true,true,true,true,true,false,false,false] rfl rfl (gq jh.out (by kernel_rfl)) (fun _ _ _ h=>h) (Or.inl ⟨by rfl,?_⟩) ?_ ?_
          rotate_left
          · intro w'
            go_simp
            with_reducible rfl
          rotate_left
          · simp only [Act.put,List.setIfInBounds_toArray,List.set_cons_zero,List.set_cons_succ,bY,bZ]
            rfl
          refine oD (i:=6) (N:=(some 104)) #[true,true,true,true,true,true,true,false,false] rfl rfl (kG jh.out (by kernel_rfl)) (by decide) (fun K hK=>?_)
          refine nR Tryd.func15 (by kernel_rfl) rfl #[.agg #[.slice A0 l0.length c0,.string a1,.string a2,.slice A3 l3.length c3],.int .u8 a] (by rfl) rfl rfl (by (try simp only [List.map_toArray,List.map_cons,List.map_nil]);rfl) ?_
          refine (bM.calls k A0 c0 l0 a1 a2 A3 c3 l3 a τ _ (Kd.bW HR0.out hHeld.bel) hc0 (Kd.bW HR3.out hHeld.bel) hc3 VA.out).mono ?_
          rintro e_ w4 ⟨rfl,hb4⟩
          refine ⟨_,rfl,?_⟩
          refine hK.out _ _ (hHeld.below (by first|exact hb4|exact hb4.below)) (fun hHeld=>?_)
          clear hK K hb4
          refine je (a':=?_) ?_ ?_
          rotate_left
          · simp only [jO,Act.put,List.setIfInBounds_toArray,List.set_cons_zero,List.set_cons_succ,bY,bZ]
            rfl
          refine oD (i:=7) (N:=(some 105)) #[true,true,true,true,true,true,true,true,false] rfl rfl (kG jh.out (by kernel_rfl)) (by decide) (fun K hK=>?_)
          refine nR Tryd.func14 (by kernel_rfl) rfl #[.slice A0 l0.length c0,.int .i64 τ] (by rfl) rfl rfl (by (try simp only [List.map_toArray,List.map_cons,List.map_nil]);rfl) ?_
          refine (dn.calls k A0 c0 l0 τ _ _ (Kd.bW HR0.out hHeld.bel) hc0 Vz.out).mono ?_
          rintro e_ w4 ⟨rfl,hb4⟩
          refine ⟨_,rfl,?_⟩
          refine hK.out _ _ (hHeld.below (by first|exact hb4|exact hb4.below)) (fun hHeld=>?_)
          clear hK K hb4
          refine je (a':=?_) ?_ ?_
          rotate_left
          · simp only [jO,Act.put,List.setIfInBounds_toArray,List.set_cons_zero,List.set_cons_succ,bY,bZ]
            rfl
          refine iC (i:=8) (N:=(some 106)) (v:=?_) (a':=?_) #[true,true,true,true,true,true,true,true,true] rfl rfl (gq jh.out (by kernel_rfl)) (fun _ _ _ h=>h) (Or.inl ⟨by rfl,?_⟩) ?_ ?_
          rotate_left
          · intro w'
            go_simp
            with_reducible rfl
          rotate_left
          · simp only [Act.put,List.setIfInBounds_toArray,List.set_cons_zero,List.set_cons_succ,bY,bZ]
            rfl
          refine tu (pX jh.out (by kernel_rfl)) ?_
          refine NoPanic.normal ?_
          (try simp only [Exit.then,Exit.inBlock])
          have HX:=ae.mk hHeld
          clear hHeld
          clear VA Vz
          go_wp2
          go_meet
          case rel=>exact ⟨rfl,rfl,HX⟩
      case pos =>
        obtain rfl:a=x1:=(NH h9).symm
        rw [if_pos ⟨h9,rfl⟩] at hwr
        subst hwr
        clear NH
        have hins:=Qg wu b W n HX.out.mp
        obtain ⟨wM,hwM⟩:∃ v,nH wu b (.map (oO 0 (ql W n)).toArray (ql W n).length)=v:=⟨_,rfl⟩
        rw [hwM] at hins
        have PD:=ae.mk (HX.out.ins n)
        rw [hwM] at PD
        clear HX
        have HX:=ae.mk PD.out
        clear PD
        rcases h9 with rfl|rfl
        ·
          go_upto_region 17 with (fail)
          clear i0 i1 i4 Fj
          have i0:wM.cell? ⟨gI,0,none⟩=some (.int .u8 9):=HX.out.bi.cell 0
          have i1:wM.cell? ⟨gI,1,none⟩=some (.int .u8 a):=HX.out.bi.cell 1
          have i4:wM.cell? ⟨gI,4,none⟩=some (.int .i64 n):=HX.out.bi.cell 4
          have Fj:wM.cell? ⟨c,22,none⟩=some (.int .i64 s.pc):=HX.out.bs.cell 22
          by_cases hla:s.pc=last
          case neg =>
            obtain ⟨rfl,hfe⟩:=hon hla
            have q9:(s.pc == ry)=false:=beq_eq_false_iff_ne.2 hla
            rw [DR] at hfe
            have qe:(wrap64 (fr+1) != s.pc)=false:=by rw [hfe];simp
            subst DR
            clear hat hon hla hfe
            go_wp2
            go_meet
            case rel=>exact ⟨rfl,rfl,HX⟩
          case pos =>
            obtain ⟨rfl,τ,hlo,hsi⟩:=hat hla
            have q9:(s.pc == last)=true:=by rw [hla];simp
            have VA:=Lib.hid hlo
            have Vz:=Lib.hid hsi
            subst DR
            clear hat hon hla hlo hsi
            go_upto_region 18 with (fail)
            clear i0 i1 i4 Fj q8 q10 q12 q13 q6 q7 q9 hd2 hins hwM
            refine wp_region_noPanic ?_
            refine qy (n:=9) (S:=fun w'=>Ar G c gI b #[.slice A0 l0.length c0,.string a1,.string a2,.slice A3 l3.length c3] s vP vV #[.int .u8 9,.int .u8 a,.int .u8 x2,.int .u8 x3,.int .i64 n] (ql W n) W1 w') (ds:=[]) #[false,false,false,false,false,false,false,false,false] (by kernel_rfl) rfl rfl HX.out.drew (fun hHeld=>?_)
            refine mF ft.ML ft.G8 (fun jh tN=>?_)
            clear HX
            generalize World.drew _=Wd at hHeld ⊢
            refine iC (i:=0) (N:=(some 98)) (v:=?_) (a':=?_) #[true,false,false,false,false,false,false,false,false] rfl rfl (gq jh.out (by kernel_rfl)) (fun _ _ _ h=>h) (Or.inl ⟨by rfl,?_⟩) ?_ ?_
            rotate_left
            · intro w'
              go_simp
              with_reducible rfl
            rotate_left
            · simp only [Act.put,List.setIfInBounds_toArray,List.set_cons_zero,List.set_cons_succ,bY,bZ]
              rfl
            refine kM (i:=1) (N:=(some 99)) (v:=?_) (a':=?_) #[true,true,false,false,false,false,false,false,false] rfl rfl (iO jh.out tN.out (by kernel_rfl)) (fun _ _ _ h=>h) (Or.inl ⟨by rfl,?_⟩) hHeld ?_ ?_
            rotate_left
            · intro w' xq
              have c_:=Cf w' b _ xq.mp
              go_simp
              with_reducible rfl
            rotate_left
            · simp only [Act.put,List.setIfInBounds_toArray,List.set_cons_zero,List.set_cons_succ,bY,bZ]
              rfl
            refine iC (i:=2) (N:=(some 100)) (v:=?_) (a':=?_) #[true,true,true,false,false,false,false,false,false] rfl rfl (gq jh.out (by kernel_rfl)) (fun _ _ _ h=>h) (Or.inl ⟨by rfl,?_⟩) ?_ ?_
            rotate_left
            · intro w'
              go_simp
              with_reducible rfl
            rotate_left
            · simp only [Act.put,List.setIfInBounds_toArray,List.set_cons_zero,List.set_cons_succ,bY,bZ]
              rfl
            refine kM (i:=3) (N:=(some 101)) (v:=?_) (a':=?_) #[true,true,true,true,false,false,false,false,false] rfl rfl (iO jh.out tN.out (by kernel_rfl)) (fun _ _ _ h=>h) (Or.inl ⟨by rfl,?_⟩) hHeld ?_ ?_
            rotate_left
            · intro w' xq
              have c_:w'.cell? ⟨G,0,none⟩=some (.slice A0 l0.length c0):=xq.bp.cell 0
              go_simp
              with_reducible rfl
            rotate_left
            · simp only [Act.put,List.setIfInBounds_toArray,List.set_cons_zero,List.set_cons_succ,bY,bZ]
              rfl
            refine kM (i:=4) (N:=(some 102)) (v:=.agg #[.slice A0 l0.length c0,.string a1,.string a2,.slice A3 l3.length c3]) (a':=?akS) #[true,true,true,true,true,false,false,false,false] rfl rfl (iO jh.out tN.out (by kernel_rfl)) (fun _ _ _ h=>h) (Or.inl ⟨by rfl,?afM⟩) hHeld ?agW ?_
            case afM=>exact fun w' hw=>sU 25 (.tmp 2) rfl G 0 rfl #[.slice A0 l0.length c0,.string a1,.string a2,.slice A3 l3.length c3] _ (hw.bp.range 0 _ (fun j hj=>by match j,hj with | 0,_ | 1,_ | 2,_ | 3,_=>rfl)) Tryd.underlying25 rfl (by kernel_rfl)
            case agW =>
              simp only [Act.put,List.setIfInBounds_toArray,List.set_cons_zero,List.set_cons_succ,bY,bZ]
              rfl
            refine iC (i:=5) (N:=(some 103)) (v:=?_) (a':=?_) #[true,true,true,true,true,true,false,false,false] rfl rfl (gq jh.out (by kernel_rfl)) (fun _ _ _ h=>h) (Or.inl ⟨by rfl,?_⟩) ?_ ?_
            rotate_left
            · intro w'
              go_simp
              with_reducible rfl
            rotate_left
            · simp only [Act.put,List.setIfInBounds_toArray,List.set_cons_zero,List.set_cons_succ,bY,bZ]
              rfl
            refine oD (i:=6) (N:=(some 104)) #[true,true,true,true,true,true,true,false,false] rfl rfl (kG jh.out (by kernel_rfl)) (by decide) (fun K hK=>?_)
            refine nR Tryd.func15 (by kernel_rfl) rfl #[.agg #[.slice A0 l0.length c0,.string a1,.string a2,.slice A3 l3.length c3],.int .u8 a] (by rfl) rfl rfl (by (try simp only [List.map_toArray,List.map_cons,List.map_nil]);rfl) ?_
            refine (bM.calls k A0 c0 l0 a1 a2 A3 c3 l3 a τ _ (Kd.bW HR0.out hHeld.bel) hc0 (Kd.bW HR3.out hHeld.bel) hc3 VA.out).mono ?_
            rintro e_ w4 ⟨rfl,hb4⟩
            refine ⟨_,rfl,?_⟩
            refine hK.out _ _ (hHeld.below (by first|exact hb4|exact hb4.below)) (fun hHeld=>?_)
            clear hK K hb4
            refine je (a':=?_) ?_ ?_
            rotate_left
            · simp only [jO,Act.put,List.setIfInBounds_toArray,List.set_cons_zero,List.set_cons_succ,bY,bZ]
              rfl
            refine oD (i:=7) (N:=(some 105)) #[true,true,true,true,true,true,true,true,false] rfl rfl (kG jh.out (by kernel_rfl)) (by decide) (fun K hK=>?_)
            refine nR Tryd.func14 (by kernel_rfl) rfl #[.slice A0 l0.length c0,.int .i64 τ] (by rfl) rfl rfl (by (try simp only [List.map_toArray,List.map_cons,List.map_nil]);rfl) ?_
            refine (dn.calls k A0 c0 l0 τ _ _ (Kd.bW HR0.out hHeld.bel) hc0 Vz.out).mono ?_
            rintro e_ w4 ⟨rfl,hb4⟩
            refine ⟨_,rfl,?_⟩
            refine hK.out _ _ (hHeld.below (by first|exact hb4|exact hb4.below)) (fun hHeld=>?_)
            clear hK K hb4
            refine je (a':=?_) ?_ ?_
            rotate_left
            · simp only [jO,Act.put,List.setIfInBounds_toArray,List.set_cons_zero,List.set_cons_succ,bY,bZ]
              rfl
            refine iC (i:=8) (N:=(some 106)) (v:=?_) (a':=?_) #[true,true,true,true,true,true,true,true,true] rfl rfl (gq jh.out (by kernel_rfl)) (fun _ _ _ h=>h) (Or.inl ⟨by rfl,?_⟩) ?_ ?_
            rotate_left
            · intro w'
              go_simp
              with_reducible rfl
            rotate_left
            · simp only [Act.put,List.setIfInBounds_toArray,List.set_cons_zero,List.set_cons_succ,bY,bZ]
              rfl
            refine tu (pX jh.out (by kernel_rfl)) ?_
            refine NoPanic.normal ?_
            (try simp only [Exit.then,Exit.inBlock])
            have HX:=ae.mk hHeld
            clear hHeld
            clear VA Vz
            go_wp2
            go_meet
            case rel=>exact ⟨rfl,rfl,HX⟩
        ·
          go_upto_region 17 with (fail)
          clear i0 i1 i4 Fj
          have i0:wM.cell? ⟨gI,0,none⟩=some (.int .u8 11):=HX.out.bi.cell 0
          have i1:wM.cell? ⟨gI,1,none⟩=some (.int .u8 a):=HX.out.bi.cell 1
          have i4:wM.cell? ⟨gI,4,none⟩=some (.int .i64 n):=HX.out.bi.cell 4
          have Fj:wM.cell? ⟨c,22,none⟩=some (.int .i64 s.pc):=HX.out.bs.cell 22
          by_cases hla:s.pc=last
          case neg =>
            obtain ⟨rfl,hfe⟩:=hon hla
            have q9:(s.pc == ry)=false:=beq_eq_false_iff_ne.2 hla
            rw [DR] at hfe
            have qe:(wrap64 (fr+1) != s.pc)=false:=by rw [hfe];simp
            subst DR
            clear hat hon hla hfe
            go_wp2
            go_meet
            case rel=>exact ⟨rfl,rfl,HX⟩
          case pos =>
            obtain ⟨rfl,τ,hlo,hsi⟩:=hat hla
            have q9:(s.pc == last)=true:=by rw [hla];simp
            have VA:=Lib.hid hlo
            have Vz:=Lib.hid hsi
            subst DR
            clear hat hon hla hlo hsi
            go_upto_region 18 with (fail)
            clear i0 i1 i4 Fj q8 q10 q12 q13 q6 q7 q9 hd2 hins hwM
            refine wp_region_noPanic ?_
            refine qy (n:=9) (S:=fun w'=>Ar G c gI b #[.slice A0 l0.length c0,.string a1,.string a2,.slice A3 l3.length c3] s vP vV #[.int .u8 11,.int .u8 a,.int .u8 x2,.int .u8 x3,.int .i64 n] (ql W n) W1 w') (ds:=[]) #[false,false,false,false,false,false,false,false,false] (by kernel_rfl) rfl rfl HX.out.drew (fun hHeld=>?_)
            refine mF ft.ML ft.G8 (fun jh tN=>?_)
            clear HX
            generalize World.drew _=Wd at hHeld ⊢
            refine iC (i:=0) (N:=(some 98)) (v:=?_) (a':=?_) #[true,false,false,false,false,false,false,false,false] rfl rfl (gq jh.out (by kernel_rfl)) (fun _ _ _ h=>h) (Or.inl ⟨by rfl,?_⟩) ?_ ?_
            rotate_left
            · intro w'
              go_simp
              with_reducible rfl
            rotate_left
            · simp only [Act.put,List.setIfInBounds_toArray,List.set_cons_zero,List.set_cons_succ,bY,bZ]
              rfl
            refine kM (i:=1) (N:=(some 99)) (v:=?_) (a':=?_) #[true,true,false,false,false,false,false,false,false] rfl rfl (iO jh.out tN.out (by kernel_rfl)) (fun _ _ _ h=>h) (Or.inl ⟨by rfl,?_⟩) hHeld ?_ ?_
            rotate_left
            · intro w' xq
              have c_:=Cf w' b _ xq.mp
              go_simp
              with_reducible rfl
            rotate_left
            · simp only [Act.put,List.setIfInBounds_toArray,List.set_cons_zero,List.set_cons_succ,bY,bZ]
              rfl
            refine iC (i:=2) (N:=(some 100)) (v:=?_) (a':=?_) #[true,true,true,false,false,false,false,false,false] rfl rfl (gq jh.out (by kernel_rfl)) (fun _ _ _ h=>h) (Or.inl ⟨by rfl,?_⟩) ?_ ?_
            rotate_left
            · intro w'
              go_simp
              with_reducible rfl
            rotate_left
            · simp only [Act.put,List.setIfInBounds_toArray,List.set_cons_zero,List.set_cons_succ,bY,bZ]
              rfl
            refine kM (i:=3) (N:=(some 101)) (v:=?_) (a':=?_) #[true,true,true,true,false,false,false,false,false] rfl rfl (iO jh.out tN.out (by kernel_rfl)) (fun _ _ _ h=>h) (Or.inl ⟨by rfl,?_⟩) hHeld ?_ ?_
            rotate_left
            · intro w' xq
              have c_:w'.cell? ⟨G,0,none⟩=some (.slice A0 l0.length c0):=xq.bp.cell 0
              go_simp
              with_reducible rfl
            rotate_left
            · simp only [Act.put,List.setIfInBounds_toArray,List.set_cons_zero,List.set_cons_succ,bY,bZ]
              rfl
            refine kM (i:=4) (N:=(some 102)) (v:=.agg #[.slice A0 l0.length c0,.string a1,.string a2,.slice A3 l3.length c3]) (a':=?akR) #[true,true,true,true,true,false,false,false,false] rfl rfl (iO jh.out tN.out (by kernel_rfl)) (fun _ _ _ h=>h) (Or.inl ⟨by rfl,?afL⟩) hHeld ?agV ?_
            case afL=>exact fun w' hw=>sU 25 (.tmp 2) rfl G 0 rfl #[.slice A0 l0.length c0,.string a1,.string a2,.slice A3 l3.length c3] _ (hw.bp.range 0 _ (fun j hj=>by match j,hj with | 0,_ | 1,_ | 2,_ | 3,_=>rfl)) Tryd.underlying25 rfl (by kernel_rfl)
            case agV =>
              simp only [Act.put,List.setIfInBounds_toArray,List.set_cons_zero,List.set_cons_succ,bY,bZ]
              rfl
            refine iC (i:=5) (N:=(some 103)) (v:=?_) (a':=?_) #[true,true,true,true,true,true,false,false,false] rfl rfl (gq jh.out (by kernel_rfl)) (fun _ _ _ h=>h) (Or.inl ⟨by rfl,?_⟩) ?_ ?_
            rotate_left
            · intro w'
              go_simp
              with_reducible rfl
            rotate_left
            · simp only [Act.put,List.setIfInBounds_toArray,List.set_cons_zero,List.set_cons_succ,bY,bZ]
              rfl
            refine oD (i:=6) (N:=(some 104)) #[true,true,true,true,true,true,true,false,false] rfl rfl (kG jh.out (by kernel_rfl)) (by decide) (fun K hK=>?_)
            refine nR Tryd.func15 (by kernel_rfl) rfl #[.agg #[.slice A0 l0.length c0,.string a1,.string a2,.slice A3 l3.length c3],.int .u8 a] (by rfl) rfl rfl (by (try simp only [List.map_toArray,List.map_cons,List.map_nil]);rfl) ?_
            refine (bM.calls k A0 c0 l0 a1 a2 A3 c3 l3 a τ _ (Kd.bW HR0.out hHeld.bel) hc0 (Kd.bW HR3.out hHeld.bel) hc3 VA.out).mono ?_
            rintro e_ w4 ⟨rfl,hb4⟩
            refine ⟨_,rfl,?_⟩
            refine hK.out _ _ (hHeld.below (by first|exact hb4|exact hb4.below)) (fun hHeld=>?_)
            clear hK K hb4
            refine je (a':=?_) ?_ ?_
            rotate_left
            · simp only [jO,Act.put,List.setIfInBounds_toArray,List.set_cons_zero,List.set_cons_succ,bY,bZ]
              rfl
            refine oD (i:=7) (N:=(some 105)) #[true,true,true,true,true,true,true,true,false] rfl rfl (kG jh.out (by kernel_rfl)) (by decide) (fun K hK=>?_)
            refine nR Tryd.func14 (by kernel_rfl) rfl #[.slice A0 l0.length c0,.int .i64 τ] (by rfl) rfl rfl (by (try simp only [List.map_toArray,List.map_cons,List.map_nil]);rfl) ?_
            refine (dn.calls k A0 c0 l0 τ _ _ (Kd.bW HR0.out hHeld.bel) hc0 Vz.out).mono ?_
            rintro e_ w4 ⟨rfl,hb4⟩
            refine ⟨_,rfl,?_⟩
            refine hK.out _ _ (hHeld.below (by first|exact hb4|exact hb4.below)) (fun hHeld=>?_)
            clear hK K hb4
            refine je (a':=?_) ?_ ?_
            rotate_left
            · simp only [jO,Act.put,List.setIfInBounds_toArray,List.set_cons_zero,List.set_cons_succ,bY,bZ]
              rfl
            refine iC (i:=8) (N:=(some 106)) (v:=?_) (a':=?_) #[true,true,true,true,true,true,true,true,true] rfl rfl (gq jh.out (by kernel_rfl)) (fun _ _ _ h=>h) (Or.inl ⟨by rfl,?_⟩) ?_ ?_
            rotate_left
            · intro w'
              go_simp
              with_reducible rfl
            rotate_left
            · simp only [Act.put,List.setIfInBounds_toArray,List.set_cons_zero,List.set_cons_succ,bY,bZ]
              rfl
            refine tu (pX jh.out (by kernel_rfl)) ?_
            refine NoPanic.normal ?_
            (try simp only [Exit.then,Exit.inBlock])
            have HX:=ae.mk hHeld
            clear hHeld
            clear VA Vz
            go_wp2
            go_meet
            case rel=>exact ⟨rfl,rfl,HX⟩
  case rest =>
  clear HX O1
  obtain ⟨rfl,rfl,HX⟩:=hcut
  have i0:wc.cell? ⟨gI,0,none⟩=some (.int .u8 op):=HX.out.bi.cell 0
  have i1:wc.cell? ⟨gI,1,none⟩=some (.int .u8 x1):=HX.out.bi.cell 1
  have i4:wc.cell? ⟨gI,4,none⟩=some (.int .i64 n):=HX.out.bi.cell 4
  have Fj:wc.cell? ⟨c,22,none⟩=some (.int .i64 s.pc):=HX.out.bs.cell 22
  go_upto_if 119 with (fail)
  clear i0 i1 i4 Fj
  go_cut [6,7,8,9] (fun v6 v7 v8 v9 wc=>∃ b2,v6=.int .i64 Pz∧v7=.int .i64 last2∧v8=.map (some b2)∧v9=.int .u8 a2'∧ae (Ar G c gI b2 #[.slice A0 l0.length c0,.string a1,.string a2,.slice A3 l3.length c3] s vP vV #[.int .u8 op,.int .u8 x1,.int .u8 x2,.int .u8 x3,.int .i64 n] W2 W1 wc))
  case first =>
    clear XZ VB HST
    by_cases h5:(aj l3 s.pc).f0=5
    case neg =>
      obtain ⟨rfl,rfl,rfl,rfl⟩:=X0.out.not h5
      have ne5:(op == 5)=false:=beq_eq_false_iff_ne.2 (by rw [← HEO.out];exact h5)
      clear X0 h5
      go_wp2
      go_meet
      case rel=>exact ⟨b,rfl,rfl,rfl,rfl,HX⟩
    case pos =>
      obtain ⟨rfl,hla,ha2,rfl⟩:=X0.out.new h5
      rw [HEA.out] at ha2
      subst ha2
      have HLA:=Lib.hid hla
      obtain rfl:op=5:=HEO.out.symm.trans h5
      clear X0 h5 hla HEO HEA
      go_upto_region 25 with (fail)
      refine wp_region_noPanic ?_
      refine qy (n:=11) (S:=fun w'=>Ar G c gI b #[.slice A0 l0.length c0,.string a1,.string a2,.slice A3 l3.length c3] s vP vV #[.int .u8 5,.int .u8 a2',.int .u8 x2,.int .u8 x3,.int .i64 n] Wa W1 w') (ds:=[]) #[false,false,false,false,false,false,false,false,false,false,false] (by kernel_rfl) rfl rfl HX.out.drew (fun hHeld=>?_)
      refine mF ft.YA ft.XP (fun jh tN=>?_)
      clear HX
      generalize World.drew _=Wd at hHeld ⊢
      refine iC (i:=0) (N:=(some 120)) (v:=?_) (a':=?_) #[true,false,false,false,false,false,false,false,false,false,false] rfl rfl (gq jh.out (by kernel_rfl)) (fun _ _ _ h=>h) (Or.inl ⟨by rfl,?_⟩) ?_ ?_
      rotate_left
      · intro w'
        go_simp
        with_reducible rfl
      rotate_left
      · simp only [Act.put,List.setIfInBounds_toArray,List.set_cons_zero,List.set_cons_succ,bY,bZ]
        rfl
      refine kM (i:=1) (N:=(some 121)) (v:=?_) (a':=?_) #[true,true,false,false,false,false,false,false,false,false,false] rfl rfl (iO jh.out tN.out (by kernel_rfl)) (fun _ _ _ h=>h) (Or.inl ⟨by rfl,?_⟩) hHeld ?_ ?_
      rotate_left
      · intro w' xq
        have c_:w'.cell? ⟨c,22,none⟩=some (.int .i64 s.pc):=xq.bs.cell 22
        go_simp
        with_reducible rfl
      rotate_left
      · simp only [Act.put,List.setIfInBounds_toArray,List.set_cons_zero,List.set_cons_succ,bY,bZ]
        rfl
      refine kM (i:=2) (N:=(some 122)) (v:=.agg #[.slice A0 l0.length c0,.string a1,.string a2,.slice A3 l3.length c3]) (a':=?akQ) #[true,true,true,false,false,false,false,false,false,false,false] rfl rfl (iO jh.out tN.out (by kernel_rfl)) (fun _ _ _ h=>h) (Or.inl ⟨by rfl,?afK⟩) hHeld ?agU ?_
      case afK=>exact fun w' hw=>sU 25 (.tmp 2) rfl G 0 rfl #[.slice A0 l0.length c0,.string a1,.string a2,.slice A3 l3.length c3] _ (hw.bp.range 0 _ (fun j hj=>by match j,hj with | 0,_ | 1,_ | 2,_ | 3,_=>rfl)) Tryd.underlying25 rfl (by kernel_rfl)
      case agU =>
        simp only [Act.put,List.setIfInBounds_toArray,List.set_cons_zero,List.set_cons_succ,bY,bZ]
        rfl
      refine iC (i:=3) (N:=(some 123)) (v:=?_) (a':=?_) #[true,true,true,true,false,false,false,false,false,false,false] rfl rfl (gq jh.out (by kernel_rfl)) (fun _ _ _ h=>h) (Or.inl ⟨by rfl,?_⟩) ?_ ?_
      rotate_left
      · intro w'
        go_simp
        with_reducible rfl
      rotate_left
      · simp only [Act.put,List.setIfInBounds_toArray,List.set_cons_zero,List.set_cons_succ,bY,bZ]
        rfl
      refine kM (i:=4) (N:=(some 124)) (v:=?_) (a':=?_) #[true,true,true,true,true,false,false,false,false,false,false] rfl rfl (iO jh.out tN.out (by kernel_rfl)) (fun _ _ _ h=>h) (Or.inl ⟨by rfl,?_⟩) hHeld ?_ ?_
      rotate_left
      · intro w' xq
        have c_:w'.cell? ⟨c,22,none⟩=some (.int .i64 s.pc):=xq.bs.cell 22
        go_simp
        with_reducible rfl
      rotate_left
      · simp only [Act.put,List.setIfInBounds_toArray,List.set_cons_zero,List.set_cons_succ,bY,bZ]
        rfl
      refine iC (i:=6) (N:=(some 126)) (v:=?_) (a':=?_) #[true,true,true,true,true,false,true,false,false,false,false] rfl rfl (gq jh.out (by kernel_rfl)) (fun _ _ _ h=>h) (Or.inl ⟨by rfl,?_⟩) ?_ ?_
      rotate_left
      · intro w'
        go_simp
        with_reducible rfl
      rotate_left
      · simp only [Act.put,List.setIfInBounds_toArray,List.set_cons_zero,List.set_cons_succ,bY,bZ]
        rfl
      refine kM (i:=7) (N:=(some 127)) (v:=?_) (a':=?_) #[true,true,true,true,true,false,true,true,false,false,false] rfl rfl (iO jh.out tN.out (by kernel_rfl)) (fun _ _ _ h=>h) (Or.inl ⟨by rfl,?_⟩) hHeld ?_ ?_
      rotate_left
      · intro w' xq
        have c_:w'.cell? ⟨gI,1,none⟩=some (.int .u8 a2'):=xq.bi.cell 1
        go_simp
        with_reducible rfl
      rotate_left
      · simp only [Act.put,List.setIfInBounds_toArray,List.set_cons_zero,List.set_cons_succ,bY,bZ]
        rfl
      refine oD (i:=5) (N:=(some 125)) #[true,true,true,true,true,true,true,true,false,false,false] rfl rfl (kG jh.out (by kernel_rfl)) (by decide) (fun K hK=>?_)
      refine nR Tryd.func11 (by kernel_rfl) rfl #[.agg #[.slice A0 l0.length c0,.string a1,.string a2,.slice A3 l3.length c3],.int .i64 s.pc] (by rfl) rfl rfl (by (try simp only [List.map_toArray,List.map_cons,List.map_nil]);rfl) ?_
      refine (aN.calls k A0 c0 l0 a1 a2 A3 c3 l3 s.pc last2 _ (Kd.bW HR0.out hHeld.bel) hc0 (Kd.bW HR3.out hHeld.bel) hc3 HLA.out).mono ?_
      rintro e_ w4 ⟨rfl,hb4⟩
      refine ⟨_,rfl,?_⟩
      refine hK.out _ _ (hHeld.below (by first|exact hb4|exact hb4.below)) (fun hHeld=>?_)
      clear hK K hb4
      refine je (a':=?_) ?_ ?_
      rotate_left
      · simp only [jO,Act.put,List.setIfInBounds_toArray,List.set_cons_zero,List.set_cons_succ,bY,bZ]
        rfl
      refine iC (i:=8) (N:=(some 6)) (v:=?_) (a':=?_) #[true,true,true,true,true,true,true,true,true,false,false] rfl rfl (gq jh.out (by kernel_rfl)) (fun _ _ _ h=>h) (Or.inl ⟨by rfl,?_⟩) ?_ ?_
      rotate_left
      · intro w'
        go_simp
        with_reducible rfl
      rotate_left
      · simp only [Act.put,List.setIfInBounds_toArray,List.set_cons_zero,List.set_cons_succ,bY,bZ]
        rfl
      refine iC (i:=9) (N:=(some 7)) (v:=?_) (a':=?_) #[true,true,true,true,true,true,true,true,true,true,false] rfl rfl (gq jh.out (by kernel_rfl)) (fun _ _ _ h=>h) (Or.inl ⟨by rfl,?_⟩) ?_ ?_
      rotate_left
      · intro w'
        go_simp
        with_reducible rfl
      rotate_left
      · simp only [Act.put,List.setIfInBounds_toArray,List.set_cons_zero,List.set_cons_succ,bY,bZ]
        rfl
      refine iC (i:=10) (N:=(some 9)) (v:=?_) (a':=?_) #[true,true,true,true,true,true,true,true,true,true,true] rfl rfl (gq jh.out (by kernel_rfl)) (fun _ _ _ h=>h) (Or.inl ⟨by rfl,?_⟩) ?_ ?_
      rotate_left
      · intro w'
        go_simp
        with_reducible rfl
      rotate_left
      · simp only [Act.put,List.setIfInBounds_toArray,List.set_cons_zero,List.set_cons_succ,bY,bZ]
        rfl
      refine tu (pX jh.out (by kernel_rfl)) ?_
      refine NoPanic.normal ?_
      (try simp only [Exit.then,Exit.inBlock])
      have HX:=ae.mk hHeld
      clear hHeld
      obtain ⟨wv,hwv⟩:∃ v,w4.alloc (.map #[] 0)=v:=⟨_,rfl⟩
      obtain ⟨b2,hb2⟩:∃ b2,w4.heap.size=b2:=⟨_,rfl⟩
      have PD:=ae.mk HX.out.WQ
      rw [hwv,hb2] at PD
      have hmm:=@run_makeMap Tryd.prog
      clear HX HLA
      go_wp2
      go_meet
      case rel=>exact ⟨b2,rfl,rfl,rfl,rfl,PD⟩
  case rest =>
  clear HX X0
  obtain ⟨b2,rfl,rfl,rfl,rfl,HX⟩:=hcut
  have p0:wc.cell? ⟨G,0,none⟩=some (.slice A0 l0.length c0):=HX.out.bp.cell 0
  have p1:wc.cell? ⟨G,1,none⟩=some (.string a1):=HX.out.bp.cell 1
  have p2:wc.cell? ⟨G,2,none⟩=some (.string a2):=HX.out.bp.cell 2
  have p3:wc.cell? ⟨G,3,none⟩=some (.slice A3 l3.length c3):=HX.out.bp.cell 3
  have kk:=HX.out.bs
  obtain ⟨hsm,f1,f2,hck,hsx⟩:=MP HST.out
  have HCK:=Lib.hid hck
  have HSX:=Lib.hid hsx
  have HSM:=Lib.hid hsm
  clear hck hsx hsm
  go_upto_region 999 with (((with_reducible refine bI (N:=131) rfl ?_);refine wpList_load_row rfl 36 (.tmp 5) rfl c rfl 36 (cellsS s vP vV) (0,0) _ kk Tryd.underlying36 rfl (by kernel_rfl) ?_))
  refine (Af k A0 c0 l0 a1 a2 A3 c3 l3 s s' d e vP vV _ (Kd.bW HR0.out HX.out.bel) hc0 (Kd.bW HR3.out HX.out.bel) hc3 (Kd.bW Gf.out HX.out.bel) HX.out.rt HSM.out f1 f2 HCK.out HSX.out).mono ?_
  rintro e_ wq ⟨MI,MH,rfl,hT1,hB1⟩
  obtain ⟨y,hy⟩:∃ y,wq.heap.size=y:=⟨_,rfl⟩
  obtain ⟨wx,hwx⟩:∃ wx,wq.alloc (.cells #[.int .i64 0,.int .i64 0,.int .i64 0,.int .i64 0,.int .i64 0,.int .i64 0,.int .i64 0,.int .i64 0,.int .i64 0,.int .i64 0,.int .i64 0,.int .i64 0,.int .i64 0,.int .i64 0,.int .i64 0,.int .i64 0,.int .i64 0,.int .i64 0,.int .i64 0,.int .i64 0,.slice none 0 0,.slice none 0 0,.int .i64 0,.int .i64 0] 36)=wx:=⟨_,rfl⟩
  have hzy:Bk wx y #[.int .i64 0,.int .i64 0,.int .i64 0,.int .i64 0,.int .i64 0,.int .i64 0,.int .i64 0,.int .i64 0,.int .i64 0,.int .i64 0,.int .i64 0,.int .i64 0,.int .i64 0,.int .i64 0,.int .i64 0,.int .i64 0,.int .i64 0,.int .i64 0,.int .i64 0,.int .i64 0,.slice none 0 0,.slice none 0 0,.int .i64 0,.int .i64 0] 36:=by rw [← hwx,← hy];exact Bk.new wq _ _
  have hbx:Below wq.heap.size wq wx:=by rw [← hwx];exact (Below.refl _ wq).alloc (Nat.le_refl _) _
  have hone:=hT1.rd.one s'
  have hBq:=HX.out.Nu HGC.out (w1:=wx.setRow y (cellsS s' MI MH)) (dE (hB1.trans (hbx.mono hB1.size)) (by rw [← hy];exact hB1.size) _)
  have HC1:=ae.mk (hzy.setRow (cellsS s' MI MH))
  have HT1:=ae.mk ((hT1.below hbx).keep (Keep.setRow hzy (cellsS s' MI MH)))
  have hcy:c ≠ y:=by have:=HX.out.bs.lt;have:=hB1.size;omega
  clear HX
  have HX:=ae.mk hBq
  have HCY:=Lib.hid hcy
  clear hT1 hB1 hBq hbx kk p0 p1 p2 p3 HCK HSX HSM hcy
  go_upto_region 28 with (skip;refine wpList_store_row rfl 36 (.tmp 11) (.tmp 133) rfl y (cellsS s' MI MH) rfl rfl 36 _ hzy (by kernel_rfl) rfl hone ?_)
  clear hone hzy hwx hy
  change Code.wp _ _ _ _ (wx.setRow y (cellsS s' MI MH))
  generalize wx.setRow y (cellsS s' MI MH)=wt at HX HC1 HT1 ⊢
  cases d with
  | true =>
    by_cases he:e=0
    case pos =>
      subst he
      clear XZ VB HST
      go_wp2
      go_ret
      exact ⟨rfl,by have q:=HB1.out.trans (HX.out.bel.mono HB1.out.size);first|exact q|(rw [hG] at q;exact q)⟩
    case neg =>
      have nb:(e == 0)=false:=beq_eq_false_iff_ne.2 he
      have nl:decide (last2 < (0:Int))=true:=decide_eq_true ((VB.out (Or.inl rfl)).resolve_left he)
      clear XZ VB HST he
      go_wp2
      go_ret
      exact ⟨rfl,by have q:=HB1.out.trans (HX.out.bel.mono HB1.out.size);first|exact q|(rw [hG] at q;exact q)⟩
  | false =>
  by_cases he:e=0
  case neg =>
    have nb:(e == 0)=false:=beq_eq_false_iff_ne.2 he
    have nb':(e != 0)=true:=by simp [he]
    have nl:decide (last2 < (0:Int))=true:=decide_eq_true ((VB.out (Or.inr he)).resolve_left he)
    clear XZ VB HST he
    go_wp2
    go_ret
    exact ⟨rfl,by have q:=HB1.out.trans (HX.out.bel.mono HB1.out.size);first|exact q|(rw [hG] at q;exact q)⟩
  case pos =>
  subst he
  have ahy:=ae.mk (XZ.out ⟨rfl,rfl⟩)
  have e2:=Lib.hid (show wrap64 ((i:Int)+1)=((i+1:Nat):Int) by unfold wrap64;omega)
  have ky:=HC1.out
  have kc:=HX.out.bs
  have Y1:=HT1.out.rd.one s'
  have HBn:=ae.mk (HX.out.write (cellsS s' MI MH))
  have HCn:=ae.mk (kc.setRow (cellsS s' MI MH))
  have HTn:=ae.mk (HT1.out.keep (Keep.setRow kc (cellsS s' MI MH)))
  clear XZ VB HST HX HC1 HT1
  go_wp2_with (first|((with_reducible refine bI (N:=147) rfl ?_);refine wpList_load_row rfl 36 (.tmp 11) rfl y rfl 36 (cellsS s' MI MH) (0,0) _ ky Tryd.underlying36 rfl (by kernel_rfl) ?_)|(skip;refine wpList_store_row rfl 36 (.tmp 5) (.tmp 147) rfl c (cellsS s' MI MH) rfl rfl 36 _ kc (by kernel_rfl) rfl Y1 ?_))
  go_roundg gk
  case measure=>omega
  case rel=>exact ⟨s',_,_,Pz,last2,a2',W2,b2,i+1,by omega,rfl,rfl,rfl,rfl,by first|rfl|rw [e2.out]|(simp;omega),ahy,HCn,HTn,HBn⟩
end Go.Proofs.YtbmhmlgfpijmhaaDoor.P
end
