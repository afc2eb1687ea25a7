/- Parts of the proof of ModelMakes: what the functions that it reaches compute, and plain facts about that. -/
import Derived.ChangeKeysEq
import Derived.Test.YtlemecdddhdagaaDoorXak
import Derived.Test.YtlemecdddhdagaaDoorXal
import Derived.Test.YtlemecdddhdagaaDoorXat
set_option linter.unusedVariables false
set_option linter.unusedSimpArgs false
section
namespace Go.Proofs.YtlemecdddhdagaaDoor.P
open Go.RowKit Go.Proofs.ag.bH Go.Proofs.ag.dM Go.Proofs.ag.dY
attribute [local go_sem ↓] Go.wp_at_zero Go.wp_at_succ
def opAt (code:List gY) (s:St):Int:=if s.pc < code.length then (az code s.pc).f0 else 0
def qY (step:St→Option (St × Bool × Int)) (code:List gY):Nat→St→Nat→Nat→Prop
  | 0,_,_,_=>True
  | n+1,s,nw,pr=>(s.pc < code.length→0≤s.pc)∧nw≤1000000∧pr≤1000000∧∃ t d e,step s=some (t,d,e)∧(d=false∧e=0→t.cZ.length=(if opAt code s=5 then nw+1 else nw)∧t.out.length=(if opAt code s=14 then pr+1 else pr) ∧
      qY step code n t (if opAt code s=5 then nw+1 else nw) (if opAt code s=14 then pr+1 else pr))
def modelMakes.ok (k:Nat) (l0:List ByteArray) (a1 a2:ByteArray) (l3:List gY) (fuel:Nat):Prop :=
  gI.f k=some true∧∃ fw,dm.f k l0 a1 a2 l3=some fw∧(fw=true→∃ e1 e2,aA.f k l0 a1 a2 l3=some (e1,e2)∧(e2=0→qY (stepS k l0 a1 a2 l3) l3 fuel P5 0 0))
set_option maxRecDepth 100000 in
set_option maxHeartbeats 6400000 in
theorem modelMakes.calls (k:Nat) (A0:Option Addr) (c0:Nat) (l0:List ByteArray) (a1 a2:ByteArray) (A3:Option Addr) (c3:Nat) (l3:List gY) (fuel:Nat) (w:World) (hr0:Kd.C Kd.string w A0 l0.length l0) (hc0:l0.length≤c0) (hr3:Kd.C tu w A3 l3.length l3) (hc3:l3.length≤c3) (kX:Kd.C Kd.string w qo jX.length jX)
    (hf:fuel≤255) (hrF:Kd.C xM w xN pg.length pg) (h:modelMakes.ok k l0 a1 a2 l3 fuel) :
    Calls Tryd.prog 9 #[.agg #[.slice A0 l0.length c0,.string a1,.string a2,.slice A3 l3.length c3],.int .u8 fuel] w fun e w'=>e=.returned (.bool true)∧Below w.heap.size w w':=by
  obtain ⟨hal,fw,hfw,h1⟩:=h
  obtain ⟨G,hG⟩:∃ G,w.heap.size=G:=⟨_,rfl⟩
  obtain ⟨wb,hwb⟩:∃ wb,w.alloc (.cells #[.slice A0 l0.length c0,.string a1,.string a2,.slice A3 l3.length c3] 25)=wb:=⟨_,rfl⟩
  have hB1:Below w.heap.size w wb:=by rw [← hwb];exact (Below.refl _ w).alloc (Nat.le_refl _) _
  have hb0:wb.heap[G]? = some (.cells #[.slice A0 l0.length c0,.string a1,.string a2,.slice A3 l3.length c3] 25 (0,0)):=by rw [← hwb,← hG];exact heap_alloc_new w _
  have hs1:wb.heap.size=G+1:=by rw [← hwb,← hG];simp
  have HH:=ae.mk h1
  have HR0:=ae.mk (Kd.bJ hr0 hB1)
  have HR3:=ae.mk (Kd.bJ hr3 hB1)
  have wo:=ae.mk (Kd.bJ kX hB1)
  have Zv:=ae.mk (Kd.bJ hrF hB1)
  have HAL:=ae.mk hal
  have HFW:=ae.mk hfw
  have HB1:=ae.mk hB1
  have K0:=ae.mk hb0
  have e1:IntKind.i64.wrap (fuel:Int)=fuel:=IntWalk.i64_in _ (by omega)
  have q0:wb.cell? ⟨G,0,none⟩=some (.slice A0 l0.length c0):=by simp [World.cell?,K0.out]
  have q1:wb.cell? ⟨G,1,none⟩=some (.string a1):=by simp [World.cell?,K0.out]
  have q2:wb.cell? ⟨G,2,none⟩=some (.string a2):=by simp [World.cell?,K0.out]
  have q3:wb.cell? ⟨G,3,none⟩=some (.slice A3 l3.length c3):=by simp [World.cell?,K0.out]
  clear h1 hr0 hr3 kX hrF hal hB1 hb0 hfw
  go_enter Tryd.func9,Tryd.ntmps9
  go_upto_region 999 with (fail)
  refine (dm.calls k A0 c0 l0 a1 a2 A3 c3 l3 fw wb HR0.out hc0 HR3.out hc3 HFW.out).mono ?_
  rintro e w1 ⟨rfl,hbb⟩
  replace hbb:Below wb.heap.size wb w1:=by first|exact hbb|exact hbb.below
  replace HR0:=ae.mk (Kd.bJ HR0.out hbb)
  replace HR3:=ae.mk (Kd.bJ HR3.out hbb)
  replace wo:=ae.mk (Kd.bJ wo.out hbb)
  replace Zv:=ae.mk (Kd.bJ Zv.out hbb)
  replace K0:=ae.mk ((hbb.block G (by omega)).trans K0.out)
  have hs2:G+1≤w1.heap.size:=by have:=hbb.size;omega
  replace HB1:=ae.mk (show Below w.heap.size w w1 from HB1.out.trans (hbb.mono (by omega)))
  clear hbb HFW q0 q1 q2 q3 hwb hs1
  cases fw with
  | false =>
    go_upto_region 999 with (fail)
    refine (gI.calls k true w1 wo.out HAL.out).mono ?_
    rintro e w2 ⟨rfl,hbb⟩
    have HBB:=Lib.hid (HB1.out.trans (hbb.mono (by omega)))
    clear hbb
    go_wp2
    go_ret
    exact ⟨rfl,HBB.out⟩
  | true =>
  replace HH:=ae.mk (HH.out rfl)
  go_upto_region 999 with (fail)
  refine (gI.calls k true w1 wo.out HAL.out).mono ?_
  rintro e W1 ⟨rfl,hbb⟩
  replace HR0:=ae.mk (Kd.bJ HR0.out hbb)
  replace HR3:=ae.mk (Kd.bJ HR3.out hbb)
  replace wo:=ae.mk (Kd.bJ wo.out hbb)
  replace Zv:=ae.mk (Kd.bJ Zv.out hbb)
  replace K0:=ae.mk ((hbb.block G (by omega)).trans K0.out)
  replace HB1:=ae.mk (show Below w.heap.size w W1 from HB1.out.trans (hbb.mono (by omega)))
  replace hs2:G+1≤W1.heap.size:=by have:=hbb.size;omega
  clear hbb HAL
  obtain ⟨e1,e2,hck,hmk⟩:=HH.out
  have HMK:=ae.mk hmk
  clear hmk HH
  have y0:W1.cell? ⟨G,0,none⟩=some (.slice A0 l0.length c0):=by simp [World.cell?,K0.out]
  have y1:W1.cell? ⟨G,1,none⟩=some (.string a1):=by simp [World.cell?,K0.out]
  have y2:W1.cell? ⟨G,2,none⟩=some (.string a2):=by simp [World.cell?,K0.out]
  have y3:W1.cell? ⟨G,3,none⟩=some (.slice A3 l3.length c3):=by simp [World.cell?,K0.out]
  have Zb:=ae.mk hck
  clear hck
  go_upto_region 999 with (fail)
  refine (aA.calls k A0 c0 l0 a1 a2 A3 c3 l3 e1 e2 W1 HR0.out hc0 HR3.out hc3 Zv.out Zb.out).mono ?_
  rintro e W2 ⟨rfl,hbb⟩
  replace HR0:=ae.mk (Kd.bJ HR0.out hbb)
  replace HR3:=ae.mk (Kd.bJ HR3.out hbb)
  replace wo:=ae.mk (Kd.bJ wo.out hbb)
  replace K0:=ae.mk ((hbb.block G (by omega)).trans K0.out)
  replace HB1:=ae.mk (show Below w.heap.size w W2 from HB1.out.trans (hbb.mono (by omega)))
  replace hs2:G+1≤W2.heap.size:=by have:=hbb.size;omega
  clear hbb Zv y0 y1 y2 y3
  by_cases he2:e2=0
  case neg =>
    have nb:(e2 == 0)=false:=beq_eq_false_iff_ne.2 he2
    have nb':(e2 != 0)=true:=by simp [he2]
    clear he2
    go_wp2
    go_ret
    exact ⟨rfl,HB1.out⟩
  subst he2
  have HH:=ae.mk (HMK.out rfl)
  clear HMK
  obtain ⟨b,hb⟩:∃ b,W2.heap.size=b:=⟨_,rfl⟩
  obtain ⟨Wz,Wx⟩:∃ Wz,W2.alloc (.cells #[.int .i64 0,.int .i64 0,.int .i64 0,.int .i64 0,.int .i64 0,.int .i64 0,.int .i64 0,.int .i64 0,.int .i64 0,.int .i64 0,.int .i64 0,.int .i64 0,.int .i64 0,.int .i64 0,.int .i64 0,.int .i64 0,.int .i64 0,.int .i64 0,.int .i64 0,.int .i64 0,.slice none 0 0,.slice none 0 0,.int .i64 0,.int .i64 0] 39)=Wz:=⟨_,rfl⟩
  have hzb:Wz.heap[b]? = some (.cells #[.int .i64 0,.int .i64 0,.int .i64 0,.int .i64 0,.int .i64 0,.int .i64 0,.int .i64 0,.int .i64 0,.int .i64 0,.int .i64 0,.int .i64 0,.int .i64 0,.int .i64 0,.int .i64 0,.int .i64 0,.int .i64 0,.int .i64 0,.int .i64 0,.int .i64 0,.int .i64 0,.slice none 0 0,.slice none 0 0,.int .i64 0,.int .i64 0] 39 (0,0)):=by rw [← Wx,← hb];exact heap_alloc_new W2 _
  have HS0:ae (kD b P5 (.slice none 0 0) (.slice none 0 0) Wz):=⟨⟨hzb⟩⟩
  have HV0:ae (pI W2.heap.size P5 (.slice none 0 0) (.slice none 0 0) Wz):=⟨⟨Kd.WV _ _ _ _ _,Kd.Ag _ _ _ _ _⟩⟩
  have HBz:ae (Below W2.heap.size W2 Wz):=⟨by rw [← Wx];exact (Below.refl _ W2).alloc (Nat.le_refl _) _⟩
  clear hzb
  go_wp2
  have hG2:=hs2
  have Ir:W2.heap.size≤b:=Nat.le_of_eq hb
  clear Wx
  go_loopg [8,9,30] fuel (fun kq v8 v9 iv wr=>∃ (s:St) (vO vU:Value) (i nw pr:Nat),kq+i=fuel∧v8=.int .i64 nw∧v9=.int .i64 pr∧iv=.int .i64 i∧ae (qY (stepS k l0 a1 a2 l3) l3 kq s nw pr)∧ae (kD b s vO vU wr)∧ae (pI W2.heap.size s vO vU wr)∧ae (Below W2.heap.size W2 wr))
  case atStart=>exact ⟨_,_,_,0,0,0,Nat.add_zero _,rfl,rfl,rfl,HH,HS0,HV0,HBz⟩
  case round =>
  clear HH HS0 HV0 HBz Wz
  obtain ⟨s,vO,vU,i,nw,pr,hki,rfl,rfl,rfl,HPC,HS,HV,HB⟩:=hrel
  cases gk with
  | zero =>
    obtain rfl:i=fuel:=by omega
    have hd0:decide ((i:Int) < (i:Int))=false:=decide_eq_false (by omega)
    clear HPC
    go_wp2
    go_ret
    exact ⟨rfl,by have q:=HB1.out.trans (HB.out.mono (show w.heap.size≤W2.heap.size by have:=HB1.out.size;omega));first|exact q|(rw [hG] at q;exact q)⟩
  | succ gk =>
  have hd0:decide ((i:Int) < (fuel:Int))=true:=decide_eq_true (by omega)
  obtain ⟨QV,hnw,hpr,s1,dn,e1',hst,hP⟩:=HPC.out
  have HP:=ae.mk hP
  have HST:=ae.mk hst
  have wn:=Lib.hid (show wrap64 ((nw:Int)+1)=((nw+1:Nat):Int) by unfold wrap64;omega)
  have wp:=Lib.hid (show wrap64 ((pr:Int)+1)=((pr+1:Nat):Int) by unfold wrap64;omega)
  clear hP hst HPC hnw hpr
  have p0:wr.cell? ⟨G,0,none⟩=some (.slice A0 l0.length c0):=(HB.out.cell (p:=⟨G,0,none⟩) hG2).trans (by simp [World.cell?,K0.out])
  have p1:wr.cell? ⟨G,1,none⟩=some (.string a1):=(HB.out.cell (p:=⟨G,1,none⟩) hG2).trans (by simp [World.cell?,K0.out])
  have p2:wr.cell? ⟨G,2,none⟩=some (.string a2):=(HB.out.cell (p:=⟨G,2,none⟩) hG2).trans (by simp [World.cell?,K0.out])
  have p3:wr.cell? ⟨G,3,none⟩=some (.slice A3 l3.length c3):=(HB.out.cell (p:=⟨G,3,none⟩) hG2).trans (by simp [World.cell?,K0.out])
  have kk:=HS.out.blk
  have kpc:wr.cell? ⟨b,22,none⟩=some (.int .i64 s.pc):=HS.out.cell 22
  have HSM:=Lib.hid (MW HST.out)
  have fin:∀ (nx px:Nat),True:=fun _ _=>trivial
  clear fin
  by_cases hlt:s.pc < (l3.length:Int)
  case' neg =>
    have hlt':decide (s.pc < (l3.length:Int))=false:=decide_eq_false hlt
    have ho:opAt l3 s=0:=if_neg hlt
    obtain ⟨nx,hnx⟩:∃ nx,nx=nw:=⟨_,rfl⟩
    obtain ⟨px,hpx⟩:∃ px,px=pr:=⟨_,rfl⟩
    have HQ:ae (dn=false∧e1'=0→s1.cZ.length=nx∧s1.out.length=px∧qY (stepS k l0 a1 a2 l3) l3 gk s1 nx px):=⟨by have q:=HP.out;rw [ho] at q;rw [hnx,hpx];exact q⟩
    clear HP ho hlt QV
    have nxe:=Lib.hid hnx
    have pxe:=Lib.hid hpx
    subst hnx hpx
  case' pos =>
    obtain ⟨ad,hA,d0,d1,d2,d3,d4⟩:=xG (Kd.bJ HR3.out HB.out) s.pc (QV hlt) hlt
    subst hA
    have hlt':decide (s.pc < (l3.length:Int))=true:=decide_eq_true hlt
    have j0:(0≤s.pc)=True:=eq_true (QV hlt)
    have j1:(s.pc < (l3.length:Int))=True:=eq_true hlt
    have ho:opAt l3 s=(az l3 s.pc).f0:=if_pos hlt
    clear hlt QV
    by_cases h5:(az l3 s.pc).f0=5
    case' pos =>
      have b5:((az l3 s.pc).f0 == 5)=true:=beq_iff_eq.2 h5
      obtain ⟨nx,hnx⟩:∃ nx,nx=nw+1:=⟨_,rfl⟩
      obtain ⟨px,hpx⟩:∃ px,px=pr:=⟨_,rfl⟩
      have HQ:ae (dn=false∧e1'=0→s1.cZ.length=nx∧s1.out.length=px∧qY (stepS k l0 a1 a2 l3) l3 gk s1 nx px):=⟨by have q:=HP.out;rw [ho,h5] at q;rw [hnx,hpx];exact q⟩
      have ww:wrap64 ((nw:Int)+1)=(nx:Int):=by rw [hnx];exact wn.out
      clear HP ho h5
      have nxe:=Lib.hid hnx
      have pxe:=Lib.hid hpx
      clear hnx
      subst hpx
    case' neg =>
      have b5:((az l3 s.pc).f0 == 5)=false:=beq_eq_false_iff_ne.2 h5
      by_cases Zp:(az l3 s.pc).f0=14
      case' pos =>
        have b14:((az l3 s.pc).f0 == 14)=true:=beq_iff_eq.2 Zp
        obtain ⟨nx,hnx⟩:∃ nx,nx=nw:=⟨_,rfl⟩
        obtain ⟨px,hpx⟩:∃ px,px=pr+1:=⟨_,rfl⟩
        have HQ:ae (dn=false∧e1'=0→s1.cZ.length=nx∧s1.out.length=px∧qY (stepS k l0 a1 a2 l3) l3 gk s1 nx px):=⟨by have q:=HP.out;rw [ho,Zp] at q;rw [hnx,hpx];exact q⟩
        have ww:wrap64 ((pr:Int)+1)=(px:Int):=by rw [hpx];exact wp.out
        clear HP ho h5 Zp
        have nxe:=Lib.hid hnx
        have pxe:=Lib.hid hpx
        clear hpx
        subst hnx
      case' neg =>
        have b14:((az l3 s.pc).f0 == 14)=false:=beq_eq_false_iff_ne.2 Zp
        obtain ⟨nx,hnx⟩:∃ nx,nx=nw:=⟨_,rfl⟩
        obtain ⟨px,hpx⟩:∃ px,px=pr:=⟨_,rfl⟩
        have HQ:ae (dn=false∧e1'=0→s1.cZ.length=nx∧s1.out.length=px∧qY (stepS k l0 a1 a2 l3) l3 gk s1 nx px):=⟨by have q:=HP.out;rw [ho,if_neg h5,if_neg Zp] at q;rw [hnx,hpx];exact q⟩
        clear HP ho h5 Zp
        have nxe:=Lib.hid hnx
        have pxe:=Lib.hid hpx
        subst hnx hpx
  all_goals
    go_upto_region 999 with (((with_reducible refine dN (N:=55) rfl ?_);refine wpList_load_row rfl 39 (.tmp 7) rfl b rfl 39 (cellsS s vO vU) (0,0) _ kk Tryd.underlying39 rfl (by kernel_rfl) ?_))
    refine (oP.calls k A0 c0 l0 a1 a2 _ c3 l3 s s1 dn e1' vO vU _ _ _ _ wr (Kd.bJ HR0.out HB.out) hc0 (Kd.bJ HR3.out HB.out) hc3 (Kd.bJ wo.out HB.out) HV.out.cZ HV.out.out HSM.out.1 HSM.out.2).mono ?_
    rintro e wq ⟨Xt,Xr,rfl,hV1,hB1⟩
    obtain ⟨c,hc⟩:∃ c,wq.heap.size=c:=⟨_,rfl⟩
    obtain ⟨wz,hwz⟩:∃ wz,wq.alloc (.cells #[.int .i64 0,.int .i64 0,.int .i64 0,.int .i64 0,.int .i64 0,.int .i64 0,.int .i64 0,.int .i64 0,.int .i64 0,.int .i64 0,.int .i64 0,.int .i64 0,.int .i64 0,.int .i64 0,.int .i64 0,.int .i64 0,.int .i64 0,.int .i64 0,.int .i64 0,.int .i64 0,.slice none 0 0,.slice none 0 0,.int .i64 0,.int .i64 0] 39)=wz:=⟨_,rfl⟩
    have hzb:wz.heap[c]? = some (.cells #[.int .i64 0,.int .i64 0,.int .i64 0,.int .i64 0,.int .i64 0,.int .i64 0,.int .i64 0,.int .i64 0,.int .i64 0,.int .i64 0,.int .i64 0,.int .i64 0,.int .i64 0,.int .i64 0,.int .i64 0,.int .i64 0,.int .i64 0,.int .i64 0,.int .i64 0,.int .i64 0,.slice none 0 0,.slice none 0 0,.int .i64 0,.int .i64 0] 39 (0,0)):=by rw [← hwz,← hc];exact heap_alloc_new wq _
    have hbc:b < c:=by have h1:=HS.out.lt;have h2:=hB1.size;omega
    have hone:=cells_one hV1
    have hBq:Below wr.heap.size wr (wz.setRow c (cellsS s1 Xt Xr)):=jU (by rw [← hwz];exact hB1.alloc hB1.size _) (by rw [← hc];exact hB1.size) _
    have Y5:=ae.mk (show kD c s1 Xt Xr (wz.setRow c (cellsS s1 Xt Xr)) from ⟨kV hzb _⟩)
    have hVz:pI wr.heap.size s1 Xt Xr wz:=by rw [← hwz];exact ⟨Kd.Kr hV1.cZ _,Kd.lI hV1.out (fun k _ hk=>Below.heap_alloc wq _ k hk)⟩
    have HV1:=ae.mk ((hVz.setRow hzb (cellsS s1 Xt Xr)).lower HB.out.size)
    replace HS:=ae.mk (HS.out.of_block (hBq.block b HS.out.lt))
    replace HB:=ae.mk (HB.out.trans (hBq.mono HB.out.size))
    clear hV1 hB1 hBq hVz kk kpc HV
    first|clear d0 d1 d2 d3 d4|skip
    clear p0 p1 p2 p3
    obtain ⟨G6,Gw,rfl⟩:=Kd.DJ HV1.out.cZ
    obtain ⟨G5,Gv,rfl⟩:=Kd.jy HV1.out.out
    have kb:=HS.out.blk
    have kc:=Y5.out.blk
    cases dn with
    | true =>
      clear HQ
      go_wp2_with (first|(skip;refine wpList_store_row rfl 39 (.tmp 10) (.tmp 57) rfl c (cellsS s1 (.slice G6 s1.cZ.length Gw) (.slice G5 s1.out.length Gv)) rfl rfl 39 _ hzb (by kernel_rfl) rfl hone ?_))
      go_ret
      exact ⟨rfl,by have q:=HB1.out.trans (HB.out.mono (show w.heap.size≤W2.heap.size by have:=HB1.out.size;omega));first|exact q|(rw [hG] at q;exact q)⟩
    | false =>
    by_cases he:e1'=0
    case neg =>
      have hen:(e1' != 0)=true:=by simp [he]
      clear HQ he
      go_wp2_with (first|(skip;refine wpList_store_row rfl 39 (.tmp 10) (.tmp 57) rfl c (cellsS s1 (.slice G6 s1.cZ.length Gw) (.slice G5 s1.out.length Gv)) rfl rfl 39 _ hzb (by kernel_rfl) rfl hone ?_))
      go_ret
      exact ⟨rfl,by have q:=HB1.out.trans (HB.out.mono (show w.heap.size≤W2.heap.size by have:=HB1.out.size;omega));first|exact q|(rw [hG] at q;exact q)⟩
    subst he
    obtain ⟨ho1,hu1,hnx1⟩:=HQ.out ⟨rfl,rfl⟩
    have HNX:=ae.mk hnx1
    have g1:((s1.cZ.length:Int) != (nx:Int))=false:=by rw [ho1];simp
    have g2:((s1.out.length:Int) != (px:Int))=false:=by rw [hu1];simp
    have e3:=Lib.hid (show wrap64 ((i:Int)+1)=((i+1:Nat):Int) by unfold wrap64;omega)
    have HSn:=ae.mk (show kD b s1 (.slice G6 s1.cZ.length Gw) (.slice G5 s1.out.length Gv) ((wz.setRow c (cellsS s1 (.slice G6 s1.cZ.length Gw) (.slice G5 s1.out.length Gv))).setRow b (cellsS s1 (.slice G6 s1.cZ.length Gw) (.slice G5 s1.out.length Gv))) from ⟨kV kb _⟩)
    have HVn:=ae.mk (HV1.out.setRow kb (cellsS s1 (.slice G6 s1.cZ.length Gw) (.slice G5 s1.out.length Gv)))
    have HBn:=ae.mk (jU HB.out Ir (cellsS s1 (.slice G6 s1.cZ.length Gw) (.slice G5 s1.out.length Gv)))
    have k20:((wz.setRow c (cellsS s1 (.slice G6 s1.cZ.length Gw) (.slice G5 s1.out.length Gv))).setRow b (cellsS s1 (.slice G6 s1.cZ.length Gw) (.slice G5 s1.out.length Gv))).cell? ⟨b,20,none⟩=some (.slice G6 s1.cZ.length Gw):=HSn.out.cell 20
    have k21:((wz.setRow c (cellsS s1 (.slice G6 s1.cZ.length Gw) (.slice G5 s1.out.length Gv))).setRow b (cellsS s1 (.slice G6 s1.cZ.length Gw) (.slice G5 s1.out.length Gv))).cell? ⟨b,21,none⟩=some (.slice G5 s1.out.length Gv):=HSn.out.cell 21
    clear HQ ho1 hu1 hnx1 HS HB Y5 HV1 HST HSM
    go_wp2_with (first|((with_reducible refine dN (N:=65) rfl ?_);refine wpList_load_row rfl 39 (.tmp 10) rfl c rfl 39 (cellsS s1 (.slice G6 s1.cZ.length Gw) (.slice G5 s1.out.length Gv)) (0,0) _ kc Tryd.underlying39 rfl (by kernel_rfl) ?_)|(skip;refine wpList_store_row rfl 39 (.tmp 10) (.tmp 57) rfl c (cellsS s1 (.slice G6 s1.cZ.length Gw) (.slice G5 s1.out.length Gv)) rfl rfl 39 _ hzb (by kernel_rfl) rfl hone ?_)|(skip;refine wpList_store_row rfl 39 (.tmp 7) (.tmp 65) rfl b (cellsS s1 (.slice G6 s1.cZ.length Gw) (.slice G5 s1.out.length Gv)) rfl rfl 39 _ kb (by kernel_rfl) rfl hone ?_))
    go_roundg gk
    case measure=>omega
    case rel=>exact ⟨s1,_,_,i+1,nx,px,by omega,rfl,rfl,by first|rfl|rw [e3.out]|(simp;omega),HNX,HSn,HVn,HBn⟩
end Go.Proofs.YtlemecdddhdagaaDoor.P
end
section
namespace Go.Proofs.YtlemecdddhdagaaDoor.P
open Go.RowKit Go.Proofs.ag.bH Go.Proofs.ag.dM Go.Proofs.ag.dY
theorem zG {step step':St→Option (St × Bool × Int)} (h:∀ s,dK (step s) (step' s)) (code:List gY):∀ (n:Nat) (s:St) (a b:Nat),qY step code n s a b→qY step' code n s a b
  | 0,_,_,_,_=>trivial
  | n+1,s,a,b,⟨h1,h2,h3,t,d,e,hs,hr⟩=>⟨h1,h2,h3,t,d,e,h s _ hs,fun q=>⟨(hr q).1,(hr q).2.1,zG h code n t _ _ (hr q).2.2⟩⟩
section
variable {t:List ByteArray} {lo gl:ByteArray} {code:List gY}
theorem KP (h:Ok t lo gl code) (hk0:(oD t lo gl code).2=0):∀ (f:Nat) (s:St) (n:Nat) (ty:List Int) (a b:Nat),Inv t lo gl n s ty→n+f≤900000→0≤s.pc→s.pc≤code.length→s.cZ.length=a→s.out.length=b→qY (step0 t lo gl code) code f s a b:=by
  intro f
  induction f with
  | zero=>intro s n ty a b hI hn h0 h1 ha hb;trivial
  | succ f ih =>
    intro s n ty a b hI hn h0 h1 ha hb
    have hsm:=hI.small h.right (by omega)
    have hfew:=hI.few
    refine ⟨fun _=>h0,by omega,by omega,?_⟩
    by_cases hlt:s.pc < code.length
    · obtain ⟨s',e,hd,hN⟩:=h.step hI (by omega) h0 hlt
      have hs0:=KL hk0 hsm h0 hlt hd
      have ho:opAt code s=(az code s.pc).f0:=if_pos hlt
      by_cases he:e=0
      · rw [if_pos he] at hs0
        obtain ⟨ty',hI'⟩:=hN.inv
        have o1:s'.cZ.length=if opAt code s=5 then a+1 else a:=by
          rw [hN.cZ,ha,ho]
          split <;> rfl
        have o2:s'.out.length=if opAt code s=14 then b+1 else b:=by
          rw [hN.out,ho,List.length_append,hb]
          split <;> rfl
        exact ⟨s',false,0,hs0,fun _=>⟨o1,o2,ih s' (n+1) ty' _ _ hI' (by omega) (hN.pc he).1 (hN.pc he).2 o1 o2⟩⟩
      · rw [if_neg he] at hs0
        exact ⟨s,false,e,hs0,fun q=>absurd q.2 he⟩
    · exact ⟨s,true,0,KN hk0 hsm (by omega),fun q=>by cases q.1⟩
end
theorem yl (t:List ByteArray) (lo gl:ByteArray) (code:List gY) (f:Nat) (ht:t.length≤9223372036854775807) (hts:∀ i:Int,(dV ByteArray.empty t i).size≤9223372036854775807) (hs:lo.size+gl.size≤9223372036854775807) (hc:code.length≤9223372036854775807) (hw:Wf code) (hwn:WfN code) (hf:f≤255) :
    ∃ k,modelMakes.ok k t lo gl code f:=by
  obtain ⟨q,hq⟩:=abo t lo gl code ht
  obtain ⟨K1,h1⟩:=hq
  obtain ⟨K2,h2⟩:=VL
  obtain ⟨K3,h3⟩:=MV ht hs hc hw
  obtain ⟨K4,h4⟩:=O9 t lo gl code ht hts hc hw hwn (by omega) (by omega)
  refine ⟨max (max K1 K2) (max K3 K4),h2 _ (by omega),q,h1 _ (by omega),fun _=>⟨(oD t lo gl code).1,(oD t lo gl code).2,h4 _ (by omega),fun hok=>zG (h3 _ (by omega)) _ _ _ _ _ ?_⟩⟩
  exact KP (ZN hok hw) hok _ P5 0 [] 0 0 inv0 (by omega) (Int.le_refl _) (by show (0:Int)≤_;omega) rfl rfl
end Go.Proofs.YtlemecdddhdagaaDoor.P
end
