/- Parts of the proof of ModelSteps: what the functions that it reaches compute, and plain facts about that. -/
import Derived.Test.YtlemecdddhdagaaDoorZal
import Derived.Test.YtlemecdddhdagaaDoorZat
import Derived.Test.YtlemecdddhdagaaDoorZaw
import Derived.ChangeKeysEq
import Derived.Test.YtlemecdddhdagaaDoorZak
import Derived.Test.YtlemecdddhdagaaDoorZam
set_option linter.unusedVariables false
set_option linter.unusedSimpArgs false
section
namespace Go.Proofs.YtlemecdddhdagaaDoor.P
open Go.RowKit Go.Proofs.af.bF Go.Proofs.af.dD Go.Proofs.af.dN
attribute [local go_sem ↓] Go.wp_at_zero Go.wp_at_succ
structure StepB (G:Nat) (P S:Array Value) (w W:World):Prop where
  m0:Bk W G P 25
  m1:Bk W (G+1) S 44
  m2:Bk W (G+2) #[.int .i64 0,.int .i64 0,.int .i64 0,.int .i64 0,.int .i64 0,.int .i64 0,.int .i64 0,.int .i64 0,.int .i64 0,.int .i64 0,.int .i64 0,.int .i64 0,.int .i64 0,.int .i64 0,.int .i64 0,.int .i64 0,.int .i64 0,.int .i64 0,.int .i64 0,.int .i64 0,.slice none 0 0,.slice none 0 0,.int .i64 0,.int .i64 0] 44
  mb:Below G w W
  sz:G+3≤W.heap.size
section
variable {G:Nat} {P S:Array Value} {w W W1:World}
theorem StepB.below (h:StepB G P S w W) (hb:Below W.heap.size W W1):StepB G P S w W1 :=
  ⟨h.m0.below hb,h.m1.below hb,h.m2.below hb,h.mb.trans (hb.mono (by have:=h.sz;omega)),Nat.le_trans h.sz hb.size⟩
theorem StepB.far (h:StepB G P S w W) (g j:Nat) (v:Value) (hg:G+3≤g):StepB G P S w (W.setCell ⟨g,j,none⟩ v) :=
  ⟨h.m0.far j v (by omega),h.m1.far j v (by omega),h.m2.far j v (by omega),h.mb.setCell (p:=⟨g,j,none⟩) (by show G≤g;omega) v,by simp [World.setCell];exact h.sz⟩
theorem StepB.gK (h:StepB G P S w W) (g:Nat) (cs:Array Value) (hg:G+3≤g):StepB G P S w (W.setRow g cs) :=
  ⟨h.m0.gK cs (by omega),h.m1.gK cs (by omega),h.m2.gK cs (by omega),cZ h.mb (by omega) cs,by rw [size_setRow];exact h.sz⟩
end
theorem Yn {sz:Int→Option Int} {s:St} {op:Int} {a b c:Nat} {n:Int} {r:St × Int} (h:rQ sz s op a b c n=some r):0≤op:=by
  by_cases hp:0≤op
  · exact hp
  · exfalso
    unfold rQ at h
    rw [if_neg (by omega),if_neg (by omega),if_neg (by omega),if_neg (by omega),if_neg (by omega),if_neg (by omega),if_neg (by omega),if_neg (by omega),if_neg (by omega),if_neg (by omega),if_neg (by omega),if_neg (by omega),if_neg (by omega),if_neg (by omega),if_neg (by omega)] at h
    cases h
theorem Keep.setRow {w:World} {g:Nat} {cs:Array Value} (h:Bk w g cs 44) (ds:Array Value):Keep w (w.setRow g ds):=fun k hk=>jo ds k (fun e=>by
  subst e
  obtain ⟨c,t,fr,h1,h2,_⟩:=hk
  have q:=h.symm.trans h1
  injection q with q
  injection q with _ q2 _
  exact h2 q2.symm)
theorem acO (P S:Array Value) (w:World):StepB w.heap.size P S w (((w.alloc (.cells P 25)).alloc (.cells S 44)).alloc (.cells #[.int .i64 0,.int .i64 0,.int .i64 0,.int .i64 0,.int .i64 0,.int .i64 0,.int .i64 0,.int .i64 0,.int .i64 0,.int .i64 0,.int .i64 0,.int .i64 0,.int .i64 0,.int .i64 0,.int .i64 0,.int .i64 0,.int .i64 0,.int .i64 0,.int .i64 0,.int .i64 0,.slice none 0 0,.slice none 0 0,.int .i64 0,.int .i64 0] 44)):=by
  have h1:=Bk.new w P 25
  have h2:=Bk.new (w.alloc (.cells P 25)) S 44
  have h3:=Bk.new ((w.alloc (.cells P 25)).alloc (.cells S 44)) #[.int .i64 0,.int .i64 0,.int .i64 0,.int .i64 0,.int .i64 0,.int .i64 0,.int .i64 0,.int .i64 0,.int .i64 0,.int .i64 0,.int .i64 0,.int .i64 0,.int .i64 0,.int .i64 0,.int .i64 0,.int .i64 0,.int .i64 0,.int .i64 0,.int .i64 0,.int .i64 0,.slice none 0 0,.slice none 0 0,.int .i64 0,.int .i64 0] 44
  rw [show (w.alloc (.cells P 25)).heap.size=w.heap.size+1 by simp] at h2
  rw [show ((w.alloc (.cells P 25)).alloc (.cells S 44)).heap.size=w.heap.size+2 by simp] at h3
  exact ⟨(h1.alloc _).alloc _,h2.alloc _,h3,(((Below.refl _ w).alloc (Nat.le_refl _) _).alloc (by simp) _).alloc (by simp;omega) _,by simp⟩
set_option maxRecDepth 100000 in
set_option maxHeartbeats 6400000 in
theorem CS (k:Nat) (A0:Option Addr) (c0:Nat) (l0:List ByteArray) (a1 a2:ByteArray) (A3:Option Addr) (c3:Nat) (l3:List iD) (s s':St) (d:Bool) (r2:Int) (vO vU:Value) (w:World) (hr0:Kd.C Kd.string w A0 l0.length l0) (hc0:l0.length≤c0) (hr3:Kd.C uD w A3 l3.length l3) (hc3:l3.length≤c3) (hrF:Kd.C xM w xN o9.length o9)
    (hv:qV s vO vU w) (hsm:Small s) (e1 e2:Int) (GR:az.f k l0 a1 a2 l3=some (e1,e2)) (h:su (szR k l0 a1 a2 l3) l3 e2 s=some (s',d,r2)) :
    Calls Tryd.prog 17 #[.agg #[.slice A0 l0.length c0,.string a1,.string a2,.slice A3 l3.length c3],.agg (cellsS s vO vU)] w fun e w'=>∃ kW kV,e=.returned (.tuple #[.agg (cellsS s' kW kV),.bool d,.int .i64 r2])∧qV s' kW kV w'∧Below w.heap.size w w':=by
  obtain ⟨G,hG⟩:∃ G,w.heap.size=G:=⟨_,rfl⟩
  obtain ⟨wb,hwb⟩:∃ wb,((w.alloc (.cells #[.slice A0 l0.length c0,.string a1,.string a2,.slice A3 l3.length c3] 25)).alloc (.cells (cellsS s vO vU) 44)).alloc (.cells #[.int .i64 0,.int .i64 0,.int .i64 0,.int .i64 0,.int .i64 0,.int .i64 0,.int .i64 0,.int .i64 0,.int .i64 0,.int .i64 0,.int .i64 0,.int .i64 0,.int .i64 0,.int .i64 0,.int .i64 0,.int .i64 0,.int .i64 0,.int .i64 0,.int .i64 0,.int .i64 0,.slice none 0 0,.slice none 0 0,.int .i64 0,.int .i64 0] 44)=wb:=⟨_,rfl⟩
  have hB:=acO #[.slice A0 l0.length c0,.string a1,.string a2,.slice A3 l3.length c3] (cellsS s vO vU) w
  rw [hwb,hG] at hB
  have HB:=ae.mk hB
  have HR0:=ae.mk hr0
  have HR3:=ae.mk hr3
  have HRF:=ae.mk hrF
  have HV:=ae.mk hv
  have HH:=ae.mk h
  have SK:=ae.mk GR
  have p0:wb.cell? ⟨G,0,none⟩=some (.slice A0 l0.length c0):=hB.m0.cell 0
  have p1:wb.cell? ⟨G,1,none⟩=some (.string a1):=hB.m0.cell 1
  have p2:wb.cell? ⟨G,2,none⟩=some (.string a2):=hB.m0.cell 2
  have p3:wb.cell? ⟨G,3,none⟩=some (.slice A3 l3.length c3):=hB.m0.cell 3
  clear hB hr0 hr3 hrF hv h GR
  go_enter Tryd.func17,Tryd.ntmps17
  go_upto_region 999 with (fail)
  refine (az.calls k A0 c0 l0 a1 a2 A3 c3 l3 e1 e2 wb (Kd.bJ HR0.out (by rw [hG];exact HB.out.mb)) hc0 (Kd.bJ HR3.out (by rw [hG];exact HB.out.mb)) hc3 (Kd.bJ HRF.out (by rw [hG];exact HB.out.mb)) SK.out).mono ?_
  rintro e W ⟨rfl,hbb⟩
  have HB1:=ae.mk (HB.out.below hbb)
  have HVW:=ae.mk (HV.out.below (by rw [hG];exact HB1.out.mb))
  clear hbb SK HB hwb p0 p1 p2 p3
  have p3:W.cell? ⟨G,3,none⟩=some (.slice A3 l3.length c3):=HB1.out.m0.cell 3
  have Yq:W.cell? ⟨G+1,22,none⟩=some (.int .i64 s.pc):=HB1.out.m1.cell 22
  have HH0:=HH.out
  unfold su at HH0
  by_cases he2:e2=0
  case neg =>
    have hb2:(e2 == 0)=false:=beq_eq_false_iff_ne.2 he2
    have GU:(e2 != 0)=true:=by simp [he2]
    rw [if_neg he2] at HH0
    obtain ⟨rfl,q⟩:=Prod.mk.inj (Option.some.inj HH0)
    obtain ⟨rfl,rfl⟩:=Prod.mk.inj q
    clear HH0 q HH
    go_upto_region 3 with (fail)
    have hs_:=HB1.out.m1
    have uU:=HB1.out.m2
    have CY:=Lib.hid HB1.out.mb
    have oI:=HVW.out.rd.one s
    go_wp2_with (first|((with_reducible refine bD (N:=37) rfl ?_);refine wpList_load_row rfl 44 (.tmp 3) rfl (G+1) rfl 44 (cellsS s vO vU) (0,0) _ hs_ Tryd.underlying44 rfl (by kernel_rfl) ?_)|(skip;refine wpList_store_row rfl 44 (.tmp 4) (.tmp 37) rfl (G+1+1) (cellsS s vO vU) rfl rfl 44 _ uU (by kernel_rfl) rfl oI ?_))
    (try simp only [Exit.inBlock,Exit.then])
    refine bodyPost_ret (gp rfl _ _ (G+1+1) 44 _ (0,0) _ rfl (Bk.setRow uU (cellsS s vO vU)) Tryd.underlying44 rfl (by kernel_rfl)) rfl ?_
    have hb3:=cZ (g:=G+2) CY.out (by omega) (cellsS s vO vU)
    exact ⟨_,_,rfl,HV.out.below (by rw [hG];exact hb3),by first|exact hb3|(rw [hG];exact hb3)⟩
  subst he2
  rw [if_pos rfl] at HH0
  by_cases hp0:s.pc < 0
  case pos =>
    have hd0:decide (s.pc < 0)=true:=decide_eq_true hp0
    rw [if_pos hp0] at HH0
    obtain ⟨rfl,q⟩:=Prod.mk.inj (Option.some.inj HH0)
    obtain ⟨rfl,rfl⟩:=Prod.mk.inj q
    clear HH0 q HH hp0
    go_upto_region 3 with (fail)
    have hs_:=HB1.out.m1
    have uU:=HB1.out.m2
    have CY:=Lib.hid HB1.out.mb
    have oI:=HVW.out.rd.one s
    go_wp2_with (first|((with_reducible refine bD (N:=37) rfl ?_);refine wpList_load_row rfl 44 (.tmp 3) rfl (G+1) rfl 44 (cellsS s vO vU) (0,0) _ hs_ Tryd.underlying44 rfl (by kernel_rfl) ?_)|(skip;refine wpList_store_row rfl 44 (.tmp 4) (.tmp 37) rfl (G+1+1) (cellsS s vO vU) rfl rfl 44 _ uU (by kernel_rfl) rfl oI ?_))
    (try simp only [Exit.inBlock,Exit.then])
    refine bodyPost_ret (gp rfl _ _ (G+1+1) 44 _ (0,0) _ rfl (Bk.setRow uU (cellsS s vO vU)) Tryd.underlying44 rfl (by kernel_rfl)) rfl ?_
    have hb3:=cZ (g:=G+2) CY.out (by omega) (cellsS s vO vU)
    exact ⟨_,_,rfl,HV.out.below (by rw [hG];exact hb3),by first|exact hb3|(rw [hG];exact hb3)⟩
  have hd0:decide (s.pc < 0)=false:=decide_eq_false hp0
  rw [if_neg hp0] at HH0
  by_cases hp1:(l3.length:Int) < s.pc
  case pos =>
    have hd1:decide ((l3.length:Int) < s.pc)=true:=decide_eq_true hp1
    have aa5:decide (s.pc > (l3.length:Int))=true:=decide_eq_true hp1
    rw [if_pos hp1] at HH0
    obtain ⟨rfl,q⟩:=Prod.mk.inj (Option.some.inj HH0)
    obtain ⟨rfl,rfl⟩:=Prod.mk.inj q
    clear HH0 q HH hp0 hp1
    go_upto_region 3 with (fail)
    have hs_:=HB1.out.m1
    have uU:=HB1.out.m2
    have CY:=Lib.hid HB1.out.mb
    have oI:=HVW.out.rd.one s
    go_wp2_with (first|((with_reducible refine bD (N:=37) rfl ?_);refine wpList_load_row rfl 44 (.tmp 3) rfl (G+1) rfl 44 (cellsS s vO vU) (0,0) _ hs_ Tryd.underlying44 rfl (by kernel_rfl) ?_)|(skip;refine wpList_store_row rfl 44 (.tmp 4) (.tmp 37) rfl (G+1+1) (cellsS s vO vU) rfl rfl 44 _ uU (by kernel_rfl) rfl oI ?_))
    (try simp only [Exit.inBlock,Exit.then])
    refine bodyPost_ret (gp rfl _ _ (G+1+1) 44 _ (0,0) _ rfl (Bk.setRow uU (cellsS s vO vU)) Tryd.underlying44 rfl (by kernel_rfl)) rfl ?_
    have hb3:=cZ (g:=G+2) CY.out (by omega) (cellsS s vO vU)
    exact ⟨_,_,rfl,HV.out.below (by rw [hG];exact hb3),by first|exact hb3|(rw [hG];exact hb3)⟩
  have hd1:decide ((l3.length:Int) < s.pc)=false:=decide_eq_false hp1
  have aa5:decide (s.pc > (l3.length:Int))=false:=decide_eq_false hp1
  rw [if_neg hp1] at HH0
  by_cases hp2:s.pc=(l3.length:Int)
  case pos =>
    have hd2:(s.pc == (l3.length:Int))=true:=beq_iff_eq.2 hp2
    rw [if_pos hp2] at HH0
    obtain ⟨rfl,q⟩:=Prod.mk.inj (Option.some.inj HH0)
    obtain ⟨rfl,rfl⟩:=Prod.mk.inj q
    clear HH0 q HH hp0 hp1 hp2
    go_upto_region 5 with (fail)
    have hs_:=HB1.out.m1
    have uU:=HB1.out.m2
    have CY:=Lib.hid HB1.out.mb
    have oI:=HVW.out.rd.one s
    go_wp2_with (first|((with_reducible refine bD (N:=44) rfl ?_);refine wpList_load_row rfl 44 (.tmp 3) rfl (G+1) rfl 44 (cellsS s vO vU) (0,0) _ hs_ Tryd.underlying44 rfl (by kernel_rfl) ?_)|(skip;refine wpList_store_row rfl 44 (.tmp 4) (.tmp 44) rfl (G+1+1) (cellsS s vO vU) rfl rfl 44 _ uU (by kernel_rfl) rfl oI ?_))
    (try simp only [Exit.inBlock,Exit.then])
    refine bodyPost_ret (gp rfl _ _ (G+1+1) 44 _ (0,0) _ rfl (Bk.setRow uU (cellsS s vO vU)) Tryd.underlying44 rfl (by kernel_rfl)) rfl ?_
    have hb3:=cZ (g:=G+2) CY.out (by omega) (cellsS s vO vU)
    exact ⟨_,_,rfl,HV.out.below (by rw [hG];exact hb3),by first|exact hb3|(rw [hG];exact hb3)⟩
  have hd2:(s.pc == (l3.length:Int))=false:=beq_eq_false_iff_ne.2 hp2
  rw [if_neg hp2] at HH0
  go_upto_region 6 with (fail)
  obtain ⟨⟨s5,e5⟩,hD,hfin⟩:=Option.bind_eq_some_iff.1 HH0
  have hD2:=hD
  unfold OY at hD2
  split at hD2
  case isFalse=>cases hD2
  rename_i hg
  obtain ⟨g1,g2,g3,g4,g5⟩:=hg
  have hpos:0≤s.pc:=by omega
  have hlt:s.pc < l3.length:=by omega
  have hop0:=Yn hD2
  obtain ⟨ad,hA,d0,d1,d2,d3,d4⟩:=yU (Kd.bJ HR3.out (by rw [hG];exact HB1.out.mb)) s.pc hpos hlt
  subst hA
  obtain ⟨op,eo⟩:=Int.eq_ofNat_of_zero_le hop0
  obtain ⟨a,ea⟩:=Int.eq_ofNat_of_zero_le g1
  obtain ⟨bb,eb⟩:=Int.eq_ofNat_of_zero_le g2
  obtain ⟨cc,ec⟩:=Int.eq_ofNat_of_zero_le g3
  obtain ⟨n,en⟩:∃ n,(aA l3 s.pc).f4=n:=⟨_,rfl⟩
  rw [eo,ea,eb,ec,en,Int.toNat_natCast,Int.toNat_natCast,Int.toNat_natCast] at hD2
  rw [eo] at d0
  rw [ea] at d1
  rw [eb] at d2
  rw [ec] at d3
  rw [en] at d4
  have HRX:=ae.mk (Oc g4 g5 hD2)
  have xI:=ae.mk hfin
  clear HH0 HH hD hD2 hfin g1 g2 g3 g4 g5 hop0 eo ea eb ec en hp0 hp1 hp2
  have j0:(0≤s.pc)=True:=eq_true hpos
  have j1:(s.pc < (l3.length:Int))=True:=eq_true hlt
  clear hpos hlt
  obtain ⟨gI,hgI⟩:∃ g,W.heap.size=g:=⟨_,rfl⟩
  obtain ⟨wz,hwz⟩:∃ wz,W.alloc (.cells #[.int .u8 0,.int .u8 0,.int .u8 0,.int .u8 0,.int .i64 0] 55)=wz:=⟨_,rfl⟩
  have hzI:Bk wz gI #[.int .u8 0,.int .u8 0,.int .u8 0,.int .u8 0,.int .i64 0] 55:=by rw [← hwz,← hgI];exact Bk.new W _ _
  have hbz:Below W.heap.size W wz:=by rw [← hwz];exact (Below.refl _ W).alloc (Nat.le_refl _) _
  have hI1:(#[.int .u8 op,.int .u8 a,.int .u8 bb,.int .u8 cc,.int .i64 n]:Array Value).all (·.oneCell')=true:=by simp [Value.oneCell']
  have hGI:G+3≤gI:=by rw [← hgI];exact HB1.out.sz
  have Pm:=Lib.hid hbz
  clear hbz
  go_upto_region 7 with (skip;refine wpList_store_row rfl 55 (.tmp 9) (.tmp 50) rfl gI (#[.int .u8 op,.int .u8 a,.int .u8 bb,.int .u8 cc,.int .i64 n]) rfl rfl 55 _ hzI (by kernel_rfl) rfl hI1 ?_)
  clear d0 d1 d2 d3 d4 Yq p3 j0 j1
  have HB2:=ae.mk ((HB1.out.below Pm.out).gK gI #[.int .u8 op,.int .u8 a,.int .u8 bb,.int .u8 cc,.int .i64 n] hGI)
  have HI2:=ae.mk (hzI.setRow #[.int .u8 op,.int .u8 a,.int .u8 bb,.int .u8 cc,.int .i64 n])
  clear HB1 Pm hzI hwz hI1 hgI HVW
  change Code.wp _ _ _ _ (wz.setRow gI #[.int .u8 op,.int .u8 a,.int .u8 bb,.int .u8 cc,.int .i64 n])
  generalize wz.setRow gI #[.int .u8 op,.int .u8 a,.int .u8 bb,.int .u8 cc,.int .i64 n]=W1 at HB2 HI2 ⊢
  obtain ⟨gT,hgT⟩:∃ g,W1.heap.size=g:=⟨_,rfl⟩
  obtain ⟨wy,hwy⟩:∃ wz,W1.alloc (.cells #[.int .i64 0,.int .i64 0,.int .i64 0,.int .i64 0,.int .i64 0,.int .i64 0,.int .i64 0,.int .i64 0,.int .i64 0,.int .i64 0,.int .i64 0,.int .i64 0,.int .i64 0,.int .i64 0,.int .i64 0,.int .i64 0,.int .i64 0,.int .i64 0,.int .i64 0,.int .i64 0,.slice none 0 0,.slice none 0 0,.int .i64 0,.int .i64 0] 44)=wz:=⟨_,rfl⟩
  have hzT:Bk wy gT #[.int .i64 0,.int .i64 0,.int .i64 0,.int .i64 0,.int .i64 0,.int .i64 0,.int .i64 0,.int .i64 0,.int .i64 0,.int .i64 0,.int .i64 0,.int .i64 0,.int .i64 0,.int .i64 0,.int .i64 0,.int .i64 0,.int .i64 0,.int .i64 0,.int .i64 0,.int .i64 0,.slice none 0 0,.slice none 0 0,.int .i64 0,.int .i64 0] 44:=by rw [← hwy,← hgT];exact Bk.new W1 _ _
  have hby:Below W1.heap.size W1 wy:=by rw [← hwy];exact (Below.refl _ W1).alloc (Nat.le_refl _) _
  have hGT:G+3≤gT:=by rw [← hgT];exact HB2.out.sz
  have hIT:gI ≠ gT:=by have:=HI2.out.lt;omega
  have hsS:=HB2.out.m1
  have hone:=HV.out.rd.one s
  have HBY:=Lib.hid hby
  clear hby
  go_upto_region 8 with (first|((with_reducible refine bD (N:=51) rfl ?_);refine wpList_load_row rfl 44 (.tmp 3) rfl (G+1) rfl 44 (cellsS s vO vU) (0,0) _ hsS Tryd.underlying44 rfl (by kernel_rfl) ?_)|(skip;refine wpList_store_row rfl 44 (.tmp 10) (.tmp 51) rfl gT (cellsS s vO vU) rfl rfl 44 _ hzT (by kernel_rfl) rfl hone ?_))
  have HB3:=ae.mk ((HB2.out.below HBY.out).gK gT (cellsS s vO vU) hGT)
  have HI3:=ae.mk ((HI2.out.below HBY.out).gK (h:=gT) (cellsS s vO vU) hIT)
  have HT3:=ae.mk (hzT.setRow (cellsS s vO vU))
  clear HB2 HI2 HBY hzT hwy hone hsS hgT
  change Code.wp _ _ _ _ (wy.setRow gT (cellsS s vO vU))
  generalize wy.setRow gT (cellsS s vO vU)=W2 at HB3 HI3 HT3 ⊢
  have Yq:W2.cell? ⟨G+1,22,none⟩=some (.int .i64 s.pc):=HB3.out.m1.cell 22
  have ct:W2.cell? ⟨gT,22,none⟩=some (.int .i64 s.pc):=HT3.out.cell 22
  have ft:=HT3.out.fr 22
  go_upto_region 9 with (fail)
  clear Yq ct ft
  have HB4:=ae.mk (HB3.out.far gT 22 (.int .i64 (wrap64 (s.pc+1))) hGT)
  have HI4:=ae.mk (HI3.out.far (h:=gT) 22 (.int .i64 (wrap64 (s.pc+1))) hIT)
  have HT4:=ae.mk (show Bk _ gT (cellsS { s with pc:=wrap64 (s.pc+1) } vO vU) 44 from HT3.out.set 22 (.int .i64 (wrap64 (s.pc+1))))
  clear HB3 HI3 HT3
  change Code.wp _ _ _ _ (W2.setCell ⟨gT,22,none⟩ (.int .i64 (wrap64 (s.pc+1))))
  generalize W2.setCell ⟨gT,22,none⟩ (.int .i64 (wrap64 (s.pc+1)))=W3 at HB4 HI4 HT4 ⊢
  have cst:W3.cell? ⟨G+1,23,none⟩=some (.int .i64 s.steps):=HB4.out.m1.cell 23
  have ct:W3.cell? ⟨gT,23,none⟩=some (.int .i64 s.steps):=HT4.out.cell 23
  have ft:=HT4.out.fr 23
  go_upto_region 10 with (fail)
  clear cst ct ft
  have wV:=ae.mk (HB4.out.far gT 23 (.int .i64 (wrap64 (s.steps+1))) hGT)
  have YJ:=ae.mk (HI4.out.far (h:=gT) 23 (.int .i64 (wrap64 (s.steps+1))) hIT)
  have AQ:=ae.mk (show Bk _ gT (cellsS (bump s) vO vU) 44 from HT4.out.set 23 (.int .i64 (wrap64 (s.steps+1))))
  clear HB4 HI4 HT4
  change Code.wp _ _ _ _ (W3.setCell ⟨gT,23,none⟩ (.int .i64 (wrap64 (s.steps+1))))
  generalize W3.setCell ⟨gT,23,none⟩ (.int .i64 (wrap64 (s.steps+1)))=W4 at wV YJ AQ ⊢
  have i0:W4.cell? ⟨gI,0,none⟩=some (.int .u8 op):=YJ.out.cell 0
  have i1:W4.cell? ⟨gI,1,none⟩=some (.int .u8 a):=YJ.out.cell 1
  have i4:W4.cell? ⟨gI,4,none⟩=some (.int .i64 n):=YJ.out.cell 4
  have hX:=HRX.out
  unfold acJ at hX
  have CZ:=xI.out
  by_cases h3:op=3
  case pos =>
    rw [if_pos h3] at hX
    subst h3
    obtain ⟨rfl,rfl⟩:=Prod.mk.inj (Option.some.inj hX)
    rw [if_pos rfl] at CZ
    obtain ⟨rfl,q⟩:=Prod.mk.inj (Option.some.inj CZ)
    obtain ⟨rfl,rfl⟩:=Prod.mk.inj q
    clear hX CZ q HRX xI
    have ct:W4.cell? ⟨gT,22,none⟩=some (.int .i64 (bump s).pc):=AQ.out.cell 22
    have ft:=AQ.out.fr 22
    go_upto_region 13 with (fail)
    clear ct ft i0 i1 i4
    have FP:=ae.mk (wV.out.far gT 22 (.int .i64 n) hGT)
    have Sz:=ae.mk (show Bk _ gT (cellsS { bump s with pc:=n } vO vU) 44 from AQ.out.set 22 (.int .i64 n))
    clear wV YJ AQ
    change Code.wp _ _ _ _ (W4.setCell ⟨gT,22,none⟩ (.int .i64 n))
    generalize W4.setCell ⟨gT,22,none⟩ (.int .i64 n)=W5 at FP Sz ⊢
    have hs_:=Sz.out
    have uU:=FP.out.m2
    have CY:=Lib.hid FP.out.mb
    have oI:=HV.out.rd.one { bump s with pc:=n }
    go_wp2_with (first|((with_reducible refine bD (N:=82) rfl ?_);refine wpList_load_row rfl 44 (.tmp 10) rfl gT rfl 44 (cellsS { bump s with pc:=n } vO vU) (0,0) _ hs_ Tryd.underlying44 rfl (by kernel_rfl) ?_)|(skip;refine wpList_store_row rfl 44 (.tmp 4) (.tmp 82) rfl (G+1+1) (cellsS { bump s with pc:=n } vO vU) rfl rfl 44 _ uU (by kernel_rfl) rfl oI ?_))
    (try simp only [Exit.inBlock,Exit.then])
    refine bodyPost_ret (gp rfl _ _ (G+1+1) 44 _ (0,0) _ rfl (Bk.setRow uU (cellsS { bump s with pc:=n } vO vU)) Tryd.underlying44 rfl (by kernel_rfl)) rfl ?_
    have hb3:=cZ (g:=G+2) CY.out (by omega) (cellsS { bump s with pc:=n } vO vU)
    exact ⟨_,_,rfl,(HV.out.below (by rw [hG];exact hb3)).as rfl rfl,by first|exact hb3|(rw [hG];exact hb3)⟩
  rw [if_neg h3] at hX
  have n3:((op:Int) == 3)=false:=beq_eq_false_iff_ne.2 (by omega)
  by_cases h4:op=4
  case pos =>
    rw [if_pos h4] at hX
    subst h4
    by_cases ha:a < 8
    case neg =>
      rw [if_neg ha] at hX
      cases hX
    rw [if_pos ha] at hX
    have hai:(a:Int) < 8:=by omega
    by_cases hz:s.x a=0
    case pos =>
      rw [if_pos hz] at hX
      obtain ⟨rfl,rfl⟩:=Prod.mk.inj (Option.some.inj hX)
      rw [if_pos rfl] at CZ
      obtain ⟨rfl,q⟩:=Prod.mk.inj (Option.some.inj CZ)
      obtain ⟨rfl,rfl⟩:=Prod.mk.inj q
      clear hX CZ q HRX xI
      have cx:W4.cell? ⟨G+1,a,none⟩=some (.int .i64 0):=by rw [wV.out.m1.wQ a ha,hz]
      have ct:W4.cell? ⟨gT,22,none⟩=some (.int .i64 (bump s).pc):=AQ.out.cell 22
      have ft:=AQ.out.fr 22
      clear hz
      go_upto_region 13 with (fail)
      clear ct ft i0 i1 i4 cx
      have FP:=ae.mk (wV.out.far gT 22 (.int .i64 n) hGT)
      have Sz:=ae.mk (show Bk _ gT (cellsS { bump s with pc:=n } vO vU) 44 from AQ.out.set 22 (.int .i64 n))
      clear wV YJ AQ
      change Code.wp _ _ _ _ (W4.setCell ⟨gT,22,none⟩ (.int .i64 n))
      generalize W4.setCell ⟨gT,22,none⟩ (.int .i64 n)=W5 at FP Sz ⊢
      have hs_:=Sz.out
      have uU:=FP.out.m2
      have CY:=Lib.hid FP.out.mb
      have oI:=HV.out.rd.one { bump s with pc:=n }
      go_wp2_with (first|((with_reducible refine bD (N:=82) rfl ?_);refine wpList_load_row rfl 44 (.tmp 10) rfl gT rfl 44 (cellsS { bump s with pc:=n } vO vU) (0,0) _ hs_ Tryd.underlying44 rfl (by kernel_rfl) ?_)|(skip;refine wpList_store_row rfl 44 (.tmp 4) (.tmp 82) rfl (G+1+1) (cellsS { bump s with pc:=n } vO vU) rfl rfl 44 _ uU (by kernel_rfl) rfl oI ?_))
      (try simp only [Exit.inBlock,Exit.then])
      refine bodyPost_ret (gp rfl _ _ (G+1+1) 44 _ (0,0) _ rfl (Bk.setRow uU (cellsS { bump s with pc:=n } vO vU)) Tryd.underlying44 rfl (by kernel_rfl)) rfl ?_
      have hb3:=cZ (g:=G+2) CY.out (by omega) (cellsS { bump s with pc:=n } vO vU)
      exact ⟨_,_,rfl,(HV.out.below (by rw [hG];exact hb3)).as rfl rfl,by first|exact hb3|(rw [hG];exact hb3)⟩
    case neg =>
      rw [if_neg hz] at hX
      obtain ⟨rfl,rfl⟩:=Prod.mk.inj (Option.some.inj hX)
      rw [if_pos rfl] at CZ
      obtain ⟨rfl,q⟩:=Prod.mk.inj (Option.some.inj CZ)
      obtain ⟨rfl,rfl⟩:=Prod.mk.inj q
      clear hX CZ q HRX xI
      have cx:W4.cell? ⟨G+1,a,none⟩=some (.int .i64 (s.x a)):=wV.out.m1.wQ a ha
      have hzb:(s.x a == 0)=false:=beq_eq_false_iff_ne.2 hz
      clear hz
      go_upto_region 13 with (fail)
      clear i0 i1 i4 cx
      have hs_:=AQ.out
      have uU:=wV.out.m2
      have CY:=Lib.hid wV.out.mb
      have oI:=HV.out.rd.one (bump s)
      go_wp2_with (first|((with_reducible refine bD (N:=82) rfl ?_);refine wpList_load_row rfl 44 (.tmp 10) rfl gT rfl 44 (cellsS (bump s) vO vU) (0,0) _ hs_ Tryd.underlying44 rfl (by kernel_rfl) ?_)|(skip;refine wpList_store_row rfl 44 (.tmp 4) (.tmp 82) rfl (G+1+1) (cellsS (bump s) vO vU) rfl rfl 44 _ uU (by kernel_rfl) rfl oI ?_))
      (try simp only [Exit.inBlock,Exit.then])
      refine bodyPost_ret (gp rfl _ _ (G+1+1) 44 _ (0,0) _ rfl (Bk.setRow uU (cellsS (bump s) vO vU)) Tryd.underlying44 rfl (by kernel_rfl)) rfl ?_
      have hb3:=cZ (g:=G+2) CY.out (by omega) (cellsS (bump s) vO vU)
      exact ⟨_,_,rfl,(HV.out.below (by rw [hG];exact hb3)).as rfl rfl,by first|exact hb3|(rw [hG];exact hb3)⟩
  rw [if_neg h4] at hX
  have n4:((op:Int) == 4)=false:=beq_eq_false_iff_ne.2 (by omega)
  clear h3 h4 i1 i4 HRX xI
  obtain ⟨⟨u,isU⟩,hU,hX⟩:=Option.bind_eq_some_iff.1 hX
  have HU:=ae.mk hU
  have HX:=ae.mk hX
  have xI:=ae.mk CZ
  have HVB:=ae.mk ((HV.out.below (by rw [hG];exact wV.out.mb)).as (s':=bump s) rfl rfl)
  have Y7:=AQ.out
  have Y8:=YJ.out
  go_upto_region 999 with (first|((with_reducible refine bD (N:=84) rfl ?_);refine wpList_load_row rfl 44 (.tmp 10) rfl gT rfl 44 (cellsS (bump s) vO vU) (0,0) _ Y7 Tryd.underlying44 rfl (by kernel_rfl) ?_)|((with_reducible refine bD (N:=85) rfl ?_);refine wpList_load_row rfl 55 (.tmp 9) rfl gI rfl 55 (#[.int .u8 op,.int .u8 a,.int .u8 bb,.int .u8 cc,.int .i64 n]) (0,0) _ Y8 Tryd.underlying55 rfl (by kernel_rfl) ?_))
  refine (Gp (bump s) u isU vO vU op a bb cc n W4 HVB.out HU.out).mono ?_
  rintro e w5 ⟨wY,wX,rfl,hv1,hb1⟩
  have FP:=ae.mk (wV.out.below hb1)
  have HI6:=ae.mk (YJ.out.below hb1)
  have Sz:=ae.mk (AQ.out.below hb1)
  obtain ⟨gU,hgg⟩:∃ g,w5.heap.size=g:=⟨_,rfl⟩
  obtain ⟨wx,hxx⟩:∃ x,w5.alloc (.cells #[.int .i64 0,.int .i64 0,.int .i64 0,.int .i64 0,.int .i64 0,.int .i64 0,.int .i64 0,.int .i64 0,.int .i64 0,.int .i64 0,.int .i64 0,.int .i64 0,.int .i64 0,.int .i64 0,.int .i64 0,.int .i64 0,.int .i64 0,.int .i64 0,.int .i64 0,.int .i64 0,.slice none 0 0,.slice none 0 0,.int .i64 0,.int .i64 0] 44)=x:=⟨_,rfl⟩
  have hzz:Bk wx gU #[.int .i64 0,.int .i64 0,.int .i64 0,.int .i64 0,.int .i64 0,.int .i64 0,.int .i64 0,.int .i64 0,.int .i64 0,.int .i64 0,.int .i64 0,.int .i64 0,.int .i64 0,.int .i64 0,.int .i64 0,.int .i64 0,.int .i64 0,.int .i64 0,.int .i64 0,.int .i64 0,.slice none 0 0,.slice none 0 0,.int .i64 0,.int .i64 0] 44:=by rw [← hxx,← hgg];exact Bk.new _ _ _
  have hbx:Below w5.heap.size w5 wx:=by rw [← hxx];exact (Below.refl _ _).alloc (Nat.le_refl _) _
  have Zj:G+3≤gU:=by rw [← hgg];exact FP.out.sz
  have Zi:gI ≠ gU:=by have:=HI6.out.lt;omega
  have Zh:gT ≠ gU:=by have:=Sz.out.lt;omega
  have hone:=hv1.rd.one u
  have xx:=Lib.hid hbx
  have NL:=Lib.hid hv1
  clear hv1 hb1 hbx Y7 Y8 wV YJ AQ
  cases isU with
  | true =>
    have hX2:=HX.out
    rw [if_pos rfl] at hX2
    obtain ⟨rfl,rfl⟩:=Prod.mk.inj (Option.some.inj hX2)
    have hF2:=xI.out
    rw [if_pos rfl] at hF2
    obtain ⟨rfl,q⟩:=Prod.mk.inj (Option.some.inj hF2)
    obtain ⟨rfl,rfl⟩:=Prod.mk.inj q
    clear hX2 hF2 q HX xI
    go_upto_region 16 with (skip;refine wpList_store_row rfl 44 (.tmp 11) (.tmp 87) rfl gU (cellsS u wY wX) rfl rfl 44 _ hzz (by kernel_rfl) rfl hone ?_)
    have uN:=ae.mk ((NL.out.below xx.out).keep (Keep.setRow hzz (cellsS u wY wX)))
    have FO:=ae.mk ((FP.out.below xx.out).gK gU (cellsS u wY wX) Zj)
    have HI7:=ae.mk ((HI6.out.below xx.out).gK (h:=gU) (cellsS u wY wX) Zi)
    have HT7:=ae.mk ((Sz.out.below xx.out).gK (h:=gU) (cellsS u wY wX) Zh)
    have FN:=ae.mk (hzz.setRow (cellsS u wY wX))
    clear NL xx hzz hone hxx hgg FP HI6 Sz
    change Code.wp _ _ _ _ (wx.setRow gU (cellsS u wY wX))
    generalize wx.setRow gU (cellsS u wY wX)=W5 at uN FO HI7 HT7 FN ⊢
    have hs_:=FN.out
    have uU:=FO.out.m2
    have CY:=Lib.hid FO.out.mb
    have oI:=uN.out.rd.one u
    go_wp2_with (first|((with_reducible refine bD (N:=90) rfl ?_);refine wpList_load_row rfl 44 (.tmp 11) rfl gU rfl 44 (cellsS u wY wX) (0,0) _ hs_ Tryd.underlying44 rfl (by kernel_rfl) ?_)|(skip;refine wpList_store_row rfl 44 (.tmp 4) (.tmp 90) rfl (G+1+1) (cellsS u wY wX) rfl rfl 44 _ uU (by kernel_rfl) rfl oI ?_))
    (try simp only [Exit.inBlock,Exit.then])
    refine bodyPost_ret (gp rfl _ _ (G+1+1) 44 _ (0,0) _ rfl (Bk.setRow uU (cellsS u wY wX)) Tryd.underlying44 rfl (by kernel_rfl)) rfl ?_
    have hb3:=cZ (g:=G+2) CY.out (by omega) (cellsS u wY wX)
    exact ⟨_,_,rfl,uN.out.keep (Keep.setRow uU _),by first|exact hb3|(rw [hG];exact hb3)⟩
  | false =>
  have hX2:=HX.out
  rw [if_neg (by simp)] at hX2
  obtain ⟨⟨v,isV⟩,hV,hX3⟩:=Option.bind_eq_some_iff.1 hX2
  have HPV:=ae.mk hV
  replace HX:=ae.mk hX3
  clear hX2 hV hX3
  go_upto_region 17 with (skip;refine wpList_store_row rfl 44 (.tmp 11) (.tmp 87) rfl gU (cellsS u wY wX) rfl rfl 44 _ hzz (by kernel_rfl) rfl hone ?_)
  have uN:=ae.mk ((NL.out.below xx.out).keep (Keep.setRow hzz (cellsS u wY wX)))
  have FO:=ae.mk ((FP.out.below xx.out).gK gU (cellsS u wY wX) Zj)
  have HI7:=ae.mk ((HI6.out.below xx.out).gK (h:=gU) (cellsS u wY wX) Zi)
  have HT7:=ae.mk ((Sz.out.below xx.out).gK (h:=gU) (cellsS u wY wX) Zh)
  have FN:=ae.mk (hzz.setRow (cellsS u wY wX))
  clear NL xx hzz hone hxx hgg FP HI6 Sz
  change Code.wp _ _ _ _ (wx.setRow gU (cellsS u wY wX))
  generalize wx.setRow gU (cellsS u wY wX)=W5 at uN FO HI7 HT7 FN ⊢
  clear uN FN
  have p0:W5.cell? ⟨G,0,none⟩=some (.slice A0 l0.length c0):=FO.out.m0.cell 0
  have p1:W5.cell? ⟨G,1,none⟩=some (.string a1):=FO.out.m0.cell 1
  have p2:W5.cell? ⟨G,2,none⟩=some (.string a2):=FO.out.m0.cell 2
  have p3:W5.cell? ⟨G,3,none⟩=some (.slice (some ad) l3.length c3):=FO.out.m0.cell 3
  have hbw:Below w.heap.size w W5:=by rw [hG];exact FO.out.mb
  have HVP:=ae.mk ((HV.out.below hbw).as (s':=bump s) rfl rfl)
  have afW:=ae.mk (Kd.bJ HR0.out hbw)
  have afV:=ae.mk (Kd.bJ HR3.out hbw)
  clear hbw
  have Y7:=HT7.out
  have Y8:=HI7.out
  go_upto_region 999 with (first|((with_reducible refine bD (N:=93) rfl ?_);refine wpList_load_row rfl 44 (.tmp 10) rfl gT rfl 44 (cellsS (bump s) vO vU) (0,0) _ Y7 Tryd.underlying44 rfl (by kernel_rfl) ?_)|((with_reducible refine bD (N:=94) rfl ?_);refine wpList_load_row rfl 55 (.tmp 9) rfl gI rfl 55 (#[.int .u8 op,.int .u8 a,.int .u8 bb,.int .u8 cc,.int .i64 n]) (0,0) _ Y8 Tryd.underlying55 rfl (by kernel_rfl) ?_))
  refine (Ey k A0 c0 l0 a1 a2 (some ad) c3 l3 (bump s) v isV vO vU op a bb cc n W5 afW.out hc0 afV.out hc3 HVP.out HPV.out).mono ?_
  rintro e w6 ⟨Du,Dq,rfl,hv1,hb1⟩
  have SN:=ae.mk (FO.out.below hb1)
  have HI8:=ae.mk (HI7.out.below hb1)
  have ZJ:=ae.mk (HT7.out.below hb1)
  obtain ⟨gV,hgg⟩:∃ g,w6.heap.size=g:=⟨_,rfl⟩
  obtain ⟨wx2,hxx⟩:∃ x,w6.alloc (.cells #[.int .i64 0,.int .i64 0,.int .i64 0,.int .i64 0,.int .i64 0,.int .i64 0,.int .i64 0,.int .i64 0,.int .i64 0,.int .i64 0,.int .i64 0,.int .i64 0,.int .i64 0,.int .i64 0,.int .i64 0,.int .i64 0,.int .i64 0,.int .i64 0,.int .i64 0,.int .i64 0,.slice none 0 0,.slice none 0 0,.int .i64 0,.int .i64 0] 44)=x:=⟨_,rfl⟩
  have hzz:Bk wx2 gV #[.int .i64 0,.int .i64 0,.int .i64 0,.int .i64 0,.int .i64 0,.int .i64 0,.int .i64 0,.int .i64 0,.int .i64 0,.int .i64 0,.int .i64 0,.int .i64 0,.int .i64 0,.int .i64 0,.int .i64 0,.int .i64 0,.int .i64 0,.int .i64 0,.int .i64 0,.int .i64 0,.slice none 0 0,.slice none 0 0,.int .i64 0,.int .i64 0] 44:=by rw [← hxx,← hgg];exact Bk.new _ _ _
  have hbx:Below w6.heap.size w6 wx2:=by rw [← hxx];exact (Below.refl _ _).alloc (Nat.le_refl _) _
  have Zj:G+3≤gV:=by rw [← hgg];exact SN.out.sz
  have Zi:gI ≠ gV:=by have:=HI8.out.lt;omega
  have Zh:gT ≠ gV:=by have:=ZJ.out.lt;omega
  have hone:=hv1.rd.one v
  have xx:=Lib.hid hbx
  have NL:=Lib.hid hv1
  clear hv1 hb1 hbx Y7 Y8 FO HI7 HT7
  clear p0 p1 p2 p3 HVP afW afV HPV
  cases isV with
  | true =>
    have hX2:=HX.out
    rw [if_pos rfl] at hX2
    obtain ⟨rfl,rfl⟩:=Prod.mk.inj (Option.some.inj hX2)
    have hF2:=xI.out
    rw [if_pos rfl] at hF2
    obtain ⟨rfl,q⟩:=Prod.mk.inj (Option.some.inj hF2)
    obtain ⟨rfl,rfl⟩:=Prod.mk.inj q
    clear hX2 hF2 q HX xI
    go_upto_region 19 with (skip;refine wpList_store_row rfl 44 (.tmp 13) (.tmp 96) rfl gV (cellsS v Du Dq) rfl rfl 44 _ hzz (by kernel_rfl) rfl hone ?_)
    have uN:=ae.mk ((NL.out.below xx.out).keep (Keep.setRow hzz (cellsS v Du Dq)))
    have SL:=ae.mk ((SN.out.below xx.out).gK gV (cellsS v Du Dq) Zj)
    have HI9:=ae.mk ((HI8.out.below xx.out).gK (h:=gV) (cellsS v Du Dq) Zi)
    have HT9:=ae.mk ((ZJ.out.below xx.out).gK (h:=gV) (cellsS v Du Dq) Zh)
    have FN:=ae.mk (hzz.setRow (cellsS v Du Dq))
    clear NL xx hzz hone hxx hgg SN HI8 ZJ
    change Code.wp _ _ _ _ (wx2.setRow gV (cellsS v Du Dq))
    generalize wx2.setRow gV (cellsS v Du Dq)=W6 at uN SL HI9 HT9 FN ⊢
    have hs_:=FN.out
    have uU:=SL.out.m2
    have CY:=Lib.hid SL.out.mb
    have oI:=uN.out.rd.one v
    go_wp2_with (first|((with_reducible refine bD (N:=99) rfl ?_);refine wpList_load_row rfl 44 (.tmp 13) rfl gV rfl 44 (cellsS v Du Dq) (0,0) _ hs_ Tryd.underlying44 rfl (by kernel_rfl) ?_)|(skip;refine wpList_store_row rfl 44 (.tmp 4) (.tmp 99) rfl (G+1+1) (cellsS v Du Dq) rfl rfl 44 _ uU (by kernel_rfl) rfl oI ?_))
    (try simp only [Exit.inBlock,Exit.then])
    refine bodyPost_ret (gp rfl _ _ (G+1+1) 44 _ (0,0) _ rfl (Bk.setRow uU (cellsS v Du Dq)) Tryd.underlying44 rfl (by kernel_rfl)) rfl ?_
    have hb3:=cZ (g:=G+2) CY.out (by omega) (cellsS v Du Dq)
    exact ⟨_,_,rfl,uN.out.keep (Keep.setRow uU _),by first|exact hb3|(rw [hG];exact hb3)⟩
  | false =>
  have hX2:=HX.out
  rw [if_neg (by simp)] at hX2
  replace HX:=ae.mk hX2
  clear hX2
  go_upto_region 20 with (skip;refine wpList_store_row rfl 44 (.tmp 13) (.tmp 96) rfl gV (cellsS v Du Dq) rfl rfl 44 _ hzz (by kernel_rfl) rfl hone ?_)
  have uN:=ae.mk ((NL.out.below xx.out).keep (Keep.setRow hzz (cellsS v Du Dq)))
  have SL:=ae.mk ((SN.out.below xx.out).gK gV (cellsS v Du Dq) Zj)
  have HI9:=ae.mk ((HI8.out.below xx.out).gK (h:=gV) (cellsS v Du Dq) Zi)
  have HT9:=ae.mk ((ZJ.out.below xx.out).gK (h:=gV) (cellsS v Du Dq) Zh)
  have FN:=ae.mk (hzz.setRow (cellsS v Du Dq))
  clear NL xx hzz hone hxx hgg SN HI8 ZJ
  change Code.wp _ _ _ _ (wx2.setRow gV (cellsS v Du Dq))
  generalize wx2.setRow gV (cellsS v Du Dq)=W6 at uN SL HI9 HT9 FN ⊢
  clear uN FN
  have hbw:Below w.heap.size w W6:=by rw [hG];exact SL.out.mb
  have HVP:=ae.mk ((HV.out.below hbw).as (s':=bump s) rfl rfl)
  clear hbw
  have Y7:=HT9.out
  have Y8:=HI9.out
  go_upto_region 999 with (first|((with_reducible refine bD (N:=101) rfl ?_);refine wpList_load_row rfl 44 (.tmp 10) rfl gT rfl 44 (cellsS (bump s) vO vU) (0,0) _ Y7 Tryd.underlying44 rfl (by kernel_rfl) ?_)|((with_reducible refine bD (N:=102) rfl ?_);refine wpList_load_row rfl 55 (.tmp 9) rfl gI rfl 55 (#[.int .u8 op,.int .u8 a,.int .u8 bb,.int .u8 cc,.int .i64 n]) (0,0) _ Y8 Tryd.underlying55 rfl (by kernel_rfl) ?_))
  refine (IZ (bump s) s5 e5 vO vU op a bb cc n W6 HVP.out hsm.each HX.out).mono ?_
  rintro e w7 ⟨Dt,Dp,rfl,hv1,hb1⟩
  have SQ:=ae.mk (SL.out.below hb1)
  have SH:=ae.mk (HI9.out.below hb1)
  have SA:=ae.mk (HT9.out.below hb1)
  obtain ⟨gM,hgg⟩:∃ g,w7.heap.size=g:=⟨_,rfl⟩
  obtain ⟨wx3,hxx⟩:∃ x,w7.alloc (.cells #[.int .i64 0,.int .i64 0,.int .i64 0,.int .i64 0,.int .i64 0,.int .i64 0,.int .i64 0,.int .i64 0,.int .i64 0,.int .i64 0,.int .i64 0,.int .i64 0,.int .i64 0,.int .i64 0,.int .i64 0,.int .i64 0,.int .i64 0,.int .i64 0,.int .i64 0,.int .i64 0,.slice none 0 0,.slice none 0 0,.int .i64 0,.int .i64 0] 44)=x:=⟨_,rfl⟩
  have hzz:Bk wx3 gM #[.int .i64 0,.int .i64 0,.int .i64 0,.int .i64 0,.int .i64 0,.int .i64 0,.int .i64 0,.int .i64 0,.int .i64 0,.int .i64 0,.int .i64 0,.int .i64 0,.int .i64 0,.int .i64 0,.int .i64 0,.int .i64 0,.int .i64 0,.int .i64 0,.int .i64 0,.int .i64 0,.slice none 0 0,.slice none 0 0,.int .i64 0,.int .i64 0] 44:=by rw [← hxx,← hgg];exact Bk.new _ _ _
  have hbx:Below w7.heap.size w7 wx3:=by rw [← hxx];exact (Below.refl _ _).alloc (Nat.le_refl _) _
  have Zj:G+3≤gM:=by rw [← hgg];exact SQ.out.sz
  have Zi:gI ≠ gM:=by have:=SH.out.lt;omega
  have Zh:gT ≠ gM:=by have:=SA.out.lt;omega
  have hone:=hv1.rd.one s5
  have xx:=Lib.hid hbx
  have NL:=Lib.hid hv1
  clear hv1 hb1 hbx Y7 Y8 SL HI9 HT9
  clear HVP
  have hF2:=xI.out
  by_cases FT:e5=0
  case pos =>
    rw [if_pos FT] at hF2
    obtain ⟨rfl,q⟩:=Prod.mk.inj (Option.some.inj hF2)
    obtain ⟨rfl,rfl⟩:=Prod.mk.inj q
    subst FT
    clear hF2 q HX xI
    go_upto_region 23 with (skip;refine wpList_store_row rfl 44 (.tmp 15) (.tmp 104) rfl gM (cellsS s5 Dt Dp) rfl rfl 44 _ hzz (by kernel_rfl) rfl hone ?_)
    have uN:=ae.mk ((NL.out.below xx.out).keep (Keep.setRow hzz (cellsS s5 Dt Dp)))
    have Ic:=ae.mk ((SQ.out.below xx.out).gK gM (cellsS s5 Dt Dp) Zj)
    have ab4:=ae.mk ((SH.out.below xx.out).gK (h:=gM) (cellsS s5 Dt Dp) Zi)
    have abW:=ae.mk ((SA.out.below xx.out).gK (h:=gM) (cellsS s5 Dt Dp) Zh)
    have FN:=ae.mk (hzz.setRow (cellsS s5 Dt Dp))
    clear NL xx hzz hone hxx hgg SQ SH SA
    change Code.wp _ _ _ _ (wx3.setRow gM (cellsS s5 Dt Dp))
    generalize wx3.setRow gM (cellsS s5 Dt Dp)=W7 at uN Ic ab4 abW FN ⊢
    have hs_:=FN.out
    have uU:=Ic.out.m2
    have CY:=Lib.hid Ic.out.mb
    have oI:=uN.out.rd.one s5
    go_wp2_with (first|((with_reducible refine bD (N:=110) rfl ?_);refine wpList_load_row rfl 44 (.tmp 15) rfl gM rfl 44 (cellsS s5 Dt Dp) (0,0) _ hs_ Tryd.underlying44 rfl (by kernel_rfl) ?_)|(skip;refine wpList_store_row rfl 44 (.tmp 4) (.tmp 110) rfl (G+1+1) (cellsS s5 Dt Dp) rfl rfl 44 _ uU (by kernel_rfl) rfl oI ?_))
    (try simp only [Exit.inBlock,Exit.then])
    refine bodyPost_ret (gp rfl _ _ (G+1+1) 44 _ (0,0) _ rfl (Bk.setRow uU (cellsS s5 Dt Dp)) Tryd.underlying44 rfl (by kernel_rfl)) rfl ?_
    have hb3:=cZ (g:=G+2) CY.out (by omega) (cellsS s5 Dt Dp)
    exact ⟨_,_,rfl,uN.out.keep (Keep.setRow uU _),by first|exact hb3|(rw [hG];exact hb3)⟩
  case neg =>
    have nb:(e5 == 0)=false:=beq_eq_false_iff_ne.2 FT
    have nb':(e5 != 0)=true:=by simp [FT]
    rw [if_neg FT] at hF2
    obtain ⟨rfl,q⟩:=Prod.mk.inj (Option.some.inj hF2)
    obtain ⟨rfl,rfl⟩:=Prod.mk.inj q
    clear hF2 q HX xI FT
    go_upto_region 22 with (skip;refine wpList_store_row rfl 44 (.tmp 15) (.tmp 104) rfl gM (cellsS s5 Dt Dp) rfl rfl 44 _ hzz (by kernel_rfl) rfl hone ?_)
    have uN:=ae.mk ((NL.out.below xx.out).keep (Keep.setRow hzz (cellsS s5 Dt Dp)))
    have Ic:=ae.mk ((SQ.out.below xx.out).gK gM (cellsS s5 Dt Dp) Zj)
    have ab4:=ae.mk ((SH.out.below xx.out).gK (h:=gM) (cellsS s5 Dt Dp) Zi)
    have abW:=ae.mk ((SA.out.below xx.out).gK (h:=gM) (cellsS s5 Dt Dp) Zh)
    have FN:=ae.mk (hzz.setRow (cellsS s5 Dt Dp))
    clear NL xx hzz hone hxx hgg SQ SH SA
    change Code.wp _ _ _ _ (wx3.setRow gM (cellsS s5 Dt Dp))
    generalize wx3.setRow gM (cellsS s5 Dt Dp)=W7 at uN Ic ab4 abW FN ⊢
    have hs_:=Ic.out.m1
    have uU:=Ic.out.m2
    have CY:=Lib.hid Ic.out.mb
    have oI:=HV.out.rd.one s
    go_wp2_with (first|((with_reducible refine bD (N:=108) rfl ?_);refine wpList_load_row rfl 44 (.tmp 3) rfl (G+1) rfl 44 (cellsS s vO vU) (0,0) _ hs_ Tryd.underlying44 rfl (by kernel_rfl) ?_)|(skip;refine wpList_store_row rfl 44 (.tmp 4) (.tmp 108) rfl (G+1+1) (cellsS s vO vU) rfl rfl 44 _ uU (by kernel_rfl) rfl oI ?_))
    (try simp only [Exit.inBlock,Exit.then])
    refine bodyPost_ret (gp rfl _ _ (G+1+1) 44 _ (0,0) _ rfl (Bk.setRow uU (cellsS s vO vU)) Tryd.underlying44 rfl (by kernel_rfl)) rfl ?_
    have hb3:=cZ (g:=G+2) CY.out (by omega) (cellsS s vO vU)
    exact ⟨_,_,rfl,HV.out.below (by first|(rw [hG];exact hb3)|exact hb3),by first|exact hb3|(rw [hG];exact hb3)⟩
end Go.Proofs.YtlemecdddhdagaaDoor.P
end
section
namespace Go.Proofs.YtlemecdddhdagaaDoor.P
open Go.RowKit Go.Proofs.af.bF Go.Proofs.af.dD Go.Proofs.af.dN
open Classical in
noncomputable def zk (k:Nat) (l0:List ByteArray) (a1 a2:ByteArray) (l3:List iD) (s:St):Option (St × Bool × Int):=if Small s then (az.f k l0 a1 a2 l3).bind fun c=>su (szR k l0 a1 a2 l3) l3 c.2 s else none
theorem PK {k:Nat} {l0:List ByteArray} {a1 a2:ByteArray} {l3:List iD} {s:St} {r:St × Bool × Int} (h:zk k l0 a1 a2 l3 s=some r):Small s∧∃ e1 e2,az.f k l0 a1 a2 l3=some (e1,e2)∧su (szR k l0 a1 a2 l3) l3 e2 s=some r:=by
  unfold zk at h
  split at h
  · obtain ⟨⟨e1,e2⟩,h1,h2⟩:=Option.bind_eq_some_iff.1 h
    exact ⟨‹_›,e1,e2,h1,h2⟩
  · cases h
theorem amS (w:World):qV Ea (.slice none 0 0) (.slice none 0 0) w :=
  ⟨⟨none,0,[],rfl,Nat.le_refl _,rfl,fun wF _=>Kd.ZR kH wF,fun j hj=>absurd hj (Nat.not_lt_zero j)⟩,none,0,rfl,Nat.le_refl _,fun wF _=>Kd.ZR (Kd.int .i64) wF⟩
theorem Keep.Ug {w:World} {g:Nat} {cs:Array Value} (h:w.heap[g]? = some (.cells cs 39 (0,0))) (ds:Array Value):Keep w (w.setRow g ds):=fun k hk=>jo ds k (fun e=>by
  subst e
  obtain ⟨c,t,fr,h1,_,h2⟩:=hk
  have q:=h.symm.trans h1
  injection q with q
  injection q with _ q2 _
  exact h2 q2.symm)
theorem oq.PN {base g:Nat} {s:St} {vO vU:Value} {w:World} {old:Array Value} (h:oq base s vO vU w) (hg:Bk w g old 44) (cs:Array Value):oq base s vO vU (w.setRow g cs):=by
  refine ⟨Kd.yV (Kd.Cb (Kd.FC h.aT hg (by intro q hq;simp [Kd.slice,Kd.int,Kd.scalar] at hq;omega)) (fun k hk _=>jo cs k hk.2)) (fun k hk=>hk.1),Kd.jH (Kd.jh (Kd.qB h.out hg (by intro q hq;simp [Kd.int,Kd.scalar] at hq;omega)) (fun k hk _=>jo cs k hk.2)) (fun k hk=>trivial)⟩
end Go.Proofs.YtlemecdddhdagaaDoor.P
end
section
namespace Go.Proofs.YtlemecdddhdagaaDoor.P
open Go.RowKit Go.Proofs.af.bF Go.Proofs.af.dD Go.Proofs.af.dN
attribute [local go_sem ↓] Go.wp_at_zero Go.wp_at_succ
theorem I7 (w:World) (d:Nat) (e:TypeId) (xs:Array Value) (he:Tryd.prog.underlying e=some (.int .i64)) (hsz:Tryd.prog.cellsOf e=1) (hp:Tryd.prog.plainKey e=true):∀ is:List Nat,(∀ j ∈ is,∃ n,xs[j]? = some (.int .i64 n))→(Op.eqItems (d+1) e (Tryd.prog.cellsOf e) xs xs is).run Tryd.prog w=.ok true w:=by
  intro is
  induction is with
  | nil=>intro _;simp [Op.eqItems]
  | cons j is ih =>
    intro h
    obtain ⟨n,hn⟩:=h j (by simp)
    have hq:(part e xs (j * Tryd.prog.cellsOf e)).run Tryd.prog w=.ok (.int .i64 n) w:=run_part_plain w hp (by rw [hsz,Nat.mul_one];exact hn)
    have he1:(Op.equalIn (d+1) e (.int .i64 n) (.int .i64 n)).run Tryd.prog w=.ok true w:=by
      simp [Op.equalIn,run_underlying he]
    simp only [Op.eqItems,Sem.run_bind,hq,he1,Result.andThen_ok]
    simpa using ih (fun j hj=>h j (by simp [hj]))
theorem Bh (t:TypeId) (n:Nat) (e:TypeId) (i:TypeInfo) (hu:Tryd.prog.underlying t=some (.array n e)) (hi:Tryd.prog.info? e=some i) (he:Tryd.prog.underlying e=some (.int .i64)) (hsz:Tryd.prog.cellsOf e=1) (hp:Tryd.prog.plainKey e=true) (xs:Array Value) (h:∀ j,j < n→∃ m,xs[j]? = some (.int .i64 m)) (w:World) :
    (binOp .neq t (.agg xs) (.agg xs)).run Tryd.prog w=.ok (.bool false) w:=by
  rw [run_neq_struct,run_equalIn_array w 9999 xs xs hu hi,I7 w 9998 e xs he hsz hp _ (fun j hj=>h j (List.mem_range.1 hj))]
  rfl
theorem Kv (l:List Int) (hl:l.length≤1000000):∃ k,dm.f k l l=some true:=by
  have loop:∀ d i:Nat,i+d=l.length→dm.l0 (d+1) l l i=some true:=fun d=>by
    induction d with
    | zero =>
      intro i hi
      simp only [dm.l0]
      rw [if_neg (by omega)]
    | succ d ih =>
      intro i hi
      rw [dm.l0,if_pos (by omega),if_pos (by omega),if_pos (by omega),if_pos rfl,show wrap64 ((i:Int)+1)=((i+1:Nat):Int) by unfold wrap64;omega]
      exact ih (i+1) (by omega)
  exact ⟨l.length+1,by unfold dm.f;rw [if_pos rfl];exact loop l.length 0 (by omega)⟩
set_option maxRecDepth 100000 in
set_option maxHeartbeats 6400000 in
theorem Iu (s:St) (AO AU AP AV:Option Addr) (cO cU cP cV:Nat) (w:World) (hO:Kd.C qP w AO s.aT.length s.aT) (hU:Kd.C (Kd.int .i64) w AU s.out.length s.out) (QU:s.out.length≤cU) (hP:Kd.C qP w AP s.aT.length s.aT) (hV:Kd.C (Kd.int .i64) w AV s.out.length s.out) (hcV:s.out.length≤cV) (hsm:Small s) :
    Calls Tryd.prog 15 #[.agg (cellsS s (.slice AO s.aT.length cO) (.slice AU s.out.length cU)),.agg (cellsS s (.slice AP s.aT.length cP) (.slice AV s.out.length cV))] w fun e w'=>e=.returned (.bool true)∧Below w.heap.size w w':=by
  obtain ⟨kn,hkn⟩:=Kv s.out hsm.out
  obtain ⟨G,hG⟩:∃ G,w.heap.size=G:=⟨_,rfl⟩
  obtain ⟨wb,hwb⟩:∃ wb,(w.alloc (.cells (cellsS s (.slice AO s.aT.length cO) (.slice AU s.out.length cU)) 44)).alloc (.cells (cellsS s (.slice AP s.aT.length cP) (.slice AV s.out.length cV)) 44)=wb:=⟨_,rfl⟩
  have hB:Below w.heap.size w wb:=by rw [← hwb];exact ((Below.refl _ w).alloc (Nat.le_refl _) _).alloc (by simp) _
  have hb0:wb.heap[G]? = some (.cells (cellsS s (.slice AO s.aT.length cO) (.slice AU s.out.length cU)) 44 (0,0)):=by
    rw [← hwb,← hG,Below.heap_alloc _ _ _ (by simp)]
    exact heap_alloc_new w _
  have hb1:wb.heap[G+1]? = some (.cells (cellsS s (.slice AP s.aT.length cP) (.slice AV s.out.length cV)) 44 (0,0)):=by
    have:=heap_alloc_new (w.alloc (.cells (cellsS s (.slice AO s.aT.length cO) (.slice AU s.out.length cU)) 44)) (.cells (cellsS s (.slice AP s.aT.length cP) (.slice AV s.out.length cV)) 44)
    rw [← hwb,← hG]
    simpa using this
  have a0:wb.cell? ⟨G,0,none⟩=some (.int .i64 (s.x 0)):=by simp [World.cell?,hb0,cellsS]
  have a1:wb.cell? ⟨G,1,none⟩=some (.int .i64 (s.x 1)):=by simp [World.cell?,hb0,cellsS]
  have a2:wb.cell? ⟨G,2,none⟩=some (.int .i64 (s.x 2)):=by simp [World.cell?,hb0,cellsS]
  have a3:wb.cell? ⟨G,3,none⟩=some (.int .i64 (s.x 3)):=by simp [World.cell?,hb0,cellsS]
  have a4:wb.cell? ⟨G,4,none⟩=some (.int .i64 (s.x 4)):=by simp [World.cell?,hb0,cellsS]
  have a5:wb.cell? ⟨G,5,none⟩=some (.int .i64 (s.x 5)):=by simp [World.cell?,hb0,cellsS]
  have a6:wb.cell? ⟨G,6,none⟩=some (.int .i64 (s.x 6)):=by simp [World.cell?,hb0,cellsS]
  have a7:wb.cell? ⟨G,7,none⟩=some (.int .i64 (s.x 7)):=by simp [World.cell?,hb0,cellsS]
  have a8:wb.cell? ⟨G,8,none⟩=some (.int .i64 (s.p 0)):=by simp [World.cell?,hb0,cellsS]
  have a9:wb.cell? ⟨G,9,none⟩=some (.int .i64 (s.p 1)):=by simp [World.cell?,hb0,cellsS]
  have a10:wb.cell? ⟨G,10,none⟩=some (.int .i64 (s.p 2)):=by simp [World.cell?,hb0,cellsS]
  have a11:wb.cell? ⟨G,11,none⟩=some (.int .i64 (s.p 3)):=by simp [World.cell?,hb0,cellsS]
  have a12:wb.cell? ⟨G,12,none⟩=some (.int .i64 (s.p 4)):=by simp [World.cell?,hb0,cellsS]
  have a13:wb.cell? ⟨G,13,none⟩=some (.int .i64 (s.p 5)):=by simp [World.cell?,hb0,cellsS]
  have a14:wb.cell? ⟨G,14,none⟩=some (.int .i64 (s.p 6)):=by simp [World.cell?,hb0,cellsS]
  have a15:wb.cell? ⟨G,15,none⟩=some (.int .i64 (s.p 7)):=by simp [World.cell?,hb0,cellsS]
  have a16:wb.cell? ⟨G,16,none⟩=some (.int .i64 (s.g 0)):=by simp [World.cell?,hb0,cellsS]
  have a17:wb.cell? ⟨G,17,none⟩=some (.int .i64 (s.g 1)):=by simp [World.cell?,hb0,cellsS]
  have a18:wb.cell? ⟨G,18,none⟩=some (.int .i64 (s.g 2)):=by simp [World.cell?,hb0,cellsS]
  have a19:wb.cell? ⟨G,19,none⟩=some (.int .i64 (s.g 3)):=by simp [World.cell?,hb0,cellsS]
  have a20:wb.cell? ⟨G,20,none⟩=some (.slice AO s.aT.length cO):=by simp [World.cell?,hb0,cellsS]
  have a21:wb.cell? ⟨G,21,none⟩=some (.slice AU s.out.length cU):=by simp [World.cell?,hb0,cellsS]
  have a22:wb.cell? ⟨G,22,none⟩=some (.int .i64 s.pc):=by simp [World.cell?,hb0,cellsS]
  have a23:wb.cell? ⟨G,23,none⟩=some (.int .i64 s.steps):=by simp [World.cell?,hb0,cellsS]
  have b0:wb.cell? ⟨G+1,0,none⟩=some (.int .i64 (s.x 0)):=by simp [World.cell?,hb1,cellsS]
  have b1:wb.cell? ⟨G+1,1,none⟩=some (.int .i64 (s.x 1)):=by simp [World.cell?,hb1,cellsS]
  have b2:wb.cell? ⟨G+1,2,none⟩=some (.int .i64 (s.x 2)):=by simp [World.cell?,hb1,cellsS]
  have b3:wb.cell? ⟨G+1,3,none⟩=some (.int .i64 (s.x 3)):=by simp [World.cell?,hb1,cellsS]
  have b4:wb.cell? ⟨G+1,4,none⟩=some (.int .i64 (s.x 4)):=by simp [World.cell?,hb1,cellsS]
  have b5:wb.cell? ⟨G+1,5,none⟩=some (.int .i64 (s.x 5)):=by simp [World.cell?,hb1,cellsS]
  have b6:wb.cell? ⟨G+1,6,none⟩=some (.int .i64 (s.x 6)):=by simp [World.cell?,hb1,cellsS]
  have b7:wb.cell? ⟨G+1,7,none⟩=some (.int .i64 (s.x 7)):=by simp [World.cell?,hb1,cellsS]
  have b8:wb.cell? ⟨G+1,8,none⟩=some (.int .i64 (s.p 0)):=by simp [World.cell?,hb1,cellsS]
  have b9:wb.cell? ⟨G+1,9,none⟩=some (.int .i64 (s.p 1)):=by simp [World.cell?,hb1,cellsS]
  have b10:wb.cell? ⟨G+1,10,none⟩=some (.int .i64 (s.p 2)):=by simp [World.cell?,hb1,cellsS]
  have b11:wb.cell? ⟨G+1,11,none⟩=some (.int .i64 (s.p 3)):=by simp [World.cell?,hb1,cellsS]
  have b12:wb.cell? ⟨G+1,12,none⟩=some (.int .i64 (s.p 4)):=by simp [World.cell?,hb1,cellsS]
  have b13:wb.cell? ⟨G+1,13,none⟩=some (.int .i64 (s.p 5)):=by simp [World.cell?,hb1,cellsS]
  have b14:wb.cell? ⟨G+1,14,none⟩=some (.int .i64 (s.p 6)):=by simp [World.cell?,hb1,cellsS]
  have b15:wb.cell? ⟨G+1,15,none⟩=some (.int .i64 (s.p 7)):=by simp [World.cell?,hb1,cellsS]
  have b16:wb.cell? ⟨G+1,16,none⟩=some (.int .i64 (s.g 0)):=by simp [World.cell?,hb1,cellsS]
  have b17:wb.cell? ⟨G+1,17,none⟩=some (.int .i64 (s.g 1)):=by simp [World.cell?,hb1,cellsS]
  have b18:wb.cell? ⟨G+1,18,none⟩=some (.int .i64 (s.g 2)):=by simp [World.cell?,hb1,cellsS]
  have b19:wb.cell? ⟨G+1,19,none⟩=some (.int .i64 (s.g 3)):=by simp [World.cell?,hb1,cellsS]
  have b20:wb.cell? ⟨G+1,20,none⟩=some (.slice AP s.aT.length cP):=by simp [World.cell?,hb1,cellsS]
  have b21:wb.cell? ⟨G+1,21,none⟩=some (.slice AV s.out.length cV):=by simp [World.cell?,hb1,cellsS]
  have b22:wb.cell? ⟨G+1,22,none⟩=some (.int .i64 s.pc):=by simp [World.cell?,hb1,cellsS]
  have b23:wb.cell? ⟨G+1,23,none⟩=some (.int .i64 s.steps):=by simp [World.cell?,hb1,cellsS]
  have HO:=ae.mk (Kd.bJ hO hB)
  have HU:=ae.mk (Kd.bJ hU hB)
  have HP:=ae.mk (Kd.bJ hP hB)
  have HV:=ae.mk (Kd.bJ hV hB)
  have HB:=ae.mk hB
  have HKN:=ae.mk hkn
  clear hO hU hP hV hB hb0 hb1 hkn
  have q34:=Bh 34 8 2 _ Tryd.underlying34 rfl Tryd.underlying2 (by kernel_rfl) (by kernel_rfl) #[.int .i64 (s.x 0),.int .i64 (s.x 1),.int .i64 (s.x 2),.int .i64 (s.x 3),.int .i64 (s.x 4),.int .i64 (s.x 5),.int .i64 (s.x 6),.int .i64 (s.x 7)] (fun j hj=>by match j,hj with | 0,_ | 1,_ | 2,_ | 3,_ | 4,_ | 5,_ | 6,_ | 7,_=>exact ⟨_,rfl⟩)
  have q35:=Bh 35 8 3 _ Tryd.underlying35 rfl Tryd.underlying3 (by kernel_rfl) (by kernel_rfl) #[.int .i64 (s.p 0),.int .i64 (s.p 1),.int .i64 (s.p 2),.int .i64 (s.p 3),.int .i64 (s.p 4),.int .i64 (s.p 5),.int .i64 (s.p 6),.int .i64 (s.p 7)] (fun j hj=>by match j,hj with | 0,_ | 1,_ | 2,_ | 3,_ | 4,_ | 5,_ | 6,_ | 7,_=>exact ⟨_,rfl⟩)
  have q36:=Bh 36 4 3 _ Tryd.underlying36 rfl Tryd.underlying3 (by kernel_rfl) (by kernel_rfl) #[.int .i64 (s.g 0),.int .i64 (s.g 1),.int .i64 (s.g 2),.int .i64 (s.g 3)] (fun j hj=>by match j,hj with | 0,_ | 1,_ | 2,_ | 3,_=>exact ⟨_,rfl⟩)
  have g34:Tryd.prog.eqGuardType Tryd.prog.depth 34=false:=by kernel_rfl
  have g35:Tryd.prog.eqGuardType Tryd.prog.depth 35=false:=by kernel_rfl
  have g36:Tryd.prog.eqGuardType Tryd.prog.depth 36=false:=by kernel_rfl
  go_enter Tryd.func15,Tryd.ntmps15
  go_upto_region 999 with (fail)
  refine (dm.calls kn AU cU s.out AV cV s.out true wb HU.out QU HV.out hcV HKN.out).mono ?_
  rintro e w1 ⟨rfl,hd⟩
  obtain ⟨nw,rfl⟩:=hd.out
  clear hd HU HV HKN hwb q34 q35 q36 g34 g35 g36 a0 a1 a2 a3 a4 a5 a6 a7 a8 a9 a10 a11 a12 a13 a14 a15 a16 a17 a18 a19 a21 a22 a23 b0 b1 b2 b3 b4 b5 b6 b7 b8 b9 b10 b11 b12 b13 b14 b15 b16 b17 b18 b19 b21 b22 b23
  go_upto_region 4 with (fail)
  go_loopg [5] s.aT.length (fun kq iv wr=>∃ (i nq:Nat),kq+i=s.aT.length∧iv=.int .i64 i∧wr=wb.drewN nq)
  case atStart=>exact ⟨0,nw,Nat.add_zero _,rfl,rfl⟩
  case round =>
  obtain ⟨i,n0,hki,rfl,rfl⟩:=hrel
  cases gk with
  | zero =>
    obtain rfl:i=s.aT.length:=by omega
    have hlt:decide ((s.aT.length:Int) < (s.aT.length:Int))=false:=decide_eq_false (by omega)
    go_wp2
    go_ret
    exact ⟨rfl,by have q:=HB.out.trans ((show aU wb (wb.drewN n0) from ⟨⟨n0,rfl⟩⟩).below.mono HB.out.size);first|exact q|(rw [hG] at q;exact q)⟩
  | succ gk =>
    have hi:i < s.aT.length:=by omega
    have hlt:decide ((i:Int) < (s.aT.length:Int))=true:=decide_eq_true (by omega)
    obtain ⟨ad,A1,c1,e0,hx,hl1,hi1⟩:=yB HO.out (i:Int) (by omega) (by omega)
    obtain ⟨ad',A2,c2,e0',hx',hl2,hi2⟩:=yB HP.out (i:Int) (by omega) (by omega)
    subst e0
    subst e0'
    obtain ⟨row,hrow⟩:∃ row,uC s.aT (i:Int)=row:=⟨_,rfl⟩
    rw [hrow] at hx hl1 hi1 hx' hl2 hi2
    rw [Int.toNat_natCast] at hx hx'
    obtain ⟨kr,hkr⟩:=Kv row (by
      rw [← hrow]
      show (s.aT.getD (i:Int).toNat []).length≤_
      rw [Int.toNat_natCast,List.getD_eq_getElem?_getD,List.getElem?_eq_getElem hi]
      exact hsm.each i hi)
    have HI1:=ae.mk (Kd.bP hi1 n0)
    have HI2:=ae.mk (Kd.bP hi2 n0)
    have HKR:=ae.mk hkr
    have HL1:=Lib.hid hl1
    have HL2:=Lib.hid hl2
    have j0:(0≤(i:Int))=True:=eq_true (by omega)
    have j1:((i:Int) < (s.aT.length:Int))=True:=eq_true (by omega)
    have e2:=Lib.hid (show wrap64 ((i:Int)+1)=((i+1:Nat):Int) from J5 (by have:=hsm.aT;omega))
    obtain ⟨wr,hwr⟩:∃ wr,wb.drewN n0=wr:=⟨_,rfl⟩
    replace a20:wr.cell? ⟨G,20,none⟩=some (.slice (some ad) s.aT.length cO):=by rw [← hwr];exact a20
    replace b20:wr.cell? ⟨G+1,20,none⟩=some (.slice (some ad') s.aT.length cP):=by rw [← hwr];exact b20
    replace hx:wr.cell? (ad.add i)=some (.slice A1 row.length c1):=by rw [← hwr];exact hx
    replace hx':wr.cell? (ad'.add i)=some (.slice A2 row.length c2):=by rw [← hwr];exact hx'
    rw [hwr] at HI1 HI2 ⊢
    have HWR:=Lib.hid hwr
    clear hi1 hi2 hkr hrow hl1 hl2 hwr
    go_wp2
    go_quiet ((go_at_call 13;exact Calls.quiet_of ((dm.calls kr A1 c1 row A2 c2 row true _ (Kd.bP HI1.out _) HL1.out (Kd.bP HI2.out _) HL2.out HKR.out).mono fun _ _ h=>⟨h.1,h.2.out⟩)))
    clear hx hx'
    go_wp2
    go_roundg gk
    case measure=>omega
    case rel=>exact ⟨i+1,n0+nq,by omega,by first|rfl|rw [e2.out]|(simp;omega),by rw [← HWR.out,World.drewN_drewN]⟩
end Go.Proofs.YtlemecdddhdagaaDoor.P
end
section
namespace Go.Proofs.YtlemecdddhdagaaDoor.P
open Go.RowKit Go.Proofs.af.bF Go.Proofs.af.dD Go.Proofs.af.dN
attribute [local go_sem ↓] Go.wp_at_zero Go.wp_at_succ
def xG (step YU:St→Option (St × Bool × Int)):Nat→St→Prop
  | 0,_=>True
  | n+1,s=>∃ t d e,step s=some (t,d,e)∧YU s=some (t,d,e)∧Small t∧(d=false∧e=0→xG step YU n t)
def modelSteps.ok (k:Nat) (l0:List ByteArray) (a1 a2:ByteArray) (l3:List iD) (fuel:Nat):Prop :=
  gJ.f k=some true∧∃ fw,dw.f k l0 a1 a2 l3=some fw∧(fw=true→xG (stepS k l0 a1 a2 l3) (zk k l0 a1 a2 l3) (fuel % 200+1) Ea)
set_option maxRecDepth 100000 in
set_option maxHeartbeats 6400000 in
theorem modelSteps.calls (k:Nat) (A0:Option Addr) (c0:Nat) (l0:List ByteArray) (a1 a2:ByteArray) (A3:Option Addr) (c3:Nat) (l3:List iD) (fuel:Nat) (w:World) (hr0:Kd.C Kd.string w A0 l0.length l0) (hc0:l0.length≤c0) (hr3:Kd.C uD w A3 l3.length l3) (hc3:l3.length≤c3) (lM:Kd.C Kd.string w rf kQ.length kQ)
    (hf:fuel≤255) (hrF:Kd.C xM w xN o9.length o9) (h:modelSteps.ok k l0 a1 a2 l3 fuel) :
    Calls Tryd.prog 7 #[.agg #[.slice A0 l0.length c0,.string a1,.string a2,.slice A3 l3.length c3],.int .u8 fuel] w fun e w'=>e=.returned (.bool true)∧Below w.heap.size w w':=by
  obtain ⟨hal,fw,hfw,h1⟩:=h
  obtain ⟨G,hG⟩:∃ G,w.heap.size=G:=⟨_,rfl⟩
  obtain ⟨wb,hwb⟩:∃ wb,w.alloc (.cells #[.slice A0 l0.length c0,.string a1,.string a2,.slice A3 l3.length c3] 25)=wb:=⟨_,rfl⟩
  have hB1:Below w.heap.size w wb:=by rw [← hwb];exact (Below.refl _ w).alloc (Nat.le_refl _) _
  have hb0:wb.heap[G]? = some (.cells #[.slice A0 l0.length c0,.string a1,.string a2,.slice A3 l3.length c3] 25 (0,0)):=by rw [← hwb,← hG];exact heap_alloc_new w _
  have hs1:wb.heap.size=G+1:=by rw [← hwb,← hG];simp
  have HH:=ae.mk h1
  have HR0:=ae.mk (Kd.bJ hr0 hB1)
  have HR3:=ae.mk (Kd.bJ hr3 hB1)
  have yH:=ae.mk (Kd.bJ lM hB1)
  have HRF:=ae.mk (Kd.bJ hrF hB1)
  have HAL:=ae.mk hal
  have HFW:=ae.mk hfw
  have HB1:=ae.mk hB1
  have K0:=ae.mk hb0
  have e1:IntKind.i64.wrap (fuel:Int)=fuel:=IntWalk.i64_in _ (by omega)
  have q0:wb.cell? ⟨G,0,none⟩=some (.slice A0 l0.length c0):=by simp [World.cell?,K0.out]
  have q1:wb.cell? ⟨G,1,none⟩=some (.string a1):=by simp [World.cell?,K0.out]
  have q2:wb.cell? ⟨G,2,none⟩=some (.string a2):=by simp [World.cell?,K0.out]
  have q3:wb.cell? ⟨G,3,none⟩=some (.slice A3 l3.length c3):=by simp [World.cell?,K0.out]
  clear h1 hr0 hr3 lM hrF hal hB1 hb0 hfw
  obtain ⟨N,hN⟩:∃ N,fuel % 200+1=N:=⟨_,rfl⟩
  have HNN:=Lib.hid hN
  go_enter Tryd.func7,Tryd.ntmps7
  go_upto_region 999 with (fail)
  refine (dw.calls k A0 c0 l0 a1 a2 A3 c3 l3 fw wb HR0.out hc0 HR3.out hc3 HFW.out).mono ?_
  rintro e w1 ⟨rfl,hbb⟩
  replace hbb:Below wb.heap.size wb w1:=by first|exact hbb|exact hbb.below
  replace HR0:=ae.mk (Kd.bJ HR0.out hbb)
  replace HR3:=ae.mk (Kd.bJ HR3.out hbb)
  replace yH:=ae.mk (Kd.bJ yH.out hbb)
  replace HRF:=ae.mk (Kd.bJ HRF.out hbb)
  replace K0:=ae.mk ((hbb.block G (by omega)).trans K0.out)
  have hs2:G+1≤w1.heap.size:=by have:=hbb.size;omega
  replace HB1:=ae.mk (show Below w.heap.size w w1 from HB1.out.trans (hbb.mono (by omega)))
  clear hbb HFW q0 q1 q2 q3 hwb hs1
  cases fw with
  | false =>
    go_upto_region 999 with (fail)
    refine (gJ.calls k true w1 yH.out HAL.out).mono ?_
    rintro e w2 ⟨rfl,hbb⟩
    have HBB:=Lib.hid (HB1.out.trans (hbb.mono (by omega)))
    clear hbb
    go_wp2
    go_ret
    exact ⟨rfl,HBB.out⟩
  | true =>
  replace HH:=ae.mk (HH.out rfl)
  go_upto_region 999 with (fail)
  refine (gJ.calls k true w1 yH.out HAL.out).mono ?_
  rintro e W1 ⟨rfl,hbb⟩
  replace HR0:=ae.mk (Kd.bJ HR0.out hbb)
  replace HR3:=ae.mk (Kd.bJ HR3.out hbb)
  replace yH:=ae.mk (Kd.bJ yH.out hbb)
  replace HRF:=ae.mk (Kd.bJ HRF.out hbb)
  replace K0:=ae.mk ((hbb.block G (by omega)).trans K0.out)
  replace HB1:=ae.mk (show Below w.heap.size w W1 from HB1.out.trans (hbb.mono (by omega)))
  replace hs2:G+1≤W1.heap.size:=by have:=hbb.size;omega
  clear hbb HAL
  obtain ⟨b,hb⟩:∃ b,W1.heap.size=b:=⟨_,rfl⟩
  obtain ⟨Wz,Yg⟩:∃ Wz,W1.alloc (.cells #[.int .i64 0,.int .i64 0,.int .i64 0,.int .i64 0,.int .i64 0,.int .i64 0,.int .i64 0,.int .i64 0,.int .i64 0,.int .i64 0,.int .i64 0,.int .i64 0,.int .i64 0,.int .i64 0,.int .i64 0,.int .i64 0,.int .i64 0,.int .i64 0,.int .i64 0,.int .i64 0,.slice none 0 0,.slice none 0 0,.int .i64 0,.int .i64 0] 39)=Wz:=⟨_,rfl⟩
  have hzb:Wz.heap[b]? = some (.cells #[.int .i64 0,.int .i64 0,.int .i64 0,.int .i64 0,.int .i64 0,.int .i64 0,.int .i64 0,.int .i64 0,.int .i64 0,.int .i64 0,.int .i64 0,.int .i64 0,.int .i64 0,.int .i64 0,.int .i64 0,.int .i64 0,.int .i64 0,.int .i64 0,.int .i64 0,.int .i64 0,.slice none 0 0,.slice none 0 0,.int .i64 0,.int .i64 0] 39 (0,0)):=by rw [← Yg,← hb];exact heap_alloc_new W1 _
  obtain ⟨c,hc⟩:∃ c,Wz.heap.size=c:=⟨_,rfl⟩
  obtain ⟨Wy,hWy⟩:∃ Wy,Wz.alloc (.cells #[.int .i64 0,.int .i64 0,.int .i64 0,.int .i64 0,.int .i64 0,.int .i64 0,.int .i64 0,.int .i64 0,.int .i64 0,.int .i64 0,.int .i64 0,.int .i64 0,.int .i64 0,.int .i64 0,.int .i64 0,.int .i64 0,.int .i64 0,.int .i64 0,.int .i64 0,.int .i64 0,.slice none 0 0,.slice none 0 0,.int .i64 0,.int .i64 0] 44)=Wy:=⟨_,rfl⟩
  have arW:b < c:=by rw [← hc,← Yg,← hb];simp
  have hzc:Bk Wy c #[.int .i64 0,.int .i64 0,.int .i64 0,.int .i64 0,.int .i64 0,.int .i64 0,.int .i64 0,.int .i64 0,.int .i64 0,.int .i64 0,.int .i64 0,.int .i64 0,.int .i64 0,.int .i64 0,.int .i64 0,.int .i64 0,.int .i64 0,.int .i64 0,.int .i64 0,.int .i64 0,.slice none 0 0,.slice none 0 0,.int .i64 0,.int .i64 0] 44:=by rw [← hWy,← hc];exact Bk.new Wz _ _
  have ac5:Wy.heap[b]? = some (.cells #[.int .i64 0,.int .i64 0,.int .i64 0,.int .i64 0,.int .i64 0,.int .i64 0,.int .i64 0,.int .i64 0,.int .i64 0,.int .i64 0,.int .i64 0,.int .i64 0,.int .i64 0,.int .i64 0,.int .i64 0,.int .i64 0,.int .i64 0,.int .i64 0,.int .i64 0,.int .i64 0,.slice none 0 0,.slice none 0 0,.int .i64 0,.int .i64 0] 39 (0,0)):=by rw [← hWy];exact (Below.heap_alloc Wz _ b (by omega)).trans hzb
  have HS0:ae (kU b Ea (.slice none 0 0) (.slice none 0 0) Wy):=⟨⟨ac5⟩⟩
  have HV0:ae (oq W1.heap.size Ea (.slice none 0 0) (.slice none 0 0) Wy):=⟨⟨Kd.ZC _ _ _ _ _,Kd.Cc _ _ _ _ _⟩⟩
  have tX:ae (Bk Wy c (cellsS Ea (.slice none 0 0) (.slice none 0 0)) 44):=⟨hzc⟩
  have HT0:ae (qV Ea (.slice none 0 0) (.slice none 0 0) Wy):=⟨amS Wy⟩
  have HBz:ae (Below W1.heap.size W1 Wy):=⟨by rw [← hWy,← Yg];exact ((Below.refl _ W1).alloc (Nat.le_refl _) _).alloc (by simp) _⟩
  have rX:=ae.mk (show xG (stepS k l0 a1 a2 l3) (zk k l0 a1 a2 l3) N Ea from by rw [← HNN.out];exact HH.out)
  clear hzb ac5 hzc
  go_wp2
  have hG2:=hs2
  have KF:W1.heap.size≤b:=Nat.le_of_eq hb
  have adC:W1.heap.size≤c:=by omega
  clear Yg hWy HH
  go_loopg [25] N (fun kq iv wr=>∃ (s:St) (vO vU vP vV:Value) (i:Nat),kq+i=N∧iv=.int .i64 i∧ae (xG (stepS k l0 a1 a2 l3) (zk k l0 a1 a2 l3) kq s)∧ae (kU b s vO vU wr)∧ae (oq W1.heap.size s vO vU wr)∧ae (Bk wr c (cellsS s vP vV) 44)∧ae (qV s vP vV wr)∧ae (Below W1.heap.size W1 wr))
  case atStart=>exact ⟨_,_,_,_,_,0,Nat.add_zero _,rfl,rX,HS0,HV0,tX,HT0,HBz⟩
  case round =>
  clear rX HS0 HV0 tX HT0 HBz
  obtain ⟨s,vO,vU,vP,vV,i,hki,rfl,HPC,HS,HV,HC,HT,HB⟩:=hrel
  cases gk with
  | zero =>
    have hd0:decide ((i:Int) < (fuel:Int) % 200+1)=false:=decide_eq_false (by have:=HNN.out;omega)
    clear HPC
    go_wp2
    go_ret
    exact ⟨rfl,by have q:=HB1.out.trans (HB.out.mono (show w.heap.size≤W1.heap.size by have:=HB1.out.size;omega));first|exact q|(rw [hG] at q;exact q)⟩
  | succ gk =>
  have hd0:decide ((i:Int) < (fuel:Int) % 200+1)=true:=decide_eq_true (by have:=HNN.out;omega)
  obtain ⟨s1,dn,e1',hst,hrs,ac8,hP⟩:=HPC.out
  have HP:=ae.mk hP
  have HST:=Lib.hid (PI hst)
  have HSR:=Lib.hid (PK hrs)
  have afT:=Lib.hid ac8
  clear hP hst hrs ac8 HPC
  have p0:wr.cell? ⟨G,0,none⟩=some (.slice A0 l0.length c0):=(HB.out.cell (p:=⟨G,0,none⟩) hG2).trans (by simp [World.cell?,K0.out])
  have p1:wr.cell? ⟨G,1,none⟩=some (.string a1):=(HB.out.cell (p:=⟨G,1,none⟩) hG2).trans (by simp [World.cell?,K0.out])
  have p2:wr.cell? ⟨G,2,none⟩=some (.string a2):=(HB.out.cell (p:=⟨G,2,none⟩) hG2).trans (by simp [World.cell?,K0.out])
  have p3:wr.cell? ⟨G,3,none⟩=some (.slice A3 l3.length c3):=(HB.out.cell (p:=⟨G,3,none⟩) hG2).trans (by simp [World.cell?,K0.out])
  have kk:=HS.out.blk
  go_upto_region 999 with (((with_reducible refine bD (N:=29) rfl ?_);refine wpList_load_row rfl 39 (.tmp 5) rfl b rfl 39 (cellsS s vO vU) (0,0) _ kk Tryd.underlying39 rfl (by kernel_rfl) ?_))
  refine (qh.calls k A0 c0 l0 a1 a2 A3 c3 l3 s s1 dn e1' vO vU _ _ _ _ wr (Kd.bJ HR0.out HB.out) hc0 (Kd.bJ HR3.out HB.out) hc3 (Kd.bJ yH.out HB.out) HV.out.aT HV.out.out HST.out.1 HST.out.2).mono ?_
  rintro e wq ⟨wY,wX,rfl,hV1,hB1⟩
  obtain ⟨x,hx⟩:∃ x,wq.heap.size=x:=⟨_,rfl⟩
  obtain ⟨wz,hwz⟩:∃ wz,wq.alloc (.cells #[.int .i64 0,.int .i64 0,.int .i64 0,.int .i64 0,.int .i64 0,.int .i64 0,.int .i64 0,.int .i64 0,.int .i64 0,.int .i64 0,.int .i64 0,.int .i64 0,.int .i64 0,.int .i64 0,.int .i64 0,.int .i64 0,.int .i64 0,.int .i64 0,.int .i64 0,.int .i64 0,.slice none 0 0,.slice none 0 0,.int .i64 0,.int .i64 0] 39)=wz:=⟨_,rfl⟩
  have hzb:wz.heap[x]? = some (.cells #[.int .i64 0,.int .i64 0,.int .i64 0,.int .i64 0,.int .i64 0,.int .i64 0,.int .i64 0,.int .i64 0,.int .i64 0,.int .i64 0,.int .i64 0,.int .i64 0,.int .i64 0,.int .i64 0,.int .i64 0,.int .i64 0,.int .i64 0,.int .i64 0,.int .i64 0,.int .i64 0,.slice none 0 0,.slice none 0 0,.int .i64 0,.int .i64 0] 39 (0,0)):=by rw [← hwz,← hx];exact heap_alloc_new wq _
  have hone:=cells_one hV1
  have OQ:Below wr.heap.size wr (wz.setRow x (cellsS s1 wY wX)):=cZ (by rw [← hwz];exact hB1.alloc hB1.size _) (by rw [← hx];exact hB1.size) _
  have Ik:=ae.mk (show kU x s1 wY wX (wz.setRow x (cellsS s1 wY wX)) from ⟨lK hzb _⟩)
  have hVz:oq wr.heap.size s1 wY wX wz:=by rw [← hwz];exact ⟨Kd.NF hV1.aT _,Kd.jh hV1.out (fun k _ hk=>Below.heap_alloc wq _ k hk)⟩
  have uN:=ae.mk ((hVz.setRow hzb (cellsS s1 wY wX)).lower HB.out.size)
  replace HS:=ae.mk (HS.out.of_block (OQ.block b HS.out.lt))
  replace HC:=ae.mk (HC.out.of (OQ.block c HC.out.lt))
  replace HT:=ae.mk (HT.out.below OQ)
  replace HB:=ae.mk (HB.out.trans (OQ.mono HB.out.size))
  clear hV1 hB1 OQ hVz kk p0 p1 p2 p3 HV
  go_upto_region 8 with (skip;refine wpList_store_row rfl 39 (.tmp 7) (.tmp 31) rfl x (cellsS s1 wY wX) rfl rfl 39 _ hzb (by kernel_rfl) rfl hone ?_)
  clear hone hzb hwz hx
  change Code.wp _ _ _ _ (wz.setRow x (cellsS s1 wY wX))
  generalize wz.setRow x (cellsS s1 wY wX)=wy at HS HC HT HB Ik uN ⊢
  have p0:wy.cell? ⟨G,0,none⟩=some (.slice A0 l0.length c0):=(HB.out.cell (p:=⟨G,0,none⟩) hG2).trans (by simp [World.cell?,K0.out])
  have p1:wy.cell? ⟨G,1,none⟩=some (.string a1):=(HB.out.cell (p:=⟨G,1,none⟩) hG2).trans (by simp [World.cell?,K0.out])
  have p2:wy.cell? ⟨G,2,none⟩=some (.string a2):=(HB.out.cell (p:=⟨G,2,none⟩) hG2).trans (by simp [World.cell?,K0.out])
  have p3:wy.cell? ⟨G,3,none⟩=some (.slice A3 l3.length c3):=(HB.out.cell (p:=⟨G,3,none⟩) hG2).trans (by simp [World.cell?,K0.out])
  have kk:=HC.out
  obtain ⟨_,f1,f2,hck,hsx⟩:=HSR.out
  have SK:=Lib.hid hck
  have HSX:=Lib.hid hsx
  clear hck hsx HSR
  go_upto_region 999 with (((with_reducible refine bD (N:=36) rfl ?_);refine wpList_load_row rfl 44 (.tmp 6) rfl c rfl 44 (cellsS s vP vV) (0,0) _ kk Tryd.underlying44 rfl (by kernel_rfl) ?_))
  refine (CS k A0 c0 l0 a1 a2 A3 c3 l3 s s1 dn e1' vP vV wy (Kd.bJ HR0.out HB.out) hc0 (Kd.bJ HR3.out HB.out) hc3 (Kd.bJ HRF.out HB.out) HT.out HST.out.1 f1 f2 SK.out HSX.out).mono ?_
  rintro e wq ⟨Z8,Z7,rfl,hT1,hB1⟩
  obtain ⟨y,hy⟩:∃ y,wq.heap.size=y:=⟨_,rfl⟩
  obtain ⟨wx,hwx⟩:∃ wx,wq.alloc (.cells #[.int .i64 0,.int .i64 0,.int .i64 0,.int .i64 0,.int .i64 0,.int .i64 0,.int .i64 0,.int .i64 0,.int .i64 0,.int .i64 0,.int .i64 0,.int .i64 0,.int .i64 0,.int .i64 0,.int .i64 0,.int .i64 0,.int .i64 0,.int .i64 0,.int .i64 0,.int .i64 0,.slice none 0 0,.slice none 0 0,.int .i64 0,.int .i64 0] 44)=wx:=⟨_,rfl⟩
  have hzy:Bk wx y #[.int .i64 0,.int .i64 0,.int .i64 0,.int .i64 0,.int .i64 0,.int .i64 0,.int .i64 0,.int .i64 0,.int .i64 0,.int .i64 0,.int .i64 0,.int .i64 0,.int .i64 0,.int .i64 0,.int .i64 0,.int .i64 0,.int .i64 0,.int .i64 0,.int .i64 0,.int .i64 0,.slice none 0 0,.slice none 0 0,.int .i64 0,.int .i64 0] 44:=by rw [← hwx,← hy];exact Bk.new wq _ _
  have hbx:Below wq.heap.size wq wx:=by rw [← hwx];exact (Below.refl _ wq).alloc (Nat.le_refl _) _
  have hone:=hT1.rd.one s1
  have OQ:Below wy.heap.size wy (wx.setRow y (cellsS s1 Z8 Z7)):=cZ (hB1.trans (hbx.mono hB1.size)) (by rw [← hy];exact hB1.size) _
  have Tz:=ae.mk (hzy.setRow (cellsS s1 Z8 Z7))
  have HT1:=ae.mk ((hT1.below hbx).keep (Keep.setRow hzy (cellsS s1 Z8 Z7)))
  replace HS:=ae.mk (HS.out.of_block (OQ.block b HS.out.lt))
  replace HC:=ae.mk (HC.out.of (OQ.block c HC.out.lt))
  replace Ik:=ae.mk (Ik.out.of_block (OQ.block x Ik.out.lt))
  replace uN:=ae.mk (show oq W1.heap.size s1 wY wX (wx.setRow y (cellsS s1 Z8 Z7)) from ⟨Kd.wO uN.out.aT OQ,Kd.jA uN.out.out OQ⟩)
  replace HB:=ae.mk (HB.out.trans (OQ.mono HB.out.size))
  clear hT1 hB1 OQ hbx kk p0 p1 p2 p3 HT SK HSX
  go_upto_region 9 with (skip;refine wpList_store_row rfl 44 (.tmp 10) (.tmp 38) rfl y (cellsS s1 Z8 Z7) rfl rfl 44 _ hzy (by kernel_rfl) rfl hone ?_)
  clear hone hzy hwx hy
  change Code.wp _ _ _ _ (wx.setRow y (cellsS s1 Z8 Z7))
  generalize wx.setRow y (cellsS s1 Z8 Z7)=wt at HS HC HB Ik uN Tz HT1 ⊢
  obtain ⟨TC,Tq,rfl⟩:=Kd.FD uN.out.aT
  obtain ⟨TA,Tn,rfl⟩:=Kd.jw uN.out.out
  obtain ⟨YN,Yw,rfl,hcP,hP1⟩:=HT1.out.rd.aT
  obtain ⟨YM,Yv,rfl,hcV,hV2⟩:=HT1.out.rd.out
  have HP1:=Lib.hid hP1
  have Tt:=Lib.hid hV2
  have kx:=Ik.out.blk
  have ky:=Tz.out
  clear hP1 hV2
  go_upto_region 999 with (first|((with_reducible refine bD (N:=41) rfl ?_);refine wpList_load_row rfl 39 (.tmp 7) rfl x rfl 39 (cellsS s1 (.slice TC s1.aT.length Tq) (.slice TA s1.out.length Tn)) (0,0) _ kx Tryd.underlying39 rfl (by kernel_rfl) ?_)|((with_reducible refine bD (N:=42) rfl ?_);refine wpList_load_row rfl 44 (.tmp 10) rfl y rfl 44 (cellsS s1 (.slice YN s1.aT.length Yw) (.slice YM s1.out.length Yv)) (0,0) _ ky Tryd.underlying44 rfl (by kernel_rfl) ?_))
  refine (Iu s1 TC TA YN YM Tq Tn Yw Yv _ (Kd.Si uN.out.aT).2.2 (Kd.dS uN.out.out).2.2 (Kd.dS uN.out.out).2.1 HP1.out Tt.out hcV afT.out).mono ?_
  rintro e wf ⟨rfl,Yi⟩
  replace HS:=ae.mk (HS.out.of_block (Yi.block b HS.out.lt))
  replace HC:=ae.mk (HC.out.of (Yi.block c HC.out.lt))
  replace Ik:=ae.mk (Ik.out.of_block (Yi.block x Ik.out.lt))
  replace Tz:=ae.mk (Tz.out.of (Yi.block y Tz.out.lt))
  replace uN:=ae.mk (show oq W1.heap.size s1 _ _ wf from ⟨Kd.wO uN.out.aT Yi,Kd.jA uN.out.out Yi⟩)
  replace HT1:=ae.mk (HT1.out.below Yi)
  replace HB:=ae.mk (HB.out.trans (Yi.mono HB.out.size))
  clear Yi kx ky HP1 Tt hcP hcV
  cases dn with
  | true =>
    clear HP
    go_wp2
    go_ret
    exact ⟨rfl,by have q:=HB1.out.trans (HB.out.mono (show w.heap.size≤W1.heap.size by have:=HB1.out.size;omega));first|exact q|(rw [hG] at q;exact q)⟩
  | false =>
  by_cases he:e1'=0
  case neg =>
    have nb:(e1' == 0)=false:=beq_eq_false_iff_ne.2 he
    have nb':(e1' != 0)=true:=by simp [he]
    clear HP he
    go_wp2
    go_ret
    exact ⟨rfl,by have q:=HB1.out.trans (HB.out.mono (show w.heap.size≤W1.heap.size by have:=HB1.out.size;omega));first|exact q|(rw [hG] at q;exact q)⟩
  case pos =>
  subst he
  have HNX:=ae.mk (HP.out ⟨rfl,rfl⟩)
  have e2:=Lib.hid (show wrap64 ((i:Int)+1)=((i+1:Nat):Int) by have:=HNN.out;unfold wrap64;omega)
  have kx:=Ik.out.blk
  have kb:=HS.out.blk
  have ky:=Tz.out
  have ade:=cells_one uN.out
  have adb:=HT1.out.rd.one s1
  have hcb:c ≠ b:=by omega
  have hyb:y ≠ b:=by
    rintro rfl
    have q:=kb.symm.trans Tz.out
    simp at q
  have kc1:=HC.out.gK (h:=b) (cellsS s1 (.slice TC s1.aT.length Tq) (.slice TA s1.out.length Tn)) hcb
  have ky1:=Tz.out.gK (h:=b) (cellsS s1 (.slice TC s1.aT.length Tq) (.slice TA s1.out.length Tn)) hyb
  have HSn:=ae.mk (show kU b s1 _ _ ((wf.setRow b (cellsS s1 (.slice TC s1.aT.length Tq) (.slice TA s1.out.length Tn))).setRow c (cellsS s1 (.slice YN s1.aT.length Yw) (.slice YM s1.out.length Yv))) from ⟨(jo _ b (Ne.symm hcb)).trans (lK kb _)⟩)
  have HVn:=ae.mk (((uN.out.setRow kb (cellsS s1 (.slice TC s1.aT.length Tq) (.slice TA s1.out.length Tn)))).PN kc1 (cellsS s1 (.slice YN s1.aT.length Yw) (.slice YM s1.out.length Yv)))
  have HCn:=ae.mk (kc1.setRow (cellsS s1 (.slice YN s1.aT.length Yw) (.slice YM s1.out.length Yv)))
  have HTn:=ae.mk ((HT1.out.keep (Keep.Ug kb (cellsS s1 (.slice TC s1.aT.length Tq) (.slice TA s1.out.length Tn)))).keep (Keep.setRow kc1 (cellsS s1 (.slice YN s1.aT.length Yw) (.slice YM s1.out.length Yv))))
  have HBn:=ae.mk (cZ (cZ HB.out KF (cellsS s1 (.slice TC s1.aT.length Tq) (.slice TA s1.out.length Tn))) adC (cellsS s1 (.slice YN s1.aT.length Yw) (.slice YM s1.out.length Yv)))
  clear HP HS HC HB Ik Tz uN HT1 HST afT
  go_wp2_with (first|((with_reducible refine bD (N:=60) rfl ?_);refine wpList_load_row rfl 39 (.tmp 7) rfl x rfl 39 (cellsS s1 (.slice TC s1.aT.length Tq) (.slice TA s1.out.length Tn)) (0,0) _ kx Tryd.underlying39 rfl (by kernel_rfl) ?_)|(skip;refine wpList_store_row rfl 39 (.tmp 5) (.tmp 60) rfl b (cellsS s1 (.slice TC s1.aT.length Tq) (.slice TA s1.out.length Tn)) rfl rfl 39 _ kb (by kernel_rfl) rfl ade ?_)|((with_reducible refine bD (N:=61) rfl ?_);refine wpList_load_row rfl 44 (.tmp 10) rfl y rfl 44 (cellsS s1 (.slice YN s1.aT.length Yw) (.slice YM s1.out.length Yv)) (0,0) _ ky1 Tryd.underlying44 rfl (by kernel_rfl) ?_)|(skip;refine wpList_store_row rfl 44 (.tmp 6) (.tmp 61) rfl c (cellsS s1 (.slice YN s1.aT.length Yw) (.slice YM s1.out.length Yv)) rfl rfl 44 _ kc1 (by kernel_rfl) rfl adb ?_))
  go_roundg gk
  case measure=>omega
  case rel=>exact ⟨s1,_,_,_,_,i+1,by omega,by first|rfl|rw [e2.out]|(simp;omega),HNX,HSn,HVn,HCn,HTn,HBn⟩
end Go.Proofs.YtlemecdddhdagaaDoor.P
end
section
namespace Go.Proofs.YtlemecdddhdagaaDoor.P
open Go.RowKit Go.Proofs.af.bF Go.Proofs.af.dD Go.Proofs.af.dN
attribute [local go_sem ↓] Go.wp_at_zero Go.wp_at_succ
noncomputable def aak.f (k:Nat) (l0:List ByteArray) (a1 a2:ByteArray) (l3:List iD) (fuel:Int):Option (List Int × Int) :=
  (az.f k l0 a1 a2 l3).bind fun c=>if c.2=0 then if fuel < 0 then some ([],2) else (Ez (zk k l0 a1 a2 l3) fuel k Ea 0).bind fun p=>some (p.1.out,p.2) else some ([],2)
end Go.Proofs.YtlemecdddhdagaaDoor.P
end
