/- Parts of the proof of ModelRuns: what the functions that it reaches compute, and plain facts about that. -/
import Derived.Test.YtlemecdddhdagaaDoorYal
import Derived.Test.YtlemecdddhdagaaDoorYas
import Derived.Test.YtlemecdddhdagaaDoorYav
import Derived.ChangeKeysEq
import Derived.Test.YtlemecdddhdagaaDoorYak
set_option linter.unusedVariables false
set_option linter.unusedSimpArgs false
section
namespace Go.Proofs.YtlemecdddhdagaaDoor.P
open Go.RowKit Go.Proofs.af.bD Go.Proofs.af.dB Go.Proofs.af.dM
attribute [local go_sem ↓] Go.wp_at_zero Go.wp_at_succ
structure StepB (G:Nat) (P S:Array Value) (w W:World):Prop where
  m0:Bk W G P 25
  m1:Bk W (G+1) S 44
  m2:Bk W (G+2) #[.int .i64 0,.int .i64 0,.int .i64 0,.int .i64 0,.int .i64 0,.int .i64 0,.int .i64 0,.int .i64 0,.int .i64 0,.int .i64 0,.int .i64 0,.int .i64 0,.int .i64 0,.int .i64 0,.int .i64 0,.int .i64 0,.int .i64 0,.int .i64 0,.int .i64 0,.int .i64 0,.slice none 0 0,.slice none 0 0,.int .i64 0,.int .i64 0] 44
  mb:Below G w W
  sz:G+3≤W.heap.size
section
variable {G:Nat} {P S:Array Value} {w W W1:World}
theorem StepB.below (h:StepB G P S w W) (hb:Below W.heap.size W W1):StepB G P S w W1 :=
  ⟨h.m0.below hb,h.m1.below hb,h.m2.below hb,h.mb.trans (hb.mono (by have:=h.sz;omega)),Nat.le_trans h.sz hb.size⟩
theorem StepB.far (h:StepB G P S w W) (g j:Nat) (v:Value) (hg:G+3≤g):StepB G P S w (W.setCell ⟨g,j,none⟩ v) :=
  ⟨h.m0.far j v (by omega),h.m1.far j v (by omega),h.m2.far j v (by omega),h.mb.setCell (p:=⟨g,j,none⟩) (by show G≤g;omega) v,by simp [World.setCell];exact h.sz⟩
theorem StepB.gJ (h:StepB G P S w W) (g:Nat) (cs:Array Value) (hg:G+3≤g):StepB G P S w (W.setRow g cs) :=
  ⟨h.m0.gJ cs (by omega),h.m1.gJ cs (by omega),h.m2.gJ cs (by omega),dF h.mb (by omega) cs,by rw [size_setRow];exact h.sz⟩
end
theorem XQ {sz:Int→Option Int} {s:St} {op:Int} {a b c:Nat} {n:Int} {r:St × Int} (h:rF sz s op a b c n=some r):0≤op:=by
  by_cases hp:0≤op
  · exact hp
  · exfalso
    unfold rF at h
    rw [if_neg (by omega),if_neg (by omega),if_neg (by omega),if_neg (by omega),if_neg (by omega),if_neg (by omega),if_neg (by omega),if_neg (by omega),if_neg (by omega),if_neg (by omega),if_neg (by omega),if_neg (by omega),if_neg (by omega),if_neg (by omega),if_neg (by omega)] at h
    cases h
theorem Keep.setRow {w:World} {g:Nat} {cs:Array Value} (h:Bk w g cs 44) (ds:Array Value):Keep w (w.setRow g ds):=fun k hk=>jV ds k (fun e=>by
  subst e
  obtain ⟨c,t,fr,h1,h2,_⟩:=hk
  have q:=h.symm.trans h1
  injection q with q
  injection q with _ q2 _
  exact h2 q2.symm)
theorem abS (P S:Array Value) (w:World):StepB w.heap.size P S w (((w.alloc (.cells P 25)).alloc (.cells S 44)).alloc (.cells #[.int .i64 0,.int .i64 0,.int .i64 0,.int .i64 0,.int .i64 0,.int .i64 0,.int .i64 0,.int .i64 0,.int .i64 0,.int .i64 0,.int .i64 0,.int .i64 0,.int .i64 0,.int .i64 0,.int .i64 0,.int .i64 0,.int .i64 0,.int .i64 0,.int .i64 0,.int .i64 0,.slice none 0 0,.slice none 0 0,.int .i64 0,.int .i64 0] 44)):=by
  have h1:=Bk.new w P 25
  have h2:=Bk.new (w.alloc (.cells P 25)) S 44
  have h3:=Bk.new ((w.alloc (.cells P 25)).alloc (.cells S 44)) #[.int .i64 0,.int .i64 0,.int .i64 0,.int .i64 0,.int .i64 0,.int .i64 0,.int .i64 0,.int .i64 0,.int .i64 0,.int .i64 0,.int .i64 0,.int .i64 0,.int .i64 0,.int .i64 0,.int .i64 0,.int .i64 0,.int .i64 0,.int .i64 0,.int .i64 0,.int .i64 0,.slice none 0 0,.slice none 0 0,.int .i64 0,.int .i64 0] 44
  rw [show (w.alloc (.cells P 25)).heap.size=w.heap.size+1 by simp] at h2
  rw [show ((w.alloc (.cells P 25)).alloc (.cells S 44)).heap.size=w.heap.size+2 by simp] at h3
  exact ⟨(h1.alloc _).alloc _,h2.alloc _,h3,(((Below.refl _ w).alloc (Nat.le_refl _) _).alloc (by simp) _).alloc (by simp;omega) _,by simp⟩
set_option maxRecDepth 100000 in
set_option maxHeartbeats 6400000 in
theorem BQ (k:Nat) (A0:Option Addr) (c0:Nat) (l0:List ByteArray) (a1 a2:ByteArray) (A3:Option Addr) (c3:Nat) (l3:List iw) (s s':St) (d:Bool) (r2:Int) (vO vU:Value) (w:World) (hr0:Kd.C Kd.string w A0 l0.length l0) (hc0:l0.length≤c0) (hr3:Kd.C uq w A3 l3.length l3) (hc3:l3.length≤c3) (Yr:Kd.C wM w wO oz.length oz)
    (hv:qM s vO vU w) (hsm:Small s) (e1 e2:Int) (QB:az.f k l0 a1 a2 l3=some (e1,e2)) (h:uF (Zr k l0 a1 a2 l3) l3 e2 s=some (s',d,r2)) :
    Calls Tryd.prog 17 #[.agg #[.slice A0 l0.length c0,.string a1,.string a2,.slice A3 l3.length c3],.agg (cellsS s vO vU)] w fun e w'=>∃ o8 o7,e=.returned (.tuple #[.agg (cellsS s' o8 o7),.bool d,.int .i64 r2])∧qM s' o8 o7 w'∧Below w.heap.size w w':=by
  obtain ⟨G,hG⟩:∃ G,w.heap.size=G:=⟨_,rfl⟩
  obtain ⟨wb,hwb⟩:∃ wb,((w.alloc (.cells #[.slice A0 l0.length c0,.string a1,.string a2,.slice A3 l3.length c3] 25)).alloc (.cells (cellsS s vO vU) 44)).alloc (.cells #[.int .i64 0,.int .i64 0,.int .i64 0,.int .i64 0,.int .i64 0,.int .i64 0,.int .i64 0,.int .i64 0,.int .i64 0,.int .i64 0,.int .i64 0,.int .i64 0,.int .i64 0,.int .i64 0,.int .i64 0,.int .i64 0,.int .i64 0,.int .i64 0,.int .i64 0,.int .i64 0,.slice none 0 0,.slice none 0 0,.int .i64 0,.int .i64 0] 44)=wb:=⟨_,rfl⟩
  have hB:=abS #[.slice A0 l0.length c0,.string a1,.string a2,.slice A3 l3.length c3] (cellsS s vO vU) w
  rw [hwb,hG] at hB
  have HB:=ae.mk hB
  have HR0:=ae.mk hr0
  have HR3:=ae.mk hr3
  have Nq:=ae.mk Yr
  have HV:=ae.mk hv
  have HH:=ae.mk h
  have HCK:=ae.mk QB
  have p0:wb.cell? ⟨G,0,none⟩=some (.slice A0 l0.length c0):=hB.m0.cell 0
  have p1:wb.cell? ⟨G,1,none⟩=some (.string a1):=hB.m0.cell 1
  have p2:wb.cell? ⟨G,2,none⟩=some (.string a2):=hB.m0.cell 2
  have p3:wb.cell? ⟨G,3,none⟩=some (.slice A3 l3.length c3):=hB.m0.cell 3
  clear hB hr0 hr3 Yr hv h QB
  go_enter Tryd.func17,Tryd.ntmps17
  go_upto_region 999 with (fail)
  refine (az.calls k A0 c0 l0 a1 a2 A3 c3 l3 e1 e2 wb (Kd.bJ HR0.out (by rw [hG];exact HB.out.mb)) hc0 (Kd.bJ HR3.out (by rw [hG];exact HB.out.mb)) hc3 (Kd.bJ Nq.out (by rw [hG];exact HB.out.mb)) HCK.out).mono ?_
  rintro e W ⟨rfl,hbb⟩
  have HB1:=ae.mk (HB.out.below hbb)
  have HVW:=ae.mk (HV.out.below (by rw [hG];exact HB1.out.mb))
  clear hbb HCK HB hwb p0 p1 p2 p3
  have p3:W.cell? ⟨G,3,none⟩=some (.slice A3 l3.length c3):=HB1.out.m0.cell 3
  have cpc:W.cell? ⟨G+1,22,none⟩=some (.int .i64 s.pc):=HB1.out.m1.cell 22
  have HH0:=HH.out
  unfold uF at HH0
  by_cases he2:e2=0
  case neg =>
    have hb2:(e2 == 0)=false:=beq_eq_false_iff_ne.2 he2
    have Gq:(e2 != 0)=true:=by simp [he2]
    rw [if_neg he2] at HH0
    obtain ⟨rfl,q⟩:=Prod.mk.inj (Option.some.inj HH0)
    obtain ⟨rfl,rfl⟩:=Prod.mk.inj q
    clear HH0 q HH
    go_upto_region 3 with (fail)
    have hs_:=HB1.out.m1
    have uK:=HB1.out.m2
    have BZ:=Lib.hid HB1.out.mb
    have oD:=HVW.out.rd.one s
    go_wp2_with (first|((with_reducible refine bI (N:=37) rfl ?_);refine wpList_load_row rfl 44 (.tmp 3) rfl (G+1) rfl 44 (cellsS s vO vU) (0,0) _ hs_ Tryd.underlying44 rfl (by kernel_rfl) ?_)|(skip;refine wpList_store_row rfl 44 (.tmp 4) (.tmp 37) rfl (G+1+1) (cellsS s vO vU) rfl rfl 44 _ uK (by kernel_rfl) rfl oD ?_))
    (try simp only [Exit.inBlock,Exit.then])
    refine bodyPost_ret (iG rfl _ _ (G+1+1) 44 _ (0,0) _ rfl (Bk.setRow uK (cellsS s vO vU)) Tryd.underlying44 rfl (by kernel_rfl)) rfl ?_
    have hb3:=dF (g:=G+2) BZ.out (by omega) (cellsS s vO vU)
    exact ⟨_,_,rfl,HV.out.below (by rw [hG];exact hb3),by first|exact hb3|(rw [hG];exact hb3)⟩
  subst he2
  rw [if_pos rfl] at HH0
  by_cases hp0:s.pc < 0
  case pos =>
    have hd0:decide (s.pc < 0)=true:=decide_eq_true hp0
    rw [if_pos hp0] at HH0
    obtain ⟨rfl,q⟩:=Prod.mk.inj (Option.some.inj HH0)
    obtain ⟨rfl,rfl⟩:=Prod.mk.inj q
    clear HH0 q HH hp0
    go_upto_region 3 with (fail)
    have hs_:=HB1.out.m1
    have uK:=HB1.out.m2
    have BZ:=Lib.hid HB1.out.mb
    have oD:=HVW.out.rd.one s
    go_wp2_with (first|((with_reducible refine bI (N:=37) rfl ?_);refine wpList_load_row rfl 44 (.tmp 3) rfl (G+1) rfl 44 (cellsS s vO vU) (0,0) _ hs_ Tryd.underlying44 rfl (by kernel_rfl) ?_)|(skip;refine wpList_store_row rfl 44 (.tmp 4) (.tmp 37) rfl (G+1+1) (cellsS s vO vU) rfl rfl 44 _ uK (by kernel_rfl) rfl oD ?_))
    (try simp only [Exit.inBlock,Exit.then])
    refine bodyPost_ret (iG rfl _ _ (G+1+1) 44 _ (0,0) _ rfl (Bk.setRow uK (cellsS s vO vU)) Tryd.underlying44 rfl (by kernel_rfl)) rfl ?_
    have hb3:=dF (g:=G+2) BZ.out (by omega) (cellsS s vO vU)
    exact ⟨_,_,rfl,HV.out.below (by rw [hG];exact hb3),by first|exact hb3|(rw [hG];exact hb3)⟩
  have hd0:decide (s.pc < 0)=false:=decide_eq_false hp0
  rw [if_neg hp0] at HH0
  by_cases hp1:(l3.length:Int) < s.pc
  case pos =>
    have hd1:decide ((l3.length:Int) < s.pc)=true:=decide_eq_true hp1
    have amq:decide (s.pc > (l3.length:Int))=true:=decide_eq_true hp1
    rw [if_pos hp1] at HH0
    obtain ⟨rfl,q⟩:=Prod.mk.inj (Option.some.inj HH0)
    obtain ⟨rfl,rfl⟩:=Prod.mk.inj q
    clear HH0 q HH hp0 hp1
    go_upto_region 3 with (fail)
    have hs_:=HB1.out.m1
    have uK:=HB1.out.m2
    have BZ:=Lib.hid HB1.out.mb
    have oD:=HVW.out.rd.one s
    go_wp2_with (first|((with_reducible refine bI (N:=37) rfl ?_);refine wpList_load_row rfl 44 (.tmp 3) rfl (G+1) rfl 44 (cellsS s vO vU) (0,0) _ hs_ Tryd.underlying44 rfl (by kernel_rfl) ?_)|(skip;refine wpList_store_row rfl 44 (.tmp 4) (.tmp 37) rfl (G+1+1) (cellsS s vO vU) rfl rfl 44 _ uK (by kernel_rfl) rfl oD ?_))
    (try simp only [Exit.inBlock,Exit.then])
    refine bodyPost_ret (iG rfl _ _ (G+1+1) 44 _ (0,0) _ rfl (Bk.setRow uK (cellsS s vO vU)) Tryd.underlying44 rfl (by kernel_rfl)) rfl ?_
    have hb3:=dF (g:=G+2) BZ.out (by omega) (cellsS s vO vU)
    exact ⟨_,_,rfl,HV.out.below (by rw [hG];exact hb3),by first|exact hb3|(rw [hG];exact hb3)⟩
  have hd1:decide ((l3.length:Int) < s.pc)=false:=decide_eq_false hp1
  have amq:decide (s.pc > (l3.length:Int))=false:=decide_eq_false hp1
  rw [if_neg hp1] at HH0
  by_cases hp2:s.pc=(l3.length:Int)
  case pos =>
    have hd2:(s.pc == (l3.length:Int))=true:=beq_iff_eq.2 hp2
    rw [if_pos hp2] at HH0
    obtain ⟨rfl,q⟩:=Prod.mk.inj (Option.some.inj HH0)
    obtain ⟨rfl,rfl⟩:=Prod.mk.inj q
    clear HH0 q HH hp0 hp1 hp2
    go_upto_region 5 with (fail)
    have hs_:=HB1.out.m1
    have uK:=HB1.out.m2
    have BZ:=Lib.hid HB1.out.mb
    have oD:=HVW.out.rd.one s
    go_wp2_with (first|((with_reducible refine bI (N:=44) rfl ?_);refine wpList_load_row rfl 44 (.tmp 3) rfl (G+1) rfl 44 (cellsS s vO vU) (0,0) _ hs_ Tryd.underlying44 rfl (by kernel_rfl) ?_)|(skip;refine wpList_store_row rfl 44 (.tmp 4) (.tmp 44) rfl (G+1+1) (cellsS s vO vU) rfl rfl 44 _ uK (by kernel_rfl) rfl oD ?_))
    (try simp only [Exit.inBlock,Exit.then])
    refine bodyPost_ret (iG rfl _ _ (G+1+1) 44 _ (0,0) _ rfl (Bk.setRow uK (cellsS s vO vU)) Tryd.underlying44 rfl (by kernel_rfl)) rfl ?_
    have hb3:=dF (g:=G+2) BZ.out (by omega) (cellsS s vO vU)
    exact ⟨_,_,rfl,HV.out.below (by rw [hG];exact hb3),by first|exact hb3|(rw [hG];exact hb3)⟩
  have hd2:(s.pc == (l3.length:Int))=false:=beq_eq_false_iff_ne.2 hp2
  rw [if_neg hp2] at HH0
  go_upto_region 6 with (fail)
  obtain ⟨⟨s5,e5⟩,hD,hfin⟩:=Option.bind_eq_some_iff.1 HH0
  have hD2:=hD
  unfold OC at hD2
  split at hD2
  case isFalse=>cases hD2
  rename_i hg
  obtain ⟨g1,g2,g3,g4,g5⟩:=hg
  have hpos:0≤s.pc:=by omega
  have hlt:s.pc < l3.length:=by omega
  have hop0:=XQ hD2
  obtain ⟨ad,hA,d0,d1,d2,d3,d4⟩:=Bv (Kd.bJ HR3.out (by rw [hG];exact HB1.out.mb)) s.pc hpos hlt
  subst hA
  obtain ⟨op,eo⟩:=Int.eq_ofNat_of_zero_le hop0
  obtain ⟨a,ea⟩:=Int.eq_ofNat_of_zero_le g1
  obtain ⟨bb,eb⟩:=Int.eq_ofNat_of_zero_le g2
  obtain ⟨cc,ec⟩:=Int.eq_ofNat_of_zero_le g3
  obtain ⟨n,en⟩:∃ n,(aA l3 s.pc).f4=n:=⟨_,rfl⟩
  rw [eo,ea,eb,ec,en,Int.toNat_natCast,Int.toNat_natCast,Int.toNat_natCast] at hD2
  rw [eo] at d0
  rw [ea] at d1
  rw [eb] at d2
  rw [ec] at d3
  rw [en] at d4
  have HRX:=ae.mk (NM g4 g5 hD2)
  have yI:=ae.mk hfin
  clear HH0 HH hD hD2 hfin g1 g2 g3 g4 g5 hop0 eo ea eb ec en hp0 hp1 hp2
  have j0:(0≤s.pc)=True:=eq_true hpos
  have j1:(s.pc < (l3.length:Int))=True:=eq_true hlt
  clear hpos hlt
  obtain ⟨gI,hgI⟩:∃ g,W.heap.size=g:=⟨_,rfl⟩
  obtain ⟨wz,hwz⟩:∃ wz,W.alloc (.cells #[.int .u8 0,.int .u8 0,.int .u8 0,.int .u8 0,.int .i64 0] 55)=wz:=⟨_,rfl⟩
  have hzI:Bk wz gI #[.int .u8 0,.int .u8 0,.int .u8 0,.int .u8 0,.int .i64 0] 55:=by rw [← hwz,← hgI];exact Bk.new W _ _
  have hbz:Below W.heap.size W wz:=by rw [← hwz];exact (Below.refl _ W).alloc (Nat.le_refl _) _
  have hI1:(#[.int .u8 op,.int .u8 a,.int .u8 bb,.int .u8 cc,.int .i64 n]:Array Value).all (·.oneCell')=true:=by simp [Value.oneCell']
  have hGI:G+3≤gI:=by rw [← hgI];exact HB1.out.sz
  have O0:=Lib.hid hbz
  clear hbz
  go_upto_region 7 with (skip;refine wpList_store_row rfl 55 (.tmp 9) (.tmp 50) rfl gI (#[.int .u8 op,.int .u8 a,.int .u8 bb,.int .u8 cc,.int .i64 n]) rfl rfl 55 _ hzI (by kernel_rfl) rfl hI1 ?_)
  clear d0 d1 d2 d3 d4 cpc p3 j0 j1
  have HB2:=ae.mk ((HB1.out.below O0.out).gJ gI #[.int .u8 op,.int .u8 a,.int .u8 bb,.int .u8 cc,.int .i64 n] hGI)
  have HI2:=ae.mk (hzI.setRow #[.int .u8 op,.int .u8 a,.int .u8 bb,.int .u8 cc,.int .i64 n])
  clear HB1 O0 hzI hwz hI1 hgI HVW
  change Code.wp _ _ _ _ (wz.setRow gI #[.int .u8 op,.int .u8 a,.int .u8 bb,.int .u8 cc,.int .i64 n])
  generalize wz.setRow gI #[.int .u8 op,.int .u8 a,.int .u8 bb,.int .u8 cc,.int .i64 n]=W1 at HB2 HI2 ⊢
  obtain ⟨gT,hgT⟩:∃ g,W1.heap.size=g:=⟨_,rfl⟩
  obtain ⟨wy,hwy⟩:∃ wz,W1.alloc (.cells #[.int .i64 0,.int .i64 0,.int .i64 0,.int .i64 0,.int .i64 0,.int .i64 0,.int .i64 0,.int .i64 0,.int .i64 0,.int .i64 0,.int .i64 0,.int .i64 0,.int .i64 0,.int .i64 0,.int .i64 0,.int .i64 0,.int .i64 0,.int .i64 0,.int .i64 0,.int .i64 0,.slice none 0 0,.slice none 0 0,.int .i64 0,.int .i64 0] 44)=wz:=⟨_,rfl⟩
  have hzT:Bk wy gT #[.int .i64 0,.int .i64 0,.int .i64 0,.int .i64 0,.int .i64 0,.int .i64 0,.int .i64 0,.int .i64 0,.int .i64 0,.int .i64 0,.int .i64 0,.int .i64 0,.int .i64 0,.int .i64 0,.int .i64 0,.int .i64 0,.int .i64 0,.int .i64 0,.int .i64 0,.int .i64 0,.slice none 0 0,.slice none 0 0,.int .i64 0,.int .i64 0] 44:=by rw [← hwy,← hgT];exact Bk.new W1 _ _
  have hby:Below W1.heap.size W1 wy:=by rw [← hwy];exact (Below.refl _ W1).alloc (Nat.le_refl _) _
  have hGT:G+3≤gT:=by rw [← hgT];exact HB2.out.sz
  have hIT:gI ≠ gT:=by have:=HI2.out.lt;omega
  have hsS:=HB2.out.m1
  have hone:=HV.out.rd.one s
  have HBY:=Lib.hid hby
  clear hby
  go_upto_region 8 with (first|((with_reducible refine bI (N:=51) rfl ?_);refine wpList_load_row rfl 44 (.tmp 3) rfl (G+1) rfl 44 (cellsS s vO vU) (0,0) _ hsS Tryd.underlying44 rfl (by kernel_rfl) ?_)|(skip;refine wpList_store_row rfl 44 (.tmp 10) (.tmp 51) rfl gT (cellsS s vO vU) rfl rfl 44 _ hzT (by kernel_rfl) rfl hone ?_))
  have HB3:=ae.mk ((HB2.out.below HBY.out).gJ gT (cellsS s vO vU) hGT)
  have HI3:=ae.mk ((HI2.out.below HBY.out).gJ (h:=gT) (cellsS s vO vU) hIT)
  have HT3:=ae.mk (hzT.setRow (cellsS s vO vU))
  clear HB2 HI2 HBY hzT hwy hone hsS hgT
  change Code.wp _ _ _ _ (wy.setRow gT (cellsS s vO vU))
  generalize wy.setRow gT (cellsS s vO vU)=W2 at HB3 HI3 HT3 ⊢
  have cpc:W2.cell? ⟨G+1,22,none⟩=some (.int .i64 s.pc):=HB3.out.m1.cell 22
  have ct:W2.cell? ⟨gT,22,none⟩=some (.int .i64 s.pc):=HT3.out.cell 22
  have ft:=HT3.out.fr 22
  go_upto_region 9 with (fail)
  clear cpc ct ft
  have HB4:=ae.mk (HB3.out.far gT 22 (.int .i64 (wrap64 (s.pc+1))) hGT)
  have HI4:=ae.mk (HI3.out.far (h:=gT) 22 (.int .i64 (wrap64 (s.pc+1))) hIT)
  have HT4:=ae.mk (show Bk _ gT (cellsS { s with pc:=wrap64 (s.pc+1) } vO vU) 44 from HT3.out.set 22 (.int .i64 (wrap64 (s.pc+1))))
  clear HB3 HI3 HT3
  change Code.wp _ _ _ _ (W2.setCell ⟨gT,22,none⟩ (.int .i64 (wrap64 (s.pc+1))))
  generalize W2.setCell ⟨gT,22,none⟩ (.int .i64 (wrap64 (s.pc+1)))=W3 at HB4 HI4 HT4 ⊢
  have cst:W3.cell? ⟨G+1,23,none⟩=some (.int .i64 s.steps):=HB4.out.m1.cell 23
  have ct:W3.cell? ⟨gT,23,none⟩=some (.int .i64 s.steps):=HT4.out.cell 23
  have ft:=HT4.out.fr 23
  go_upto_region 10 with (fail)
  clear cst ct ft
  have zZ:=ae.mk (HB4.out.far gT 23 (.int .i64 (wrap64 (s.steps+1))) hGT)
  have Ya:=ae.mk (HI4.out.far (h:=gT) 23 (.int .i64 (wrap64 (s.steps+1))) hIT)
  have zY:=ae.mk (show Bk _ gT (cellsS (bump s) vO vU) 44 from HT4.out.set 23 (.int .i64 (wrap64 (s.steps+1))))
  clear HB4 HI4 HT4
  change Code.wp _ _ _ _ (W3.setCell ⟨gT,23,none⟩ (.int .i64 (wrap64 (s.steps+1))))
  generalize W3.setCell ⟨gT,23,none⟩ (.int .i64 (wrap64 (s.steps+1)))=W4 at zZ Ya zY ⊢
  have i0:W4.cell? ⟨gI,0,none⟩=some (.int .u8 op):=Ya.out.cell 0
  have i1:W4.cell? ⟨gI,1,none⟩=some (.int .u8 a):=Ya.out.cell 1
  have i4:W4.cell? ⟨gI,4,none⟩=some (.int .i64 n):=Ya.out.cell 4
  have hX:=HRX.out
  unfold abN at hX
  have Cb:=yI.out
  by_cases h3:op=3
  case pos =>
    rw [if_pos h3] at hX
    subst h3
    obtain ⟨rfl,rfl⟩:=Prod.mk.inj (Option.some.inj hX)
    rw [if_pos rfl] at Cb
    obtain ⟨rfl,q⟩:=Prod.mk.inj (Option.some.inj Cb)
    obtain ⟨rfl,rfl⟩:=Prod.mk.inj q
    clear hX Cb q HRX yI
    have ct:W4.cell? ⟨gT,22,none⟩=some (.int .i64 (bump s).pc):=zY.out.cell 22
    have ft:=zY.out.fr 22
    go_upto_region 13 with (fail)
    clear ct ft i0 i1 i4
    have Fg:=ae.mk (zZ.out.far gT 22 (.int .i64 n) hGT)
    have RH:=ae.mk (show Bk _ gT (cellsS { bump s with pc:=n } vO vU) 44 from zY.out.set 22 (.int .i64 n))
    clear zZ Ya zY
    change Code.wp _ _ _ _ (W4.setCell ⟨gT,22,none⟩ (.int .i64 n))
    generalize W4.setCell ⟨gT,22,none⟩ (.int .i64 n)=W5 at Fg RH ⊢
    have hs_:=RH.out
    have uK:=Fg.out.m2
    have BZ:=Lib.hid Fg.out.mb
    have oD:=HV.out.rd.one { bump s with pc:=n }
    go_wp2_with (first|((with_reducible refine bI (N:=82) rfl ?_);refine wpList_load_row rfl 44 (.tmp 10) rfl gT rfl 44 (cellsS { bump s with pc:=n } vO vU) (0,0) _ hs_ Tryd.underlying44 rfl (by kernel_rfl) ?_)|(skip;refine wpList_store_row rfl 44 (.tmp 4) (.tmp 82) rfl (G+1+1) (cellsS { bump s with pc:=n } vO vU) rfl rfl 44 _ uK (by kernel_rfl) rfl oD ?_))
    (try simp only [Exit.inBlock,Exit.then])
    refine bodyPost_ret (iG rfl _ _ (G+1+1) 44 _ (0,0) _ rfl (Bk.setRow uK (cellsS { bump s with pc:=n } vO vU)) Tryd.underlying44 rfl (by kernel_rfl)) rfl ?_
    have hb3:=dF (g:=G+2) BZ.out (by omega) (cellsS { bump s with pc:=n } vO vU)
    exact ⟨_,_,rfl,(HV.out.below (by rw [hG];exact hb3)).as rfl rfl,by first|exact hb3|(rw [hG];exact hb3)⟩
  rw [if_neg h3] at hX
  have n3:((op:Int) == 3)=false:=beq_eq_false_iff_ne.2 (by omega)
  by_cases h4:op=4
  case pos =>
    rw [if_pos h4] at hX
    subst h4
    by_cases ha:a < 8
    case neg =>
      rw [if_neg ha] at hX
      cases hX
    rw [if_pos ha] at hX
    have hai:(a:Int) < 8:=by omega
    by_cases hz:s.x a=0
    case pos =>
      rw [if_pos hz] at hX
      obtain ⟨rfl,rfl⟩:=Prod.mk.inj (Option.some.inj hX)
      rw [if_pos rfl] at Cb
      obtain ⟨rfl,q⟩:=Prod.mk.inj (Option.some.inj Cb)
      obtain ⟨rfl,rfl⟩:=Prod.mk.inj q
      clear hX Cb q HRX yI
      have cx:W4.cell? ⟨G+1,a,none⟩=some (.int .i64 0):=by rw [zZ.out.m1.wE a ha,hz]
      have ct:W4.cell? ⟨gT,22,none⟩=some (.int .i64 (bump s).pc):=zY.out.cell 22
      have ft:=zY.out.fr 22
      clear hz
      go_upto_region 13 with (fail)
      clear ct ft i0 i1 i4 cx
      have Fg:=ae.mk (zZ.out.far gT 22 (.int .i64 n) hGT)
      have RH:=ae.mk (show Bk _ gT (cellsS { bump s with pc:=n } vO vU) 44 from zY.out.set 22 (.int .i64 n))
      clear zZ Ya zY
      change Code.wp _ _ _ _ (W4.setCell ⟨gT,22,none⟩ (.int .i64 n))
      generalize W4.setCell ⟨gT,22,none⟩ (.int .i64 n)=W5 at Fg RH ⊢
      have hs_:=RH.out
      have uK:=Fg.out.m2
      have BZ:=Lib.hid Fg.out.mb
      have oD:=HV.out.rd.one { bump s with pc:=n }
      go_wp2_with (first|((with_reducible refine bI (N:=82) rfl ?_);refine wpList_load_row rfl 44 (.tmp 10) rfl gT rfl 44 (cellsS { bump s with pc:=n } vO vU) (0,0) _ hs_ Tryd.underlying44 rfl (by kernel_rfl) ?_)|(skip;refine wpList_store_row rfl 44 (.tmp 4) (.tmp 82) rfl (G+1+1) (cellsS { bump s with pc:=n } vO vU) rfl rfl 44 _ uK (by kernel_rfl) rfl oD ?_))
      (try simp only [Exit.inBlock,Exit.then])
      refine bodyPost_ret (iG rfl _ _ (G+1+1) 44 _ (0,0) _ rfl (Bk.setRow uK (cellsS { bump s with pc:=n } vO vU)) Tryd.underlying44 rfl (by kernel_rfl)) rfl ?_
      have hb3:=dF (g:=G+2) BZ.out (by omega) (cellsS { bump s with pc:=n } vO vU)
      exact ⟨_,_,rfl,(HV.out.below (by rw [hG];exact hb3)).as rfl rfl,by first|exact hb3|(rw [hG];exact hb3)⟩
    case neg =>
      rw [if_neg hz] at hX
      obtain ⟨rfl,rfl⟩:=Prod.mk.inj (Option.some.inj hX)
      rw [if_pos rfl] at Cb
      obtain ⟨rfl,q⟩:=Prod.mk.inj (Option.some.inj Cb)
      obtain ⟨rfl,rfl⟩:=Prod.mk.inj q
      clear hX Cb q HRX yI
      have cx:W4.cell? ⟨G+1,a,none⟩=some (.int .i64 (s.x a)):=zZ.out.m1.wE a ha
      have hzb:(s.x a == 0)=false:=beq_eq_false_iff_ne.2 hz
      clear hz
      go_upto_region 13 with (fail)
      clear i0 i1 i4 cx
      have hs_:=zY.out
      have uK:=zZ.out.m2
      have BZ:=Lib.hid zZ.out.mb
      have oD:=HV.out.rd.one (bump s)
      go_wp2_with (first|((with_reducible refine bI (N:=82) rfl ?_);refine wpList_load_row rfl 44 (.tmp 10) rfl gT rfl 44 (cellsS (bump s) vO vU) (0,0) _ hs_ Tryd.underlying44 rfl (by kernel_rfl) ?_)|(skip;refine wpList_store_row rfl 44 (.tmp 4) (.tmp 82) rfl (G+1+1) (cellsS (bump s) vO vU) rfl rfl 44 _ uK (by kernel_rfl) rfl oD ?_))
      (try simp only [Exit.inBlock,Exit.then])
      refine bodyPost_ret (iG rfl _ _ (G+1+1) 44 _ (0,0) _ rfl (Bk.setRow uK (cellsS (bump s) vO vU)) Tryd.underlying44 rfl (by kernel_rfl)) rfl ?_
      have hb3:=dF (g:=G+2) BZ.out (by omega) (cellsS (bump s) vO vU)
      exact ⟨_,_,rfl,(HV.out.below (by rw [hG];exact hb3)).as rfl rfl,by first|exact hb3|(rw [hG];exact hb3)⟩
  rw [if_neg h4] at hX
  have n4:((op:Int) == 4)=false:=beq_eq_false_iff_ne.2 (by omega)
  clear h3 h4 i1 i4 HRX yI
  obtain ⟨⟨u,isU⟩,hU,hX⟩:=Option.bind_eq_some_iff.1 hX
  have HU:=ae.mk hU
  have HX:=ae.mk hX
  have yI:=ae.mk Cb
  have HVB:=ae.mk ((HV.out.below (by rw [hG];exact zZ.out.mb)).as (s':=bump s) rfl rfl)
  have Yy:=zY.out
  have Yz:=Ya.out
  go_upto_region 999 with (first|((with_reducible refine bI (N:=84) rfl ?_);refine wpList_load_row rfl 44 (.tmp 10) rfl gT rfl 44 (cellsS (bump s) vO vU) (0,0) _ Yy Tryd.underlying44 rfl (by kernel_rfl) ?_)|((with_reducible refine bI (N:=85) rfl ?_);refine wpList_load_row rfl 55 (.tmp 9) rfl gI rfl 55 (#[.int .u8 op,.int .u8 a,.int .u8 bb,.int .u8 cc,.int .i64 n]) (0,0) _ Yz Tryd.underlying55 rfl (by kernel_rfl) ?_))
  refine (FX (bump s) u isU vO vU op a bb cc n W4 HVB.out HU.out).mono ?_
  rintro e w5 ⟨BP,BO,rfl,hv1,hb1⟩
  have Fg:=ae.mk (zZ.out.below hb1)
  have HI6:=ae.mk (Ya.out.below hb1)
  have RH:=ae.mk (zY.out.below hb1)
  obtain ⟨gU,hgg⟩:∃ g,w5.heap.size=g:=⟨_,rfl⟩
  obtain ⟨wx,hxx⟩:∃ x,w5.alloc (.cells #[.int .i64 0,.int .i64 0,.int .i64 0,.int .i64 0,.int .i64 0,.int .i64 0,.int .i64 0,.int .i64 0,.int .i64 0,.int .i64 0,.int .i64 0,.int .i64 0,.int .i64 0,.int .i64 0,.int .i64 0,.int .i64 0,.int .i64 0,.int .i64 0,.int .i64 0,.int .i64 0,.slice none 0 0,.slice none 0 0,.int .i64 0,.int .i64 0] 44)=x:=⟨_,rfl⟩
  have hzz:Bk wx gU #[.int .i64 0,.int .i64 0,.int .i64 0,.int .i64 0,.int .i64 0,.int .i64 0,.int .i64 0,.int .i64 0,.int .i64 0,.int .i64 0,.int .i64 0,.int .i64 0,.int .i64 0,.int .i64 0,.int .i64 0,.int .i64 0,.int .i64 0,.int .i64 0,.int .i64 0,.int .i64 0,.slice none 0 0,.slice none 0 0,.int .i64 0,.int .i64 0] 44:=by rw [← hxx,← hgg];exact Bk.new _ _ _
  have hbx:Below w5.heap.size w5 wx:=by rw [← hxx];exact (Below.refl _ _).alloc (Nat.le_refl _) _
  have YL:G+3≤gU:=by rw [← hgg];exact Fg.out.sz
  have YK:gI ≠ gU:=by have:=HI6.out.lt;omega
  have YJ:gT ≠ gU:=by have:=RH.out.lt;omega
  have hone:=hv1.rd.one u
  have xg:=Lib.hid hbx
  have Np:=Lib.hid hv1
  clear hv1 hb1 hbx Yy Yz zZ Ya zY
  cases isU with
  | true =>
    have hX2:=HX.out
    rw [if_pos rfl] at hX2
    obtain ⟨rfl,rfl⟩:=Prod.mk.inj (Option.some.inj hX2)
    have hF2:=yI.out
    rw [if_pos rfl] at hF2
    obtain ⟨rfl,q⟩:=Prod.mk.inj (Option.some.inj hF2)
    obtain ⟨rfl,rfl⟩:=Prod.mk.inj q
    clear hX2 hF2 q HX yI
    go_upto_region 16 with (skip;refine wpList_store_row rfl 44 (.tmp 11) (.tmp 87) rfl gU (cellsS u BP BO) rfl rfl 44 _ hzz (by kernel_rfl) rfl hone ?_)
    have Fb:=ae.mk ((Np.out.below xg.out).keep (Keep.setRow hzz (cellsS u BP BO)))
    have Ff:=ae.mk ((Fg.out.below xg.out).gJ gU (cellsS u BP BO) YL)
    have HI7:=ae.mk ((HI6.out.below xg.out).gJ (h:=gU) (cellsS u BP BO) YK)
    have HT7:=ae.mk ((RH.out.below xg.out).gJ (h:=gU) (cellsS u BP BO) YJ)
    have Ht:=ae.mk (hzz.setRow (cellsS u BP BO))
    clear Np xg hzz hone hxx hgg Fg HI6 RH
    change Code.wp _ _ _ _ (wx.setRow gU (cellsS u BP BO))
    generalize wx.setRow gU (cellsS u BP BO)=W5 at Fb Ff HI7 HT7 Ht ⊢
    have hs_:=Ht.out
    have uK:=Ff.out.m2
    have BZ:=Lib.hid Ff.out.mb
    have oD:=Fb.out.rd.one u
    go_wp2_with (first|((with_reducible refine bI (N:=90) rfl ?_);refine wpList_load_row rfl 44 (.tmp 11) rfl gU rfl 44 (cellsS u BP BO) (0,0) _ hs_ Tryd.underlying44 rfl (by kernel_rfl) ?_)|(skip;refine wpList_store_row rfl 44 (.tmp 4) (.tmp 90) rfl (G+1+1) (cellsS u BP BO) rfl rfl 44 _ uK (by kernel_rfl) rfl oD ?_))
    (try simp only [Exit.inBlock,Exit.then])
    refine bodyPost_ret (iG rfl _ _ (G+1+1) 44 _ (0,0) _ rfl (Bk.setRow uK (cellsS u BP BO)) Tryd.underlying44 rfl (by kernel_rfl)) rfl ?_
    have hb3:=dF (g:=G+2) BZ.out (by omega) (cellsS u BP BO)
    exact ⟨_,_,rfl,Fb.out.keep (Keep.setRow uK _),by first|exact hb3|(rw [hG];exact hb3)⟩
  | false =>
  have hX2:=HX.out
  rw [if_neg (by simp)] at hX2
  obtain ⟨⟨v,isV⟩,hV,hX3⟩:=Option.bind_eq_some_iff.1 hX2
  have HPV:=ae.mk hV
  replace HX:=ae.mk hX3
  clear hX2 hV hX3
  go_upto_region 17 with (skip;refine wpList_store_row rfl 44 (.tmp 11) (.tmp 87) rfl gU (cellsS u BP BO) rfl rfl 44 _ hzz (by kernel_rfl) rfl hone ?_)
  have Fb:=ae.mk ((Np.out.below xg.out).keep (Keep.setRow hzz (cellsS u BP BO)))
  have Ff:=ae.mk ((Fg.out.below xg.out).gJ gU (cellsS u BP BO) YL)
  have HI7:=ae.mk ((HI6.out.below xg.out).gJ (h:=gU) (cellsS u BP BO) YK)
  have HT7:=ae.mk ((RH.out.below xg.out).gJ (h:=gU) (cellsS u BP BO) YJ)
  have Ht:=ae.mk (hzz.setRow (cellsS u BP BO))
  clear Np xg hzz hone hxx hgg Fg HI6 RH
  change Code.wp _ _ _ _ (wx.setRow gU (cellsS u BP BO))
  generalize wx.setRow gU (cellsS u BP BO)=W5 at Fb Ff HI7 HT7 Ht ⊢
  clear Fb Ht
  have p0:W5.cell? ⟨G,0,none⟩=some (.slice A0 l0.length c0):=Ff.out.m0.cell 0
  have p1:W5.cell? ⟨G,1,none⟩=some (.string a1):=Ff.out.m0.cell 1
  have p2:W5.cell? ⟨G,2,none⟩=some (.string a2):=Ff.out.m0.cell 2
  have p3:W5.cell? ⟨G,3,none⟩=some (.slice (some ad) l3.length c3):=Ff.out.m0.cell 3
  have hbw:Below w.heap.size w W5:=by rw [hG];exact Ff.out.mb
  have HVP:=ae.mk ((HV.out.below hbw).as (s':=bump s) rfl rfl)
  have ae1:=ae.mk (Kd.bJ HR0.out hbw)
  have ae0:=ae.mk (Kd.bJ HR3.out hbw)
  clear hbw
  have Yy:=HT7.out
  have Yz:=HI7.out
  go_upto_region 999 with (first|((with_reducible refine bI (N:=93) rfl ?_);refine wpList_load_row rfl 44 (.tmp 10) rfl gT rfl 44 (cellsS (bump s) vO vU) (0,0) _ Yy Tryd.underlying44 rfl (by kernel_rfl) ?_)|((with_reducible refine bI (N:=94) rfl ?_);refine wpList_load_row rfl 55 (.tmp 9) rfl gI rfl 55 (#[.int .u8 op,.int .u8 a,.int .u8 bb,.int .u8 cc,.int .i64 n]) (0,0) _ Yz Tryd.underlying55 rfl (by kernel_rfl) ?_))
  refine (D9 k A0 c0 l0 a1 a2 (some ad) c3 l3 (bump s) v isV vO vU op a bb cc n W5 ae1.out hc0 ae0.out hc3 HVP.out HPV.out).mono ?_
  rintro e w6 ⟨CQ,CO,rfl,hv1,hb1⟩
  have RY:=ae.mk (Ff.out.below hb1)
  have HI8:=ae.mk (HI7.out.below hb1)
  have Y7:=ae.mk (HT7.out.below hb1)
  obtain ⟨gV,hgg⟩:∃ g,w6.heap.size=g:=⟨_,rfl⟩
  obtain ⟨wx2,hxx⟩:∃ x,w6.alloc (.cells #[.int .i64 0,.int .i64 0,.int .i64 0,.int .i64 0,.int .i64 0,.int .i64 0,.int .i64 0,.int .i64 0,.int .i64 0,.int .i64 0,.int .i64 0,.int .i64 0,.int .i64 0,.int .i64 0,.int .i64 0,.int .i64 0,.int .i64 0,.int .i64 0,.int .i64 0,.int .i64 0,.slice none 0 0,.slice none 0 0,.int .i64 0,.int .i64 0] 44)=x:=⟨_,rfl⟩
  have hzz:Bk wx2 gV #[.int .i64 0,.int .i64 0,.int .i64 0,.int .i64 0,.int .i64 0,.int .i64 0,.int .i64 0,.int .i64 0,.int .i64 0,.int .i64 0,.int .i64 0,.int .i64 0,.int .i64 0,.int .i64 0,.int .i64 0,.int .i64 0,.int .i64 0,.int .i64 0,.int .i64 0,.int .i64 0,.slice none 0 0,.slice none 0 0,.int .i64 0,.int .i64 0] 44:=by rw [← hxx,← hgg];exact Bk.new _ _ _
  have hbx:Below w6.heap.size w6 wx2:=by rw [← hxx];exact (Below.refl _ _).alloc (Nat.le_refl _) _
  have YL:G+3≤gV:=by rw [← hgg];exact RY.out.sz
  have YK:gI ≠ gV:=by have:=HI8.out.lt;omega
  have YJ:gT ≠ gV:=by have:=Y7.out.lt;omega
  have hone:=hv1.rd.one v
  have xg:=Lib.hid hbx
  have Np:=Lib.hid hv1
  clear hv1 hb1 hbx Yy Yz Ff HI7 HT7
  clear p0 p1 p2 p3 HVP ae1 ae0 HPV
  cases isV with
  | true =>
    have hX2:=HX.out
    rw [if_pos rfl] at hX2
    obtain ⟨rfl,rfl⟩:=Prod.mk.inj (Option.some.inj hX2)
    have hF2:=yI.out
    rw [if_pos rfl] at hF2
    obtain ⟨rfl,q⟩:=Prod.mk.inj (Option.some.inj hF2)
    obtain ⟨rfl,rfl⟩:=Prod.mk.inj q
    clear hX2 hF2 q HX yI
    go_upto_region 19 with (skip;refine wpList_store_row rfl 44 (.tmp 13) (.tmp 96) rfl gV (cellsS v CQ CO) rfl rfl 44 _ hzz (by kernel_rfl) rfl hone ?_)
    have Fb:=ae.mk ((Np.out.below xg.out).keep (Keep.setRow hzz (cellsS v CQ CO)))
    have RX:=ae.mk ((RY.out.below xg.out).gJ gV (cellsS v CQ CO) YL)
    have HI9:=ae.mk ((HI8.out.below xg.out).gJ (h:=gV) (cellsS v CQ CO) YK)
    have HT9:=ae.mk ((Y7.out.below xg.out).gJ (h:=gV) (cellsS v CQ CO) YJ)
    have Ht:=ae.mk (hzz.setRow (cellsS v CQ CO))
    clear Np xg hzz hone hxx hgg RY HI8 Y7
    change Code.wp _ _ _ _ (wx2.setRow gV (cellsS v CQ CO))
    generalize wx2.setRow gV (cellsS v CQ CO)=W6 at Fb RX HI9 HT9 Ht ⊢
    have hs_:=Ht.out
    have uK:=RX.out.m2
    have BZ:=Lib.hid RX.out.mb
    have oD:=Fb.out.rd.one v
    go_wp2_with (first|((with_reducible refine bI (N:=99) rfl ?_);refine wpList_load_row rfl 44 (.tmp 13) rfl gV rfl 44 (cellsS v CQ CO) (0,0) _ hs_ Tryd.underlying44 rfl (by kernel_rfl) ?_)|(skip;refine wpList_store_row rfl 44 (.tmp 4) (.tmp 99) rfl (G+1+1) (cellsS v CQ CO) rfl rfl 44 _ uK (by kernel_rfl) rfl oD ?_))
    (try simp only [Exit.inBlock,Exit.then])
    refine bodyPost_ret (iG rfl _ _ (G+1+1) 44 _ (0,0) _ rfl (Bk.setRow uK (cellsS v CQ CO)) Tryd.underlying44 rfl (by kernel_rfl)) rfl ?_
    have hb3:=dF (g:=G+2) BZ.out (by omega) (cellsS v CQ CO)
    exact ⟨_,_,rfl,Fb.out.keep (Keep.setRow uK _),by first|exact hb3|(rw [hG];exact hb3)⟩
  | false =>
  have hX2:=HX.out
  rw [if_neg (by simp)] at hX2
  replace HX:=ae.mk hX2
  clear hX2
  go_upto_region 20 with (skip;refine wpList_store_row rfl 44 (.tmp 13) (.tmp 96) rfl gV (cellsS v CQ CO) rfl rfl 44 _ hzz (by kernel_rfl) rfl hone ?_)
  have Fb:=ae.mk ((Np.out.below xg.out).keep (Keep.setRow hzz (cellsS v CQ CO)))
  have RX:=ae.mk ((RY.out.below xg.out).gJ gV (cellsS v CQ CO) YL)
  have HI9:=ae.mk ((HI8.out.below xg.out).gJ (h:=gV) (cellsS v CQ CO) YK)
  have HT9:=ae.mk ((Y7.out.below xg.out).gJ (h:=gV) (cellsS v CQ CO) YJ)
  have Ht:=ae.mk (hzz.setRow (cellsS v CQ CO))
  clear Np xg hzz hone hxx hgg RY HI8 Y7
  change Code.wp _ _ _ _ (wx2.setRow gV (cellsS v CQ CO))
  generalize wx2.setRow gV (cellsS v CQ CO)=W6 at Fb RX HI9 HT9 Ht ⊢
  clear Fb Ht
  have hbw:Below w.heap.size w W6:=by rw [hG];exact RX.out.mb
  have HVP:=ae.mk ((HV.out.below hbw).as (s':=bump s) rfl rfl)
  clear hbw
  have Yy:=HT9.out
  have Yz:=HI9.out
  go_upto_region 999 with (first|((with_reducible refine bI (N:=101) rfl ?_);refine wpList_load_row rfl 44 (.tmp 10) rfl gT rfl 44 (cellsS (bump s) vO vU) (0,0) _ Yy Tryd.underlying44 rfl (by kernel_rfl) ?_)|((with_reducible refine bI (N:=102) rfl ?_);refine wpList_load_row rfl 55 (.tmp 9) rfl gI rfl 55 (#[.int .u8 op,.int .u8 a,.int .u8 bb,.int .u8 cc,.int .i64 n]) (0,0) _ Yz Tryd.underlying55 rfl (by kernel_rfl) ?_))
  refine (IG (bump s) s5 e5 vO vU op a bb cc n W6 HVP.out hsm.each HX.out).mono ?_
  rintro e w7 ⟨CP,CJ,rfl,hv1,hb1⟩
  have RZ:=ae.mk (RX.out.below hb1)
  have RU:=ae.mk (HI9.out.below hb1)
  have RI:=ae.mk (HT9.out.below hb1)
  obtain ⟨gM,hgg⟩:∃ g,w7.heap.size=g:=⟨_,rfl⟩
  obtain ⟨wx3,hxx⟩:∃ x,w7.alloc (.cells #[.int .i64 0,.int .i64 0,.int .i64 0,.int .i64 0,.int .i64 0,.int .i64 0,.int .i64 0,.int .i64 0,.int .i64 0,.int .i64 0,.int .i64 0,.int .i64 0,.int .i64 0,.int .i64 0,.int .i64 0,.int .i64 0,.int .i64 0,.int .i64 0,.int .i64 0,.int .i64 0,.slice none 0 0,.slice none 0 0,.int .i64 0,.int .i64 0] 44)=x:=⟨_,rfl⟩
  have hzz:Bk wx3 gM #[.int .i64 0,.int .i64 0,.int .i64 0,.int .i64 0,.int .i64 0,.int .i64 0,.int .i64 0,.int .i64 0,.int .i64 0,.int .i64 0,.int .i64 0,.int .i64 0,.int .i64 0,.int .i64 0,.int .i64 0,.int .i64 0,.int .i64 0,.int .i64 0,.int .i64 0,.int .i64 0,.slice none 0 0,.slice none 0 0,.int .i64 0,.int .i64 0] 44:=by rw [← hxx,← hgg];exact Bk.new _ _ _
  have hbx:Below w7.heap.size w7 wx3:=by rw [← hxx];exact (Below.refl _ _).alloc (Nat.le_refl _) _
  have YL:G+3≤gM:=by rw [← hgg];exact RZ.out.sz
  have YK:gI ≠ gM:=by have:=RU.out.lt;omega
  have YJ:gT ≠ gM:=by have:=RI.out.lt;omega
  have hone:=hv1.rd.one s5
  have xg:=Lib.hid hbx
  have Np:=Lib.hid hv1
  clear hv1 hb1 hbx Yy Yz RX HI9 HT9
  clear HVP
  have hF2:=yI.out
  by_cases OX:e5=0
  case pos =>
    rw [if_pos OX] at hF2
    obtain ⟨rfl,q⟩:=Prod.mk.inj (Option.some.inj hF2)
    obtain ⟨rfl,rfl⟩:=Prod.mk.inj q
    subst OX
    clear hF2 q HX yI
    go_upto_region 23 with (skip;refine wpList_store_row rfl 44 (.tmp 15) (.tmp 104) rfl gM (cellsS s5 CP CJ) rfl rfl 44 _ hzz (by kernel_rfl) rfl hone ?_)
    have Fb:=ae.mk ((Np.out.below xg.out).keep (Keep.setRow hzz (cellsS s5 CP CJ)))
    have Hg:=ae.mk ((RZ.out.below xg.out).gJ gM (cellsS s5 CP CJ) YL)
    have aba:=ae.mk ((RU.out.below xg.out).gJ (h:=gM) (cellsS s5 CP CJ) YK)
    have aa5:=ae.mk ((RI.out.below xg.out).gJ (h:=gM) (cellsS s5 CP CJ) YJ)
    have Ht:=ae.mk (hzz.setRow (cellsS s5 CP CJ))
    clear Np xg hzz hone hxx hgg RZ RU RI
    change Code.wp _ _ _ _ (wx3.setRow gM (cellsS s5 CP CJ))
    generalize wx3.setRow gM (cellsS s5 CP CJ)=W7 at Fb Hg aba aa5 Ht ⊢
    have hs_:=Ht.out
    have uK:=Hg.out.m2
    have BZ:=Lib.hid Hg.out.mb
    have oD:=Fb.out.rd.one s5
    go_wp2_with (first|((with_reducible refine bI (N:=110) rfl ?_);refine wpList_load_row rfl 44 (.tmp 15) rfl gM rfl 44 (cellsS s5 CP CJ) (0,0) _ hs_ Tryd.underlying44 rfl (by kernel_rfl) ?_)|(skip;refine wpList_store_row rfl 44 (.tmp 4) (.tmp 110) rfl (G+1+1) (cellsS s5 CP CJ) rfl rfl 44 _ uK (by kernel_rfl) rfl oD ?_))
    (try simp only [Exit.inBlock,Exit.then])
    refine bodyPost_ret (iG rfl _ _ (G+1+1) 44 _ (0,0) _ rfl (Bk.setRow uK (cellsS s5 CP CJ)) Tryd.underlying44 rfl (by kernel_rfl)) rfl ?_
    have hb3:=dF (g:=G+2) BZ.out (by omega) (cellsS s5 CP CJ)
    exact ⟨_,_,rfl,Fb.out.keep (Keep.setRow uK _),by first|exact hb3|(rw [hG];exact hb3)⟩
  case neg =>
    have nb:(e5 == 0)=false:=beq_eq_false_iff_ne.2 OX
    have nb':(e5 != 0)=true:=by simp [OX]
    rw [if_neg OX] at hF2
    obtain ⟨rfl,q⟩:=Prod.mk.inj (Option.some.inj hF2)
    obtain ⟨rfl,rfl⟩:=Prod.mk.inj q
    clear hF2 q HX yI OX
    go_upto_region 22 with (skip;refine wpList_store_row rfl 44 (.tmp 15) (.tmp 104) rfl gM (cellsS s5 CP CJ) rfl rfl 44 _ hzz (by kernel_rfl) rfl hone ?_)
    have Fb:=ae.mk ((Np.out.below xg.out).keep (Keep.setRow hzz (cellsS s5 CP CJ)))
    have Hg:=ae.mk ((RZ.out.below xg.out).gJ gM (cellsS s5 CP CJ) YL)
    have aba:=ae.mk ((RU.out.below xg.out).gJ (h:=gM) (cellsS s5 CP CJ) YK)
    have aa5:=ae.mk ((RI.out.below xg.out).gJ (h:=gM) (cellsS s5 CP CJ) YJ)
    have Ht:=ae.mk (hzz.setRow (cellsS s5 CP CJ))
    clear Np xg hzz hone hxx hgg RZ RU RI
    change Code.wp _ _ _ _ (wx3.setRow gM (cellsS s5 CP CJ))
    generalize wx3.setRow gM (cellsS s5 CP CJ)=W7 at Fb Hg aba aa5 Ht ⊢
    have hs_:=Hg.out.m1
    have uK:=Hg.out.m2
    have BZ:=Lib.hid Hg.out.mb
    have oD:=HV.out.rd.one s
    go_wp2_with (first|((with_reducible refine bI (N:=108) rfl ?_);refine wpList_load_row rfl 44 (.tmp 3) rfl (G+1) rfl 44 (cellsS s vO vU) (0,0) _ hs_ Tryd.underlying44 rfl (by kernel_rfl) ?_)|(skip;refine wpList_store_row rfl 44 (.tmp 4) (.tmp 108) rfl (G+1+1) (cellsS s vO vU) rfl rfl 44 _ uK (by kernel_rfl) rfl oD ?_))
    (try simp only [Exit.inBlock,Exit.then])
    refine bodyPost_ret (iG rfl _ _ (G+1+1) 44 _ (0,0) _ rfl (Bk.setRow uK (cellsS s vO vU)) Tryd.underlying44 rfl (by kernel_rfl)) rfl ?_
    have hb3:=dF (g:=G+2) BZ.out (by omega) (cellsS s vO vU)
    exact ⟨_,_,rfl,HV.out.below (by first|(rw [hG];exact hb3)|exact hb3),by first|exact hb3|(rw [hG];exact hb3)⟩
end Go.Proofs.YtlemecdddhdagaaDoor.P
end
section
namespace Go.Proofs.YtlemecdddhdagaaDoor.P
open Go.RowKit Go.Proofs.af.bD Go.Proofs.af.dB Go.Proofs.af.dM
open Classical in
noncomputable def wP (k:Nat) (l0:List ByteArray) (a1 a2:ByteArray) (l3:List iw) (s:St):Option (St × Bool × Int):=if Small s then (az.f k l0 a1 a2 l3).bind fun c=>uF (Zr k l0 a1 a2 l3) l3 c.2 s else none
theorem Pm {k:Nat} {l0:List ByteArray} {a1 a2:ByteArray} {l3:List iw} {s:St} {r:St × Bool × Int} (h:wP k l0 a1 a2 l3 s=some r):Small s∧∃ e1 e2,az.f k l0 a1 a2 l3=some (e1,e2)∧uF (Zr k l0 a1 a2 l3) l3 e2 s=some r:=by
  unfold wP at h
  split at h
  · obtain ⟨⟨e1,e2⟩,h1,h2⟩:=Option.bind_eq_some_iff.1 h
    exact ⟨‹_›,e1,e2,h1,h2⟩
  · cases h
theorem alX (w:World):qM zV (.slice none 0 0) (.slice none 0 0) w :=
  ⟨⟨none,0,[],rfl,Nat.le_refl _,rfl,fun wF _=>Kd.Nu kH wF,fun j hj=>absurd hj (Nat.not_lt_zero j)⟩,none,0,rfl,Nat.le_refl _,fun wF _=>Kd.Nu (Kd.int .i64) wF⟩
end Go.Proofs.YtlemecdddhdagaaDoor.P
end
section
namespace Go.Proofs.YtlemecdddhdagaaDoor.P
open Go.RowKit Go.Proofs.af.bD Go.Proofs.af.dB Go.Proofs.af.dM
attribute [local go_sem ↓] Go.wp_at_zero Go.wp_at_succ
theorem TU (l:List Int) (hl:l.length≤1000000):∃ k,dm.f k l l=some true:=by
  have loop:∀ d i:Nat,i+d=l.length→dm.l0 (d+1) l l i=some true:=fun d=>by
    induction d with
    | zero =>
      intro i hi
      simp only [dm.l0]
      rw [if_neg (by omega)]
    | succ d ih =>
      intro i hi
      rw [dm.l0,if_pos (by omega),if_pos (by omega),if_pos (by omega),if_pos rfl,show wrap64 ((i:Int)+1)=((i+1:Nat):Int) by unfold wrap64;omega]
      exact ih (i+1) (by omega)
  exact ⟨l.length+1,by unfold dm.f;rw [if_pos rfl];exact loop l.length 0 (by omega)⟩
end Go.Proofs.YtlemecdddhdagaaDoor.P
end
section
namespace Go.Proofs.YtlemecdddhdagaaDoor.P
open Go.RowKit Go.Proofs.af.bD Go.Proofs.af.dB Go.Proofs.af.dM
attribute [local go_sem ↓] Go.wp_at_zero Go.wp_at_succ
def Ru (step Yj:St→Option (St × Bool × Int)):Nat→St→Prop
  | 0,_=>True
  | n+1,s=>∃ t d e,step s=some (t,d,e)∧Yj s=some (t,d,e)∧Small t∧(d=false∧e=0→Ru step Yj n t)
def modelSteps.ok (k:Nat) (l0:List ByteArray) (a1 a2:ByteArray) (l3:List iw) (fuel:Nat):Prop :=
  gW.f k=some true∧∃ fw,df.f k l0 a1 a2 l3=some fw∧(fw=true→Ru (stepS k l0 a1 a2 l3) (wP k l0 a1 a2 l3) (fuel % 200+1) zV)
end Go.Proofs.YtlemecdddhdagaaDoor.P
end
section
namespace Go.Proofs.YtlemecdddhdagaaDoor.P
open Go.RowKit Go.Proofs.af.bD Go.Proofs.af.dB Go.Proofs.af.dM
attribute [local go_sem ↓] Go.wp_at_zero Go.wp_at_succ
noncomputable def Ak.f (k:Nat) (l0:List ByteArray) (a1 a2:ByteArray) (l3:List iw) (fuel:Int):Option (List Int × Int) :=
  (az.f k l0 a1 a2 l3).bind fun c=>if c.2=0 then if fuel < 0 then some ([],2) else (kE (wP k l0 a1 a2 l3) fuel k zV 0).bind fun p=>some (p.1.out,p.2) else some ([],2)
set_option maxRecDepth 100000 in
set_option maxHeartbeats 6400000 in
theorem Ak.calls (k:Nat) (A0:Option Addr) (c0:Nat) (l0:List ByteArray) (a1 a2:ByteArray) (A3:Option Addr) (c3:Nat) (l3:List iw) (fuel:Int) (rl:List Int) (re:Int) (w:World) (hr0:Kd.C Kd.string w A0 l0.length l0) (hc0:l0.length≤c0) (hr3:Kd.C uq w A3 l3.length l3) (hc3:l3.length≤c3) (Yr:Kd.C wM w wO oz.length oz)
    (hf:fuel≤1000) (h:Ak.f k l0 a1 a2 l3 fuel=some (rl,re)) :
    Calls Tryd.prog 16 #[.agg #[.slice A0 l0.length c0,.string a1,.string a2,.slice A3 l3.length c3],.int .i64 fuel] w fun e w'=>∃ A c,e=.returned (.tuple #[.slice A rl.length c,.int .i64 re])∧rl.length≤c∧Kd.C (Kd.int .i64) w' A rl.length rl∧Below w.heap.size w w':=by
  obtain ⟨⟨f1,f2⟩,hck,h1⟩:=Option.bind_eq_some_iff.1 h
  obtain ⟨G,hG⟩:∃ G,w.heap.size=G:=⟨_,rfl⟩
  obtain ⟨wb,hwb⟩:∃ wb,w.alloc (.cells #[.slice A0 l0.length c0,.string a1,.string a2,.slice A3 l3.length c3] 25)=wb:=⟨_,rfl⟩
  have hB1:Below w.heap.size w wb:=by rw [← hwb];exact (Below.refl _ w).alloc (Nat.le_refl _) _
  have hb0:Bk wb G #[.slice A0 l0.length c0,.string a1,.string a2,.slice A3 l3.length c3] 25:=by rw [← hwb,← hG];exact Bk.new w _ _
  have HH:=ae.mk h1
  have HR0:=ae.mk (Kd.bJ hr0 hB1)
  have HR3:=ae.mk (Kd.bJ hr3 hB1)
  have Nq:=ae.mk (Kd.bJ Yr hB1)
  have HB1:=ae.mk hB1
  have K0:=ae.mk hb0
  have HCK:=ae.mk hck
  have q0:wb.cell? ⟨G,0,none⟩=some (.slice A0 l0.length c0):=hb0.cell 0
  have q1:wb.cell? ⟨G,1,none⟩=some (.string a1):=hb0.cell 1
  have q2:wb.cell? ⟨G,2,none⟩=some (.string a2):=hb0.cell 2
  have q3:wb.cell? ⟨G,3,none⟩=some (.slice A3 l3.length c3):=hb0.cell 3
  clear h1 h hr0 hr3 Yr hck hB1 hb0
  go_enter Tryd.func16,Tryd.ntmps16
  go_upto_region 999 with (fail)
  refine (az.calls k A0 c0 l0 a1 a2 A3 c3 l3 f1 f2 wb HR0.out hc0 HR3.out hc3 Nq.out HCK.out).mono ?_
  rintro e W1 ⟨rfl,hbb⟩
  replace HR0:=ae.mk (Kd.bJ HR0.out hbb)
  replace HR3:=ae.mk (Kd.bJ HR3.out hbb)
  replace Nq:=ae.mk (Kd.bJ Nq.out hbb)
  replace K0:=ae.mk (K0.out.below hbb)
  replace HB1:=ae.mk (show Below w.heap.size w W1 from HB1.out.trans (hbb.mono HB1.out.size))
  have hs2:G+1≤W1.heap.size:=K0.out.lt
  clear hbb q0 q1 q2 q3 hwb
  have OY:=HH.out
  by_cases he2:f2=0
  case neg =>
    have nb:(f2 == 0)=false:=beq_eq_false_iff_ne.2 he2
    have nb':(f2 != 0)=true:=by simp [he2]
    rw [if_neg he2] at OY
    obtain ⟨rfl,rfl⟩:=Prod.mk.inj (Option.some.inj OY)
    clear OY HH he2
    go_wp2
    go_ret2
    exact ⟨none,0,rfl,Nat.le_refl _,Kd.Nu _ _,HB1.out⟩
  subst he2
  rw [if_pos rfl] at OY
  by_cases hn:fuel < 0
  case pos =>
    have nd:decide (fuel < 0)=true:=decide_eq_true hn
    rw [if_pos hn] at OY
    obtain ⟨rfl,rfl⟩:=Prod.mk.inj (Option.some.inj OY)
    clear OY HH hn
    go_wp2
    go_ret2
    exact ⟨none,0,rfl,Nat.le_refl _,Kd.Nu _ _,HB1.out⟩
  have nd:decide (fuel < 0)=false:=decide_eq_false hn
  rw [if_neg hn] at OY
  obtain ⟨⟨sE,eE⟩,hpc,OY⟩:=Option.bind_eq_some_iff.1 OY
  obtain ⟨rfl,rfl⟩:=Prod.mk.inj (Option.some.inj OY)
  have HPC:=ae.mk hpc
  have HF0:=Lib.hid (show 0≤fuel by omega)
  clear OY HH hpc hn
  obtain ⟨b,hb⟩:∃ b,W1.heap.size=b:=⟨_,rfl⟩
  obtain ⟨Wz,YI⟩:∃ Wz,W1.alloc (.cells #[.int .i64 0,.int .i64 0,.int .i64 0,.int .i64 0,.int .i64 0,.int .i64 0,.int .i64 0,.int .i64 0,.int .i64 0,.int .i64 0,.int .i64 0,.int .i64 0,.int .i64 0,.int .i64 0,.int .i64 0,.int .i64 0,.int .i64 0,.int .i64 0,.int .i64 0,.int .i64 0,.slice none 0 0,.slice none 0 0,.int .i64 0,.int .i64 0] 44)=Wz:=⟨_,rfl⟩
  have hzb:Bk Wz b #[.int .i64 0,.int .i64 0,.int .i64 0,.int .i64 0,.int .i64 0,.int .i64 0,.int .i64 0,.int .i64 0,.int .i64 0,.int .i64 0,.int .i64 0,.int .i64 0,.int .i64 0,.int .i64 0,.int .i64 0,.int .i64 0,.int .i64 0,.int .i64 0,.int .i64 0,.int .i64 0,.slice none 0 0,.slice none 0 0,.int .i64 0,.int .i64 0] 44:=by rw [← YI,← hb];exact Bk.new W1 _ _
  have sZ:ae (Bk Wz b (cellsS zV (.slice none 0 0) (.slice none 0 0)) 44):=⟨hzb⟩
  have HT0:ae (qM zV (.slice none 0 0) (.slice none 0 0) Wz):=⟨alX Wz⟩
  have HBz:ae (Below W1.heap.size W1 Wz):=⟨by rw [← YI];exact (Below.refl _ W1).alloc (Nat.le_refl _) _⟩
  clear hzb
  go_wp2
  have hG2:=hs2
  have acF:W1.heap.size≤b:=Nat.le_of_eq hb
  clear YI
  go_loopg [9] k (fun kq iv wr=>∃ (s:St) (vP vV:Value) (i:Int),iv=.int .i64 i∧ae (kE (wP k l0 a1 a2 l3) fuel kq s i=some (sE,eE))∧ae (0≤i∧i≤fuel+1)∧ae (Bk wr b (cellsS s vP vV) 44)∧ae (qM s vP vV wr)∧ae (Below W1.heap.size W1 wr))
  case atStart=>exact ⟨_,_,_,0,rfl,HPC,⟨by have:=HF0.out;omega⟩,sZ,HT0,HBz⟩
  case round =>
  clear HPC sZ HT0 HBz Wz
  obtain ⟨s,vP,vV,i,rfl,HPC,HI,HC,HT,HB⟩:=hrel
  cases gk with
  | zero=>exact absurd HPC.out (by simp [kE])
  | succ gk =>
  have hP:=HPC.out
  rw [kE] at hP
  clear HPC
  obtain ⟨AO,cO,rfl,Ob,hO⟩:=HT.out.rd.aW
  obtain ⟨AV,cV,rfl,hcV,hU⟩:=HT.out.rd.out
  have HU:=Lib.hid hU
  have HCV:=Lib.hid hcV
  clear Ob hO hU hcV
  by_cases hle:i≤fuel
  case neg =>
    rw [if_neg hle] at hP
    obtain ⟨rfl,rfl⟩:=Prod.mk.inj (Option.some.inj hP)
    have hd0:decide (i≤fuel)=false:=decide_eq_false hle
    have k21:wr.cell? ⟨b,21,none⟩=some (.slice AV s.out.length cV):=HC.out.cell 21
    clear hP hle
    go_wp2
    go_ret2
    exact ⟨_,_,rfl,HCV.out,HU.out,by have q:=HB1.out.trans (HB.out.mono HB1.out.size);first|exact q|(rw [hG] at q;exact q)⟩
  rw [if_pos hle] at hP
  obtain ⟨⟨s1,dn,e1'⟩,hrs,hP⟩:=Option.bind_eq_some_iff.1 hP
  simp only at hP
  have HP:=ae.mk hP
  have HSR:=Lib.hid (Pm hrs)
  have hd0:decide (i≤fuel)=true:=decide_eq_true hle
  have HLE:=Lib.hid hle
  clear hP hrs hle
  have p0:wr.cell? ⟨G,0,none⟩=some (.slice A0 l0.length c0):=(HB.out.cell (p:=⟨G,0,none⟩) hG2).trans (K0.out.cell 0)
  have p1:wr.cell? ⟨G,1,none⟩=some (.string a1):=(HB.out.cell (p:=⟨G,1,none⟩) hG2).trans (K0.out.cell 1)
  have p2:wr.cell? ⟨G,2,none⟩=some (.string a2):=(HB.out.cell (p:=⟨G,2,none⟩) hG2).trans (K0.out.cell 2)
  have p3:wr.cell? ⟨G,3,none⟩=some (.slice A3 l3.length c3):=(HB.out.cell (p:=⟨G,3,none⟩) hG2).trans (K0.out.cell 3)
  have kk:=HC.out
  obtain ⟨hsm,g1,g2,hck,hsx⟩:=HSR.out
  have afa:=Lib.hid hck
  have HSX:=Lib.hid hsx
  have HSM:=Lib.hid hsm
  clear hck hsx hsm HSR
  go_upto_region 999 with (((with_reducible refine bI (N:=31) rfl ?_);refine wpList_load_row rfl 44 (.tmp 8) rfl b rfl 44 (cellsS s (.slice AO s.aW.length cO) (.slice AV s.out.length cV)) (0,0) _ kk Tryd.underlying44 rfl (by kernel_rfl) ?_))
  refine (BQ k A0 c0 l0 a1 a2 A3 c3 l3 s s1 dn e1' _ _ wr (Kd.bJ HR0.out HB.out) hc0 (Kd.bJ HR3.out HB.out) hc3 (Kd.bJ Nq.out HB.out) HT.out HSM.out g1 g2 afa.out HSX.out).mono ?_
  rintro e wq ⟨O8,O7,rfl,hT1,hB1⟩
  obtain ⟨y,hy⟩:∃ y,wq.heap.size=y:=⟨_,rfl⟩
  obtain ⟨wx,hwx⟩:∃ wx,wq.alloc (.cells #[.int .i64 0,.int .i64 0,.int .i64 0,.int .i64 0,.int .i64 0,.int .i64 0,.int .i64 0,.int .i64 0,.int .i64 0,.int .i64 0,.int .i64 0,.int .i64 0,.int .i64 0,.int .i64 0,.int .i64 0,.int .i64 0,.int .i64 0,.int .i64 0,.int .i64 0,.int .i64 0,.slice none 0 0,.slice none 0 0,.int .i64 0,.int .i64 0] 44)=wx:=⟨_,rfl⟩
  have hzy:Bk wx y #[.int .i64 0,.int .i64 0,.int .i64 0,.int .i64 0,.int .i64 0,.int .i64 0,.int .i64 0,.int .i64 0,.int .i64 0,.int .i64 0,.int .i64 0,.int .i64 0,.int .i64 0,.int .i64 0,.int .i64 0,.int .i64 0,.int .i64 0,.int .i64 0,.int .i64 0,.int .i64 0,.slice none 0 0,.slice none 0 0,.int .i64 0,.int .i64 0] 44:=by rw [← hwx,← hy];exact Bk.new wq _ _
  have hbx:Below wq.heap.size wq wx:=by rw [← hwx];exact (Below.refl _ wq).alloc (Nat.le_refl _) _
  have hone:=hT1.rd.one s1
  have hBq:Below wr.heap.size wr (wx.setRow y (cellsS s1 O8 O7)):=dF (hB1.trans (hbx.mono hB1.size)) (by rw [← hy];exact hB1.size) _
  have HC1:=ae.mk (hzy.setRow (cellsS s1 O8 O7))
  have HT1:=ae.mk ((hT1.below hbx).keep (Keep.setRow hzy (cellsS s1 O8 O7)))
  replace HC:=ae.mk (HC.out.of (hBq.block b HC.out.lt))
  replace HT:=ae.mk (HT.out.below hBq)
  replace HU:=Lib.hid (Kd.bJ HU.out hBq)
  replace HB:=ae.mk (HB.out.trans (hBq.mono HB.out.size))
  clear hT1 hB1 hBq hbx kk p0 p1 p2 p3 afa HSX
  go_upto_region 9 with (skip;refine wpList_store_row rfl 44 (.tmp 10) (.tmp 33) rfl y (cellsS s1 O8 O7) rfl rfl 44 _ hzy (by kernel_rfl) rfl hone ?_)
  clear hone hzy hwx hy
  change Code.wp _ _ _ _ (wx.setRow y (cellsS s1 O8 O7))
  generalize wx.setRow y (cellsS s1 O8 O7)=wt at HC HT HU HB HC1 HT1 ⊢
  have k21:wt.cell? ⟨b,21,none⟩=some (.slice AV s.out.length cV):=HC.out.cell 21
  have hP:=HP.out
  cases dn with
  | true =>
    rw [if_pos rfl] at hP
    obtain ⟨rfl,rfl⟩:=Prod.mk.inj (Option.some.inj hP)
    clear hP HP
    go_wp2
    go_ret2
    exact ⟨_,_,rfl,HCV.out,HU.out,by have q:=HB1.out.trans (HB.out.mono HB1.out.size);first|exact q|(rw [hG] at q;exact q)⟩
  | false =>
  rw [if_neg (by decide)] at hP
  by_cases he:e1'=0
  case neg =>
    have nb:(e1' == 0)=false:=beq_eq_false_iff_ne.2 he
    have nb':(e1' != 0)=true:=by simp [he]
    rw [if_neg he] at hP
    obtain ⟨rfl,rfl⟩:=Prod.mk.inj (Option.some.inj hP)
    clear hP HP he
    go_wp2
    go_ret2
    exact ⟨_,_,rfl,HCV.out,HU.out,by have q:=HB1.out.trans (HB.out.mono HB1.out.size);first|exact q|(rw [hG] at q;exact q)⟩
  subst he
  rw [if_pos rfl] at hP
  have hi':wrap64 (i+1)=i+1:=by have:=HI.out;unfold wrap64;omega
  have HI2:=Lib.hid hi'
  have HII:=ae.mk (show 0≤wrap64 (i+1)∧wrap64 (i+1)≤fuel+1 by rw [hi'];have:=HI.out;have:=HLE.out;omega)
  clear k21 hi'
  by_cases hlt:i < fuel
  case pos =>
    have hdl:decide (i < fuel)=true:=decide_eq_true hlt
    rw [if_pos hlt] at hP
    have RQ:=ae.mk hP
    have kb:=HC.out
    have ky:=HC1.out
    have hone:=HT1.out.rd.one s1
    have HCn:=ae.mk (HC.out.setRow (cellsS s1 O8 O7))
    have HTn:=ae.mk (HT1.out.keep (Keep.setRow HC.out (cellsS s1 O8 O7)))
    have HBn:=ae.mk (dF HB.out acF (cellsS s1 O8 O7))
    clear hP HP HC HC1 HT HT1 HB HU HCV HI hlt HLE HSM
    go_wp2_with (first|((with_reducible refine bI (N:=47) rfl ?_);refine wpList_load_row rfl 44 (.tmp 10) rfl y rfl 44 (cellsS s1 O8 O7) (0,0) _ ky Tryd.underlying44 rfl (by kernel_rfl) ?_)|(skip;refine wpList_store_row rfl 44 (.tmp 8) (.tmp 47) rfl b (cellsS s1 O8 O7) rfl rfl 44 _ kb (by kernel_rfl) rfl hone ?_))
    go_roundg gk
    case measure=>omega
    case rel=>exact ⟨s1,_,_,_,rfl,RQ,HII,HCn,HTn,HBn⟩
  case neg =>
    have hdl:decide (i < fuel)=false:=decide_eq_false hlt
    rw [if_neg hlt] at hP
    have RQ:=ae.mk hP
    clear hP HP HC1 HT1 HU HCV HI hlt HLE HSM
    go_wp2
    go_roundg gk
    case measure=>omega
    case rel=>exact ⟨s,_,_,_,rfl,RQ,HII,HC,HT,HB⟩
end Go.Proofs.YtlemecdddhdagaaDoor.P
end
section
namespace Go.Proofs.YtlemecdddhdagaaDoor.P
open Go.RowKit Go.Proofs.af.bD Go.Proofs.af.dB Go.Proofs.af.dM
attribute [local go_sem ↓] Go.wp_at_zero Go.wp_at_succ
def modelRuns.ok (k:Nat) (l0:List ByteArray) (a1 a2:ByteArray) (l3:List iw) (fuel:Int):Prop :=
  gW.f k=some true∧∃ fw,df.f k l0 a1 a2 l3=some fw∧(fw=true→∃ rl re,fU.f k l0 a1 a2 l3 fuel=some (rl,re)∧Ak.f k l0 a1 a2 l3 fuel=some (rl,re)∧rl.length≤1000000)
set_option maxRecDepth 100000 in
set_option maxHeartbeats 6400000 in
theorem modelRuns.calls (k:Nat) (A0:Option Addr) (c0:Nat) (l0:List ByteArray) (a1 a2:ByteArray) (A3:Option Addr) (c3:Nat) (l3:List iw) (fuel:Int) (w:World) (hr0:Kd.C Kd.string w A0 l0.length l0) (hc0:l0.length≤c0) (hr3:Kd.C uq w A3 l3.length l3) (hc3:l3.length≤c3) (lQ:Kd.C Kd.string w qZ kP.length kP) (Yr:Kd.C wM w wO oz.length oz)
    (hf0:-128≤fuel) (hf1:fuel≤127) (h:modelRuns.ok k l0 a1 a2 l3 fuel) :
    Calls Tryd.prog 6 #[.agg #[.slice A0 l0.length c0,.string a1,.string a2,.slice A3 l3.length c3],.int .i8 fuel] w fun e w'=>e=.returned (.bool true)∧Below w.heap.size w w':=by
  obtain ⟨hal,fw,hfw,h1⟩:=h
  obtain ⟨G,hG⟩:∃ G,w.heap.size=G:=⟨_,rfl⟩
  obtain ⟨wb,hwb⟩:∃ wb,w.alloc (.cells #[.slice A0 l0.length c0,.string a1,.string a2,.slice A3 l3.length c3] 25)=wb:=⟨_,rfl⟩
  have hB1:Below w.heap.size w wb:=by rw [← hwb];exact (Below.refl _ w).alloc (Nat.le_refl _) _
  have hb0:Bk wb G #[.slice A0 l0.length c0,.string a1,.string a2,.slice A3 l3.length c3] 25:=by rw [← hwb,← hG];exact Bk.new w _ _
  have HH:=ae.mk h1
  have HR0:=ae.mk (Kd.bJ hr0 hB1)
  have HR3:=ae.mk (Kd.bJ hr3 hB1)
  have yT:=ae.mk (Kd.bJ lQ hB1)
  have Nq:=ae.mk (Kd.bJ Yr hB1)
  have HAL:=ae.mk hal
  have HFW:=ae.mk hfw
  have HB1:=ae.mk hB1
  have K0:=ae.mk hb0
  have e1:IntKind.i64.wrap fuel=fuel:=IntWalk.i64_in _ (by omega)
  clear h1 hr0 hr3 lQ Yr hal hfw hB1 hb0
  go_enter Tryd.func6,Tryd.ntmps6
  go_upto_region 999 with (fail)
  refine (gW.calls k true wb yT.out HAL.out).mono ?_
  rintro e w1 ⟨rfl,hbb⟩
  replace HR0:=ae.mk (Kd.bJ HR0.out hbb)
  replace HR3:=ae.mk (Kd.bJ HR3.out hbb)
  replace yT:=ae.mk (Kd.bJ yT.out hbb)
  replace Nq:=ae.mk (Kd.bJ Nq.out hbb)
  replace K0:=ae.mk (K0.out.below hbb)
  replace HB1:=ae.mk (show Below w.heap.size w w1 from HB1.out.trans (hbb.mono HB1.out.size))
  have q0:w1.cell? ⟨G,0,none⟩=some (.slice A0 l0.length c0):=K0.out.cell 0
  have q1:w1.cell? ⟨G,1,none⟩=some (.string a1):=K0.out.cell 1
  have q2:w1.cell? ⟨G,2,none⟩=some (.string a2):=K0.out.cell 2
  have q3:w1.cell? ⟨G,3,none⟩=some (.slice A3 l3.length c3):=K0.out.cell 3
  clear hbb HAL hwb
  go_upto_region 999 with (fail)
  refine (df.calls k A0 c0 l0 a1 a2 A3 c3 l3 fw w1 HR0.out hc0 HR3.out hc3 HFW.out).mono ?_
  rintro e w2 ⟨rfl,hbb⟩
  replace hbb:Below w1.heap.size w1 w2:=by first|exact hbb|exact hbb.below
  replace HR0:=ae.mk (Kd.bJ HR0.out hbb)
  replace HR3:=ae.mk (Kd.bJ HR3.out hbb)
  replace yT:=ae.mk (Kd.bJ yT.out hbb)
  replace Nq:=ae.mk (Kd.bJ Nq.out hbb)
  replace K0:=ae.mk (K0.out.below hbb)
  replace HB1:=ae.mk (show Below w.heap.size w w2 from HB1.out.trans (hbb.mono HB1.out.size))
  clear hbb HFW q0 q1 q2 q3
  cases fw with
  | false =>
    clear HH
    go_wp2
    go_ret
    exact ⟨rfl,by have q:=HB1.out;first|exact q|(rw [hG] at q;exact q)⟩
  | true =>
  obtain ⟨rl,re,hrun,ace,hlen⟩:=HH.out rfl
  have aeZ:=ae.mk hrun
  have ae2:=ae.mk ace
  have HLEN:=Lib.hid hlen
  clear hrun ace hlen HH
  have q0:w2.cell? ⟨G,0,none⟩=some (.slice A0 l0.length c0):=K0.out.cell 0
  have q1:w2.cell? ⟨G,1,none⟩=some (.string a1):=K0.out.cell 1
  have q2:w2.cell? ⟨G,2,none⟩=some (.string a2):=K0.out.cell 2
  have q3:w2.cell? ⟨G,3,none⟩=some (.slice A3 l3.length c3):=K0.out.cell 3
  go_upto_region 999 with (fail)
  refine (fU.calls k A0 c0 l0 a1 a2 A3 c3 l3 fuel rl re w2 HR0.out hc0 HR3.out hc3 yT.out aeZ.out).mono ?_
  rintro e w3 ⟨vL,rfl,hL,hbb⟩
  obtain ⟨AL,cL,rfl⟩:=Kd.jR hL
  replace HR0:=ae.mk (Kd.bJ HR0.out hbb)
  replace HR3:=ae.mk (Kd.bJ HR3.out hbb)
  replace yT:=ae.mk (Kd.bJ yT.out hbb)
  replace Nq:=ae.mk (Kd.bJ Nq.out hbb)
  replace K0:=ae.mk (K0.out.below hbb)
  replace HB1:=ae.mk (show Below w.heap.size w w3 from HB1.out.trans (hbb.mono HB1.out.size))
  have HL:=ae.mk hL
  clear hbb aeZ q0 q1 q2 q3 hL
  have q0:w3.cell? ⟨G,0,none⟩=some (.slice A0 l0.length c0):=K0.out.cell 0
  have q1:w3.cell? ⟨G,1,none⟩=some (.string a1):=K0.out.cell 1
  have q2:w3.cell? ⟨G,2,none⟩=some (.string a2):=K0.out.cell 2
  have q3:w3.cell? ⟨G,3,none⟩=some (.slice A3 l3.length c3):=K0.out.cell 3
  go_upto_region 999 with (fail)
  refine (Ak.calls k A0 c0 l0 a1 a2 A3 c3 l3 fuel rl re w3 HR0.out hc0 HR3.out hc3 Nq.out (by omega) ae2.out).mono ?_
  rintro e w4 ⟨AM,cM,rfl,hcM,hM,hbb⟩
  replace HB1:=ae.mk (show Below w.heap.size w w4 from HB1.out.trans (hbb.mono HB1.out.size))
  have HL4:=ae.mk (Kd.bJ (Kd.dW HL.out).2.2 hbb)
  have HM:=Lib.hid hM
  have HCM:=Lib.hid hcM
  clear hbb ae2 q0 q1 q2 q3 hM hcM
  obtain ⟨kn,hkn⟩:=TU rl HLEN.out
  have HKN:=Lib.hid hkn
  clear hkn
  go_upto_region 999 with (fail)
  refine (dm.calls kn AL cL rl AM cM rl true w4 HL4.out (Kd.dW HL.out).2.1 HM.out HCM.out HKN.out).mono ?_
  rintro e w5 ⟨rfl,hbb⟩
  have HB2:=Lib.hid (HB1.out.trans (hbb.below.mono HB1.out.size))
  clear hbb HL HL4 HM HCM HKN HLEN
  go_wp2
  go_ret
  exact ⟨rfl,by have q:=HB2.out;first|exact q|(rw [hG] at q;exact q)⟩
end Go.Proofs.YtlemecdddhdagaaDoor.P
end
section
namespace Go.Proofs.YtlemecdddhdagaaDoor.P
open Go.RowKit Go.Proofs.af.bD Go.Proofs.af.dB Go.Proofs.af.dM
section
variable {t:List ByteArray} {lo gl:ByteArray} {code:List iw}
theorem Zq (ht:t.length≤9223372036854775807) (hts:∀ i:Int,(dY ByteArray.empty t i).size≤9223372036854775807):∃ K,∀ k,K≤k→∀ a,dO (Pj t lo a) (Zr k t lo gl code a):=by
  have one:∀ a:Nat,a < 256→∃ K,∀ k,K≤k→Zr k t lo gl code a=some (jy t (dw t lo a)):=fun a ha =>
    Ev.bind (xA t ht hts lo gl code a (by omega) (by omega)) (JQ t ht hts _)
  have many:∀ m:Nat,m≤256→∃ K,∀ k,K≤k→∀ a:Nat,a < m→Zr k t lo gl code a=some (jy t (dw t lo a)):=fun m=>by
    induction m with
    | zero=>exact fun _=>⟨0,fun _ _ a ha=>absurd ha (Nat.not_lt_zero a)⟩
    | succ m ih =>
      intro hm
      obtain ⟨K1,h1⟩:=ih (by omega)
      obtain ⟨K2,h2⟩:=one m (by omega)
      refine ⟨max K1 K2,fun k hk a ha=>?_⟩
      by_cases ham:a=m
      · rw [ham]
        exact h2 k (by omega)
      · exact h1 k (by omega) a (by omega)
  obtain ⟨K,hK⟩:=many 256 (Nat.le_refl _)
  refine ⟨K,fun k hk a=>?_⟩
  unfold Pj
  by_cases ha:0≤a∧a≤255
  · obtain ⟨m,rfl⟩:=Int.eq_ofNat_of_zero_le ha.1
    rw [if_pos ha,hK k hk m (by omega)]
    exact dO.refl _
  · rw [if_neg ha]
    exact dO.none _
theorem NG (ht:t.length≤9223372036854775807) (hts:∀ i:Int,(dY ByteArray.empty t i).size≤9223372036854775807) (hs:lo.size+gl.size≤9223372036854775807) (hc:code.length≤9223372036854775807) (hw:Wf code) (hwn:WfN code):∃ K,∀ k,K≤k→∀ s,dO (step0 t lo gl code s) (wP k t lo gl code s):=by
  obtain ⟨K1,h1⟩:=GM t lo gl code ht hts hc hw hwn (by omega) (by omega)
  obtain ⟨K2,h2⟩:=Zq (t:=t) (lo:=lo) (gl:=gl) (code:=code) ht hts
  refine ⟨max K1 K2,fun k hk s=>?_⟩
  unfold step0 wP
  by_cases hsm:Small s
  case neg =>
    rw [if_neg hsm]
    exact dO.none _
  rw [if_pos hsm,if_pos hsm]
  have e1:az.f k t lo gl code=some (oh t lo gl code):=h1 k (by omega)
  rw [e1]
  exact H6 (h2 k (by omega)) _ s
theorem Il (ht:t.length≤9223372036854775807) (hts:∀ i:Int,(dY ByteArray.empty t i).size≤9223372036854775807) (hs:lo.size+gl.size≤9223372036854775807) (hc:code.length≤9223372036854775807) (hw:Wf code) (hwn:WfN code) {fuel:Int} {K:Nat} {r:St × Int} (hr:kE (step0 t lo gl code) fuel K zV 0=some r) :
    Ev (fun k=>kE (wP k t lo gl code) fuel k zV 0) r:=by
  obtain ⟨K1,h1⟩:=NG ht hts hs hc hw hwn
  refine ⟨max K1 (K+1),fun k hk=>?_⟩
  have q:kE (wP k t lo gl code) fuel (K+1) zV 0=some r:=uf (h1 k (by omega)) fuel K zV 0 r hr
  exact yD (g:=fun n=>kE (wP k t lo gl code) fuel n zV 0) (fun n=>uf (fun _=>dO.refl _) fuel n zV 0) (by omega) q
end
theorem AA (t:List ByteArray) (lo gl:ByteArray) (code:List iw) (fuel:Int) (ht:t.length≤9223372036854775807) (hts:∀ i:Int,(dY ByteArray.empty t i).size≤9223372036854775807) (hs:lo.size+gl.size≤9223372036854775807) (hc:code.length≤9223372036854775807) (hw:Wf code) (hwn:WfN code)
    (hf1:fuel≤127):∃ k,modelRuns.ok k t lo gl code fuel:=by
  have key:∃ l e,Ev (fun k=>fU.f k t lo gl code fuel) (l,e)∧Ev (fun k=>Ak.f k t lo gl code fuel) (l,e)∧l.length≤1000000:=by
    have hc5:=GM t lo gl code ht hts hc hw hwn (by omega) (by omega)
    by_cases hok:(oh t lo gl code).2=0
    · by_cases hneg:fuel < 0
      · refine ⟨[],2,Ev.bind (ET t lo gl code ht hs hc hw) ?_,Ev.bind hc5 ?_,by simp⟩
        · exact Ev.congr (fun k=>(if_pos hok).trans (if_pos hneg)) (Ev.now _)
        · exact Ev.congr (fun k=>(if_pos hok).trans (if_pos hneg)) (Ev.now _)
      · obtain ⟨f,rfl⟩:=Int.eq_ofNat_of_zero_le (show 0≤fuel by omega)
        obtain ⟨l,e,s',h1,h2,h3,h4,h5⟩:=H7 (abV hok hw) hok f (by omega) f zV 0 [] 0 (f+1) (f+2) inv0 (by omega) (Int.le_refl _) (by show (0:Int)≤_;omega) rfl (by omega) (by omega) (by omega)
        refine ⟨l,e,Zw ht hs hc hw hok (by omega) h1,Ev.bind hc5 ?_,by omega⟩
        refine Ev.congr (fun k=>(if_pos hok).trans (if_neg hneg)) (Ev.bind (Il ht hts hs hc hw hwn h2) ?_)
        rw [h3]
        exact Ev.now _
    · refine ⟨[],2,TD ht hs hc hw hok _,Ev.bind hc5 (Ev.congr (fun k=>if_neg hok) (Ev.now _)),by simp⟩
  obtain ⟨l,e,⟨K5,h5⟩,⟨K6,h6⟩,h7⟩:=key
  obtain ⟨q,hq⟩:=adC t lo gl code ht
  obtain ⟨K1,h1⟩:=hq
  obtain ⟨K2,h2⟩:=XZ
  exact ⟨max (max K1 K2) (max K5 K6),h2 _ (by omega),q,h1 _ (by omega),fun _=>⟨l,e,h5 _ (by omega),h6 _ (by omega),h7⟩⟩
end Go.Proofs.YtlemecdddhdagaaDoor.P
end
