/- Parts of the proof of CodeBack: what the functions that it reaches compute, and plain facts about that. -/
import Derived.Test.YtkclndkbccbhaaaDoorVac
import Derived.Test.YtkclndkbccbhaaaDoorVad
import Derived.Test.YtkclndkbccbhaaaDoorVaf
import Derived.Lib.SplitLaws
import Derived.Lib.IndexMore
import Derived.Lib.SlTrimSet
import Derived.Lib.Join
set_option linter.unusedVariables false
set_option linter.unusedSimpArgs false
section
namespace Go.Proofs.YtkclndkbccbhaaaDoor.P
open Go.RowKit Go.Proofs.ay.bY Go.Proofs.ay.fJ Go.Proofs.ay.gG
attribute [local go_sem] nS nP pR pO mi mg nR nO
theorem OD (d:Nat) (w:World) (x0 y0:Int) (x1 y1:Int) (x2 y2:Int) (x3 y3:Int) (x4 y4:Int) :
    (Op.equalIn (d+2) 35 (.agg #[.int .u8 x0,.int .u8 x1,.int .u8 x2,.int .u8 x3,.int .i64 x4]) (.agg #[.int .u8 y0,.int .u8 y1,.int .u8 y2,.int .u8 y3,.int .i64 y4])).run Tryd.prog w=.ok (x0 == y0 && (x1 == y1 && (x2 == y2 && (x3 == y3 && (x4 == y4))))) w:=by
  refine VI Tryd.underlying35 (by kernel_rfl) ?_
  refine wQ (by rfl) (by go_simp;rfl) (by go_simp;rfl) (by go_simp) ?_
  refine wQ (by rfl) (by go_simp;rfl) (by go_simp;rfl) (by go_simp) ?_
  refine wQ (by rfl) (by go_simp;rfl) (by go_simp;rfl) (by go_simp) ?_
  refine wQ (by rfl) (by go_simp;rfl) (by go_simp;rfl) (by go_simp) ?_
  exact OC (by rfl) (by go_simp;rfl) (by go_simp;rfl) (by go_simp)
end Go.Proofs.YtkclndkbccbhaaaDoor.P
end
section
namespace Go.Proofs.YtkclndkbccbhaaaDoor.P
open Go.RowKit Go.Proofs.ay.bY Go.Proofs.ay.fJ Go.Proofs.ay.gG
attribute [local go_sem] nS nP pR pO mi mg nR nO
attribute [local go_sem high] OD
mutual
def bZ.l0:Nat→List (List ByteArray)→List ByteArray→Int→Int→Option ((List (List ByteArray)) × Int × Int)
  | 0,_,_,_,_=>none
  | k+1,x5,x15,x16,x17=>if x17 < x16 then (if 0≤x17 then (if x17 < (x15.length:Int) then ((strings_Cut.f (iD ByteArray.empty x15 x17) (⟨#[35]⟩:ByteArray)).bind fun Zp=>((strings_Split.f Zp.1 (⟨#[32]⟩:ByteArray)).bind fun t150=>(bZ.l1 k x5 x17 ([]:List ByteArray) x15 x16 x17 t150 (t150.length:Int) 0))) else (none)) else (none)) else (some (x5,0,0))
def bZ.l1:Nat→List (List ByteArray)→Int→List ByteArray→List ByteArray→Int→Int→List ByteArray→Int→Int→Option ((List (List ByteArray)) × Int × Int)
  | 0,_,_,_,_,_,_,_,_,_=>none
  | k+1,x5,x6,x8,x15,x16,x17,x29,x30,x31=>if x31 < x30 then (if 0≤x31 then (if x31 < (x29.length:Int) then (if (iD ByteArray.empty x29 x31).toList=([]:List UInt8) then (bZ.l1 k x5 x6 x8 x15 x16 x17 x29 x30 (wrap64 (x31+1))) else ((oK.f (iD ByteArray.empty x29 x31)).bind fun t157=>(if t157=true then (if x8.length < 8796093022208 then (bZ.l1 k x5 x6 (x8++[iD ByteArray.empty x29 x31]) x15 x16 x17 x29 x30 (wrap64 (x31+1))) else (none)) else (some (([]:List (List ByteArray)),wrap64 (x6+1),4))))) else (none)) else (none)) else (if (x8.length:Int) > 0 then (if x5.length < 5864062014805 then (bZ.l0 k (x5++[x8]) x15 x16 (wrap64 (x17+1))) else (none)) else (bZ.l0 k x5 x15 x16 (wrap64 (x17+1))))
end
def bZ.f (k:Nat) (a0:ByteArray):Option ((List (List ByteArray)) × Int × Int):=if (a0.size:Int) > 20000 then (some (([]:List (List ByteArray)),0,3)) else ((strings_Split.f a0 (⟨#[10]⟩:ByteArray)).bind fun t143=>(bZ.l0 k ([]:List (List ByteArray)) t143 (t143.length:Int) 0))
theorem bZ.kZ:∀ k,(∀ y0 y1 y2 y3,gQ (bZ.l0 k y0 y1 y2 y3) (bZ.l0 (k+1) y0 y1 y2 y3))∧(∀ y0 y1 y2 y3 y4 y5 y6 y7 y8,gQ (bZ.l1 k y0 y1 y2 y3 y4 y5 y6 y7 y8) (bZ.l1 (k+1) y0 y1 y2 y3 y4 y5 y6 y7 y8))
  | 0=>⟨fun _ _ _ _ r h=>by simp [bZ.l0] at h,fun _ _ _ _ _ _ _ _ _ r h=>by simp [bZ.l1] at h⟩
  | k+1=>by
    obtain ⟨o8,ih1⟩:=bZ.kZ k
    refine ⟨?_,?_⟩
    · intro y0 y1 y2 y3
      unfold bZ.l0
      repeat' first
      | (with_reducible exact o8 _ _ _ _)
      | (with_reducible exact ih1 _ _ _ _ _ _ _ _ _)
      | (with_reducible exact gQ.refl _)
      | (with_reducible exact gQ.none _)
      | (with_reducible refine gQ.ite ?_ ?_)
      | (with_reducible refine gQ.bind ?_ (fun _=>?_))
      | exact o8 _ _ _ _
      | exact ih1 _ _ _ _ _ _ _ _ _
      | exact gQ.none _
      | refine gQ.ite ?_ ?_
      | refine gQ.bind ?_ (fun _=>?_)
    · intro y0 y1 y2 y3 y4 y5 y6 y7 y8
      unfold bZ.l1
      repeat' first
      | (with_reducible exact o8 _ _ _ _)
      | (with_reducible exact ih1 _ _ _ _ _ _ _ _ _)
      | (with_reducible exact gQ.refl _)
      | (with_reducible exact gQ.none _)
      | (with_reducible refine gQ.ite ?_ ?_)
      | (with_reducible refine gQ.bind ?_ (fun _=>?_))
      | exact o8 _ _ _ _
      | exact ih1 _ _ _ _ _ _ _ _ _
      | exact gQ.none _
      | refine gQ.ite ?_ ?_
      | refine gQ.bind ?_ (fun _=>?_)
theorem bZ.mono:∀ a0 k,gQ (bZ.f k a0) (bZ.f (k+1) a0):=by
  intro a0 k
  obtain ⟨o8,ih1⟩:=bZ.kZ k
  unfold bZ.f
  repeat' first
      | (with_reducible exact o8 _ _ _ _)
      | (with_reducible exact ih1 _ _ _ _ _ _ _ _ _)
      | (with_reducible exact gQ.refl _)
      | (with_reducible exact gQ.none _)
      | (with_reducible refine gQ.ite ?_ ?_)
      | (with_reducible refine gQ.bind ?_ (fun _=>?_))
      | exact o8 _ _ _ _
      | exact ih1 _ _ _ _ _ _ _ _ _
      | exact gQ.none _
      | refine gQ.ite ?_ ?_
      | refine gQ.bind ?_ (fun _=>?_)
set_option maxHeartbeats 8000000 in
set_option maxRecDepth 100000 in
theorem bZ.calls (k:Nat) (a0:ByteArray) (r1:List (List ByteArray)) (r2:Int) (r3:Int) (w:World) (jC:Kd.C sQ w sS kX.length kX) (h:bZ.f k a0=some (r1,r2,r3)) :
    Calls Tryd.prog 16 #[.string a0] w fun e w'=>∃ Iy:Value,e=.returned (.tuple #[Iy,.int .i64 r2,.int .i64 r3])∧Kd.S (Kd.slice 9 Kd.string) 22 w' w.heap.size (fun _=>True) Iy r1∧Below w.heap.size w w':=by
  have lu:=af.mk jC
  clear jC
  have HB:=af.mk (Below.refl w.heap.size w)
  have H:(if (a0.size:Int) > 20000 then (some (([]:List (List ByteArray)),0,3)) else ((strings_Split.f a0 (⟨#[10]⟩:ByteArray)).bind fun t143=>(bZ.l0 k ([]:List (List ByteArray)) t143 (t143.length:Int) 0)))=some (r1,r2,r3):=h
  clear h
  by_cases c2:(a0.size:Int) > 20000
  · rw [if_pos c2] at H
    have EC:decide (20000 < (a0.size:Int))=true:=decide_eq_true c2
    have Ez:decide (20000 < a0.size)=true:=decide_eq_true (by omega)
    clear c2
    simp only [Option.some.injEq,Prod.mk.injEq] at H
    obtain ⟨rfl,rfl,rfl⟩:=H
    go_enter Tryd.func16,Tryd.ntmps16
    go_wp2
    go_ret3
    exact ⟨_,by first|rfl|(simp [bT,bQ] <;> rfl)|(simp [*,bT,bQ] <;> rfl),by first|exact Kd.Gv _ _ _ _ _|exact Kd.Gx _ _ _ _ _|exact Kd.Gt _ _ _ _ _|exact Kd.Gw _ _ _ _ _|exact Kd.jH _ _ _ _ _,by repeat (first|(with_reducible first|exact HB.out|apply ah|apply ae|apply ag)|exact HB.out)⟩
  · rw [if_neg c2] at H
    have EC:decide (20000 < (a0.size:Int))=false:=decide_eq_false c2
    have Ez:decide (20000 < a0.size)=false:=decide_eq_false (by omega)
    clear c2
    replace H:=Option.bind_eq_some_iff.mp H
    obtain ⟨t143,Ah,H⟩:=H
    replace H:(bZ.l0 k ([]:List (List ByteArray)) t143 (t143.length:Int) 0)=some (r1,r2,r3):=H
    have A3:=af.mk Ah
    clear Ah
    have H':=af.mk H
    clear H
    go_enter Tryd.func16,Tryd.ntmps16
    go_wp2_with (first|((with_reducible refine bG (f:=29) rfl ?_);refine eP (some 15) rfl rfl Tryd.func29 (by kernel_rfl) rfl #[.string a0,.string (⟨#[10]⟩:ByteArray)] rfl (by (try simp only [List.map_toArray,List.map_cons,List.map_nil]);first|done|rfl|(simp only [List.length_drop,List.length_take];rfl)) ?_;(with_reducible refine (strings_Split.calls a0 (⟨#[10]⟩:ByteArray) t143 _ ?di A3.out).mono ?_);(case di=>repeat (first|exact lu.out|(with_reducible refine Kd.cZ ?_ _)|(with_reducible refine Kd.cO ?_ _)|(with_reducible refine Kd.dK ?_)));rintro e w4 ⟨ais,rfl,ho0,hb⟩;refine ⟨_,rfl,?_⟩;have dE:=af.mk (Kd.dS ho0 (aC (by repeat (first|(with_reducible first|exact HB.out|apply ah|apply ae|apply ag)|exact HB.out))));have dG:=af.mk (aI (by repeat (first|(with_reducible first|exact HB.out|apply ah|apply ae|apply ag)|exact HB.out)) hb);clear HB;have U4:=dE;have HB:=dG;clear dE dG;(try clear hb);(try clear hb2);(try clear hk);(try clear hi);(try clear ho0);obtain ⟨Ao5,Ls,eo5⟩:=Kd.dP U4.out;subst eo5))
    go_loopg [5,17] k (fun kq v5 v17 w'=>∃ (vS:List (List ByteArray)) (jF:Int),v17=.int .i64 jF∧af (bZ.l0 kq vS t143 (t143.length:Int) jF=some (r1,r2,r3))∧af (kq≤k)∧af (Kd.S (Kd.slice 9 Kd.string) 22 w' w.heap.size (fun k_=>some k_ ≠ ((.slice Ao5 t143.length Ls):Value).ownBlock) v5 vS)∧af (Kd.R Kd.string 9 w' w.heap.size (fun _=>True) (.slice Ao5 t143.length Ls) t143)∧af (Below w.heap.size w w'))
    case atStart=>exact ⟨(([]:List (List ByteArray))),(0),(by first|rfl|(simp;done)|(simp [*];done)),H',⟨Nat.le_refl _⟩,⟨by first|exact Kd.Gv _ _ _ _ _|exact Kd.Gx _ _ _ _ _|exact Kd.Gt _ _ _ _ _|exact Kd.Gw _ _ _ _ _|exact Kd.jH _ _ _ _ _⟩,⟨by (with_reducible repeat (first|apply Kd.aG|apply Kd.aH|apply Kd.aV));exact U4.out⟩,⟨by repeat (first|(with_reducible first|exact HB.out|apply ah|apply ae|apply ag)|exact HB.out)⟩⟩
    case round =>
      clear H'
      try clear c1
      try clear c2
      try clear EC
      try clear Ez
      try clear p2
      obtain ⟨vS,jF,rfl,HA,AA,nK,jU,HB⟩:=hrel
      cases gk with
      | zero=>exact absurd HA.out (by simp [bZ.l0])
      | succ k1 =>
        have H:=HA.out
        clear HA
        simp only [bZ.l0] at H
        by_cases c6:jF < (t143.length:Int)
        · rw [if_pos c6] at H
          have sJ:decide (jF < (t143.length:Int))=true:=decide_eq_true c6
          clear c6
          by_cases c7:0≤jF
          · rw [if_pos c7] at H
            have xE:decide (0≤jF)=true:=decide_eq_true c7
            clear c7
            by_cases c8:jF < (t143.length:Int)
            · rw [if_pos c8] at H
              have zS:decide (jF < (t143.length:Int))=true:=decide_eq_true c8
              clear c8
              replace H:=Option.bind_eq_some_iff.mp H
              obtain ⟨⟨t147,t148,t149⟩,A90,H⟩:=H
              replace H:((strings_Split.f t147 (⟨#[32]⟩:ByteArray)).bind fun t150=>(bZ.l1 k1 vS jF ([]:List ByteArray) t143 (t143.length:Int) jF t150 (t150.length:Int) 0))=some (r1,r2,r3):=H
              have A9:=af.mk A90
              clear A90
              replace H:=Option.bind_eq_some_iff.mp H
              obtain ⟨t150,aaA,H⟩:=H
              replace H:(bZ.l1 k1 vS jF ([]:List ByteArray) t143 (t143.length:Int) jF t150 (t150.length:Int) 0)=some (r1,r2,r3):=H
              have A10:=af.mk aaA
              clear aaA
              have H':=af.mk H
              clear H
              have Qv:0≤(jF:Int):=of_decide_eq_true (by first|(with_reducible assumption)|assumption)
              have Qs:jF < (t143.length:Int):=of_decide_eq_true (by first|(with_reducible assumption)|assumption)
              obtain ⟨uX,af4,QH⟩:=Kd.ik (Kd.df jU.out).2.2 jF Qv Qs
              cases af4
              replace Qv:=eq_true Qv
              replace Qs:=eq_true Qs
              go_wp2_with (first|((with_reducible refine bG (f:=30) rfl ?_);refine eP (some 24) rfl rfl Tryd.func30 (by kernel_rfl) rfl #[.string (iD ByteArray.empty t143 jF),.string (⟨#[35]⟩:ByteArray)] rfl (by (try simp only [List.map_toArray,List.map_cons,List.map_nil]);first|done|rfl|(simp only [List.length_drop,List.length_take];rfl)) ?_;(with_reducible refine (strings_Cut.calls (iD ByteArray.empty t143 jF) (⟨#[35]⟩:ByteArray) t147 t148 t149 _ ?di A9.out).mono ?_);(case di=>repeat (first|exact (Kd.bP lu.out HB.out)|(with_reducible refine Kd.cZ ?_ _)|(with_reducible refine Kd.cO ?_ _)|(with_reducible refine Kd.dK ?_)));rintro e w11 ⟨rfl,hb⟩;refine ⟨_,rfl,?_⟩;have dE:=af.mk (Kd.uI (by (with_reducible repeat (first|apply Kd.kT|apply Kd.kS|apply Kd.mV));exact nK.out) hb);have dG:=af.mk (Kd.bH (by (with_reducible repeat (first|apply Kd.aG|apply Kd.aH|apply Kd.aV));exact jU.out) hb);have dH:=af.mk (aI (by repeat (first|(with_reducible first|exact HB.out|apply ah|apply ae|apply ag)|exact HB.out)) hb);clear nK;clear jU;clear HB;have nK:=dE;have jU:=dG;have HB:=dH;clear dE dG dH;(try clear hb);(try clear hb2);(try clear hk);(try clear hi))|((with_reducible refine bG (f:=29) rfl ?_);refine eP (some 29) rfl rfl Tryd.func29 (by kernel_rfl) rfl #[.string t147,.string (⟨#[32]⟩:ByteArray)] rfl (by (try simp only [List.map_toArray,List.map_cons,List.map_nil]);first|done|rfl|(simp only [List.length_drop,List.length_take];rfl)) ?_;(with_reducible refine (strings_Split.calls t147 (⟨#[32]⟩:ByteArray) t150 _ ?di A10.out).mono ?_);(case di=>repeat (first|exact (Kd.bP lu.out HB.out)|(with_reducible refine Kd.cZ ?_ _)|(with_reducible refine Kd.cO ?_ _)|(with_reducible refine Kd.dK ?_)));rintro e w12 ⟨air,rfl,ho0,hb⟩;refine ⟨_,rfl,?_⟩;have dE:=af.mk (Kd.Pg (by (with_reducible repeat (first|apply Kd.kT|apply Kd.kS|apply Kd.mV));exact nK.out) (Kd.iM ho0) hb);have dG:=af.mk (Kd.iE (by (with_reducible repeat (first|apply Kd.aG|apply Kd.aH|apply Kd.aV));exact jU.out) (Kd.iM ho0) hb);have dH:=af.mk (Kd.dS (Kd.jD ho0 (Kd.mW (by (with_reducible repeat (first|apply Kd.aG|apply Kd.aH|apply Kd.aV));exact jU.out))) (aC (by repeat (first|(with_reducible first|exact HB.out|apply ah|apply ae|apply ag)|exact HB.out))));have eX:=af.mk (aI (by repeat (first|(with_reducible first|exact HB.out|apply ah|apply ae|apply ag)|exact HB.out)) hb);clear nK;clear jU;clear HB;have nK:=dE;have jU:=dG;have U3:=dH;have HB:=eX;clear dE dG dH eX;(try clear hb);(try clear hb2);(try clear hk);(try clear hi);(try clear ho0);obtain ⟨Ii,Ar,af2⟩:=Kd.dP U3.out;subst af2))
              go_loopg [8,31] k1 (fun kq v8 v31 w'=>∃ (qB:List ByteArray) (jh:Int),v31=.int .i64 jh∧af (bZ.l1 kq vS jF qB t143 (t143.length:Int) jF t150 (t150.length:Int) jh=some (r1,r2,r3))∧af (kq≤k1)∧af (Kd.S (Kd.slice 9 Kd.string) 22 w' w.heap.size (fun k_=>some k_ ≠ (v8:Value).ownBlock∧some k_ ≠ ((.slice (some uX) t143.length Ls):Value).ownBlock∧some k_ ≠ ((.slice Ii t150.length Ar):Value).ownBlock) u5 vS)∧af (Kd.R Kd.string 9 w' w.heap.size (fun k_=>some k_ ≠ ((.slice (some uX) t143.length Ls):Value).ownBlock∧some k_ ≠ ((.slice Ii t150.length Ar):Value).ownBlock) v8 qB)∧af (Kd.R Kd.string 9 w' w.heap.size (fun k_=>some k_ ≠ (v8:Value).ownBlock∧some k_ ≠ ((.slice Ii t150.length Ar):Value).ownBlock) (.slice (some uX) t143.length Ls) t143)∧af (Kd.R Kd.string 9 w' w.heap.size (fun k_=>some k_ ≠ (v8:Value).ownBlock∧some k_ ≠ ((.slice (some uX) t143.length Ls):Value).ownBlock) (.slice Ii t150.length Ar) t150)∧af (Below w.heap.size w w'))
              case atStart=>exact ⟨(([]:List ByteArray)),(0),(by first|rfl|(simp;done)|(simp [*];done)),H',⟨Nat.le_refl _⟩,⟨by (with_reducible repeat (first|apply Kd.kT|apply Kd.kS|apply Kd.mV));exact Kd.tV nK.out (fun _ hk=>⟨(by simp [Value.ownBlock]),⟨hk.1,hk.2⟩⟩)⟩,⟨by first|exact Kd.jH _ _ _ _ _|exact Kd.Gx _ _ _ _ _|exact Kd.Gt _ _ _ _ _|exact Kd.Gw _ _ _ _ _|exact Kd.Gv _ _ _ _ _⟩,⟨by (with_reducible repeat (first|apply Kd.aG|apply Kd.aH|apply Kd.aV));exact Kd.dC jU.out (fun _ hk=>⟨(by simp [Value.ownBlock]),hk.2⟩)⟩,⟨by (with_reducible repeat (first|apply Kd.aG|apply Kd.aH|apply Kd.aV));exact Kd.dC U3.out (fun _ hk=>⟨(by simp [Value.ownBlock]),hk.2⟩)⟩,⟨by repeat (first|(with_reducible first|exact HB.out|apply ah|apply ae|apply ag)|exact HB.out)⟩⟩
              case round =>
                clear H'
                try clear c1
                try clear p1
                try clear q1
                try clear hx1
                try clear c2
                try clear EC
                try clear Ez
                try clear p2
                try clear c3
                try clear c6
                try clear sJ
                try clear c7
                try clear xE
                try clear c8
                try clear zS
                try clear QH
                try clear Qv
                try clear p2
                try clear Qs
                obtain ⟨qB,jh,rfl,HA,EK,nK,wW,jU,mZ,HB⟩:=hrel
                cases gk with
                | zero=>exact absurd HA.out (by simp [bZ.l1])
                | succ k2 =>
                  have H:=HA.out
                  clear HA
                  simp only [bZ.l1] at H
                  by_cases c14:jh < (t150.length:Int)
                  · rw [if_pos c14] at H
                    have UZ:decide (jh < (t150.length:Int))=true:=decide_eq_true c14
                    clear c14
                    by_cases c15:0≤jh
                    · rw [if_pos c15] at H
                      have Zi:decide (0≤jh)=true:=decide_eq_true c15
                      clear c15
                      by_cases c16:jh < (t150.length:Int)
                      · rw [if_pos c16] at H
                        have ahK:decide (jh < (t150.length:Int))=true:=decide_eq_true c16
                        clear c16
                        by_cases c17:(iD ByteArray.empty t150 jh).toList=([]:List UInt8)
                        · rw [if_pos c17] at H
                          have Zh:((iD ByteArray.empty t150 jh).toList == ([]:List UInt8))=true:=beq_iff_eq.mpr c17
                          have Zg:((iD ByteArray.empty t150 jh).toList != ([]:List UInt8))=false:=bne_eq_false_iff_eq.mpr c17
                          clear c17
                          have H':=af.mk H
                          clear H
                          have zx:0≤(jh:Int):=of_decide_eq_true (by first|(with_reducible assumption)|assumption)
                          have zt:jh < (t150.length:Int):=of_decide_eq_true (by first|(with_reducible assumption)|assumption)
                          obtain ⟨Gs,OE,IZ⟩:=Kd.ik (Kd.df mZ.out).2.2 jh zx zt
                          cases OE
                          replace zx:=eq_true zx
                          replace zt:=eq_true zt
                          go_wp2
                          go_roundg k2
                          case measure=>have:=AA.out;have:=EK.out;omega
                          case rel=>exact ⟨(qB),(wrap64 (jh+1)),(by first|rfl|(simp;done)|(simp [*];done)),H',⟨by have:=AA.out;have:=EK.out;omega⟩,⟨by (with_reducible repeat (first|apply Kd.kT|apply Kd.kS|apply Kd.mV));exact nK.out⟩,⟨by (with_reducible repeat (first|apply Kd.aG|apply Kd.aH|apply Kd.aV));exact wW.out⟩,⟨by (with_reducible repeat (first|apply Kd.aG|apply Kd.aH|apply Kd.aV));exact jU.out⟩,⟨by (with_reducible repeat (first|apply Kd.aG|apply Kd.aH|apply Kd.aV));exact mZ.out⟩,⟨by repeat (first|(with_reducible first|exact HB.out|apply ah|apply ae|apply ag)|exact HB.out)⟩⟩
                        · rw [if_neg c17] at H
                          have Zh:((iD ByteArray.empty t150 jh).toList == ([]:List UInt8))=false:=beq_eq_false_iff_ne.mpr c17
                          have Zg:((iD ByteArray.empty t150 jh).toList != ([]:List UInt8))=true:=bne_iff_ne.mpr c17
                          replace H:=Option.bind_eq_some_iff.mp H
                          obtain ⟨t157,aav,H⟩:=H
                          replace H:(if t157=true then (if qB.length < 8796093022208 then (bZ.l1 k2 vS jF (qB++[iD ByteArray.empty t150 jh]) t143 (t143.length:Int) jF t150 (t150.length:Int) (wrap64 (jh+1))) else (none)) else (some (([]:List (List ByteArray)),wrap64 (jF+1),4)))=some (r1,r2,r3):=H
                          have A18:=af.mk aav
                          clear aav
                          by_cases c19:t157=true
                          · subst c19
                            have H1:(if qB.length < 8796093022208 then (bZ.l1 k2 vS jF (qB++[iD ByteArray.empty t150 jh]) t143 (t143.length:Int) jF t150 (t150.length:Int) (wrap64 (jh+1))) else (none))=some (r1,r2,r3):=by rw [if_pos rfl] at H;exact H
                            clear H
                            have H:=H1
                            clear H1
                            by_cases c20:qB.length < 8796093022208
                            · rw [if_pos c20] at H
                              have ZL:=af.mk c20
                              clear c20
                              obtain ⟨y158,hy158⟩:∃ y_:List ByteArray,y_=(qB++[iD ByteArray.empty t150 jh]):=⟨_,rfl⟩
                              replace H:(bZ.l1 k2 vS jF y158 t143 (t143.length:Int) jF t150 (t150.length:Int) (wrap64 (jh+1)))=some (r1,r2,r3):=by first|(rw [hy158];with_reducible exact H)|(have tX:=(Option.bind_some _ _).symm.trans H;rw [hy158];with_reducible exact tX)|(have tX:=(Option.bind_some _ _).symm.trans H;with_reducible exact tX)|with_reducible exact H|(rw [hy158];exact H)|exact H
                              have ZB:=af.mk hy158
                              clear hy158
                              have H':=af.mk H
                              clear H
                              have zx:0≤(jh:Int):=of_decide_eq_true (by first|(with_reducible assumption)|assumption)
                              have zt:jh < (t150.length:Int):=of_decide_eq_true (by first|(with_reducible assumption)|assumption)
                              obtain ⟨Gs,OE,IZ⟩:=Kd.ik (Kd.df mZ.out).2.2 jh zx zt
                              cases OE
                              replace zx:=eq_true zx
                              replace zt:=eq_true zt
                              go_wp2_with (first|((with_reducible refine bG (f:=31) rfl ?_);refine eP (some 40) rfl rfl Tryd.func31 (by kernel_rfl) rfl #[.string (iD ByteArray.empty t150 jh)] rfl (by (try simp only [List.map_toArray,List.map_cons,List.map_nil]);first|done|rfl|(simp only [List.length_drop,List.length_take];rfl)) ?_;(with_reducible refine (oK.calls (iD ByteArray.empty t150 jh) true _ A18.out).mono ?_);rintro e WM ⟨rfl,hb⟩;refine ⟨_,rfl,?_⟩;have dE:=af.mk (Kd.uI (by (with_reducible repeat (first|apply Kd.kT|apply Kd.kS|apply Kd.mV));exact nK.out) hb);have dG:=af.mk (Kd.bH (by (with_reducible repeat (first|apply Kd.aG|apply Kd.aH|apply Kd.aV));exact wW.out) hb);have dH:=af.mk (Kd.bH (by (with_reducible repeat (first|apply Kd.aG|apply Kd.aH|apply Kd.aV));exact jU.out) hb);have eX:=af.mk (Kd.bH (by (with_reducible repeat (first|apply Kd.aG|apply Kd.aH|apply Kd.aV));exact mZ.out) hb);have gB:=af.mk (aI (by repeat (first|(with_reducible first|exact HB.out|apply ah|apply ae|apply ag)|exact HB.out)) hb);clear nK;clear wW;clear jU;clear mZ;clear HB;have nK:=dE;have wW:=dG;have jU:=dH;have mZ:=eX;have HB:=gB;clear dE dG dH eX gB;(try clear hb);(try clear hb2);(try clear hk);(try clear hi))|((with_reducible refine jR (b:=.append) (xs:=#[.tmp 44,.tmp 46]) rfl ?_);at_builtin;refine Kd.o6 Kd.string (w0:=w) w.heap.size rfl (.tmp 44) (.tmp 46) 22 9 (.string ⟨#[]⟩) 16 rfl Tryd.underlying22 info9 rfl (by decide) (by omega) u8 qB (iD ByteArray.empty t150 jh) [.string (iD ByteArray.empty t150 jh)] (fun k_=>some k_ ≠ (.slice (some uX) t143.length Ls:Value).ownBlock∧some k_ ≠ (.slice (some Gs) t150.length Ar:Value).ownBlock) (fun _=>False) rfl rfl ?aP (fun _ hk=>hk.elim) ?aF ?aO ?aB ?aS ?aL ?_;(case aP=>exact rfl);(case aB=>exact (by repeat (first|(with_reducible first|exact HB.out|apply ah|apply ae|apply ag)|exact HB.out)));(case aF=>exact (fun k_ hk=>⟨Kd.fresh' (Kd.mW (by (with_reducible repeat (first|apply Kd.aG|apply Kd.aH|apply Kd.aV));exact jU.out)) k_ hk,Kd.fresh' (Kd.mW (by (with_reducible repeat (first|apply Kd.aG|apply Kd.aH|apply Kd.aV));exact mZ.out)) k_ hk⟩));(case aO=>exact (by (with_reducible repeat (first|apply Kd.aG|apply Kd.aH|apply Kd.aV));exact wW.out));(case aS=>exact (aC (by repeat (first|(with_reducible first|exact HB.out|apply ah|apply ae|apply ag)|exact HB.out))));(case aL=>have:=ZL.out;omega);intro v159 Vd ho hb hg hat;rw [← ZB.out] at ho;have dE:=af.mk (Kd.Uo (ok:=(fun k_=>some k_ ≠ (.slice (some uX) t143.length Ls:Value).ownBlock∧some k_ ≠ (.slice (some Gs) t150.length Ar:Value).ownBlock)) (by (with_reducible repeat (first|apply Kd.kT|apply Kd.kS|apply Kd.mV));exact Kd.tV nK.out (fun _ hk=>⟨⟨hk.2.1,hk.2.2⟩,hk.1⟩)) hg hat);have dG:=af.mk (Kd.EG (ok:=(fun k_=>some k_ ≠ (.slice (some Gs) t150.length Ar:Value).ownBlock)) (by (with_reducible repeat (first|apply Kd.aG|apply Kd.aH|apply Kd.aV));exact Kd.dC jU.out (fun _ hk=>⟨hk.2,hk.1⟩)) hg hat);have dH:=af.mk (Kd.EG (ok:=(fun k_=>some k_ ≠ (.slice (some uX) t143.length Ls:Value).ownBlock)) (by (with_reducible repeat (first|apply Kd.aG|apply Kd.aH|apply Kd.aV));exact Kd.dC mZ.out (fun _ hk=>⟨hk.2,hk.1⟩)) hg hat);have eX:=af.mk (hb);have gB:=af.mk (ho);clear nK;clear jU;clear mZ;clear HB;clear wW;have nK:=dE;have jU:=dG;have mZ:=dH;have HB:=eX;have ZU:=gB;clear dE dG dH eX gB;clear ho hb hg hat))
                              go_roundg k2
                              case measure=>have:=AA.out;have:=EK.out;omega
                              case rel=>exact ⟨(y158),(wrap64 (jh+1)),(by first|rfl|(simp;done)|(simp [*];done)),H',⟨by have:=AA.out;have:=EK.out;omega⟩,⟨by (with_reducible repeat (first|apply Kd.kT|apply Kd.kS|apply Kd.mV));exact Kd.tV nK.out (fun _ hk=>⟨hk.2,⟨hk.1.1,hk.1.2⟩⟩)⟩,⟨by (with_reducible repeat (first|apply Kd.aG|apply Kd.aH|apply Kd.aV));exact ZU.out⟩,⟨by (with_reducible repeat (first|apply Kd.aG|apply Kd.aH|apply Kd.aV));exact Kd.dC jU.out (fun _ hk=>⟨hk.2,hk.1⟩)⟩,⟨by (with_reducible repeat (first|apply Kd.aG|apply Kd.aH|apply Kd.aV));exact Kd.dC mZ.out (fun _ hk=>⟨hk.2,hk.1⟩)⟩,⟨by repeat (first|(with_reducible first|exact HB.out|apply ah|apply ae|apply ag)|exact HB.out)⟩⟩
                            · rw [if_neg c20] at H
                              exact absurd H (by simp)
                          · replace c19:=Bool.eq_false_iff.mpr c19
                            subst c19
                            have H1:(some (([]:List (List ByteArray)),wrap64 (jF+1),4))=some (r1,r2,r3):=by rw [if_neg (show ¬ (false=true) by decide)] at H;exact H
                            clear H
                            have H:=H1
                            clear H1
                            simp only [Option.some.injEq,Prod.mk.injEq] at H
                            obtain ⟨rfl,rfl,rfl⟩:=H
                            have zx:0≤(jh:Int):=of_decide_eq_true (by first|(with_reducible assumption)|assumption)
                            have zt:jh < (t150.length:Int):=of_decide_eq_true (by first|(with_reducible assumption)|assumption)
                            obtain ⟨Gs,OE,IZ⟩:=Kd.ik (Kd.df mZ.out).2.2 jh zx zt
                            cases OE
                            replace zx:=eq_true zx
                            replace zt:=eq_true zt
                            go_wp2_with (first|((with_reducible refine bG (f:=31) rfl ?_);refine eP (some 40) rfl rfl Tryd.func31 (by kernel_rfl) rfl #[.string (iD ByteArray.empty t150 jh)] rfl (by (try simp only [List.map_toArray,List.map_cons,List.map_nil]);first|done|rfl|(simp only [List.length_drop,List.length_take];rfl)) ?_;(with_reducible refine (oK.calls (iD ByteArray.empty t150 jh) false _ A18.out).mono ?_);rintro e Lp ⟨rfl,hb⟩;refine ⟨_,rfl,?_⟩;have dE:=af.mk (Kd.uI (by (with_reducible repeat (first|apply Kd.kT|apply Kd.kS|apply Kd.mV));exact nK.out) hb);have dG:=af.mk (Kd.bH (by (with_reducible repeat (first|apply Kd.aG|apply Kd.aH|apply Kd.aV));exact wW.out) hb);have dH:=af.mk (Kd.bH (by (with_reducible repeat (first|apply Kd.aG|apply Kd.aH|apply Kd.aV));exact jU.out) hb);have eX:=af.mk (Kd.bH (by (with_reducible repeat (first|apply Kd.aG|apply Kd.aH|apply Kd.aV));exact mZ.out) hb);have gB:=af.mk (aI (by repeat (first|(with_reducible first|exact HB.out|apply ah|apply ae|apply ag)|exact HB.out)) hb);clear nK;clear wW;clear jU;clear mZ;clear HB;have nK:=dE;have wW:=dG;have jU:=dH;have mZ:=eX;have HB:=gB;clear dE dG dH eX gB;(try clear hb);(try clear hb2);(try clear hk);(try clear hi)))
                            go_ret3
                            exact ⟨_,by first|rfl|(simp [bT,bQ] <;> rfl)|(simp [*,bT,bQ] <;> rfl),by first|exact Kd.Gv _ _ _ _ _|exact Kd.Gx _ _ _ _ _|exact Kd.Gt _ _ _ _ _|exact Kd.Gw _ _ _ _ _|exact Kd.jH _ _ _ _ _,by repeat (first|(with_reducible first|exact HB.out|apply ah|apply ae|apply ag)|exact HB.out)⟩
                      · rw [if_neg c16] at H
                        exact absurd H (by simp)
                    · rw [if_neg c15] at H
                      exact absurd H (by simp)
                  · rw [if_neg c14] at H
                    have UZ:decide (jh < (t150.length:Int))=false:=decide_eq_false c14
                    clear c14
                    by_cases c24:(qB.length:Int) > 0
                    · rw [if_pos c24] at H
                      have OZ:decide (0 < (qB.length:Int))=true:=decide_eq_true c24
                      have Ze:decide (0 < qB.length)=true:=decide_eq_true (by omega)
                      clear c24
                      by_cases c25:vS.length < 5864062014805
                      · rw [if_pos c25] at H
                        have ZK:=af.mk c25
                        clear c25
                        obtain ⟨y153,hy153⟩:∃ y_:List (List ByteArray),y_=(vS++[qB]):=⟨_,rfl⟩
                        replace H:(bZ.l0 k2 y153 t143 (t143.length:Int) (wrap64 (jF+1)))=some (r1,r2,r3):=by first|(rw [hy153];with_reducible exact H)|(have tX:=(Option.bind_some _ _).symm.trans H;rw [hy153];with_reducible exact tX)|(have tX:=(Option.bind_some _ _).symm.trans H;with_reducible exact tX)|with_reducible exact H|(rw [hy153];exact H)|exact H
                        have ZC:=af.mk hy153
                        clear hy153
                        have H':=af.mk H
                        clear H
                        obtain ⟨PN,OU,TV⟩:=Kd.dP wW.out
                        subst TV
                        go_wp2_with (first|((with_reducible refine jR (b:=.append) (xs:=#[.tmp 52,.tmp 54]) rfl ?_);at_builtin;refine Kd.Ph (Kd.slice 9 Kd.string) (w0:=w) w.heap.size rfl (.tmp 52) (.tmp 54) 37 22 (.slice none 0 0) 24 rfl Tryd.underlying37 info22 rfl (by decide) (by omega) u5 vS qB [.slice PN qB.length OU] (fun k_=>some k_ ≠ (.slice (some uX) t143.length Ls:Value).ownBlock∧some k_ ≠ (.slice Ii t150.length Ar:Value).ownBlock) (fun k_=>some k_=(.slice PN qB.length OU:Value).ownBlock) rfl rfl ?aP (fun k_ hk_=>((Kd.dC (ok':=fun k_=>((fun k_=>some k_ ≠ (.slice (some uX) t143.length Ls:Value).ownBlock∧some k_ ≠ (.slice Ii t150.length Ar:Value).ownBlock)) k_∧some k_ ≠ (u5:Value).ownBlock) (Kd.lN (wW.out) (Kd.yS nK.out) (by decide)) (fun k_ hk=>⟨⟨hk.1.1,hk.1.2⟩,hk.2⟩))).1 k_ hk_.symm) ?aF ?aO ?aB ?aS ?aL ?_;(case aP=>exact Kd.ZI (Kd.dC (Kd.JL rfl (Kd.dC (ok':=fun k_=>((fun k_=>some k_ ≠ (.slice (some uX) t143.length Ls:Value).ownBlock∧some k_ ≠ (.slice Ii t150.length Ar:Value).ownBlock)) k_∧some k_ ≠ (u5:Value).ownBlock) (Kd.lN (wW.out) (Kd.yS nK.out) (by decide)) (fun k_ hk=>⟨⟨hk.1.1,hk.1.2⟩,hk.2⟩))) (fun _ h_=>h_)));(case aB=>exact (by repeat (first|(with_reducible first|exact HB.out|apply ah|apply ae|apply ag)|exact HB.out)));(case aF=>exact (fun k_ hk=>⟨Kd.fresh' (Kd.mW (by (with_reducible repeat (first|apply Kd.aG|apply Kd.aH|apply Kd.aV));exact jU.out)) k_ hk,Kd.fresh' (Kd.mW (by (with_reducible repeat (first|apply Kd.aG|apply Kd.aH|apply Kd.aV));exact mZ.out)) k_ hk⟩));(case aO=>exact (by (with_reducible repeat (first|apply Kd.kT|apply Kd.kS|apply Kd.mV));exact Kd.tV nK.out (fun k_ hk=>⟨⟨hk.2.1,hk.2.2⟩,fun e_=>hk.1 e_⟩)));(case aS=>exact (aC (by repeat (first|(with_reducible first|exact HB.out|apply ah|apply ae|apply ag)|exact HB.out))));(case aL=>have:=ZK.out;omega);intro v154 w27 ho hb hg hat;rw [← ZC.out] at ho;have dE:=af.mk (Kd.yT (by (with_reducible repeat (first|apply Kd.aG|apply Kd.aH|apply Kd.aV));exact jU.out) (Kd.yS (by (with_reducible repeat (first|apply Kd.kT|apply Kd.kS|apply Kd.mV));exact nK.out)) (by decide) hg);have dG:=af.mk (Kd.yT (by (with_reducible repeat (first|apply Kd.aG|apply Kd.aH|apply Kd.aV));exact mZ.out) (Kd.yS (by (with_reducible repeat (first|apply Kd.kT|apply Kd.kS|apply Kd.mV));exact nK.out)) (by decide) hg);have dH:=af.mk (hb);have eX:=af.mk (ho);clear jU;clear mZ;clear HB;clear nK;clear wW;have jU:=dE;have mZ:=dG;have HB:=dH;have ZV:=eX;clear dE dG dH eX;clear ho hb hg hat))
                        go_roundg k2
                        case measure=>have:=AA.out;have:=EK.out;omega
                        case rel=>exact ⟨(y153),(wrap64 (jF+1)),(by first|rfl|(simp;done)|(simp [*];done)),H',⟨by have:=AA.out;have:=EK.out;omega⟩,⟨by (with_reducible repeat (first|apply Kd.kT|apply Kd.kS|apply Kd.mV));exact Kd.tV ZV.out (fun _ hk=>hk.1)⟩,⟨by (with_reducible repeat (first|apply Kd.aG|apply Kd.aH|apply Kd.aV));exact Kd.dC jU.out (fun _ hk=>trivial)⟩,⟨by repeat (first|(with_reducible first|exact HB.out|apply ah|apply ae|apply ag)|exact HB.out)⟩⟩
                      · rw [if_neg c25] at H
                        exact absurd H (by simp)
                    · rw [if_neg c24] at H
                      have OZ:decide (0 < (qB.length:Int))=false:=decide_eq_false c24
                      have Ze:decide (0 < qB.length)=false:=decide_eq_false (by omega)
                      clear c24
                      have H':=af.mk H
                      clear H
                      obtain ⟨ai8,aiT,afW⟩:=Kd.dP wW.out
                      subst afW
                      go_wp2
                      go_roundg k2
                      case measure=>have:=AA.out;have:=EK.out;omega
                      case rel=>exact ⟨(vS),(wrap64 (jF+1)),(by first|rfl|(simp;done)|(simp [*];done)),H',⟨by have:=AA.out;have:=EK.out;omega⟩,⟨by (with_reducible repeat (first|apply Kd.kT|apply Kd.kS|apply Kd.mV));exact Kd.tV nK.out (fun _ hk=>hk.2.1)⟩,⟨by (with_reducible repeat (first|apply Kd.aG|apply Kd.aH|apply Kd.aV));exact Kd.dC jU.out (fun _ hk=>trivial)⟩,⟨by repeat (first|(with_reducible first|exact HB.out|apply ah|apply ae|apply ag)|exact HB.out)⟩⟩
            · rw [if_neg c8] at H
              exact absurd H (by simp)
          · rw [if_neg c7] at H
            exact absurd H (by simp)
        · rw [if_neg c6] at H
          have sJ:decide (jF < (t143.length:Int))=false:=decide_eq_false c6
          clear c6
          simp only [Option.some.injEq,Prod.mk.injEq] at H
          obtain ⟨rfl,rfl,rfl⟩:=H
          go_wp2
          go_ret3
          exact ⟨_,by first|rfl|(simp [bT,bQ] <;> rfl)|(simp [*,bT,bQ] <;> rfl),by (with_reducible repeat (first|apply Kd.kT|apply Kd.kS|apply Kd.mV));exact Kd.tV nK.out (fun _ hk=>trivial),by repeat (first|(with_reducible first|exact HB.out|apply ah|apply ae|apply ag)|exact HB.out)⟩
def stringslite_HasSuffix.f (a0:ByteArray) (a1:ByteArray):Option (Bool):=if (a0.size:Int) ≥ (a1.size:Int) then (if 0≤(wrap64 ((a0.size:Int) - (a1.size:Int))) then (if (wrap64 ((a0.size:Int) - (a1.size:Int)))≤(a0.size:Int) then (some ((a0.extract ((wrap64 ((a0.size:Int) - (a1.size:Int))):Int).toNat a0.size).toList == a1.toList)) else (none)) else (none)) else (some false)
set_option maxHeartbeats 8000000 in
set_option maxRecDepth 100000 in
theorem stringslite_HasSuffix.calls (a0:ByteArray) (a1:ByteArray) (r:Bool) (w:World) (h:stringslite_HasSuffix.f a0 a1=some r) :
    Calls Tryd.prog 41 #[.string a0,.string a1] w fun e w'=>e=.returned (.bool r)∧jv w w':=by
  have H:(if (a0.size:Int) ≥ (a1.size:Int) then (if 0≤(wrap64 ((a0.size:Int) - (a1.size:Int))) then (if (wrap64 ((a0.size:Int) - (a1.size:Int)))≤(a0.size:Int) then (some ((a0.extract ((wrap64 ((a0.size:Int) - (a1.size:Int))):Int).toNat a0.size).toList == a1.toList)) else (none)) else (none)) else (some false))=some r:=h
  clear h
  by_cases c3:(a0.size:Int) ≥ (a1.size:Int)
  · rw [if_pos c3] at H
    have age:decide ((a1.size:Int)≤(a0.size:Int))=true:=decide_eq_true c3
    have agd:decide (a1.size≤a0.size)=true:=decide_eq_true (Int.ofNat_le.mp c3)
    clear c3
    obtain ⟨UM,QI⟩:∃ j_:Int,(wrap64 ((a0.size:Int) - (a1.size:Int)))=j_:=⟨_,rfl⟩
    replace H:(if 0≤(UM) then (if (UM)≤(a0.size:Int) then (some ((a0.extract ((UM):Int).toNat a0.size).toList == a1.toList)) else (none)) else (none))=some r:=by first|(rw [QI] at H;exact H)|(simp only [QI] at H ⊢;exact H)
    have ahw:(IntKind.i64.wrap ((a0.size:Int) - (a1.size:Int)))=UM:=(aX _).trans QI
    by_cases c5:0≤(UM)
    · rw [if_pos c5] at H
      have OX:=eq_true c5
      have Y6:decide (0≤(UM))=true:=decide_eq_true c5
      clear c5
      by_cases c6:(UM)≤(a0.size:Int)
      · rw [if_pos c6] at H
        have sJ:=eq_true c6
        have Gp:decide ((UM)≤(a0.size:Int))=true:=decide_eq_true c6
        clear c6
        obtain rfl:=Option.some.inj H
        go_enter Tryd.func41,Tryd.ntmps41
        go_wp2
        go_ret
        exact ⟨by first|rfl|(simp;done)|(simp only [← QI] <;> (first|rfl|simp))|(simp [*];done),by repeat (first|exact jv.refl _|apply jv.step)⟩
      · rw [if_neg c6] at H
        exact absurd H (by simp)
    · rw [if_neg c5] at H
      exact absurd H (by simp)
  · rw [if_neg c3] at H
    have age:decide ((a1.size:Int)≤(a0.size:Int))=false:=decide_eq_false c3
    have agd:decide (a1.size≤a0.size)=false:=decide_eq_false (fun h=>c3 (Int.ofNat_le.mpr h))
    clear c3
    obtain rfl:=Option.some.inj H
    go_enter Tryd.func41,Tryd.ntmps41
    go_wp2
    go_ret
    exact ⟨by first|rfl|(simp;done)|(simp [*];done),by repeat (first|exact jv.refl _|apply jv.step)⟩
def stringslite_TrimSuffix.f (a0:ByteArray) (a1:ByteArray):Option (ByteArray):=(stringslite_HasSuffix.f a0 a1).bind fun t173=>(if t173=true then (if 0≤(wrap64 ((a0.size:Int) - (a1.size:Int))) then (if (wrap64 ((a0.size:Int) - (a1.size:Int)))≤(a0.size:Int) then (some (a0.extract 0 ((wrap64 ((a0.size:Int) - (a1.size:Int))):Int).toNat)) else (none)) else (none)) else (some a0))
set_option maxHeartbeats 8000000 in
set_option maxRecDepth 100000 in
theorem stringslite_TrimSuffix.calls (a0:ByteArray) (a1:ByteArray) (r:ByteArray) (w:World) (h:stringslite_TrimSuffix.f a0 a1=some r) :
    Calls Tryd.prog 32 #[.string a0,.string a1] w fun e w'=>e=.returned (.string r)∧jv w w':=by
  have H:((stringslite_HasSuffix.f a0 a1).bind fun t173=>(if t173=true then (if 0≤(wrap64 ((a0.size:Int) - (a1.size:Int))) then (if (wrap64 ((a0.size:Int) - (a1.size:Int)))≤(a0.size:Int) then (some (a0.extract 0 ((wrap64 ((a0.size:Int) - (a1.size:Int))):Int).toNat)) else (none)) else (none)) else (some a0)))=some r:=h
  clear h
  replace H:=Option.bind_eq_some_iff.mp H
  obtain ⟨t173,Ah,H⟩:=H
  replace H:(if t173=true then (if 0≤(wrap64 ((a0.size:Int) - (a1.size:Int))) then (if (wrap64 ((a0.size:Int) - (a1.size:Int)))≤(a0.size:Int) then (some (a0.extract 0 ((wrap64 ((a0.size:Int) - (a1.size:Int))):Int).toNat)) else (none)) else (none)) else (some a0))=some r:=H
  have A3:=af.mk Ah
  clear Ah
  by_cases c4:t173=true
  · subst c4
    have H1:(if 0≤(wrap64 ((a0.size:Int) - (a1.size:Int))) then (if (wrap64 ((a0.size:Int) - (a1.size:Int)))≤(a0.size:Int) then (some (a0.extract 0 ((wrap64 ((a0.size:Int) - (a1.size:Int))):Int).toNat)) else (none)) else (none))=some r:=by rw [if_pos rfl] at H;exact H
    clear H
    have H:=H1
    clear H1
    obtain ⟨UL,Nh⟩:∃ j_:Int,(wrap64 ((a0.size:Int) - (a1.size:Int)))=j_:=⟨_,rfl⟩
    replace H:(if 0≤(UL) then (if (UL)≤(a0.size:Int) then (some (a0.extract 0 ((UL):Int).toNat)) else (none)) else (none))=some r:=by first|(rw [Nh] at H;exact H)|(simp only [Nh] at H ⊢;exact H)
    (try rw [Nh] at A3)
    have ahv:(IntKind.i64.wrap ((a0.size:Int) - (a1.size:Int)))=UL:=(aX _).trans Nh
    by_cases c6:0≤(UL)
    · rw [if_pos c6] at H
      have sJ:=eq_true c6
      have Gp:decide (0≤(UL))=true:=decide_eq_true c6
      clear c6
      by_cases c7:(UL)≤(a0.size:Int)
      · rw [if_pos c7] at H
        have xE:=eq_true c7
        have Ey:decide ((UL)≤(a0.size:Int))=true:=decide_eq_true c7
        clear c7
        obtain rfl:=Option.some.inj H
        go_enter Tryd.func32,Tryd.ntmps32
        go_wp2_with (first|((with_reducible refine bG (f:=41) rfl ?_);refine eP (some 7) rfl rfl Tryd.func41 (by kernel_rfl) rfl #[.string a0,.string a1] rfl (by (try simp only [List.map_toArray,List.map_cons,List.map_nil]);first|done|rfl|(simp only [List.length_drop,List.length_take];rfl)) ?_;(with_reducible refine (stringslite_HasSuffix.calls a0 a1 true _ A3.out).mono ?_);rintro e w' ⟨rfl,⟨nd,rfl⟩⟩;refine ⟨_,rfl,?_⟩))
        go_ret
        exact ⟨by first|rfl|(simp;done)|(simp only [← Nh] <;> (first|rfl|simp))|(simp [*];done),by repeat (first|exact jv.refl _|apply jv.step)⟩
      · rw [if_neg c7] at H
        exact absurd H (by simp)
    · rw [if_neg c6] at H
      exact absurd H (by simp)
  · replace c4:=Bool.eq_false_iff.mpr c4
    subst c4
    have H1:(some a0)=some r:=by rw [if_neg (show ¬ (false=true) by decide)] at H;exact H
    clear H
    have H:=H1
    clear H1
    obtain rfl:=Option.some.inj H
    go_enter Tryd.func32,Tryd.ntmps32
    go_wp2_with (first|((with_reducible refine bG (f:=41) rfl ?_);refine eP (some 7) rfl rfl Tryd.func41 (by kernel_rfl) rfl #[.string a0,.string a1] rfl (by (try simp only [List.map_toArray,List.map_cons,List.map_nil]);first|done|rfl|(simp only [List.length_drop,List.length_take];rfl)) ?_;(with_reducible refine (stringslite_HasSuffix.calls a0 a1 false _ A3.out).mono ?_);rintro e w' ⟨rfl,⟨nd,rfl⟩⟩;refine ⟨_,rfl,?_⟩))
    go_ret
    exact ⟨by first|rfl|(simp;done)|(simp [*];done),by repeat (first|exact jv.refl _|apply jv.step)⟩
def strings_TrimSuffix.f (a0:ByteArray) (a1:ByteArray):Option (ByteArray):=(stringslite_TrimSuffix.f a0 a1).bind fun t174=>(some t174)
set_option maxHeartbeats 8000000 in
set_option maxRecDepth 100000 in
theorem strings_TrimSuffix.calls (a0:ByteArray) (a1:ByteArray) (r:ByteArray) (w:World) (h:strings_TrimSuffix.f a0 a1=some r) :
    Calls Tryd.prog 19 #[.string a0,.string a1] w fun e w'=>e=.returned (.string r)∧jv w w':=by
  have H:((stringslite_TrimSuffix.f a0 a1).bind fun t174=>(some t174))=some r:=h
  clear h
  replace H:=Option.bind_eq_some_iff.mp H
  obtain ⟨t174,Ah,H⟩:=H
  replace H:(some t174)=some r:=H
  have A3:=af.mk Ah
  clear Ah
  obtain rfl:=Option.some.inj H
  go_enter Tryd.func19,Tryd.ntmps19
  go_wp2_with (first|((with_reducible refine bG (f:=32) rfl ?_);refine eP (some 7) rfl rfl Tryd.func32 (by kernel_rfl) rfl #[.string a0,.string a1] rfl (by (try simp only [List.map_toArray,List.map_cons,List.map_nil]);first|done|rfl|(simp only [List.length_drop,List.length_take];rfl)) ?_;(with_reducible refine (stringslite_TrimSuffix.calls a0 a1 t174 _ A3.out).mono ?_);rintro e w' ⟨rfl,⟨nd,rfl⟩⟩;refine ⟨_,rfl,?_⟩))
  go_ret
  exact ⟨by first|rfl|(simp;done)|(simp [*];done),by repeat (first|exact jv.refl _|apply jv.step)⟩
end Go.Proofs.YtkclndkbccbhaaaDoor.P
end
section
namespace Go.Proofs.YtkclndkbccbhaaaDoor.P
open Go
def qy (c:UInt8):List UInt8→List (List UInt8)
  | []=>[[]]
  | x :: xs=>if x=c then [] :: qy c xs else (x :: (qy c xs).headD []) :: (qy c xs).tail
theorem Ce (c:UInt8) (l:List UInt8):qy c l ≠ []:=by
  cases l with
  | nil=>simp [qy]
  | cons x xs=>unfold qy;split <;> simp
theorem KA {α:Type} {a b:List α} (d:α) (h:a ≠ []):(a++b).headD d=a.headD d:=by
  cases a with
  | nil=>exact absurd rfl h
  | cons x xs=>rfl
theorem LQ {α:Type} {a b:List α} (h:a ≠ []):(a++b).tail=a.tail++b:=by
  cases a with
  | nil=>exact absurd rfl h
  | cons x xs=>rfl
theorem Cc (c:UInt8) (a b:List UInt8):qy c (a++c :: b)=qy c a++qy c b:=by
  induction a with
  | nil=>simp [qy]
  | cons x xs ih =>
    simp only [List.cons_append,qy]
    by_cases h:x=c
    · rw [if_pos h,if_pos h,ih];rfl
    · rw [if_neg h,if_neg h,ih,KA _ (Ce c xs),LQ (Ce c xs)];rfl
theorem qC (c:UInt8) {l:List UInt8} (h:c ∉ l):qy c l=[l]:=by
  induction l with
  | nil=>rfl
  | cons x xs ih =>
    simp only [List.mem_cons,not_or] at h
    unfold qy
    rw [if_neg (fun e=>h.1 e.symm),ih h.2]
    rfl
theorem GV (c:UInt8) (l:List UInt8):(qy c l).length=l.count c+1:=by
  induction l with
  | nil=>rfl
  | cons x xs ih =>
    unfold qy
    by_cases h:x=c
    · rw [if_pos h,h,List.count_cons_self];simp [ih]
    · have h1:0 < (qy c xs).length:=List.length_pos_iff.2 (Ce c xs)
      rw [if_neg h,List.count_cons_of_ne h]
      simp only [List.length_cons,List.length_tail]
      omega
theorem parted {α:Type} [DecidableEq α] (c:α) (l:List α):c ∉ l ∨ ∃ a b,l=a++c :: b∧c ∉ a:=by
  induction l with
  | nil=>exact .inl (by simp)
  | cons x xs ih =>
    by_cases e:x=c
    · subst e
      exact .inr ⟨[],xs,rfl,by simp⟩
    · rcases ih with h|⟨a,b,h,ha⟩
      · exact .inl (by simp only [List.mem_cons,not_or];exact ⟨fun e'=>e e'.symm,h⟩)
      · exact .inr ⟨x :: a,b,by rw [h];rfl,by simp only [List.mem_cons,not_or];exact ⟨fun e'=>e e'.symm,ha⟩⟩
theorem sW {c:UInt8} {l:List UInt8} (h:c ∉ l):Lib.indexByte l c=-1:=by
  induction l with
  | nil=>rfl
  | cons x xs ih =>
    simp only [List.mem_cons,not_or] at h
    unfold Lib.indexByte
    rw [if_neg (by simp;exact fun e=>h.1 e.symm),ih h.2]
    rfl
theorem wF {c:UInt8} {a b:List UInt8} (h:c ∉ a):Lib.indexByte (a++c :: b) c=a.length:=by
  induction a with
  | nil=>simp [Lib.indexByte]
  | cons x xs ih =>
    simp only [List.mem_cons,not_or] at h
    simp only [List.cons_append]
    unfold Lib.indexByte
    rw [if_neg (by simp;exact fun e=>h.1 e.symm),ih h.2,if_neg (by simp)]
    simp
theorem uT {p:UInt8→Bool} {l:List UInt8} (h:∀ x ∈ l,p x=true):l.takeWhile p=l:=by
  induction l with
  | nil=>rfl
  | cons x xs ih=>rw [List.takeWhile_cons,if_pos (h x (by simp)),ih (fun y hy=>h y (by simp [hy]))]
theorem zg (c:UInt8):∀ (k:Nat) (l:List UInt8),l.count c≤k→Lib.splitK [c] 0 k l=qy c l
  | 0,l,h=>by
    have hc:c ∉ l:=List.count_eq_zero.1 (by omega)
    rw [qC c hc]
    rfl
  | k+1,l,h=>by
    unfold Lib.splitK
    rw [Lib.index_one]
    rcases parted c l with hc|⟨a,b,rfl,ha⟩
    · rw [sW hc,qC c hc]
      rfl
    · rw [wF ha,if_neg (by simp),Cc,qC c ha]
      have hk:b.count c≤k:=by
        rw [List.count_append,List.count_cons_self] at h
        omega
      have e1:(a++c :: b).take ((a.length:Int).toNat+0)=a:=by simp
      have e2:(a++c :: b).drop ((a.length:Int).toNat + [c].length)=b:=by
        rw [Int.toNat_natCast]
        simp [List.drop_append]
      rw [e1,e2,zg c k b hk]
      rfl
theorem TZ (c:UInt8) (l:List UInt8):(Lib.cut l [c]).1=l.takeWhile (· ≠ c):=by
  unfold Lib.cut
  rw [Lib.index_one]
  rcases parted c l with hc|⟨a,b,rfl,ha⟩
  · rw [sW hc,if_neg (by omega)]
    symm
    refine uT fun x hx=>?_
    simp only [ne_eq,decide_eq_true_eq]
    rintro rfl
    exact hc hx
  · rw [wF ha,if_pos (by omega),Int.toNat_natCast]
    have h1:∀ x ∈ a,(decide (x ≠ c))=true:=by
      intro x hx
      simp only [ne_eq,decide_eq_true_eq]
      rintro rfl
      exact ha hx
    rw [List.takeWhile_append_of_pos h1]
    simp
theorem dropWhile_nil {p:UInt8→Bool} {l:List UInt8}:l.dropWhile p=[] ↔ ∀ x ∈ l,p x=true:=by
  induction l with
  | nil=>simp
  | cons x xs ih =>
    rw [List.dropWhile_cons]
    by_cases h:p x=true
    · rw [if_pos h,ih];simp [h]
    · rw [if_neg h];simp [h]
theorem yc {p:UInt8→Bool} {l:List UInt8} {x:UInt8} {xs:List UInt8} (h:l.dropWhile p=x :: xs):¬ p x=true:=by
  induction l with
  | nil=>cases h
  | cons y ys ih =>
    rw [List.dropWhile_cons] at h
    by_cases e:p y=true
    · rw [if_pos e] at h;exact ih h
    · rw [if_neg e] at h
      injection h with h1 h2
      subst h1
      exact e
theorem xk {l cs:List UInt8}:Lib.trimS l cs=[] ↔ ∀ x ∈ l,cs.contains x=true:=by
  unfold Lib.trimS Lib.trimLeftS Lib.trimRightS
  rw [dropWhile_nil]
  constructor
  · intro h
    cases hd:l.reverse.dropWhile (cs.contains ·) with
    | nil =>
      intro x hx
      exact dropWhile_nil.1 hd x (by simp [hx])
    | cons y ys =>
      exact absurd (h y (by rw [hd];simp)) (yc hd)
  · intro h
    have:l.reverse.dropWhile (cs.contains ·)=[]:=dropWhile_nil.2 fun x hx=>h x (by simpa using hx)
    rw [this]
    simp
def UG (b:UInt8):Bool:=decide (97≤b.toNat∧b.toNat≤122) || decide (48≤b.toNat∧b.toNat≤57) || decide (b.toNat=45)
def Ba (w:List UInt8):Bool:=decide (w.length≤30) && w.all UG
def toks (l:List UInt8):List (List UInt8):=(qy 32 (l.takeWhile (· ≠ 35))).filter (· ≠ [])
def keep (t:List (List UInt8)):List (List (List UInt8)):=if t=[] then [] else [t]
def WU (x:List UInt8):Bool:=(toks x).all Ba
def Bl (xs:List (List UInt8)):List (List (List UInt8)):=xs.flatMap fun x=>keep (toks x)
def LR:Nat→List (List (List UInt8))→List (List UInt8)→List (List (List UInt8)) × Nat × Nat
  | _,acc,[]=>(acc,0,0)
  | n,acc,x :: r=>if WU x then LR (n+1) (acc++keep (toks x)) r else ([],n+1,4)
theorem V6 {xs:List (List UInt8)} (h:∀ x ∈ xs,WU x=true) (n:Nat) (acc:List (List (List UInt8))) (ys:List (List UInt8)):LR n acc (xs++ys)=LR (n+xs.length) (acc++Bl xs) ys:=by
  induction xs generalizing n acc with
  | nil=>simp [Bl]
  | cons x xs ih =>
    simp only [List.cons_append,LR]
    rw [if_pos (h x (by simp)),ih (fun y hy=>h y (by simp [hy]))]
    simp only [List.length_cons,Bl,List.flatMap_cons,List.append_assoc]
    rw [show n+1+xs.length=n+(xs.length+1) from by omega]
def plainW (w:List UInt8):Prop:=w ≠ []∧(32:UInt8) ∉ w∧(35:UInt8) ∉ w
theorem Kt {ws:List (List UInt8)} (h:∀ w ∈ ws,plainW w):(35:UInt8) ∉ Lib.join ws [32]:=by
  cases ws with
  | nil=>simp [Lib.join_nil]
  | cons w r =>
    rw [Lib.join_cons]
    unfold Lib.joinTail
    simp only [List.mem_append,List.mem_flatten,List.mem_map,not_or,not_exists,not_and]
    refine ⟨(h w (by simp)).2.2,?_⟩
    rintro x ⟨y,hy,rfl⟩
    simp only [List.cons_append,List.nil_append,List.mem_cons,not_or]
    exact ⟨by decide,(h y (by simp [hy])).2.2⟩
theorem LV {ws:List (List UInt8)} (h:∀ w ∈ ws,(32:UInt8) ∉ w) (w:List UInt8) (hw:(32:UInt8) ∉ w):qy 32 (w++Lib.joinTail [32] ws)=w :: ws:=by
  induction ws generalizing w with
  | nil=>simp [Lib.joinTail,qC 32 hw]
  | cons x xs ih =>
    have e:w++Lib.joinTail [32] (x :: xs)=w++32 :: (x++Lib.joinTail [32] xs):=by simp [Lib.joinTail]
    rw [e,Cc,qC 32 hw,ih (fun y hy=>h y (by simp [hy])) x (h x (by simp))]
    rfl
theorem y9 {l:List UInt8} (h:(35:UInt8) ∉ l):l.takeWhile (· ≠ 35)=l:=by
  refine uT fun x hx=>?_
  simp only [ne_eq,decide_eq_true_eq]
  rintro rfl
  exact h hx
theorem JY {ws:List (List UInt8)} (h:∀ w ∈ ws,plainW w):toks (Lib.join ws [32])=ws:=by
  unfold toks
  rw [y9 (Kt h)]
  cases ws with
  | nil=>rfl
  | cons w r =>
    rw [Lib.join_cons,LV (fun y hy=>(h y (by simp [hy])).2.1) w (h w (by simp)).2.1,List.filter_eq_self]
    intro x hx
    simpa using (h x hx).1
theorem Hu {b:UInt8} (h:UG b=true):b ≠ 10∧b ≠ 32∧b ≠ 35:=by
  refine ⟨?_,?_,?_⟩ <;> (rintro rfl;exact absurd h (by decide))
theorem A7 {w:List UInt8} (h:Ba w=true) (h0:w ≠ []):plainW w∧(10:UInt8) ∉ w:=by
  simp only [Ba,Bool.and_eq_true,List.all_eq_true] at h
  exact ⟨⟨h0,fun hm=>(Hu (h.2 _ hm)).2.1 rfl,fun hm=>(Hu (h.2 _ hm)).2.2 rfl⟩,fun hm=>(Hu (h.2 _ hm)).1 rfl⟩
theorem QF {ws:List (List UInt8)} (h:∀ w ∈ ws,(10:UInt8) ∉ w):(10:UInt8) ∉ Lib.join ws [32]:=by
  cases ws with
  | nil=>simp [Lib.join_nil]
  | cons w r =>
    rw [Lib.join_cons]
    unfold Lib.joinTail
    simp only [List.mem_append,List.mem_flatten,List.mem_map,not_or,not_exists,not_and]
    refine ⟨h w (by simp),?_⟩
    rintro x ⟨y,hy,rfl⟩
    simp only [List.cons_append,List.nil_append,List.mem_cons,not_or]
    exact ⟨by decide,h y (by simp [hy])⟩
def joinL (L:List (List (List UInt8))):List UInt8:=(L.map fun ws=>Lib.join ws [32]++[10]).flatten
theorem J3 {L:List (List (List UInt8))} (h:∀ ws ∈ L,∀ w ∈ ws,(10:UInt8) ∉ w):qy 10 (joinL L)=L.map (fun ws=>Lib.join ws [32])++[[]]:=by
  induction L with
  | nil=>rfl
  | cons x xs ih =>
    have e:joinL (x :: xs)=Lib.join x [32]++10 :: joinL xs:=by simp [joinL]
    rw [e,Cc,qC 10 (QF (h x (by simp))),ih (fun y hy=>h y (by simp [hy]))]
    rfl
theorem Px {L:List (List (List UInt8))} (h0:∀ ws ∈ L,ws ≠ []) (h:∀ ws ∈ L,∀ w ∈ ws,Ba w=true∧w ≠ []):LR 0 [] (qy 10 (joinL L))=(L,0,0):=by
  have hp:∀ ws ∈ L,∀ w ∈ ws,plainW w:=fun ws hs w hw=>(A7 (h ws hs w hw).1 (h ws hs w hw).2).1
  have ht:∀ ws ∈ L,toks (Lib.join ws [32])=ws:=fun ws hs=>JY (hp ws hs)
  rw [J3 (fun ws hs w hw=>(A7 (h ws hs w hw).1 (h ws hs w hw).2).2),V6]
  · have e:Bl (L.map fun ws=>Lib.join ws [32])=L:=by
      have:∀ M:List (List (List UInt8)),(∀ ws ∈ M,ws ≠ []∧toks (Lib.join ws [32])=ws)→Bl (M.map fun ws=>Lib.join ws [32])=M:=by
        intro M hM
        induction M with
        | nil=>rfl
        | cons x xs ih =>
          have hx:=hM x (by simp)
          have hi:=ih (fun y hy=>hM y (by simp [hy]))
          unfold Bl at hi ⊢
          rw [List.map_cons,List.flatMap_cons,hi,hx.2]
          unfold keep
          rw [if_neg hx.1]
          rfl
      exact this L fun ws hs=>⟨h0 ws hs,ht ws hs⟩
    rw [e]
    simp [LR,WU,toks,qy,keep]
  · intro x hx
    obtain ⟨ws,hs,rfl⟩:=List.mem_map.1 hx
    unfold WU
    rw [ht ws hs,List.all_eq_true]
    exact fun w hw=>(h ws hs w hw).1
theorem CB (ws:List (List UInt8)):(Lib.joinTail [32] ws).length=(ws.map fun w=>w.length+1).sum:=by
  induction ws with
  | nil=>rfl
  | cons w r ih =>
    have:Lib.joinTail [32] (w :: r)=32 :: w++Lib.joinTail [32] r:=by simp [Lib.joinTail]
    rw [this]
    simp only [List.length_append,List.length_cons,List.map_cons,List.sum_cons,ih]
theorem Qd (c:UInt8) (l:List UInt8):((qy c l).map fun w=>w.length+1).sum=l.length+1:=by
  induction l with
  | nil=>rfl
  | cons x xs ih =>
    unfold qy
    split
    · simp only [List.map_cons,List.sum_cons,ih,List.length_nil,List.length_cons];omega
    · cases hs:qy c xs with
      | nil=>exact absurd hs (Ce c xs)
      | cons y ys =>
        rw [hs] at ih
        simp only [List.headD_cons,List.tail_cons,List.map_cons,List.sum_cons,List.length_cons] at ih ⊢
        omega
end Go.Proofs.YtkclndkbccbhaaaDoor.P
end
