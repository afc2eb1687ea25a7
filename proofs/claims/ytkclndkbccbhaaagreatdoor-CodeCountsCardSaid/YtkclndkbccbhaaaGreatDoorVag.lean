/- Parts of the proof of CodeCounts: what the functions that it reaches compute, and plain facts about that. -/
import Derived.Test.YtkclndkbccbhaaaGreatDoorVac
import Derived.Test.YtkclndkbccbhaaaGreatDoorVad
import Derived.Test.YtkclndkbccbhaaaGreatDoorVaf
import Derived.Lib.SplitLaws
import Derived.Lib.IndexMore
import Derived.Lib.SlTrimSet
import Derived.Lib.Join
set_option linter.unusedVariables false
set_option linter.unusedSimpArgs false
section
namespace Go.Proofs.YtkclndkbccbhaaaGreatDoor.P
open Go.RowKit Go.Proofs.ae.aX Go.Proofs.ae.dh Go.Proofs.ae.dI
attribute [local go_sem] iY iV jL jK iy iw iW iU
theorem IX (d:Nat) (w:World) (x0 y0:Int) (x1 y1:Int) (x2 y2:Int) (x3 y3:Int) (x4 y4:Int) :
    (Op.equalIn (d+2) 27 (.agg #[.int .u8 x0,.int .u8 x1,.int .u8 x2,.int .u8 x3,.int .i64 x4]) (.agg #[.int .u8 y0,.int .u8 y1,.int .u8 y2,.int .u8 y3,.int .i64 y4])).run Tryz.prog w=.ok (x0 == y0 && (x1 == y1 && (x2 == y2 && (x3 == y3 && (x4 == y4))))) w:=by
  refine OH Tryz.underlying27 (by kernel_rfl) ?_
  refine sF (by rfl) (by go_simp;rfl) (by go_simp;rfl) (by go_simp) ?_
  refine sF (by rfl) (by go_simp;rfl) (by go_simp;rfl) (by go_simp) ?_
  refine sF (by rfl) (by go_simp;rfl) (by go_simp;rfl) (by go_simp) ?_
  refine sF (by rfl) (by go_simp;rfl) (by go_simp;rfl) (by go_simp) ?_
  exact IW (by rfl) (by go_simp;rfl) (by go_simp;rfl) (by go_simp)
end Go.Proofs.YtkclndkbccbhaaaGreatDoor.P
end
section
namespace Go.Proofs.YtkclndkbccbhaaaGreatDoor.P
open Go.RowKit Go.Proofs.ae.aX Go.Proofs.ae.dh Go.Proofs.ae.dI
attribute [local go_sem] iY iV jL jK iy iw iW iU
attribute [local go_sem high] IX
mutual
def bQ.l0:Nat→List (List ByteArray)→List ByteArray→Int→Int→Option ((List (List ByteArray)) × Int × Int)
  | 0,_,_,_,_=>none
  | k+1,x5,x15,x16,x17=>if x17 < x16 then (if 0≤x17 then (if x17 < (x15.length:Int) then ((strings_Cut.f (dZ ByteArray.empty x15 x17) (⟨#[35]⟩:ByteArray)).bind fun Qs=>((strings_Split.f Qs.1 (⟨#[32]⟩:ByteArray)).bind fun t150=>(bQ.l1 k x5 x17 ([]:List ByteArray) x15 x16 x17 t150 (t150.length:Int) 0))) else (none)) else (none)) else (some (x5,0,0))
def bQ.l1:Nat→List (List ByteArray)→Int→List ByteArray→List ByteArray→Int→Int→List ByteArray→Int→Int→Option ((List (List ByteArray)) × Int × Int)
  | 0,_,_,_,_,_,_,_,_,_=>none
  | k+1,x5,x6,x8,x15,x16,x17,x29,x30,x31=>if x31 < x30 then (if 0≤x31 then (if x31 < (x29.length:Int) then (if (dZ ByteArray.empty x29 x31).toList=([]:List UInt8) then (bQ.l1 k x5 x6 x8 x15 x16 x17 x29 x30 (wrap64 (x31+1))) else ((pI.f (dZ ByteArray.empty x29 x31)).bind fun t157=>(if t157=true then (if x8.length < 8796093022208 then (bQ.l1 k x5 x6 (x8++[dZ ByteArray.empty x29 x31]) x15 x16 x17 x29 x30 (wrap64 (x31+1))) else (none)) else (some (([]:List (List ByteArray)),wrap64 (x6+1),4))))) else (none)) else (none)) else (if (x8.length:Int) > 0 then (if x5.length < 5864062014805 then (bQ.l0 k (x5++[x8]) x15 x16 (wrap64 (x17+1))) else (none)) else (bQ.l0 k x5 x15 x16 (wrap64 (x17+1))))
end
def bQ.f (k:Nat) (a0:ByteArray):Option ((List (List ByteArray)) × Int × Int):=if (a0.size:Int) > 20000 then (some (([]:List (List ByteArray)),0,3)) else ((strings_Split.f a0 (⟨#[10]⟩:ByteArray)).bind fun t143=>(bQ.l0 k ([]:List (List ByteArray)) t143 (t143.length:Int) 0))
theorem bQ.dR:∀ k,(∀ y0 y1 y2 y3,bM (bQ.l0 k y0 y1 y2 y3) (bQ.l0 (k+1) y0 y1 y2 y3))∧(∀ y0 y1 y2 y3 y4 y5 y6 y7 y8,bM (bQ.l1 k y0 y1 y2 y3 y4 y5 y6 y7 y8) (bQ.l1 (k+1) y0 y1 y2 y3 y4 y5 y6 y7 y8))
  | 0=>⟨fun _ _ _ _ r h=>by simp [bQ.l0] at h,fun _ _ _ _ _ _ _ _ _ r h=>by simp [bQ.l1] at h⟩
  | k+1=>by
    obtain ⟨gV,ih1⟩:=bQ.dR k
    refine ⟨?_,?_⟩
    · intro y0 y1 y2 y3
      unfold bQ.l0
      repeat' first
      | (with_reducible exact gV _ _ _ _)
      | (with_reducible exact ih1 _ _ _ _ _ _ _ _ _)
      | (with_reducible exact bM.refl _)
      | (with_reducible exact bM.none _)
      | (with_reducible refine bM.ite ?_ ?_)
      | (with_reducible refine bM.bind ?_ (fun _=>?_))
      | exact gV _ _ _ _
      | exact ih1 _ _ _ _ _ _ _ _ _
      | exact bM.none _
      | refine bM.ite ?_ ?_
      | refine bM.bind ?_ (fun _=>?_)
    · intro y0 y1 y2 y3 y4 y5 y6 y7 y8
      unfold bQ.l1
      repeat' first
      | (with_reducible exact gV _ _ _ _)
      | (with_reducible exact ih1 _ _ _ _ _ _ _ _ _)
      | (with_reducible exact bM.refl _)
      | (with_reducible exact bM.none _)
      | (with_reducible refine bM.ite ?_ ?_)
      | (with_reducible refine bM.bind ?_ (fun _=>?_))
      | exact gV _ _ _ _
      | exact ih1 _ _ _ _ _ _ _ _ _
      | exact bM.none _
      | refine bM.ite ?_ ?_
      | refine bM.bind ?_ (fun _=>?_)
theorem bQ.mono:∀ a0 k,bM (bQ.f k a0) (bQ.f (k+1) a0):=by
  intro a0 k
  obtain ⟨gV,ih1⟩:=bQ.dR k
  unfold bQ.f
  repeat' first
      | (with_reducible exact gV _ _ _ _)
      | (with_reducible exact ih1 _ _ _ _ _ _ _ _ _)
      | (with_reducible exact bM.refl _)
      | (with_reducible exact bM.none _)
      | (with_reducible refine bM.ite ?_ ?_)
      | (with_reducible refine bM.bind ?_ (fun _=>?_))
      | exact gV _ _ _ _
      | exact ih1 _ _ _ _ _ _ _ _ _
      | exact bM.none _
      | refine bM.ite ?_ ?_
      | refine bM.bind ?_ (fun _=>?_)
set_option maxHeartbeats 8000000 in
set_option maxRecDepth 100000 in
theorem bQ.calls (k:Nat) (a0:ByteArray) (r1:List (List ByteArray)) (r2:Int) (r3:Int) (w:World) (iC:Kd.C pK w pM jO.length jO) (h:bQ.f k a0=some (r1,r2,r3)) :
    Calls Tryz.prog 29 #[.string a0] w fun e w'=>∃ xw:Value,e=.returned (.tuple #[xw,.int .i64 r2,.int .i64 r3])∧Kd.S (Kd.slice 9 Kd.string) 22 w' w.heap.size (fun _=>True) xw r1∧Below w.heap.size w w':=by
  have uo:=af.mk iC
  clear iC
  have HB:=af.mk (Below.refl w.heap.size w)
  have H:(if (a0.size:Int) > 20000 then (some (([]:List (List ByteArray)),0,3)) else ((strings_Split.f a0 (⟨#[10]⟩:ByteArray)).bind fun t143=>(bQ.l0 k ([]:List (List ByteArray)) t143 (t143.length:Int) 0)))=some (r1,r2,r3):=h
  clear h
  by_cases c2:(a0.size:Int) > 20000
  · rw [if_pos c2] at H
    have rJ:decide (20000 < (a0.size:Int))=true:=decide_eq_true c2
    have wE:decide (20000 < a0.size)=true:=decide_eq_true (by omega)
    clear c2
    simp only [Option.some.injEq,Prod.mk.injEq] at H
    obtain ⟨rfl,rfl,rfl⟩:=H
    go_enter Tryz.func29,Tryz.ntmps29
    go_wp2
    go_ret3
    exact ⟨_,by first|rfl|(simp [bC,bz] <;> rfl)|(simp [*,bC,bz] <;> rfl),by first|exact Kd.sS _ _ _ _ _|exact Kd.sV _ _ _ _ _|exact Kd.sQ _ _ _ _ _|exact Kd.sU _ _ _ _ _|exact Kd.gU _ _ _ _ _,by repeat (first|(with_reducible first|exact HB.out|apply ai|apply ag|apply ah)|exact HB.out)⟩
  · rw [if_neg c2] at H
    have rJ:decide (20000 < (a0.size:Int))=false:=decide_eq_false c2
    have wE:decide (20000 < a0.size)=false:=decide_eq_false (by omega)
    clear c2
    replace H:=Option.bind_eq_some_iff.mp H
    obtain ⟨t143,BI,H⟩:=H
    replace H:(bQ.l0 k ([]:List (List ByteArray)) t143 (t143.length:Int) 0)=some (r1,r2,r3):=H
    have A3:=af.mk BI
    clear BI
    have H':=af.mk H
    clear H
    go_enter Tryz.func29,Tryz.ntmps29
    go_wp2_with (first|((with_reducible refine bY (f:=49) rfl ?_);refine eQ (some 15) rfl rfl Tryz.func49 (by kernel_rfl) rfl #[.string a0,.string (⟨#[10]⟩:ByteArray)] rfl (by (try simp only [List.map_toArray,List.map_cons,List.map_nil]);first|done|rfl|(simp only [List.length_drop,List.length_take];rfl)) ?_;(with_reducible refine (strings_Split.calls a0 (⟨#[10]⟩:ByteArray) t143 _ ?fA A3.out).mono ?_);(case fA=>repeat (first|exact uo.out|(with_reducible refine Kd.eP ?_ _)|(with_reducible refine Kd.eH ?_ _)|(with_reducible refine Kd.gp ?_)));rintro e w4 ⟨Yd,rfl,ho0,hb⟩;refine ⟨_,rfl,?_⟩;have dM:=af.mk (Kd.gz ho0 (bG (by repeat (first|(with_reducible first|exact HB.out|apply ai|apply ag|apply ah)|exact HB.out))));have dP:=af.mk (bf (by repeat (first|(with_reducible first|exact HB.out|apply ai|apply ag|apply ah)|exact HB.out)) hb);clear HB;have NL:=dM;have HB:=dP;clear dM dP;(try clear hb);(try clear hb2);(try clear hk);(try clear hi);(try clear ho0);obtain ⟨XO,Gi,Yy⟩:=Kd.fJ NL.out;subst Yy))
    go_loopg [5,17] k (fun kq v5 v17 w'=>∃ (dF:List (List ByteArray)) (iH:Int),v17=.int .i64 iH∧af (bQ.l0 kq dF t143 (t143.length:Int) iH=some (r1,r2,r3))∧af (kq≤k)∧af (Kd.S (Kd.slice 9 Kd.string) 22 w' w.heap.size (fun k_=>some k_ ≠ ((.slice XO t143.length Gi):Value).ownBlock) v5 dF)∧af (Kd.R Kd.string 9 w' w.heap.size (fun _=>True) (.slice XO t143.length Gi) t143)∧af (Below w.heap.size w w'))
    case atStart=>exact ⟨(([]:List (List ByteArray))),(0),(by first|rfl|(simp;done)|(simp [*];done)),H',⟨Nat.le_refl _⟩,⟨by first|exact Kd.sS _ _ _ _ _|exact Kd.sV _ _ _ _ _|exact Kd.sQ _ _ _ _ _|exact Kd.sU _ _ _ _ _|exact Kd.gU _ _ _ _ _⟩,⟨by (with_reducible repeat (first|apply Kd.bJ|apply Kd.bK|apply Kd.df));exact NL.out⟩,⟨by repeat (first|(with_reducible first|exact HB.out|apply ai|apply ag|apply ah)|exact HB.out)⟩⟩
    case round =>
      clear H'
      try clear c2
      try clear rJ
      try clear wE
      try clear p2
      try clear c4
      obtain ⟨dF,iH,rfl,HA,lH,jc,je,HB⟩:=hrel
      cases gk with
      | zero=>exact absurd HA.out (by simp [bQ.l0])
      | succ k1 =>
        have H:=HA.out
        clear HA
        simp only [bQ.l0] at H
        by_cases c6:iH < (t143.length:Int)
        · rw [if_pos c6] at H
          have uh:decide (iH < (t143.length:Int))=true:=decide_eq_true c6
          clear c6
          by_cases c7:0≤iH
          · rw [if_pos c7] at H
            have uK:decide (0≤iH)=true:=decide_eq_true c7
            clear c7
            by_cases c8:iH < (t143.length:Int)
            · rw [if_pos c8] at H
              have CW:decide (iH < (t143.length:Int))=true:=decide_eq_true c8
              clear c8
              replace H:=Option.bind_eq_some_iff.mp H
              obtain ⟨⟨t147,t148,t149⟩,XP,H⟩:=H
              replace H:((strings_Split.f t147 (⟨#[32]⟩:ByteArray)).bind fun t150=>(bQ.l1 k1 dF iH ([]:List ByteArray) t143 (t143.length:Int) iH t150 (t150.length:Int) 0))=some (r1,r2,r3):=H
              have A9:=af.mk XP
              clear XP
              replace H:=Option.bind_eq_some_iff.mp H
              obtain ⟨t150,RY,H⟩:=H
              replace H:(bQ.l1 k1 dF iH ([]:List ByteArray) t143 (t143.length:Int) iH t150 (t150.length:Int) 0)=some (r1,r2,r3):=H
              have Vx:=af.mk RY
              clear RY
              have H':=af.mk H
              clear H
              have Ko:0≤(iH:Int):=of_decide_eq_true (by first|(with_reducible assumption)|assumption)
              have J8:iH < (t143.length:Int):=of_decide_eq_true (by first|(with_reducible assumption)|assumption)
              obtain ⟨qY,Wp,KI⟩:=Kd.ed (Kd.fZ je.out).2.2 iH Ko J8
              cases Wp
              replace Ko:=eq_true Ko
              replace J8:=eq_true J8
              go_wp2_with (first|((with_reducible refine bY (f:=50) rfl ?_);refine eQ (some 24) rfl rfl Tryz.func50 (by kernel_rfl) rfl #[.string (dZ ByteArray.empty t143 iH),.string (⟨#[35]⟩:ByteArray)] rfl (by (try simp only [List.map_toArray,List.map_cons,List.map_nil]);first|done|rfl|(simp only [List.length_drop,List.length_take];rfl)) ?_;(with_reducible refine (strings_Cut.calls (dZ ByteArray.empty t143 iH) (⟨#[35]⟩:ByteArray) t147 t148 t149 _ ?fA A9.out).mono ?_);(case fA=>repeat (first|exact (Kd.dB uo.out HB.out)|(with_reducible refine Kd.eP ?_ _)|(with_reducible refine Kd.eH ?_ _)|(with_reducible refine Kd.gp ?_)));rintro e Pg ⟨rfl,hb⟩;refine ⟨_,rfl,?_⟩;have dM:=af.mk (Kd.qM (by (with_reducible repeat (first|apply Kd.fQ|apply Kd.fP|apply Kd.iF));exact jc.out) hb);have dP:=af.mk (Kd.eG (by (with_reducible repeat (first|apply Kd.bJ|apply Kd.bK|apply Kd.df));exact je.out) hb);have eY:=af.mk (bf (by repeat (first|(with_reducible first|exact HB.out|apply ai|apply ag|apply ah)|exact HB.out)) hb);clear jc;clear je;clear HB;have jc:=dM;have je:=dP;have HB:=eY;clear dM dP eY;(try clear hb);(try clear hb2);(try clear hk);(try clear hi))|((with_reducible refine bY (f:=49) rfl ?_);refine eQ (some 29) rfl rfl Tryz.func49 (by kernel_rfl) rfl #[.string t147,.string (⟨#[32]⟩:ByteArray)] rfl (by (try simp only [List.map_toArray,List.map_cons,List.map_nil]);first|done|rfl|(simp only [List.length_drop,List.length_take];rfl)) ?_;(with_reducible refine (strings_Split.calls t147 (⟨#[32]⟩:ByteArray) t150 _ ?fA Vx.out).mono ?_);(case fA=>repeat (first|exact (Kd.dB uo.out HB.out)|(with_reducible refine Kd.eP ?_ _)|(with_reducible refine Kd.eH ?_ _)|(with_reducible refine Kd.gp ?_)));rintro e w12 ⟨Yc,rfl,ho0,hb⟩;refine ⟨_,rfl,?_⟩;have dM:=af.mk (Kd.Bz (by (with_reducible repeat (first|apply Kd.fQ|apply Kd.fP|apply Kd.iF));exact jc.out) (Kd.jS ho0) hb);have dP:=af.mk (Kd.nG (by (with_reducible repeat (first|apply Kd.bJ|apply Kd.bK|apply Kd.df));exact je.out) (Kd.jS ho0) hb);have eY:=af.mk (Kd.gz (Kd.ui ho0 (Kd.wJ (by (with_reducible repeat (first|apply Kd.bJ|apply Kd.bK|apply Kd.df));exact je.out))) (bG (by repeat (first|(with_reducible first|exact HB.out|apply ai|apply ag|apply ah)|exact HB.out))));have iD:=af.mk (bf (by repeat (first|(with_reducible first|exact HB.out|apply ai|apply ag|apply ah)|exact HB.out)) hb);clear jc;clear je;clear HB;have jc:=dM;have je:=dP;have NK:=eY;have HB:=iD;clear dM dP eY iD;(try clear hb);(try clear hb2);(try clear hk);(try clear hi);(try clear ho0);obtain ⟨Df,xg,Wi⟩:=Kd.fJ NK.out;subst Wi))
              go_loopg [8,31] k1 (fun kq v8 v31 w'=>∃ (nX:List ByteArray) (gu:Int),v31=.int .i64 gu∧af (bQ.l1 kq dF iH nX t143 (t143.length:Int) iH t150 (t150.length:Int) gu=some (r1,r2,r3))∧af (kq≤k1)∧af (Kd.S (Kd.slice 9 Kd.string) 22 w' w.heap.size (fun k_=>some k_ ≠ (v8:Value).ownBlock∧some k_ ≠ ((.slice (some qY) t143.length Gi):Value).ownBlock∧some k_ ≠ ((.slice Df t150.length xg):Value).ownBlock) u5 dF)∧af (Kd.R Kd.string 9 w' w.heap.size (fun k_=>some k_ ≠ ((.slice (some qY) t143.length Gi):Value).ownBlock∧some k_ ≠ ((.slice Df t150.length xg):Value).ownBlock) v8 nX)∧af (Kd.R Kd.string 9 w' w.heap.size (fun k_=>some k_ ≠ (v8:Value).ownBlock∧some k_ ≠ ((.slice Df t150.length xg):Value).ownBlock) (.slice (some qY) t143.length Gi) t143)∧af (Kd.R Kd.string 9 w' w.heap.size (fun k_=>some k_ ≠ (v8:Value).ownBlock∧some k_ ≠ ((.slice (some qY) t143.length Gi):Value).ownBlock) (.slice Df t150.length xg) t150)∧af (Below w.heap.size w w'))
              case atStart=>exact ⟨(([]:List ByteArray)),(0),(by first|rfl|(simp;done)|(simp [*];done)),H',⟨Nat.le_refl _⟩,⟨by (with_reducible repeat (first|apply Kd.fQ|apply Kd.fP|apply Kd.iF));exact Kd.nD jc.out (fun _ hk=>⟨(by simp [Value.ownBlock]),⟨hk.1,hk.2⟩⟩)⟩,⟨by first|exact Kd.gU _ _ _ _ _|exact Kd.sV _ _ _ _ _|exact Kd.sQ _ _ _ _ _|exact Kd.sU _ _ _ _ _|exact Kd.sS _ _ _ _ _⟩,⟨by (with_reducible repeat (first|apply Kd.bJ|apply Kd.bK|apply Kd.df));exact Kd.dH je.out (fun _ hk=>⟨(by simp [Value.ownBlock]),hk.2⟩)⟩,⟨by (with_reducible repeat (first|apply Kd.bJ|apply Kd.bK|apply Kd.df));exact Kd.dH NK.out (fun _ hk=>⟨(by simp [Value.ownBlock]),hk.2⟩)⟩,⟨by repeat (first|(with_reducible first|exact HB.out|apply ai|apply ag|apply ah)|exact HB.out)⟩⟩
              case round =>
                clear H'
                try clear p1
                try clear q1
                try clear hx1
                try clear c2
                try clear rJ
                try clear wE
                try clear p2
                try clear c4
                try clear c5
                try clear c6
                try clear uh
                try clear c7
                try clear uK
                try clear c8
                try clear CW
                try clear KI
                try clear Ko
                try clear p2
                try clear J8
                obtain ⟨nX,gu,rfl,HA,EI,jc,sW,je,lG,HB⟩:=hrel
                cases gk with
                | zero=>exact absurd HA.out (by simp [bQ.l1])
                | succ k2 =>
                  have H:=HA.out
                  clear HA
                  simp only [bQ.l1] at H
                  by_cases c14:gu < (t150.length:Int)
                  · rw [if_pos c14] at H
                    have sN:decide (gu < (t150.length:Int))=true:=decide_eq_true c14
                    clear c14
                    by_cases c15:0≤gu
                    · rw [if_pos c15] at H
                      have yh:decide (0≤gu)=true:=decide_eq_true c15
                      clear c15
                      by_cases c16:gu < (t150.length:Int)
                      · rw [if_pos c16] at H
                        have Nu:decide (gu < (t150.length:Int))=true:=decide_eq_true c16
                        clear c16
                        by_cases c17:(dZ ByteArray.empty t150 gu).toList=([]:List UInt8)
                        · rw [if_pos c17] at H
                          have Ns:((dZ ByteArray.empty t150 gu).toList == ([]:List UInt8))=true:=beq_iff_eq.mpr c17
                          have Nr:((dZ ByteArray.empty t150 gu).toList != ([]:List UInt8))=false:=bne_eq_false_iff_eq.mpr c17
                          clear c17
                          have H':=af.mk H
                          clear H
                          have vK:0≤(gu:Int):=of_decide_eq_true (by first|(with_reducible assumption)|assumption)
                          have vJ:gu < (t150.length:Int):=of_decide_eq_true (by first|(with_reducible assumption)|assumption)
                          obtain ⟨Bq,IY,D5⟩:=Kd.ed (Kd.fZ lG.out).2.2 gu vK vJ
                          cases IY
                          replace vK:=eq_true vK
                          replace vJ:=eq_true vJ
                          go_wp2
                          go_roundg k2
                          case measure=>have:=lH.out;have:=EI.out;omega
                          case rel=>exact ⟨(nX),(wrap64 (gu+1)),(by first|rfl|(simp;done)|(simp [*];done)),H',⟨by have:=lH.out;have:=EI.out;omega⟩,⟨by (with_reducible repeat (first|apply Kd.fQ|apply Kd.fP|apply Kd.iF));exact jc.out⟩,⟨by (with_reducible repeat (first|apply Kd.bJ|apply Kd.bK|apply Kd.df));exact sW.out⟩,⟨by (with_reducible repeat (first|apply Kd.bJ|apply Kd.bK|apply Kd.df));exact je.out⟩,⟨by (with_reducible repeat (first|apply Kd.bJ|apply Kd.bK|apply Kd.df));exact lG.out⟩,⟨by repeat (first|(with_reducible first|exact HB.out|apply ai|apply ag|apply ah)|exact HB.out)⟩⟩
                        · rw [if_neg c17] at H
                          have Ns:((dZ ByteArray.empty t150 gu).toList == ([]:List UInt8))=false:=beq_eq_false_iff_ne.mpr c17
                          have Nr:((dZ ByteArray.empty t150 gu).toList != ([]:List UInt8))=true:=bne_iff_ne.mpr c17
                          replace H:=Option.bind_eq_some_iff.mp H
                          obtain ⟨t157,RQ,H⟩:=H
                          replace H:(if t157=true then (if nX.length < 8796093022208 then (bQ.l1 k2 dF iH (nX++[dZ ByteArray.empty t150 gu]) t143 (t143.length:Int) iH t150 (t150.length:Int) (wrap64 (gu+1))) else (none)) else (some (([]:List (List ByteArray)),wrap64 (iH+1),4)))=some (r1,r2,r3):=H
                          have XV:=af.mk RQ
                          clear RQ
                          by_cases c19:t157=true
                          · subst c19
                            have H1:(if nX.length < 8796093022208 then (bQ.l1 k2 dF iH (nX++[dZ ByteArray.empty t150 gu]) t143 (t143.length:Int) iH t150 (t150.length:Int) (wrap64 (gu+1))) else (none))=some (r1,r2,r3):=by rw [if_pos rfl] at H;exact H
                            clear H
                            have H:=H1
                            clear H1
                            by_cases c20:nX.length < 8796093022208
                            · rw [if_pos c20] at H
                              have QQ:=af.mk c20
                              clear c20
                              obtain ⟨y158,hy158⟩:∃ y_:List ByteArray,y_=(nX++[dZ ByteArray.empty t150 gu]):=⟨_,rfl⟩
                              replace H:(bQ.l1 k2 dF iH y158 t143 (t143.length:Int) iH t150 (t150.length:Int) (wrap64 (gu+1)))=some (r1,r2,r3):=by first|(rw [hy158];with_reducible exact H)|(have mi:=(Option.bind_some _ _).symm.trans H;rw [hy158];with_reducible exact mi)|(have mi:=(Option.bind_some _ _).symm.trans H;with_reducible exact mi)|with_reducible exact H|(rw [hy158];exact H)|exact H
                              have QH:=af.mk hy158
                              clear hy158
                              have H':=af.mk H
                              clear H
                              have vK:0≤(gu:Int):=of_decide_eq_true (by first|(with_reducible assumption)|assumption)
                              have vJ:gu < (t150.length:Int):=of_decide_eq_true (by first|(with_reducible assumption)|assumption)
                              obtain ⟨Bq,IY,D5⟩:=Kd.ed (Kd.fZ lG.out).2.2 gu vK vJ
                              cases IY
                              replace vK:=eq_true vK
                              replace vJ:=eq_true vJ
                              go_wp2_with (first|((with_reducible refine bY (f:=51) rfl ?_);refine eQ (some 40) rfl rfl Tryz.func51 (by kernel_rfl) rfl #[.string (dZ ByteArray.empty t150 gu)] rfl (by (try simp only [List.map_toArray,List.map_cons,List.map_nil]);first|done|rfl|(simp only [List.length_drop,List.length_take];rfl)) ?_;(with_reducible refine (pI.calls (dZ ByteArray.empty t150 gu) true _ XV.out).mono ?_);rintro e PI ⟨rfl,hb⟩;refine ⟨_,rfl,?_⟩;have dM:=af.mk (Kd.qM (by (with_reducible repeat (first|apply Kd.fQ|apply Kd.fP|apply Kd.iF));exact jc.out) hb);have dP:=af.mk (Kd.eG (by (with_reducible repeat (first|apply Kd.bJ|apply Kd.bK|apply Kd.df));exact sW.out) hb);have eY:=af.mk (Kd.eG (by (with_reducible repeat (first|apply Kd.bJ|apply Kd.bK|apply Kd.df));exact je.out) hb);have iD:=af.mk (Kd.eG (by (with_reducible repeat (first|apply Kd.bJ|apply Kd.bK|apply Kd.df));exact lG.out) hb);have mZ:=af.mk (bf (by repeat (first|(with_reducible first|exact HB.out|apply ai|apply ag|apply ah)|exact HB.out)) hb);clear jc;clear sW;clear je;clear lG;clear HB;have jc:=dM;have sW:=dP;have je:=eY;have lG:=iD;have HB:=mZ;clear dM dP eY iD mZ;(try clear hb);(try clear hb2);(try clear hk);(try clear hi))|((with_reducible refine fH (b:=.append) (xs:=#[.tmp 44,.tmp 46]) rfl ?_);at_builtin;refine Kd.jZ Kd.string (w0:=w) w.heap.size rfl (.tmp 44) (.tmp 46) 22 9 (.string ⟨#[]⟩) 16 rfl Tryz.underlying22 info9 rfl (by decide) (by omega) u8 nX (dZ ByteArray.empty t150 gu) [.string (dZ ByteArray.empty t150 gu)] (fun k_=>some k_ ≠ (.slice (some qY) t143.length Gi:Value).ownBlock∧some k_ ≠ (.slice (some Bq) t150.length xg:Value).ownBlock) (fun _=>False) rfl rfl ?aP (fun _ hk=>hk.elim) ?aF ?aO ?aB ?aS ?aL ?_;(case aP=>exact rfl);(case aB=>exact (by repeat (first|(with_reducible first|exact HB.out|apply ai|apply ag|apply ah)|exact HB.out)));(case aF=>exact (fun k_ hk=>⟨Kd.fresh' (Kd.wJ (by (with_reducible repeat (first|apply Kd.bJ|apply Kd.bK|apply Kd.df));exact je.out)) k_ hk,Kd.fresh' (Kd.wJ (by (with_reducible repeat (first|apply Kd.bJ|apply Kd.bK|apply Kd.df));exact lG.out)) k_ hk⟩));(case aO=>exact (by (with_reducible repeat (first|apply Kd.bJ|apply Kd.bK|apply Kd.df));exact sW.out));(case aS=>exact (bG (by repeat (first|(with_reducible first|exact HB.out|apply ai|apply ag|apply ah)|exact HB.out))));(case aL=>have:=QQ.out;omega);intro v159 NV ho hb hg hat;rw [← QH.out] at ho;have dM:=af.mk (Kd.MK (ok:=(fun k_=>some k_ ≠ (.slice (some qY) t143.length Gi:Value).ownBlock∧some k_ ≠ (.slice (some Bq) t150.length xg:Value).ownBlock)) (by (with_reducible repeat (first|apply Kd.fQ|apply Kd.fP|apply Kd.iF));exact Kd.nD jc.out (fun _ hk=>⟨⟨hk.2.1,hk.2.2⟩,hk.1⟩)) hg hat);have dP:=af.mk (Kd.zC (ok:=(fun k_=>some k_ ≠ (.slice (some Bq) t150.length xg:Value).ownBlock)) (by (with_reducible repeat (first|apply Kd.bJ|apply Kd.bK|apply Kd.df));exact Kd.dH je.out (fun _ hk=>⟨hk.2,hk.1⟩)) hg hat);have eY:=af.mk (Kd.zC (ok:=(fun k_=>some k_ ≠ (.slice (some qY) t143.length Gi:Value).ownBlock)) (by (with_reducible repeat (first|apply Kd.bJ|apply Kd.bK|apply Kd.df));exact Kd.dH lG.out (fun _ hk=>⟨hk.2,hk.1⟩)) hg hat);have iD:=af.mk (hb);have mZ:=af.mk (ho);clear jc;clear je;clear lG;clear HB;clear sW;have jc:=dM;have je:=dP;have lG:=eY;have HB:=iD;have Q9:=mZ;clear dM dP eY iD mZ;clear ho hb hg hat))
                              go_roundg k2
                              case measure=>have:=lH.out;have:=EI.out;omega
                              case rel=>exact ⟨(y158),(wrap64 (gu+1)),(by first|rfl|(simp;done)|(simp [*];done)),H',⟨by have:=lH.out;have:=EI.out;omega⟩,⟨by (with_reducible repeat (first|apply Kd.fQ|apply Kd.fP|apply Kd.iF));exact Kd.nD jc.out (fun _ hk=>⟨hk.2,⟨hk.1.1,hk.1.2⟩⟩)⟩,⟨by (with_reducible repeat (first|apply Kd.bJ|apply Kd.bK|apply Kd.df));exact Q9.out⟩,⟨by (with_reducible repeat (first|apply Kd.bJ|apply Kd.bK|apply Kd.df));exact Kd.dH je.out (fun _ hk=>⟨hk.2,hk.1⟩)⟩,⟨by (with_reducible repeat (first|apply Kd.bJ|apply Kd.bK|apply Kd.df));exact Kd.dH lG.out (fun _ hk=>⟨hk.2,hk.1⟩)⟩,⟨by repeat (first|(with_reducible first|exact HB.out|apply ai|apply ag|apply ah)|exact HB.out)⟩⟩
                            · rw [if_neg c20] at H
                              exact absurd H (by simp)
                          · replace c19:=Bool.eq_false_iff.mpr c19
                            subst c19
                            have H1:(some (([]:List (List ByteArray)),wrap64 (iH+1),4))=some (r1,r2,r3):=by rw [if_neg (show ¬ (false=true) by decide)] at H;exact H
                            clear H
                            have H:=H1
                            clear H1
                            simp only [Option.some.injEq,Prod.mk.injEq] at H
                            obtain ⟨rfl,rfl,rfl⟩:=H
                            have vK:0≤(gu:Int):=of_decide_eq_true (by first|(with_reducible assumption)|assumption)
                            have vJ:gu < (t150.length:Int):=of_decide_eq_true (by first|(with_reducible assumption)|assumption)
                            obtain ⟨Bq,IY,D5⟩:=Kd.ed (Kd.fZ lG.out).2.2 gu vK vJ
                            cases IY
                            replace vK:=eq_true vK
                            replace vJ:=eq_true vJ
                            go_wp2_with (first|((with_reducible refine bY (f:=51) rfl ?_);refine eQ (some 40) rfl rfl Tryz.func51 (by kernel_rfl) rfl #[.string (dZ ByteArray.empty t150 gu)] rfl (by (try simp only [List.map_toArray,List.map_cons,List.map_nil]);first|done|rfl|(simp only [List.length_drop,List.length_take];rfl)) ?_;(with_reducible refine (pI.calls (dZ ByteArray.empty t150 gu) false _ XV.out).mono ?_);rintro e EM ⟨rfl,hb⟩;refine ⟨_,rfl,?_⟩;have dM:=af.mk (Kd.qM (by (with_reducible repeat (first|apply Kd.fQ|apply Kd.fP|apply Kd.iF));exact jc.out) hb);have dP:=af.mk (Kd.eG (by (with_reducible repeat (first|apply Kd.bJ|apply Kd.bK|apply Kd.df));exact sW.out) hb);have eY:=af.mk (Kd.eG (by (with_reducible repeat (first|apply Kd.bJ|apply Kd.bK|apply Kd.df));exact je.out) hb);have iD:=af.mk (Kd.eG (by (with_reducible repeat (first|apply Kd.bJ|apply Kd.bK|apply Kd.df));exact lG.out) hb);have mZ:=af.mk (bf (by repeat (first|(with_reducible first|exact HB.out|apply ai|apply ag|apply ah)|exact HB.out)) hb);clear jc;clear sW;clear je;clear lG;clear HB;have jc:=dM;have sW:=dP;have je:=eY;have lG:=iD;have HB:=mZ;clear dM dP eY iD mZ;(try clear hb);(try clear hb2);(try clear hk);(try clear hi)))
                            go_ret3
                            exact ⟨_,by first|rfl|(simp [bC,bz] <;> rfl)|(simp [*,bC,bz] <;> rfl),by first|exact Kd.sS _ _ _ _ _|exact Kd.sV _ _ _ _ _|exact Kd.sQ _ _ _ _ _|exact Kd.sU _ _ _ _ _|exact Kd.gU _ _ _ _ _,by repeat (first|(with_reducible first|exact HB.out|apply ai|apply ag|apply ah)|exact HB.out)⟩
                      · rw [if_neg c16] at H
                        exact absurd H (by simp)
                    · rw [if_neg c15] at H
                      exact absurd H (by simp)
                  · rw [if_neg c14] at H
                    have sN:decide (gu < (t150.length:Int))=false:=decide_eq_false c14
                    clear c14
                    by_cases c24:(nX.length:Int) > 0
                    · rw [if_pos c24] at H
                      have Nq:decide (0 < (nX.length:Int))=true:=decide_eq_true c24
                      have Qk:decide (0 < nX.length)=true:=decide_eq_true (by omega)
                      clear c24
                      by_cases c25:dF.length < 5864062014805
                      · rw [if_pos c25] at H
                        have QO:=af.mk c25
                        clear c25
                        obtain ⟨y153,hy153⟩:∃ y_:List (List ByteArray),y_=(dF++[nX]):=⟨_,rfl⟩
                        replace H:(bQ.l0 k2 y153 t143 (t143.length:Int) (wrap64 (iH+1)))=some (r1,r2,r3):=by first|(rw [hy153];with_reducible exact H)|(have mi:=(Option.bind_some _ _).symm.trans H;rw [hy153];with_reducible exact mi)|(have mi:=(Option.bind_some _ _).symm.trans H;with_reducible exact mi)|with_reducible exact H|(rw [hy153];exact H)|exact H
                        have QI:=af.mk hy153
                        clear hy153
                        have H':=af.mk H
                        clear H
                        obtain ⟨JB,I7,LZ⟩:=Kd.fJ sW.out
                        subst LZ
                        go_wp2_with (first|((with_reducible refine fH (b:=.append) (xs:=#[.tmp 52,.tmp 54]) rfl ?_);at_builtin;refine Kd.BA (Kd.slice 9 Kd.string) (w0:=w) w.heap.size rfl (.tmp 52) (.tmp 54) 43 22 (.slice none 0 0) 24 rfl Tryz.underlying43 info22 rfl (by decide) (by omega) u5 dF nX [.slice JB nX.length I7] (fun k_=>some k_ ≠ (.slice (some qY) t143.length Gi:Value).ownBlock∧some k_ ≠ (.slice Df t150.length xg:Value).ownBlock) (fun k_=>some k_=(.slice JB nX.length I7:Value).ownBlock) rfl rfl ?aP (fun k_ VH=>((Kd.dH (ok':=fun k_=>((fun k_=>some k_ ≠ (.slice (some qY) t143.length Gi:Value).ownBlock∧some k_ ≠ (.slice Df t150.length xg:Value).ownBlock)) k_∧some k_ ≠ (u5:Value).ownBlock) (Kd.jG (sW.out) (Kd.qL jc.out) (by decide)) (fun k_ hk=>⟨⟨hk.1.1,hk.1.2⟩,hk.2⟩))).1 k_ VH.symm) ?aF ?aO ?aB ?aS ?aL ?_;(case aP=>exact Kd.NJ (Kd.dH (Kd.zy rfl (Kd.dH (ok':=fun k_=>((fun k_=>some k_ ≠ (.slice (some qY) t143.length Gi:Value).ownBlock∧some k_ ≠ (.slice Df t150.length xg:Value).ownBlock)) k_∧some k_ ≠ (u5:Value).ownBlock) (Kd.jG (sW.out) (Kd.qL jc.out) (by decide)) (fun k_ hk=>⟨⟨hk.1.1,hk.1.2⟩,hk.2⟩))) (fun _ h_=>h_)));(case aB=>exact (by repeat (first|(with_reducible first|exact HB.out|apply ai|apply ag|apply ah)|exact HB.out)));(case aF=>exact (fun k_ hk=>⟨Kd.fresh' (Kd.wJ (by (with_reducible repeat (first|apply Kd.bJ|apply Kd.bK|apply Kd.df));exact je.out)) k_ hk,Kd.fresh' (Kd.wJ (by (with_reducible repeat (first|apply Kd.bJ|apply Kd.bK|apply Kd.df));exact lG.out)) k_ hk⟩));(case aO=>exact (by (with_reducible repeat (first|apply Kd.fQ|apply Kd.fP|apply Kd.iF));exact Kd.nD jc.out (fun k_ hk=>⟨⟨hk.2.1,hk.2.2⟩,fun e_=>hk.1 e_⟩)));(case aS=>exact (bG (by repeat (first|(with_reducible first|exact HB.out|apply ai|apply ag|apply ah)|exact HB.out))));(case aL=>have:=QO.out;omega);intro v154 PH ho hb hg hat;rw [← QI.out] at ho;have dM:=af.mk (Kd.uX (by (with_reducible repeat (first|apply Kd.bJ|apply Kd.bK|apply Kd.df));exact je.out) (Kd.qL (by (with_reducible repeat (first|apply Kd.fQ|apply Kd.fP|apply Kd.iF));exact jc.out)) (by decide) hg);have dP:=af.mk (Kd.uX (by (with_reducible repeat (first|apply Kd.bJ|apply Kd.bK|apply Kd.df));exact lG.out) (Kd.qL (by (with_reducible repeat (first|apply Kd.fQ|apply Kd.fP|apply Kd.iF));exact jc.out)) (by decide) hg);have eY:=af.mk (hb);have iD:=af.mk (ho);clear je;clear lG;clear HB;clear jc;clear sW;have je:=dM;have lG:=dP;have HB:=eY;have Rf:=iD;clear dM dP eY iD;clear ho hb hg hat))
                        go_roundg k2
                        case measure=>have:=lH.out;have:=EI.out;omega
                        case rel=>exact ⟨(y153),(wrap64 (iH+1)),(by first|rfl|(simp;done)|(simp [*];done)),H',⟨by have:=lH.out;have:=EI.out;omega⟩,⟨by (with_reducible repeat (first|apply Kd.fQ|apply Kd.fP|apply Kd.iF));exact Kd.nD Rf.out (fun _ hk=>hk.1)⟩,⟨by (with_reducible repeat (first|apply Kd.bJ|apply Kd.bK|apply Kd.df));exact Kd.dH je.out (fun _ hk=>trivial)⟩,⟨by repeat (first|(with_reducible first|exact HB.out|apply ai|apply ag|apply ah)|exact HB.out)⟩⟩
                      · rw [if_neg c25] at H
                        exact absurd H (by simp)
                    · rw [if_neg c24] at H
                      have Nq:decide (0 < (nX.length:Int))=false:=decide_eq_false c24
                      have Qk:decide (0 < nX.length)=false:=decide_eq_false (by omega)
                      clear c24
                      have H':=af.mk H
                      clear H
                      obtain ⟨YT,YC,V8⟩:=Kd.fJ sW.out
                      subst V8
                      go_wp2
                      go_roundg k2
                      case measure=>have:=lH.out;have:=EI.out;omega
                      case rel=>exact ⟨(dF),(wrap64 (iH+1)),(by first|rfl|(simp;done)|(simp [*];done)),H',⟨by have:=lH.out;have:=EI.out;omega⟩,⟨by (with_reducible repeat (first|apply Kd.fQ|apply Kd.fP|apply Kd.iF));exact Kd.nD jc.out (fun _ hk=>hk.2.1)⟩,⟨by (with_reducible repeat (first|apply Kd.bJ|apply Kd.bK|apply Kd.df));exact Kd.dH je.out (fun _ hk=>trivial)⟩,⟨by repeat (first|(with_reducible first|exact HB.out|apply ai|apply ag|apply ah)|exact HB.out)⟩⟩
            · rw [if_neg c8] at H
              exact absurd H (by simp)
          · rw [if_neg c7] at H
            exact absurd H (by simp)
        · rw [if_neg c6] at H
          have uh:decide (iH < (t143.length:Int))=false:=decide_eq_false c6
          clear c6
          simp only [Option.some.injEq,Prod.mk.injEq] at H
          obtain ⟨rfl,rfl,rfl⟩:=H
          go_wp2
          go_ret3
          exact ⟨_,by first|rfl|(simp [bC,bz] <;> rfl)|(simp [*,bC,bz] <;> rfl),by (with_reducible repeat (first|apply Kd.fQ|apply Kd.fP|apply Kd.iF));exact Kd.nD jc.out (fun _ hk=>trivial),by repeat (first|(with_reducible first|exact HB.out|apply ai|apply ag|apply ah)|exact HB.out)⟩
def stringslite_HasSuffix.f (a0:ByteArray) (a1:ByteArray):Option (Bool):=if (a0.size:Int) ≥ (a1.size:Int) then (if 0≤(wrap64 ((a0.size:Int) - (a1.size:Int))) then (if (wrap64 ((a0.size:Int) - (a1.size:Int)))≤(a0.size:Int) then (some ((a0.extract ((wrap64 ((a0.size:Int) - (a1.size:Int))):Int).toNat a0.size).toList == a1.toList)) else (none)) else (none)) else (some false)
set_option maxHeartbeats 8000000 in
set_option maxRecDepth 100000 in
theorem stringslite_HasSuffix.calls (a0:ByteArray) (a1:ByteArray) (r:Bool) (w:World) (h:stringslite_HasSuffix.f a0 a1=some r) :
    Calls Tryz.prog 62 #[.string a0,.string a1] w fun e w'=>e=.returned (.bool r)∧dE w w':=by
  have H:(if (a0.size:Int) ≥ (a1.size:Int) then (if 0≤(wrap64 ((a0.size:Int) - (a1.size:Int))) then (if (wrap64 ((a0.size:Int) - (a1.size:Int)))≤(a0.size:Int) then (some ((a0.extract ((wrap64 ((a0.size:Int) - (a1.size:Int))):Int).toNat a0.size).toList == a1.toList)) else (none)) else (none)) else (some false))=some r:=h
  clear h
  by_cases c3:(a0.size:Int) ≥ (a1.size:Int)
  · rw [if_pos c3] at H
    have Jc:decide ((a1.size:Int)≤(a0.size:Int))=true:=decide_eq_true c3
    have WB:decide (a1.size≤a0.size)=true:=decide_eq_true (Int.ofNat_le.mp c3)
    clear c3
    obtain ⟨Nb,KL⟩:∃ j_:Int,(wrap64 ((a0.size:Int) - (a1.size:Int)))=j_:=⟨_,rfl⟩
    replace H:(if 0≤(Nb) then (if (Nb)≤(a0.size:Int) then (some ((a0.extract ((Nb):Int).toNat a0.size).toList == a1.toList)) else (none)) else (none))=some r:=by first|(rw [KL] at H;exact H)|(simp only [KL] at H ⊢;exact H)
    have Xm:(IntKind.i64.wrap ((a0.size:Int) - (a1.size:Int)))=Nb:=(aH _).trans KL
    by_cases c5:0≤(Nb)
    · rw [if_pos c5] at H
      have sK:=eq_true c5
      have OT:decide (0≤(Nb))=true:=decide_eq_true c5
      clear c5
      by_cases c6:(Nb)≤(a0.size:Int)
      · rw [if_pos c6] at H
        have uh:=eq_true c6
        have MB:decide ((Nb)≤(a0.size:Int))=true:=decide_eq_true c6
        clear c6
        obtain rfl:=Option.some.inj H
        go_enter Tryz.func62,Tryz.ntmps62
        go_wp2
        go_ret
        exact ⟨by first|rfl|(simp;done)|(simp only [← KL] <;> (first|rfl|simp))|(simp [*];done),by repeat (first|exact dE.refl _|apply dE.step)⟩
      · rw [if_neg c6] at H
        exact absurd H (by simp)
    · rw [if_neg c5] at H
      exact absurd H (by simp)
  · rw [if_neg c3] at H
    have Jc:decide ((a1.size:Int)≤(a0.size:Int))=false:=decide_eq_false c3
    have WB:decide (a1.size≤a0.size)=false:=decide_eq_false (fun h=>c3 (Int.ofNat_le.mpr h))
    clear c3
    obtain rfl:=Option.some.inj H
    go_enter Tryz.func62,Tryz.ntmps62
    go_wp2
    go_ret
    exact ⟨by first|rfl|(simp;done)|(simp [*];done),by repeat (first|exact dE.refl _|apply dE.step)⟩
def stringslite_TrimSuffix.f (a0:ByteArray) (a1:ByteArray):Option (ByteArray):=(stringslite_HasSuffix.f a0 a1).bind fun t161=>(if t161=true then (if 0≤(wrap64 ((a0.size:Int) - (a1.size:Int))) then (if (wrap64 ((a0.size:Int) - (a1.size:Int)))≤(a0.size:Int) then (some (a0.extract 0 ((wrap64 ((a0.size:Int) - (a1.size:Int))):Int).toNat)) else (none)) else (none)) else (some a0))
set_option maxHeartbeats 8000000 in
set_option maxRecDepth 100000 in
theorem stringslite_TrimSuffix.calls (a0:ByteArray) (a1:ByteArray) (r:ByteArray) (w:World) (h:stringslite_TrimSuffix.f a0 a1=some r) :
    Calls Tryz.prog 52 #[.string a0,.string a1] w fun e w'=>e=.returned (.string r)∧dE w w':=by
  have H:((stringslite_HasSuffix.f a0 a1).bind fun t161=>(if t161=true then (if 0≤(wrap64 ((a0.size:Int) - (a1.size:Int))) then (if (wrap64 ((a0.size:Int) - (a1.size:Int)))≤(a0.size:Int) then (some (a0.extract 0 ((wrap64 ((a0.size:Int) - (a1.size:Int))):Int).toNat)) else (none)) else (none)) else (some a0)))=some r:=h
  clear h
  replace H:=Option.bind_eq_some_iff.mp H
  obtain ⟨t161,BI,H⟩:=H
  replace H:(if t161=true then (if 0≤(wrap64 ((a0.size:Int) - (a1.size:Int))) then (if (wrap64 ((a0.size:Int) - (a1.size:Int)))≤(a0.size:Int) then (some (a0.extract 0 ((wrap64 ((a0.size:Int) - (a1.size:Int))):Int).toNat)) else (none)) else (none)) else (some a0))=some r:=H
  have A3:=af.mk BI
  clear BI
  by_cases c4:t161=true
  · subst c4
    have H1:(if 0≤(wrap64 ((a0.size:Int) - (a1.size:Int))) then (if (wrap64 ((a0.size:Int) - (a1.size:Int)))≤(a0.size:Int) then (some (a0.extract 0 ((wrap64 ((a0.size:Int) - (a1.size:Int))):Int).toNat)) else (none)) else (none))=some r:=by rw [if_pos rfl] at H;exact H
    clear H
    have H:=H1
    clear H1
    obtain ⟨Na,Hz⟩:∃ j_:Int,(wrap64 ((a0.size:Int) - (a1.size:Int)))=j_:=⟨_,rfl⟩
    replace H:(if 0≤(Na) then (if (Na)≤(a0.size:Int) then (some (a0.extract 0 ((Na):Int).toNat)) else (none)) else (none))=some r:=by first|(rw [Hz] at H;exact H)|(simp only [Hz] at H ⊢;exact H)
    (try rw [Hz] at A3)
    have Xl:(IntKind.i64.wrap ((a0.size:Int) - (a1.size:Int)))=Na:=(aH _).trans Hz
    by_cases c6:0≤(Na)
    · rw [if_pos c6] at H
      have uh:=eq_true c6
      have MB:decide (0≤(Na))=true:=decide_eq_true c6
      clear c6
      by_cases c7:(Na)≤(a0.size:Int)
      · rw [if_pos c7] at H
        have uK:=eq_true c7
        have F8:decide ((Na)≤(a0.size:Int))=true:=decide_eq_true c7
        clear c7
        obtain rfl:=Option.some.inj H
        go_enter Tryz.func52,Tryz.ntmps52
        go_wp2_with (first|((with_reducible refine bY (f:=62) rfl ?_);refine eQ (some 7) rfl rfl Tryz.func62 (by kernel_rfl) rfl #[.string a0,.string a1] rfl (by (try simp only [List.map_toArray,List.map_cons,List.map_nil]);first|done|rfl|(simp only [List.length_drop,List.length_take];rfl)) ?_;(with_reducible refine (stringslite_HasSuffix.calls a0 a1 true _ A3.out).mono ?_);rintro e w' ⟨rfl,⟨nd,rfl⟩⟩;refine ⟨_,rfl,?_⟩))
        go_ret
        exact ⟨by first|rfl|(simp;done)|(simp only [← Hz] <;> (first|rfl|simp))|(simp [*];done),by repeat (first|exact dE.refl _|apply dE.step)⟩
      · rw [if_neg c7] at H
        exact absurd H (by simp)
    · rw [if_neg c6] at H
      exact absurd H (by simp)
  · replace c4:=Bool.eq_false_iff.mpr c4
    subst c4
    have H1:(some a0)=some r:=by rw [if_neg (show ¬ (false=true) by decide)] at H;exact H
    clear H
    have H:=H1
    clear H1
    obtain rfl:=Option.some.inj H
    go_enter Tryz.func52,Tryz.ntmps52
    go_wp2_with (first|((with_reducible refine bY (f:=62) rfl ?_);refine eQ (some 7) rfl rfl Tryz.func62 (by kernel_rfl) rfl #[.string a0,.string a1] rfl (by (try simp only [List.map_toArray,List.map_cons,List.map_nil]);first|done|rfl|(simp only [List.length_drop,List.length_take];rfl)) ?_;(with_reducible refine (stringslite_HasSuffix.calls a0 a1 false _ A3.out).mono ?_);rintro e w' ⟨rfl,⟨nd,rfl⟩⟩;refine ⟨_,rfl,?_⟩))
    go_ret
    exact ⟨by first|rfl|(simp;done)|(simp [*];done),by repeat (first|exact dE.refl _|apply dE.step)⟩
def strings_TrimSuffix.f (a0:ByteArray) (a1:ByteArray):Option (ByteArray):=(stringslite_TrimSuffix.f a0 a1).bind fun t162=>(some t162)
set_option maxHeartbeats 8000000 in
set_option maxRecDepth 100000 in
theorem strings_TrimSuffix.calls (a0:ByteArray) (a1:ByteArray) (r:ByteArray) (w:World) (h:strings_TrimSuffix.f a0 a1=some r) :
    Calls Tryz.prog 32 #[.string a0,.string a1] w fun e w'=>e=.returned (.string r)∧dE w w':=by
  have H:((stringslite_TrimSuffix.f a0 a1).bind fun t162=>(some t162))=some r:=h
  clear h
  replace H:=Option.bind_eq_some_iff.mp H
  obtain ⟨t162,BI,H⟩:=H
  replace H:(some t162)=some r:=H
  have A3:=af.mk BI
  clear BI
  obtain rfl:=Option.some.inj H
  go_enter Tryz.func32,Tryz.ntmps32
  go_wp2_with (first|((with_reducible refine bY (f:=52) rfl ?_);refine eQ (some 7) rfl rfl Tryz.func52 (by kernel_rfl) rfl #[.string a0,.string a1] rfl (by (try simp only [List.map_toArray,List.map_cons,List.map_nil]);first|done|rfl|(simp only [List.length_drop,List.length_take];rfl)) ?_;(with_reducible refine (stringslite_TrimSuffix.calls a0 a1 t162 _ A3.out).mono ?_);rintro e w' ⟨rfl,⟨nd,rfl⟩⟩;refine ⟨_,rfl,?_⟩))
  go_ret
  exact ⟨by first|rfl|(simp;done)|(simp [*];done),by repeat (first|exact dE.refl _|apply dE.step)⟩
end Go.Proofs.YtkclndkbccbhaaaGreatDoor.P
end
section
namespace Go.Proofs.YtkclndkbccbhaaaGreatDoor.P
open Go
def nK (c:UInt8):List UInt8→List (List UInt8)
  | []=>[[]]
  | x :: xs=>if x=c then [] :: nK c xs else (x :: (nK c xs).headD []) :: (nK c xs).tail
theorem sZ (c:UInt8) (l:List UInt8):nK c l ≠ []:=by
  cases l with
  | nil=>simp [nK]
  | cons x xs=>unfold nK;split <;> simp
theorem FB {α:Type} {a b:List α} (d:α) (h:a ≠ []):(a++b).headD d=a.headD d:=by
  cases a with
  | nil=>exact absurd rfl h
  | cons x xs=>rfl
theorem Gy {α:Type} {a b:List α} (h:a ≠ []):(a++b).tail=a.tail++b:=by
  cases a with
  | nil=>exact absurd rfl h
  | cons x xs=>rfl
theorem uP (c:UInt8) (a b:List UInt8):nK c (a++c :: b)=nK c a++nK c b:=by
  induction a with
  | nil=>simp [nK]
  | cons x xs ih =>
    simp only [List.cons_append,nK]
    by_cases h:x=c
    · rw [if_pos h,if_pos h,ih];rfl
    · rw [if_neg h,if_neg h,ih,FB _ (sZ c xs),Gy (sZ c xs)];rfl
theorem lQ (c:UInt8) {l:List UInt8} (h:c ∉ l):nK c l=[l]:=by
  induction l with
  | nil=>rfl
  | cons x xs ih =>
    simp only [List.mem_cons,not_or] at h
    unfold nK
    rw [if_neg (fun e=>h.1 e.symm),ih h.2]
    rfl
theorem vF (c:UInt8) (l:List UInt8):(nK c l).length=l.count c+1:=by
  induction l with
  | nil=>rfl
  | cons x xs ih =>
    unfold nK
    by_cases h:x=c
    · rw [if_pos h,h,List.count_cons_self];simp [ih]
    · have h1:0 < (nK c xs).length:=List.length_pos_iff.2 (sZ c xs)
      rw [if_neg h,List.count_cons_of_ne h]
      simp only [List.length_cons,List.length_tail]
      omega
theorem JQ {c:UInt8} {l p:List UInt8} (h:p ∈ nK c l):c ∉ p:=by
  induction l generalizing p with
  | nil=>simp [nK] at h;subst h;simp
  | cons x xs ih =>
    unfold nK at h
    by_cases e:x=c
    · rw [if_pos e] at h
      rcases List.mem_cons.1 h with h|h
      · subst h;simp
      · exact ih h
    · rw [if_neg e] at h
      rcases List.mem_cons.1 h with h|h
      · subst h
        simp only [List.mem_cons,not_or]
        refine ⟨fun e'=>e e'.symm,?_⟩
        apply ih
        cases hs:nK c xs with
        | nil=>exact absurd hs (sZ c xs)
        | cons y ys=>simp
      · exact ih (List.mem_of_mem_tail h)
theorem wW {p:UInt8→Bool} {l:List UInt8} (h:∀ x ∈ l,p x=true):l.takeWhile p=l:=by
  induction l with
  | nil=>rfl
  | cons x xs ih=>rw [List.takeWhile_cons,if_pos (h x (by simp)),ih (fun y hy=>h y (by simp [hy]))]
theorem wV {p:UInt8→Bool} {l:List UInt8} {x:UInt8} (h:x ∈ l.takeWhile p):p x=true:=by
  induction l with
  | nil=>cases h
  | cons y ys ih =>
    rw [List.takeWhile_cons] at h
    by_cases e:p y=true
    · rw [if_pos e] at h
      rcases List.mem_cons.1 h with rfl|h
      · exact e
      · exact ih h
    · rw [if_neg e] at h
      cases h
theorem dropWhile_nil {p:UInt8→Bool} {l:List UInt8}:l.dropWhile p=[] ↔ ∀ x ∈ l,p x=true:=by
  induction l with
  | nil=>simp
  | cons x xs ih =>
    rw [List.dropWhile_cons]
    by_cases h:p x=true
    · rw [if_pos h,ih];simp [h]
    · rw [if_neg h];simp [h]
theorem uJ {p:UInt8→Bool} {l:List UInt8} {x:UInt8} {xs:List UInt8} (h:l.dropWhile p=x :: xs):¬ p x=true:=by
  induction l with
  | nil=>cases h
  | cons y ys ih =>
    rw [List.dropWhile_cons] at h
    by_cases e:p y=true
    · rw [if_pos e] at h;exact ih h
    · rw [if_neg e] at h
      injection h with h1 h2
      subst h1
      exact e
theorem xx {l cs:List UInt8}:Lib.trimS l cs=[] ↔ ∀ x ∈ l,cs.contains x=true:=by
  unfold Lib.trimS Lib.trimLeftS Lib.trimRightS
  rw [dropWhile_nil]
  constructor
  · intro h
    cases hd:l.reverse.dropWhile (cs.contains ·) with
    | nil =>
      intro x hx
      exact dropWhile_nil.1 hd x (by simp [hx])
    | cons y ys =>
      exact absurd (h y (by rw [hd];simp)) (uJ hd)
  · intro h
    have:l.reverse.dropWhile (cs.contains ·)=[]:=dropWhile_nil.2 fun x hx=>h x (by simpa using hx)
    rw [this]
    simp
def Gh (b:UInt8):Bool:=decide (97≤b.toNat∧b.toNat≤122) || decide (48≤b.toNat∧b.toNat≤57) || decide (b.toNat=45)
def xH (w:List UInt8):Bool:=decide (w.length≤30) && w.all Gh
def toks (l:List UInt8):List (List UInt8):=(nK 32 (l.takeWhile (· ≠ 35))).filter (· ≠ [])
def keep (t:List (List UInt8)):List (List (List UInt8)):=if t=[] then [] else [t]
def PT (x:List UInt8):Bool:=(toks x).all xH
def xP (xs:List (List UInt8)):List (List (List UInt8)):=xs.flatMap fun x=>keep (toks x)
def LR:Nat→List (List (List UInt8))→List (List UInt8)→List (List (List UInt8)) × Nat × Nat
  | _,acc,[]=>(acc,0,0)
  | n,acc,x :: r=>if PT x then LR (n+1) (acc++keep (toks x)) r else ([],n+1,4)
theorem O3 {xs:List (List UInt8)} (h:∀ x ∈ xs,PT x=true) (n:Nat) (acc:List (List (List UInt8))) (ys:List (List UInt8)):LR n acc (xs++ys)=LR (n+xs.length) (acc++xP xs) ys:=by
  induction xs generalizing n acc with
  | nil=>simp [xP]
  | cons x xs ih =>
    simp only [List.cons_append,LR]
    rw [if_pos (h x (by simp)),ih (fun y hy=>h y (by simp [hy]))]
    simp only [List.length_cons,xP,List.flatMap_cons,List.append_assoc]
    rw [show n+1+xs.length=n+(xs.length+1) from by omega]
theorem Gv {l w:List UInt8} (h:w ∈ toks l):w ≠ []∧(32:UInt8) ∉ w∧(35:UInt8) ∉ w:=by
  unfold toks at h
  rw [List.mem_filter] at h
  refine ⟨by simpa using h.2,JQ h.1,?_⟩
  have h35:(35:UInt8) ∉ l.takeWhile (· ≠ 35):=by
    intro hm
    have:=wV hm
    simp at this
  intro hw
  refine h35 ?_
  generalize l.takeWhile (· ≠ 35)=m at h
  have:∀ (m w:List UInt8),w ∈ nK 32 m→∀ x ∈ w,x ∈ m:=by
    intro m
    induction m with
    | nil=>intro w hw x hx;simp [nK] at hw;subst hw;cases hx
    | cons y ys ih =>
      intro w hw x hx
      unfold nK at hw
      by_cases e:y=32
      · rw [if_pos e] at hw
        rcases List.mem_cons.1 hw with rfl|hw
        · cases hx
        · exact List.mem_cons_of_mem _ (ih w hw x hx)
      · rw [if_neg e] at hw
        rcases List.mem_cons.1 hw with rfl|hw
        · rcases List.mem_cons.1 hx with rfl|hx
          · simp
          · refine List.mem_cons_of_mem _ (ih ((nK 32 ys).headD []) ?_ x hx)
            cases hs:nK 32 ys with
            | nil=>exact absurd hs (sZ 32 ys)
            | cons a b=>simp
        · exact List.mem_cons_of_mem _ (ih w (List.mem_of_mem_tail hw) x hx)
  exact this m w h.1 35 hw
def plainW (w:List UInt8):Prop:=w ≠ []∧(32:UInt8) ∉ w∧(35:UInt8) ∉ w
theorem Fh {ws:List (List UInt8)} (h:∀ w ∈ ws,plainW w):(35:UInt8) ∉ Lib.join ws [32]:=by
  cases ws with
  | nil=>simp [Lib.join_nil]
  | cons w r =>
    rw [Lib.join_cons]
    unfold Lib.joinTail
    simp only [List.mem_append,List.mem_flatten,List.mem_map,not_or,not_exists,not_and]
    refine ⟨(h w (by simp)).2.2,?_⟩
    rintro x ⟨y,hy,rfl⟩
    simp only [List.cons_append,List.nil_append,List.mem_cons,not_or]
    exact ⟨by decide,(h y (by simp [hy])).2.2⟩
theorem GG {ws:List (List UInt8)} (h:∀ w ∈ ws,(32:UInt8) ∉ w) (w:List UInt8) (hw:(32:UInt8) ∉ w):nK 32 (w++Lib.joinTail [32] ws)=w :: ws:=by
  induction ws generalizing w with
  | nil=>simp [Lib.joinTail,lQ 32 hw]
  | cons x xs ih =>
    have e:w++Lib.joinTail [32] (x :: xs)=w++32 :: (x++Lib.joinTail [32] xs):=by simp [Lib.joinTail]
    rw [e,uP,lQ 32 hw,ih (fun y hy=>h y (by simp [hy])) x (h x (by simp))]
    rfl
theorem vw {l:List UInt8} (h:(35:UInt8) ∉ l):l.takeWhile (· ≠ 35)=l:=by
  refine wW fun x hx=>?_
  simp only [ne_eq,decide_eq_true_eq]
  rintro rfl
  exact h hx
theorem EO {ws:List (List UInt8)} (h:∀ w ∈ ws,plainW w):toks (Lib.join ws [32])=ws:=by
  unfold toks
  rw [vw (Fh h)]
  cases ws with
  | nil=>rfl
  | cons w r =>
    rw [Lib.join_cons,GG (fun y hy=>(h y (by simp [hy])).2.1) w (h w (by simp)).2.1,List.filter_eq_self]
    intro x hx
    simpa using (h x hx).1
theorem Ce {b:UInt8} (h:Gh b=true):b ≠ 10∧b ≠ 32∧b ≠ 35:=by
  refine ⟨?_,?_,?_⟩ <;> (rintro rfl;exact absurd h (by decide))
theorem tJ {w:List UInt8} (h:xH w=true) (h0:w ≠ []):plainW w∧(10:UInt8) ∉ w:=by
  simp only [xH,Bool.and_eq_true,List.all_eq_true] at h
  exact ⟨⟨h0,fun hm=>(Ce (h.2 _ hm)).2.1 rfl,fun hm=>(Ce (h.2 _ hm)).2.2 rfl⟩,fun hm=>(Ce (h.2 _ hm)).1 rfl⟩
theorem KF {ws:List (List UInt8)} (h:∀ w ∈ ws,(10:UInt8) ∉ w):(10:UInt8) ∉ Lib.join ws [32]:=by
  cases ws with
  | nil=>simp [Lib.join_nil]
  | cons w r =>
    rw [Lib.join_cons]
    unfold Lib.joinTail
    simp only [List.mem_append,List.mem_flatten,List.mem_map,not_or,not_exists,not_and]
    refine ⟨h w (by simp),?_⟩
    rintro x ⟨y,hy,rfl⟩
    simp only [List.cons_append,List.nil_append,List.mem_cons,not_or]
    exact ⟨by decide,h y (by simp [hy])⟩
def joinL (L:List (List (List UInt8))):List UInt8:=(L.map fun ws=>Lib.join ws [32]++[10]).flatten
theorem xA {L:List (List (List UInt8))} (h:∀ ws ∈ L,∀ w ∈ ws,(10:UInt8) ∉ w):nK 10 (joinL L)=L.map (fun ws=>Lib.join ws [32])++[[]]:=by
  induction L with
  | nil=>rfl
  | cons x xs ih =>
    have e:joinL (x :: xs)=Lib.join x [32]++10 :: joinL xs:=by simp [joinL]
    rw [e,uP,lQ 10 (KF (h x (by simp))),ih (fun y hy=>h y (by simp [hy]))]
    rfl
theorem Jv {L:List (List (List UInt8))} (h0:∀ ws ∈ L,ws ≠ []) (h:∀ ws ∈ L,∀ w ∈ ws,xH w=true∧w ≠ []):LR 0 [] (nK 10 (joinL L))=(L,0,0):=by
  have hp:∀ ws ∈ L,∀ w ∈ ws,plainW w:=fun ws hs w hw=>(tJ (h ws hs w hw).1 (h ws hs w hw).2).1
  have ht:∀ ws ∈ L,toks (Lib.join ws [32])=ws:=fun ws hs=>EO (hp ws hs)
  rw [xA (fun ws hs w hw=>(tJ (h ws hs w hw).1 (h ws hs w hw).2).2),O3]
  · have e:xP (L.map fun ws=>Lib.join ws [32])=L:=by
      have:∀ M:List (List (List UInt8)),(∀ ws ∈ M,ws ≠ []∧toks (Lib.join ws [32])=ws)→xP (M.map fun ws=>Lib.join ws [32])=M:=by
        intro M hM
        induction M with
        | nil=>rfl
        | cons x xs ih =>
          have hx:=hM x (by simp)
          have hi:=ih (fun y hy=>hM y (by simp [hy]))
          unfold xP at hi ⊢
          rw [List.map_cons,List.flatMap_cons,hi,hx.2]
          unfold keep
          rw [if_neg hx.1]
          rfl
      exact this L fun ws hs=>⟨h0 ws hs,ht ws hs⟩
    rw [e]
    simp [LR,PT,toks,nK,keep]
  · intro x hx
    obtain ⟨ws,hs,rfl⟩:=List.mem_map.1 hx
    unfold PT
    rw [ht ws hs,List.all_eq_true]
    exact fun w hw=>(h ws hs w hw).1
theorem yO (ws:List (List UInt8)):(Lib.joinTail [32] ws).length=(ws.map fun w=>w.length+1).sum:=by
  induction ws with
  | nil=>rfl
  | cons w r ih =>
    have:Lib.joinTail [32] (w :: r)=32 :: w++Lib.joinTail [32] r:=by simp [Lib.joinTail]
    rw [this]
    simp only [List.length_append,List.length_cons,List.map_cons,List.sum_cons,ih]
theorem JP (c:UInt8) (l:List UInt8):((nK c l).map fun w=>w.length+1).sum=l.length+1:=by
  induction l with
  | nil=>rfl
  | cons x xs ih =>
    unfold nK
    split
    · simp only [List.map_cons,List.sum_cons,ih,List.length_nil,List.length_cons];omega
    · cases hs:nK c xs with
      | nil=>exact absurd hs (sZ c xs)
      | cons y ys =>
        rw [hs] at ih
        simp only [List.headD_cons,List.tail_cons,List.map_cons,List.sum_cons,List.length_cons] at ih ⊢
        omega
end Go.Proofs.YtkclndkbccbhaaaGreatDoor.P
end
section
namespace Go.Proofs.YtkclndkbccbhaaaGreatDoor.P
open Go Go.RowKit Go.Proofs.ae.aX Go.Proofs.ae.dh Go.Proofs.ae.dI
def Bs (w:List UInt8):ByteArray:=⟨w.toArray⟩
theorem mJ (s:ByteArray):Bs s.data.toList=s:=by cases s;rfl
theorem L9 (w:List UInt8):(Bs w).data.toList=w:=rfl
theorem qO (w:List UInt8):(Bs w).toList=w:=by rw [ByteArray.toList_eq];rfl
theorem gY (w:List UInt8):(Bs w).size=w.length:=by simp [Bs,ByteArray.size]
theorem yf (s:ByteArray):s.data.toList.length=s.size:=(Lib.size_eq s).symm
def conv (L:List (List (List UInt8))):List (List ByteArray):=L.map (·.map Bs)
theorem I5 (a b:List (List (List UInt8))):conv (a++b)=conv a++conv b:=by simp [conv]
theorem qc (a:List (List (List UInt8))):(conv a).length=a.length:=by simp [conv]
def EX (R:List (List (List UInt8)) × Nat × Nat):List (List ByteArray) × Int × Int:=(conv R.1,(R.2.1:Int),(R.2.2:Int))
theorem PN (L:List (List UInt8)) (i:Nat) (x:List UInt8) (h:L[i]? = some x):dZ ByteArray.empty (L.map Bs) (i:Int)=Bs x:=by
  unfold dZ
  rw [Int.toNat_natCast,List.getD_eq_getElem?_getD,List.getElem?_map,h]
  rfl
theorem Bj (w:List UInt8) (i:Nat) (c:UInt8) (h:w[i]? = some c):bt (Bs w) (i:Int)=(c.toNat:Int):=by
  obtain ⟨hl,hc⟩:=List.getElem?_eq_some_iff.1 h
  have hs:((i:Int)).toNat < (Bs w).size:=by rw [Int.toNat_natCast,gY];exact hl
  unfold bt
  rw [dif_pos hs]
  have:(Bs w)[((i:Int)).toNat]'hs=c:=by rw [← hc];rfl
  rw [this]
theorem iM (i:Nat) (h:i < 4611686018427387904):wrap64 ((i:Int)+1)=((i+1:Nat):Int):=by unfold wrap64;omega
theorem qV (p:UInt8→Bool) (l:List UInt8):(l.takeWhile p).length≤l.length:=(List.takeWhile_prefix _).length_le
theorem BM (c:UInt8) (l:List UInt8):(nK c l).length≤l.length+1:=by
  rw [vF]
  have:=List.count_le_length (a:=c) (l:=l)
  omega
theorem zV {c:UInt8} {l p:List UInt8} (h:p ∈ nK c l):p.length≤l.length:=by
  have h1:=JP c l
  have:∀ L:List (List UInt8),p ∈ L→p.length+1≤(L.map fun w=>w.length+1).sum:=by
    intro L
    induction L with
    | nil=>intro h;cases h
    | cons y ys ih =>
      intro h
      rcases List.mem_cons.1 h with rfl|h
      · simp only [List.map_cons,List.sum_cons];omega
      · have:=ih h
        simp only [List.map_cons,List.sum_cons];omega
  have:=this _ h
  omega
def Hg (s:ByteArray):List (List (List UInt8)) × Nat × Nat:=LR 0 [] (nK 10 s.data.toList)
theorem A7 (w:List UInt8) (i:Nat) (c:UInt8) (h:w[i]? = some c):(Bs w).extract i (i+1)=Bs [c]:=by
  have h1:((Bs w).extract i (i+1)).data.toList=[c]:=by
    rw [Lib.extract_data]
    have:(Bs w).data.toList=w:=rfl
    obtain ⟨hl,hc⟩:=List.getElem?_eq_some_iff.1 h
    rw [this,List.drop_eq_getElem_cons hl,hc]
    simp
  rw [← mJ ((Bs w).extract i (i+1)),h1]
theorem O8 (a b:List UInt8):Bs a++Bs b=Bs (a++b):=by
  have:(Bs a++Bs b).data.toList=a++b:=by
    rw [ByteArray.data_append]
    simp [Bs]
  rw [← mJ (Bs a++Bs b),this]
theorem CQ (w:List UInt8) (a b:Nat):(Bs w).extract a b=Bs ((w.drop a).take (b - a)):=by
  rw [← mJ ((Bs w).extract a b),Lib.extract_data]
  rfl
theorem rW {t:List (List UInt8)} {l:List UInt8} (h:t=toks l):∀ w ∈ t,w ≠ []∧w.length≤l.length:=by
  subst h
  intro w hw
  refine ⟨(Gv hw).1,?_⟩
  unfold toks at hw
  have h1:=zV (List.mem_filter.1 hw).1
  have h2:=qV (· ≠ 35) l
  omega
theorem Gw (l:List UInt8):(toks l).length≤l.length+1:=by
  have h1:(toks l).length≤(nK 32 (l.takeWhile (· ≠ 35))).length:=List.length_filter_le _ _
  have h2:=BM 32 (l.takeWhile (· ≠ 35))
  have h3:=qV (· ≠ 35) l
  omega
theorem J7 (a:List ByteArray) (i:Nat) (x:ByteArray) (h:a[i]? = some x):dZ ByteArray.empty a (i:Int)=x:=by
  unfold dZ
  rw [Int.toNat_natCast,List.getD_eq_getElem?_getD,h]
  rfl
def Small (A:List (List (List UInt8))):Prop:=A.length≤1000000∧∀ x ∈ A,x.length≤1000000
theorem vX (L:List (List (List UInt8))):kN (conv L)=joinL L:=by
  unfold kN conv joinL
  rw [List.map_map]
  congr 1
  refine List.map_congr_left fun ws _=>?_
  show Lib.join ((ws.map Bs).map (·.data.toList)) [32]++[10]=_
  rw [List.map_map]
  congr 2
  conv=>rhs;rw [← List.map_id ws]
  exact List.map_congr_left fun x _=>rfl
theorem Ou (L:List (List (List UInt8))) (h:Small L) (hl:(joinL L).length≤1000000):jr.f (conv L)=some (Bs (joinL L)):=by
  unfold jr.f
  rw [vX,if_pos]
  · rfl
  · refine ⟨by rw [qc];have:=h.1;omega,fun x hx=>?_,by omega⟩
    obtain ⟨y,hy,rfl⟩:=List.mem_map.1 hx
    rw [List.length_map]
    have:=h.2 y hy
    omega
theorem Kt (L:List (List (List UInt8))):EX (L,0,0)=(conv L,0,0):=rfl
theorem size_data (s:ByteArray):s.size=s.data.toList.length:=(yf s).symm
def BK (c:UInt8):Bool:=decide (48≤c.toNat∧c.toNat≤57)
def oL (acc:Nat) (D:List UInt8):Nat:=D.foldl (fun a c=>a * 10+(c.toNat - 48)) acc
theorem JK (D:List UInt8) (acc:Nat):acc≤oL acc D:=by
  induction D generalizing acc with
  | nil=>exact Nat.le_refl _
  | cons c r ih =>
    have:=ih (acc * 10+(c.toNat - 48))
    show acc≤oL (acc * 10+(c.toNat - 48)) r
    omega
theorem qm (acc:Nat) (c:UInt8) (r:List UInt8):oL acc (c :: r)=oL (acc * 10+(c.toNat - 48)) r:=by
  unfold oL
  rw [List.foldl_cons]
theorem EN (acc:Nat) (D:List UInt8) (c:UInt8):oL acc (D++[c])=oL acc D * 10+(c.toNat - 48):=by
  unfold oL
  rw [List.foldl_append,List.foldl_cons,List.foldl_nil]
theorem Gp (D:List UInt8) (acc:Nat):acc * 10 ^ D.length≤oL acc D:=by
  induction D generalizing acc with
  | nil=>simp [oL]
  | cons c r ih =>
    rw [qm]
    refine Nat.le_trans ?_ (ih _)
    rw [List.length_cons,Nat.pow_succ,Nat.mul_comm (10 ^ r.length) 10,← Nat.mul_assoc]
    exact Nat.mul_le_mul_right _ (by omega)
theorem EW (M:Nat) (hM:M=18446744073709551615) (D:List UInt8) (h:∀ c ∈ D,BK c=true) (acc:Nat) (ha:acc≤M):Lib.parseUintM M acc D=if oL acc D≤M then .ok (oL acc D) else .range:=by
  induction D generalizing acc with
  | nil =>
    show Lib.NumEnd.ok acc=if acc≤M then Lib.NumEnd.ok acc else Lib.NumEnd.range
    rw [if_pos ha]
  | cons c r ih =>
    have hc:=h c (by simp)
    simp only [BK,decide_eq_true_eq] at hc
    have hge:=JK r (acc * 10+(c.toNat - 48))
    rw [qm]
    unfold Lib.parseUintM
    rw [if_pos hc]
    by_cases h1:1844674407370955162≤acc
    · rw [if_pos h1,if_neg (by omega)]
    · rw [if_neg h1]
      by_cases h2:M < acc * 10+(c.toNat - 48)
      · rw [if_pos h2,if_neg (by omega)]
      · rw [if_neg h2]
        exact ih (fun x hx=>h x (by simp [hx])) _ (by omega)
theorem yc:∀ b:UInt8,([48,49,50,51,52,53,54,55,56,57]:List UInt8).contains b=BK b:=by
  have h:∀ n:Fin 256,([48,49,50,51,52,53,54,55,56,57]:List UInt8).contains (UInt8.ofNat n.val)=BK (UInt8.ofNat n.val):=by decide +kernel
  intro b
  have:=h ⟨b.toNat,b.toNat_lt⟩
  simpa using this
theorem zN {D:List UInt8}:Lib.trimS D [48,49,50,51,52,53,54,55,56,57]=[] ↔ ∀ c ∈ D,BK c=true:=by
  rw [xx]
  constructor
  · intro h x hx;rw [← yc];exact h x hx
  · intro h x hx;rw [yc];exact h x hx
theorem yJ (D:List UInt8):unsigned (45 :: D)=D:=rfl
theorem yI (w:List UInt8) (h:w.head? ≠ some 45):unsigned w=w:=by
  unfold unsigned Lib.trimPrefix Lib.hasPrefix
  cases w with
  | nil=>rfl
  | cons c r =>
    rw [if_neg]
    intro hp
    simp only [List.isPrefixOf,Bool.and_true,beq_iff_eq] at hp
    exact h (by rw [← hp];rfl)
structure Num (w D:List UInt8):Prop where
  ne:D ≠ []
  Za:∀ c ∈ D,BK c=true
  zero:D.head? = some 48→w=[48]
theorem Fa (w:List UInt8):pg w=true ↔ Num w (unsigned w):=by
  unfold pg
  simp only [Bool.and_eq_true,Bool.not_eq_true',List.isEmpty_iff,List.isEmpty_eq_false_iff,Bool.and_eq_false_iff,beq_eq_false_iff_ne,Bool.not_eq_false',beq_iff_eq]
  rw [zN]
  constructor
  · rintro ⟨⟨h1,h2⟩,h3⟩
    exact ⟨h1,h2,fun h=>by rcases h3 with h3|h3;exact absurd h h3;exact h3⟩
  · rintro ⟨h1,h2,h3⟩
    refine ⟨⟨h1,h2⟩,?_⟩
    by_cases h:(unsigned w).head? = some 48
    · exact .inr (h3 h)
    · exact .inl h
def DZ (neg:Bool) (u:Nat):Bool:=if neg then decide (u≤9223372036854775808) else decide (u < 9223372036854775808)
def Sr (neg:Bool) (u:Nat):Int:=if neg then -(u:Int) else u
theorem Ov {c:UInt8} (h:BK c=true):c.toNat ≠ 43∧c.toNat ≠ 45:=by
  simp only [BK,decide_eq_true_eq] at h
  omega
theorem BU (D:List UInt8) (h:∀ c ∈ D,BK c=true) (hne:D ≠ []):Lib.parseUintB 64 D=if oL 0 D≤18446744073709551615 then .ok (oL 0 D) else .range:=by
  unfold Lib.parseUintB
  rw [if_neg hne]
  exact EW _ (by decide) D h 0 (by omega)
theorem G8 (neg:Bool) (D:List UInt8) (h:∀ c ∈ D,BK c=true) (hne:D ≠ []):numOf (if neg then 45 :: D else D)=if DZ neg (oL 0 D) then (Sr neg (oL 0 D),0) else (0,3):=by
  have hc:=BU D h hne
  generalize oL 0 D=u at hc ⊢
  unfold numOf
  cases neg with
  | true =>
    simp only [if_true]
    unfold Lib.parseIntB
    dsimp only
    rw [if_pos (show (45:UInt8).toNat=43 ∨ (45:UInt8).toNat=45 from Or.inr rfl),hc]
    by_cases hu:u≤18446744073709551615
    · rw [if_pos hu]
      simp only [show ((45:UInt8).toNat=45)=True from eq_true rfl,not_true_eq_false,false_and,if_false,true_and,if_true]
      by_cases h2:2 ^ (64 - 1) < u
      · rw [if_pos h2]
        have:DZ true u=false:=by unfold DZ;rw [if_pos rfl];exact decide_eq_false (by omega)
        rw [this]
        rfl
      · rw [if_neg h2]
        have:DZ true u=true:=by unfold DZ;rw [if_pos rfl];exact decide_eq_true (by omega)
        rw [this]
        rfl
    · rw [if_neg hu]
      have:DZ true u=false:=by unfold DZ;rw [if_pos rfl];exact decide_eq_false (by omega)
      rw [this]
      rfl
  | false =>
    simp only [Bool.false_eq_true,if_false]
    cases D with
    | nil=>exact absurd rfl hne
    | cons c r =>
      have hcd:=Ov (h c (by simp))
      unfold Lib.parseIntB
      simp only []
      rw [if_neg (by intro h;rcases h with h|h;exact hcd.1 h;exact hcd.2 h),hc]
      by_cases hu:u≤18446744073709551615
      · rw [if_pos hu]
        simp only [eq_false hcd.2,not_false_eq_true,true_and,false_and,if_false]
        by_cases h2:2 ^ (64 - 1)≤u
        · rw [if_pos h2]
          have:DZ false u=false:=by unfold DZ;rw [if_neg (by simp)];exact decide_eq_false (by omega)
          rw [this]
          rfl
        · rw [if_neg h2]
          have:DZ false u=true:=by unfold DZ;rw [if_neg (by simp)];exact decide_eq_true (by omega)
          rw [this]
          rfl
      · rw [if_neg hu]
        have:DZ false u=false:=by unfold DZ;rw [if_neg (by simp)];exact decide_eq_false (by omega)
        rw [this]
        rfl
theorem Ho {c:UInt8} {r:List UInt8} (hc:BK c=true) (h48:c ≠ 48):10 ^ r.length≤oL 0 (c :: r):=by
  rw [qm]
  have hd:48≤c.toNat∧c.toNat≤57:=of_decide_eq_true hc
  have hne:c.toNat ≠ 48:=fun h=>h48 (UInt8.toNat_inj.1 h)
  have h1:=Gp r (0 * 10+(c.toNat - 48))
  refine Nat.le_trans ?_ h1
  generalize 10 ^ r.length=q
  have:1 * q≤(0 * 10+(c.toNat - 48)) * q:=Nat.mul_le_mul_right q (by omega)
  omega
theorem PQ:(10:Nat) ^ 19=10000000000000000000:=by decide
theorem Bd (d:Nat) (h:d < 10):(UInt8.ofNat (48+d)).toNat=48+d:=by
  have:(UInt8.ofNat (48+d)).toNat=(48+d) % 256:=UInt8.toNat_ofNat'
  omega
theorem tY (n:Nat):∀ u:Nat,u≤n→(∀ c ∈ Lib.decDigits u,BK c=true)∧Lib.decDigits u ≠ []∧oL 0 (Lib.decDigits u)=u∧((Lib.decDigits u).head? = some 48→u=0):=by
  induction n with
  | zero =>
    intro u hu
    obtain rfl:u=0:=by omega
    rw [Lib.decDigits_one (by omega)]
    refine ⟨by decide,by decide,?_,fun _=>rfl⟩
    decide
  | succ n ih =>
    intro u hu
    by_cases h:u < 10
    · rw [Lib.decDigits_one h]
      have hd:=Bd u h
      refine ⟨?_,by simp,?_,?_⟩
      · intro c hc
        rw [List.mem_singleton.1 hc]
        unfold BK
        rw [hd]
        exact decide_eq_true (by omega)
      · rw [qm,hd]
        show 0 * 10+(48+u - 48)=u
        omega
      · intro hh
        simp only [List.head?_cons,Option.some.injEq] at hh
        have:=congrArg UInt8.toNat hh
        rw [hd] at this
        have h48:(48:UInt8).toNat=48:=rfl
        omega
    · have ih':=ih (u / 10) (by omega)
      rw [Lib.decDigits,dif_neg h]
      have hd:=Bd (u % 10) (by omega)
      refine ⟨?_,by simp,?_,?_⟩
      · intro c hc
        rcases List.mem_append.1 hc with hc|hc
        · exact ih'.1 c hc
        · rw [List.mem_singleton.1 hc]
          unfold BK
          rw [hd]
          exact decide_eq_true (by omega)
      · rw [EN,ih'.2.2.1,hd]
        omega
      · intro hh
        have:(Lib.decDigits (u / 10)++[UInt8.ofNat (48+u % 10)]).head? = (Lib.decDigits (u / 10)).head?:=by
          cases hq:Lib.decDigits (u / 10) with
          | nil=>exact absurd hq ih'.2.1
          | cons a b=>rfl
        rw [this] at hh
        have:=ih'.2.2.2 hh
        omega
theorem L8 (u:Nat) (h:u≤9223372036854775808):(Lib.decDigits u).length≤20:=by
  have hp:=tY u u (Nat.le_refl _)
  cases hq:Lib.decDigits u with
  | nil=>simp
  | cons c r =>
    rw [hq] at hp
    by_cases h48:c=48
    · subst h48
      have h0:=hp.2.2.2 rfl
      subst h0
      rw [Lib.decDigits_one (by omega)] at hq
      rw [← hq]
      decide
    · have h1:=Ho (r:=r) (hp.1 c (by simp)) h48
      rw [hp.2.2.1] at h1
      rw [List.length_cons]
      rcases Nat.lt_or_ge r.length 19 with h2|h2
      · omega
      · have h3:(10:Nat) ^ 19≤10 ^ r.length:=Nat.pow_le_pow_right (by omega) h2
        rw [PQ] at h3
        omega
theorem xN (n:Int):∃ neg:Bool,Lib.itoa n=(if neg then 45 :: Lib.decDigits n.natAbs else Lib.decDigits n.natAbs)∧Sr neg n.natAbs=n∧(neg=true→n < 0)∧(neg=false→0≤n):=by
  unfold Lib.itoa
  by_cases h:n < 0
  · rw [if_pos h]
    refine ⟨true,rfl,?_,fun _=>h,(fun h=>by cases h)⟩
    unfold Sr
    rw [if_pos rfl]
    omega
  · rw [if_neg h]
    refine ⟨false,?_,?_,(fun h=>by cases h),fun _=>by omega⟩
    · rw [if_neg (by simp),show n.toNat=n.natAbs from by omega]
    · unfold Sr
      rw [if_neg (by simp)]
      omega
theorem Ar (n:Int) (h0:-9223372036854775808≤n) (h1:n≤9223372036854775807):pg (Lib.itoa n)=true∧numOf (Lib.itoa n)=(n,0)∧(Lib.itoa n).length≤21:=by
  obtain ⟨neg,hi,hs,hn1,hn2⟩:=xN n
  have hp:=tY n.natAbs n.natAbs (Nat.le_refl _)
  have hl:=L8 n.natAbs (by omega)
  rw [hi]
  have hhead:(Lib.decDigits n.natAbs).head? ≠ some 45:=by
    intro h
    cases hq:Lib.decDigits n.natAbs with
    | nil=>exact hp.2.1 hq
    | cons c r =>
      rw [hq] at h hp
      have:=hp.1 c (by simp)
      simp only [List.head?_cons,Option.some.injEq] at h
      subst h
      exact absurd this (by decide)
  refine ⟨?_,?_,?_⟩
  · rw [Fa]
    cases neg with
    | true =>
      rw [if_pos rfl,yJ]
      refine ⟨hp.2.1,hp.1,fun h=>?_⟩
      have:=hp.2.2.2 h
      have:=hn1 rfl
      omega
    | false =>
      rw [if_neg (by simp),yI _ hhead]
      refine ⟨hp.2.1,hp.1,fun h=>?_⟩
      rw [hp.2.2.2 h,Lib.decDigits_one (by omega)]
      rfl
  · rw [G8 neg _ hp.1 hp.2.1,hp.2.2.1,if_pos,hs]
    unfold DZ
    cases neg with
    | true=>rw [if_pos rfl];exact decide_eq_true (by omega)
    | false=>have:=hn2 rfl;rw [if_neg (by simp)];exact decide_eq_true (by omega)
  · cases neg with
    | true=>rw [if_pos rfl,List.length_cons];omega
    | false=>rw [if_neg (by simp)];omega
def qQ (x:List (List UInt8)):Nat:=(x.map fun w=>w.length+1).sum
def tot (L:List (List (List UInt8))):Nat:=(L.map fun x=>qQ x+1).sum
theorem jH (w:List UInt8) (x:List (List UInt8)):qQ (w :: x)=w.length+1+qQ x:=by simp [qQ]
theorem mQ (x:List (List UInt8)) (L:List (List (List UInt8))):tot (x :: L)=qQ x+1+tot L:=by simp [tot]
theorem Hm (x:List (List UInt8)):x.length≤qQ x:=by
  induction x with
  | nil=>simp [qQ]
  | cons w r ih=>rw [jH,List.length_cons];omega
theorem KC (L:List (List (List UInt8))):L.length≤tot L:=by
  induction L with
  | nil=>simp [tot]
  | cons x r ih=>rw [mQ,List.length_cons];omega
theorem Kv {L:List (List (List UInt8))} {x:List (List UInt8)} (h:x ∈ L):qQ x+1≤tot L:=by
  induction L with
  | nil=>cases h
  | cons y r ih =>
    rw [mQ]
    rcases List.mem_cons.1 h with rfl|h
    · omega
    · have:=ih h;omega
theorem Ap (x:List (List UInt8)):(Lib.joinTail [32] x).length=qQ x:=yO x
theorem Aq (x:List (List UInt8)):(Lib.join x [32]).length≤qQ x:=by
  cases x with
  | nil=>simp [Lib.join_nil]
  | cons w r=>rw [Lib.join_cons,List.length_append,Ap,jH];omega
theorem CG (x:List (List UInt8)) (L:List (List (List UInt8))):joinL (x :: L)=Lib.join x [32]++10 :: joinL L:=by simp [joinL]
theorem tV (L:List (List (List UInt8))):(joinL L).length≤tot L:=by
  induction L with
  | nil=>simp [joinL]
  | cons x r ih =>
    rw [CG,mQ,List.length_append,List.length_cons]
    have:=Aq x
    omega
end Go.Proofs.YtkclndkbccbhaaaGreatDoor.P
end
